import Derived.Test.YtpdphbjjfepigaaP11
open Go Go.Ab
namespace Pl

def noGet (g : tImplGetting.D) : Bool :=
  (g.1.1 == 0) && (g.1.2.1 == 0) && ((g.1.2.2.1.length : Int) == 0) && ((g.1.2.2.2.1.length : Int) == 0) && (g.2.1.1 == 0) && (g.2.1.2.1 == 0) && ((g.2.1.2.2.1.length : Int) == 0)

theorem impl_noGet_eq (g : tImplGetting.D) : Wh.impl_noGet g = some (noGet g, ()) := by
  simp only [Wh.impl_noGet, noGet, Bool.cond_false_right]

theorem spec_None_eq (c : tImplClient.D) : Wh.spec_l13None c = some (noGet c.2.2.2.2.2.1, ()) := by
  simp only [Wh.spec_l13None, noGet, Bool.cond_false_right]
  congr 2
  generalize ((c.2.2.2.2.2.1.1.2.2.1.length : Int) == 0) = a1
  generalize ((c.2.2.2.2.2.1.1.2.2.2.1.length : Int) == 0) = a2
  generalize (c.2.2.2.2.2.1.1.1 == 0) = a3
  generalize (c.2.2.2.2.2.1.1.2.1 == 0) = a4
  generalize (c.2.2.2.2.2.1.2.1.1 == 0) = a5
  generalize (c.2.2.2.2.2.1.2.1.2.1 == 0) = a6
  generalize ((c.2.2.2.2.2.1.2.1.2.2.1.length : Int) == 0) = a7
  cases a1 <;> cases a2 <;> cases a3 <;> cases a4 <;> simp

def clientOk (c : tImplClient.D) : Bool :=
  decide (0 ≤ c.1 ∧ c.1 ≤ 3) && decide (0 ≤ c.2.1 ∧ c.2.1 ≤ 99999) && decide (0 ≤ c.2.2.1 ∧ c.2.2.1 ≤ 4) && decide (0 ≤ c.2.2.2.2.1 ∧ c.2.2.2.2.1 ≤ 99999) &&
  (bif c.2.2.2.2.1 == 0 then noGet c.2.2.2.2.2.1 else getOk c.2.2.2.2.2.1) &&
  (bif c.2.2.1 == 0 then c.2.2.2.1 == [] && c.2.2.2.2.1 == 0 else
    !(c.2.1 == 0) && nameOk c.2.2.2.1 &&
    (bif c.2.2.1 == 2 then !(c.2.2.2.2.1 == 0) && !getDone c.2.2.2.2.2.1 else bif c.2.2.1 == 3 then !(c.2.2.2.2.1 == 0) && getDone c.2.2.2.2.2.1 else c.2.2.2.2.1 == 0 || !getDone c.2.2.2.2.2.1))

theorem spec_ClientOk_eq (c : tImplClient.D) (hg : SmGetting c.2.2.2.2.2.1) (hn : c.2.2.2.1.length ≤ 4611686018427387904) : Wh.spec_ClientOk c = some (clientOk c, ()) := by
  have hL : ∀ x lo hi, Wh.spec_l1In' (x, lo, hi) = (decide (lo ≤ x ∧ x ≤ hi), ()) := fun x lo hi => Wh.spec_l1In_v _ _ (l1In_eq x lo hi)
  have hN := spec_None_eq c
  have hN' := Wh.spec_l13None_v _ _ hN
  have hO := spec_GetOk_eq _ hg
  have hO' := Wh.spec_GetOk_v _ _ hO
  have hD := spec_GetDone_eq _ hg
  have hD' := Wh.spec_GetDone_v _ _ hD
  have hM := spec_NameOk_eq _ hn
  have hM' := Wh.spec_NameOk_v _ _ hM
  obtain ⟨id, a, st, name, n, g, u⟩ := c
  dsimp only at hN hN' hO hO' hD hD' hM hM' ⊢
  simp only [Wh.spec_ClientOk, clientOk, hL, l1In_eq, hN, hN', hO, hO', hD, hD', hM, hM', isSm, Bool.or_true, allB, Bool.and_self, cond_true]
  have e4 : (n > 0) = (0 < n) := rfl
  simp only [e4]
  generalize hb : getDone g = b
  generalize hc : getOk g = gc
  generalize hd : noGet g = gd
  generalize he : nameOk name = ge
  cases h1 : decide (0 ≤ id ∧ id ≤ 3)
  case false => simp only [Bool.not_false, cond_true, Bool.false_and]
  cases h2 : decide (0 ≤ a ∧ a ≤ 99999)
  case false => simp only [Bool.not_false, Bool.not_true, cond_true, cond_false, Bool.false_and, Bool.and_false]
  cases h3 : decide (0 ≤ st ∧ st ≤ 4)
  case false => simp only [Bool.not_false, Bool.not_true, cond_true, cond_false, Bool.false_and, Bool.and_false]
  cases h4 : decide (0 ≤ n ∧ n ≤ 99999)
  case false => simp only [Bool.not_false, Bool.not_true, cond_true, cond_false, Bool.false_and, Bool.and_false]
  have hn0 : decide (0 < n) = !(n == 0) := by
    have := of_decide_eq_true h4
    rw [beqI]
    by_cases e : n = 0
    · subst e; rfl
    · have : 0 < n := by omega
      simp [e, this]
  rw [hn0]
  generalize (n == 0) = n0
  generalize (a == 0) = a0
  generalize (st == 0) = s0
  generalize (st == 2) = s2
  generalize (st == 3) = s3
  generalize (name == []) = m0
  cases n0 <;> cases gd <;> cases gc <;> cases s0 <;> simp <;> cases a0 <;> simp <;> cases ge <;> simp <;> cases s2 <;> simp <;> cases s3 <;> simp

theorem impl_ClientOk_eq (c : tImplClient.D) (hg : SmGetting c.2.2.2.2.2.1) (hn : c.2.2.2.1.length ≤ 4611686018427387904) : Wh.impl_ClientOk c = some (clientOk c, ()) := by
  have hL : ∀ x lo hi, Wh.impl_within' (x, lo, hi) = (decide (lo ≤ x ∧ x ≤ hi), ()) := fun x lo hi => Wh.impl_within_v _ _ (within_eq x lo hi)
  have hK : ∀ x, Wh.impl_clientOf' x = (decide (0 ≤ x ∧ x ≤ 3), ()) := fun x => Wh.impl_clientOf_v _ _ (clientOf_eq x)
  have hN := impl_noGet_eq c.2.2.2.2.2.1
  have hN' := Wh.impl_noGet_v _ _ hN
  have hO := impl_GetOk_eq _ hg
  have hO' := Wh.impl_GetOk_v _ _ hO
  have hM := impl_NameOk_eq _ hn
  have hM' := Wh.impl_NameOk_v _ _ hM
  have hD := impl_done_eq _ hg
  obtain ⟨id, a, st, name, n, g, u⟩ := c
  dsimp only at hN hN' hO hO' hD hM hM' ⊢
  simp only [Wh.impl_ClientOk, clientOk, hL, hK, within_eq, clientOf_eq, hN, hN', hO, hO', hM, hM', isSm, Bool.or_true, allB, Bool.and_self, cond_true]
  have e4 : (n > 0) = (0 < n) := rfl
  simp only [e4]
  generalize hd : noGet g = gd
  generalize he : nameOk name = ge
  cases h1 : decide (0 ≤ id ∧ id ≤ 3)
  case false => simp only [Bool.not_false, cond_true, Bool.false_and]
  cases h2 : decide (0 ≤ a ∧ a ≤ 99999)
  case false => simp only [Bool.not_false, Bool.not_true, cond_true, cond_false, Bool.false_and, Bool.and_false]
  cases h4 : decide (0 ≤ n ∧ n ≤ 99999)
  case false => simp only [Bool.not_false, Bool.not_true, cond_true, cond_false, Bool.false_and, Bool.and_false]
  have hn0 : decide (0 < n) = !(n == 0) := by
    have := of_decide_eq_true h4
    rw [beqI]
    by_cases e : n = 0
    · subst e; rfl
    · have : 0 < n := by omega
      simp [e, this]
  rw [hn0]
  have hst : decide (0 ≤ st ∧ st ≤ 4) = (st == 0 || (st == 1 || (st == 2 || (st == 3 || st == 4)))) := by
    simp only [beqI, ← Bool.decide_or]
    exact decide_eq_decide.2 ⟨fun h => by omega, fun h => by omega⟩
  rw [hst]
  have x12 : (st == 1) = true → (st == 2) = false ∧ (st == 3) = false := by simp; intro e; subst e; decide
  have x42 : (st == 4) = true → (st == 2) = false ∧ (st == 3) = false := by simp; intro e; subst e; decide
  generalize (n == 0) = n0
  generalize (a == 0) = a0
  generalize (st == 0) = s0
  generalize (st == 1) = s1 at *
  generalize (st == 2) = s2 at *
  generalize (st == 3) = s3 at *
  generalize (st == 4) = s4 at *
  generalize (name == []) = m0
  rcases Bool.eq_false_or_eq_true (getOk g) with hc | hc
  · have hD1 := hD hc
    have hD2 := Wh.impl_Getting_done_v _ _ hD1
    simp only [hD1, hD2, isSm, hc, Bool.or_true, cond_true]
    generalize getDone g = b
    cases n0 <;> cases gd <;> cases s0 <;> simp <;> cases a0 <;> simp <;> cases ge <;> simp <;> cases s1 <;> simp at x12 ⊢ <;> cases s4 <;> simp at x42 ⊢ <;> cases s2 <;> simp at x12 x42 ⊢ <;> cases s3 <;> simp at x12 x42 ⊢
  · simp only [hc]
    generalize getDone g = b
    cases n0 <;> simp <;> cases gd <;> simp <;> cases s0 <;> simp <;> cases a0 <;> simp <;> cases ge <;> simp <;> cases s1 <;> simp at x12 ⊢ <;> cases s4 <;> simp at x42 ⊢ <;> cases s2 <;> simp at x12 x42 ⊢ <;> cases s3 <;> simp at x12 x42 ⊢

end Pl
