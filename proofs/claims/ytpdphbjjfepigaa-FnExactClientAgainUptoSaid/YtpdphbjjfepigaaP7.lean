import Derived.Test.YtpdphbjjfepigaaP6
open Go Go.Ab
namespace Pl

theorem asc_gap {f : Nat → Int} {n : Nat} (h : ∀ i, 0 < i → i < n → f (i - 1) < f i) : ∀ j, j < n → ∀ i, i ≤ j → f i + ((j : Int) - i) ≤ f j := by
  intro j
  induction j with
  | zero => intro _ i hi; have : i = 0 := by omega
            subst this; omega
  | succ j ih =>
    intro hj i hi
    by_cases e : i = j + 1
    · subst e; omega
    · have h1 : f j < f (j + 1) := h (j + 1) (by omega) hj
      have := ih (by omega) i (by omega)
      omega

theorem solverOk_parts {s : tImplSolver.D} (h : solverOk s = true) : (1 ≤ s.1 ∧ s.1 ≤ 24) ∧ (1 ≤ s.2.1 ∧ s.2.1 ≤ 16) ∧ allN s.2.2.1.length (eqP s) = true ∧ cross s = true := by
  simp only [solverOk, Bool.and_eq_true, decide_eq_true_eq] at h
  exact ⟨h.1.1.1, h.1.1.2, h.1.2, h.2⟩

theorem head_row {s : tImplSolver.D} (ha : allN s.2.2.1.length (eqP s) = true) {k m : Nat} (hk : k < s.2.2.1.length) (hm : m < (eqA s k).1.length) : 0 ≤ (eqA s k).1.getD m 0 ∧ (eqA s k).1.getD m 0 ≤ s.1 - 1 := by
  have := rowOk_of ha hk
  simp only [rowOk, Bool.and_eq_true] at this
  have := allN_iff.1 this.1 m hm
  simp only [rowP, Bool.and_eq_true, decide_eq_true_eq] at this
  exact this.1

theorem heads_asc1 {s : tImplSolver.D} (h : allN s.2.2.1.length (eqP s) = true) : ∀ i, 0 < i → i < s.2.2.1.length → headA s (i - 1) < headA s i :=
  fun i h0 hi => heads_asc h i (i - 1) (by omega) hi

theorem done_iff {s : tImplSolver.D} (h : solverOk s = true) : ((pre s : Nat) : Int) = s.1 ↔ (s.2.2.1.length : Int) = s.1 := by
  obtain ⟨h1, _, ha, hx⟩ := solverOk_parts h
  have hne := eqP_ne ha
  have hb : ∀ i, i < s.2.2.1.length → 0 ≤ headA s i ∧ headA s i ≤ s.1 - 1 := fun i hi => head_row ha hi (by have := hne i hi; omega)
  have sp := scan_spec (fun n => (getV s n).2) s.1.toNat 0
  have sp' : pre s ≤ s.1.toNat ∧ (∀ j, j < pre s → (getV s j).2 = true) ∧ (pre s < s.1.toNat → (getV s (pre s)).2 = false) :=
    ⟨by have := sp.2.1; unfold pre; omega, fun j hj => sp.2.2.1 j (Nat.zero_le _) hj, fun hh => sp.2.2.2 (by unfold pre at hh; omega)⟩
  have gap := asc_gap (heads_asc1 ha)
  have hle : (s.2.2.1.length : Int) ≤ s.1 := by
    rcases Nat.eq_zero_or_pos s.2.2.1.length with hz | hz
    · omega
    · have a := gap (s.2.2.1.length - 1) (by omega) 0 (Nat.zero_le _)
      have b := hb (s.2.2.1.length - 1) (by omega)
      have c := hb 0 (by omega)
      omega
  constructor
  · intro hp
    have hin : ∀ n : Nat, n < s.1.toNat → getI s n < s.2.2.1.length ∧ headA s (getI s n) = n := by
      intro n hn
      have := sp'.2.1 n (by omega)
      unfold getV at this
      by_cases hi : getI s n < s.2.2.1.length
      · have hat := getI_at hi
        simp only [isAt, Bool.and_eq_true, decide_eq_true_eq] at hat
        exact ⟨hi, hat.2⟩
      · rw [if_neg hi] at this; cases this
    have g2 := asc_gap (f := fun n => (getI s n : Int)) (n := s.1.toNat) (by
      intro i h0 hi
      have a := hin i hi
      have b := hin (i - 1) (by omega)
      show ((getI s ((i - 1 : Nat) : Int) : Nat) : Int) < ((getI s (i : Int) : Nat) : Int)
      rcases Nat.lt_trichotomy (getI s ((i - 1 : Nat) : Int)) (getI s (i : Int)) with hlt | heq | hgt
      · omega
      · rw [heq] at b; omega
      · have := heads_asc ha _ _ hgt b.1; omega)
    have c := g2 (s.1.toNat - 1) (by omega) 0 (Nat.zero_le _)
    have d := (hin (s.1.toNat - 1) (by omega)).1
    omega
  · intro hl
    have hd : ∀ i, i < s.2.2.1.length → headA s i = i := by
      intro i hi
      have a := gap i hi 0 (Nat.zero_le _)
      have b := gap (s.2.2.1.length - 1) (by omega) i (by omega)
      have c := hb 0 (by omega)
      have d := hb (s.2.2.1.length - 1) (by omega)
      omega
    have hm : allN s.2.2.1.length (maskP s) = true := by rw [cross_eq ha]; exact hx
    have hone : ∀ i, i < s.2.2.1.length → (eqA s i).1.length = 1 := by
      intro i hi
      by_cases e : (eqA s i).1.length = 1
      · exact e
      · exfalso
        have h2 : 1 < (eqA s i).1.length := by have := hne i hi; omega
        have hr := head_row ha hi h2
        have ht : (eqA s i).1.getD 1 0 ∈ tailA s i := mem_tail.2 ⟨1, by omega, h2, rfl⟩
        have hlt : ((eqA s i).1.getD 1 0).toNat < s.2.2.1.length := by omega
        have := (maskP_iff ha hi).1 (allN_iff.1 hm i hi) _ hlt
        rw [hd _ hlt] at this
        have e2 : ((((eqA s i).1.getD 1 0).toNat : Nat) : Int) = (eqA s i).1.getD 1 0 := by omega
        rw [e2] at this
        exact this ht
    have hget : ∀ n : Nat, n < s.2.2.1.length → (getV s n).2 = true := by
      intro n hn
      have : getI s n ≤ n := getI_le hn (by simp only [isAt, hone n hn, hd n hn, decide_true, Bool.and_self])
      unfold getV
      rw [if_pos (by omega)]
    by_cases hlt : pre s < s.1.toNat
    · have a := sp'.2.2 hlt
      rw [hget (pre s) (by omega)] at a
      cases a
    · have := sp'.1
      omega

theorem beqI (a b : Int) : (a == b) = decide (a = b) := rfl

/-! ### gettings -/
def getOk (g : tImplGetting.D) : Bool := planOk g.1 && solverOk g.2.1 && decide (g.2.1.1 = cnt g.1) && decide (g.2.1.2.1 = g.1.2.1)

theorem planOk_parts {p : tImplPlan.D} (h : planOk p = true) : (1 ≤ p.1 ∧ p.1 ≤ 300) ∧ (1 ≤ p.2.1 ∧ p.2.1 ≤ 16) := by
  simp only [planOk, planA, Bool.and_eq_true, decide_eq_true_eq] at h
  exact ⟨h.1.1.1.1.1.1, h.1.1.1.1.1.2⟩

theorem spec_GetOk_eq (g : tImplGetting.D) (hg : SmGetting g) : Wh.spec_GetOk g = some (getOk g, ()) := by
  have hP := spec_PlanOk_eq g.1
  have hS := spec_SolverOk_eq g.2.1 hg.2
  cases h1 : planOk g.1 with
  | false => simp only [Wh.spec_GetOk, Wh.spec_PlanOk', Wh.spec_SolverOk', hP, hS, h1, getOk, allB, isSm, cond_true, cond_false, Bool.not_true, Bool.not_false, Bool.true_and, Bool.false_and, Bool.true_or, Bool.and_self]
  | true =>
    obtain ⟨a1, a2⟩ := planOk_parts h1
    have hc := spec_count_eq g.1 a1 a2
    have d1 : (g.2.1.1 == cnt g.1) = decide (g.2.1.1 = cnt g.1) := beqI _ _
    have d2 : (g.2.1.2.1 == g.1.2.1) = decide (g.2.1.2.1 = g.1.2.1) := beqI _ _
    cases h2 : solverOk g.2.1 <;> cases h3 : decide (g.2.1.1 = cnt g.1) <;>
      simp only [Wh.spec_GetOk, Wh.spec_PlanOk', Wh.spec_SolverOk', Wh.spec_l5Count', hP, hS, hc, d1, d2, h1, h2, h3, getOk, allB, isSm, cond_true, cond_false, Bool.not_true, Bool.not_false, Bool.true_and, Bool.false_and, Bool.and_true, Bool.and_false, Bool.true_or, Bool.or_true, Bool.false_or, Bool.and_self]

theorem impl_GetOk_eq (g : tImplGetting.D) (hg : SmGetting g) : Wh.impl_GetOk g = some (getOk g, ()) := by
  have hP := impl_PlanOk_eq g.1
  have hS := impl_SolverOk_eq g.2.1 hg.2
  cases h1 : planOk g.1 with
  | false => simp only [Wh.impl_GetOk, Wh.impl_PlanOk', Wh.impl_SolverOk', hP, hS, h1, getOk, allB, isSm, cond_true, cond_false, Bool.not_true, Bool.not_false, Bool.true_and, Bool.false_and, Bool.true_or, Bool.and_self]
  | true =>
    obtain ⟨a1, a2⟩ := planOk_parts h1
    have hc := impl_count_eq g.1 a1 a2
    have d1 : (g.2.1.1 == cnt g.1) = decide (g.2.1.1 = cnt g.1) := beqI _ _
    have d2 : (g.2.1.2.1 == g.1.2.1) = decide (g.2.1.2.1 = g.1.2.1) := beqI _ _
    cases h2 : solverOk g.2.1 <;> cases h3 : decide (g.2.1.1 = cnt g.1) <;>
      simp only [Wh.impl_GetOk, Wh.impl_PlanOk', Wh.impl_SolverOk', Wh.impl_Plan_count', hP, hS, hc, d1, d2, h1, h2, h3, getOk, allB, isSm, cond_true, cond_false, Bool.not_true, Bool.not_false, Bool.true_and, Bool.false_and, Bool.and_true, Bool.and_false, Bool.true_or, Bool.or_true, Bool.false_or, Bool.and_self]

theorem getOk_parts {g : tImplGetting.D} (h : getOk g = true) : planOk g.1 = true ∧ solverOk g.2.1 = true ∧ g.2.1.1 = cnt g.1 ∧ g.2.1.2.1 = g.1.2.1 := by
  simp only [getOk, Bool.and_eq_true, decide_eq_true_eq] at h
  exact ⟨h.1.1.1, h.1.1.2, h.1.2, h.2⟩

def getDone (g : tImplGetting.D) : Bool := getOk g && decide ((g.2.1.2.2.1.length : Int) = cnt g.1)

theorem spec_GetDone_eq (g : tImplGetting.D) (hg : SmGetting g) : Wh.spec_GetDone g = some (getDone g, ()) := by
  have hO := spec_GetOk_eq g hg
  have hO' := Wh.spec_GetOk_v _ _ hO
  rcases Bool.eq_false_or_eq_true (getOk g) with h1 | h1
  case inr => simp only [Wh.spec_GetDone, hO', hO, h1, getDone, allB, isSm, cond_true, cond_false, Bool.not_false, Bool.false_and, Bool.true_or, Bool.and_self]
  case inl =>
    obtain ⟨a1, a2⟩ := planOk_parts (getOk_parts h1).1
    have hc := spec_count_eq g.1 a1 a2
    have hc' := Wh.spec_l5Count_v _ _ hc
    have d1 : ((g.2.1.2.2.1.length : Int) == cnt g.1) = decide ((g.2.1.2.2.1.length : Int) = cnt g.1) := beqI _ _
    simp only [Wh.spec_GetDone, hO', hc', hO, hc, h1, d1, getDone, allB, isSm, cond_true, Bool.not_true, Bool.true_and, Bool.false_or, Bool.and_self]

theorem impl_done_eq (g : tImplGetting.D) (hg : SmGetting g) (h : getOk g = true) : Wh.impl_Getting_done g = some (getDone g, ()) := by
  obtain ⟨_, hs, e1, e2⟩ := getOk_parts h
  have hp := impl_prefix_eq g.2.1 hg.2 (solverOk_parts hs).1
  have hp' := Wh.impl_Solver_prefix_v _ _ hp
  have hd := done_iff hs
  have : (((pre g.2.1 : Nat) : Int) == g.2.1.1) = getDone g := by
    unfold getDone
    rw [h, Bool.true_and, ← e1]
    rw [beqI]
    by_cases e : ((pre g.2.1 : Nat) : Int) = g.2.1.1
    · rw [decide_eq_true e, decide_eq_true (hd.1 e)]
    · rw [decide_eq_false e, decide_eq_false (fun hh => e (hd.2 hh))]
  simp only [Wh.impl_Getting_done, hp', hp, this, allB, isSm, cond_true]

end Pl
open Go Go.Ab
namespace Pl

def noGet (g : tImplGetting.D) : Bool :=
  (g.1.1 == 0) && (g.1.2.1 == 0) && ((g.1.2.2.1.length : Int) == 0) && ((g.1.2.2.2.1.length : Int) == 0) && (g.2.1.1 == 0) && (g.2.1.2.1 == 0) && ((g.2.1.2.2.1.length : Int) == 0)

theorem impl_noGet_eq (g : tImplGetting.D) : Wh.impl_noGet g = some (noGet g, ()) := by
  simp only [Wh.impl_noGet, noGet, Bool.cond_false_right]

theorem spec_None_eq (c : tImplClient.D) : Wh.spec_l13None c = some (noGet c.2.2.2.2.2.1, ()) := by
  simp only [Wh.spec_l13None, noGet, Bool.cond_false_right]
  congr 2
  generalize ((c.2.2.2.2.2.1.1.2.2.1.length : Int) == 0) = a1
  generalize ((c.2.2.2.2.2.1.1.2.2.2.1.length : Int) == 0) = a2
  generalize (c.2.2.2.2.2.1.1.1 == 0) = a3
  generalize (c.2.2.2.2.2.1.1.2.1 == 0) = a4
  generalize (c.2.2.2.2.2.1.2.1.1 == 0) = a5
  generalize (c.2.2.2.2.2.1.2.1.2.1 == 0) = a6
  generalize ((c.2.2.2.2.2.1.2.1.2.2.1.length : Int) == 0) = a7
  cases a1 <;> cases a2 <;> cases a3 <;> cases a4 <;> simp

def clientOk (c : tImplClient.D) : Bool :=
  decide (0 ≤ c.1 ∧ c.1 ≤ 3) && decide (0 ≤ c.2.1 ∧ c.2.1 ≤ 99999) && decide (0 ≤ c.2.2.1 ∧ c.2.2.1 ≤ 4) && decide (0 ≤ c.2.2.2.2.1 ∧ c.2.2.2.2.1 ≤ 99999) &&
  (bif c.2.2.2.2.1 == 0 then noGet c.2.2.2.2.2.1 else getOk c.2.2.2.2.2.1) &&
  (bif c.2.2.1 == 0 then c.2.2.2.1 == [] && c.2.2.2.2.1 == 0 else
    !(c.2.1 == 0) && nameOk c.2.2.2.1 &&
    (bif c.2.2.1 == 2 then !(c.2.2.2.2.1 == 0) && !getDone c.2.2.2.2.2.1 else bif c.2.2.1 == 3 then !(c.2.2.2.2.1 == 0) && getDone c.2.2.2.2.2.1 else c.2.2.2.2.1 == 0 || !getDone c.2.2.2.2.2.1))

theorem spec_ClientOk_eq (c : tImplClient.D) (hg : SmGetting c.2.2.2.2.2.1) (hn : c.2.2.2.1.length ≤ 4611686018427387904) : Wh.spec_ClientOk c = some (clientOk c, ()) := by
  have hL : ∀ x lo hi, Wh.spec_l1In' (x, lo, hi) = (decide (lo ≤ x ∧ x ≤ hi), ()) := fun x lo hi => Wh.spec_l1In_v _ _ (l1In_eq x lo hi)
  have hN := spec_None_eq c
  have hN' := Wh.spec_l13None_v _ _ hN
  have hO := spec_GetOk_eq _ hg
  have hO' := Wh.spec_GetOk_v _ _ hO
  have hD := spec_GetDone_eq _ hg
  have hD' := Wh.spec_GetDone_v _ _ hD
  have hM := spec_NameOk_eq _ hn
  have hM' := Wh.spec_NameOk_v _ _ hM
  obtain ⟨id, a, st, name, n, g, u⟩ := c
  dsimp only at hN hN' hO hO' hD hD' hM hM' ⊢
  simp only [Wh.spec_ClientOk, clientOk, hL, l1In_eq, hN, hN', hO, hO', hD, hD', hM, hM', isSm, Bool.or_true, allB, Bool.and_self, cond_true]
  have e4 : (n > 0) = (0 < n) := rfl
  simp only [e4]
  generalize hb : getDone g = b
  generalize hc : getOk g = gc
  generalize hd : noGet g = gd
  generalize he : nameOk name = ge
  cases h1 : decide (0 ≤ id ∧ id ≤ 3)
  case false => simp only [Bool.not_false, cond_true, Bool.false_and]
  cases h2 : decide (0 ≤ a ∧ a ≤ 99999)
  case false => simp only [Bool.not_false, Bool.not_true, cond_true, cond_false, Bool.false_and, Bool.and_false]
  cases h3 : decide (0 ≤ st ∧ st ≤ 4)
  case false => simp only [Bool.not_false, Bool.not_true, cond_true, cond_false, Bool.false_and, Bool.and_false]
  cases h4 : decide (0 ≤ n ∧ n ≤ 99999)
  case false => simp only [Bool.not_false, Bool.not_true, cond_true, cond_false, Bool.false_and, Bool.and_false]
  have hn0 : decide (0 < n) = !(n == 0) := by
    have := of_decide_eq_true h4
    rw [beqI]
    by_cases e : n = 0
    · subst e; rfl
    · have : 0 < n := by omega
      simp [e, this]
  rw [hn0]
  generalize (n == 0) = n0
  generalize (a == 0) = a0
  generalize (st == 0) = s0
  generalize (st == 2) = s2
  generalize (st == 3) = s3
  generalize (name == []) = m0
  cases n0 <;> cases gd <;> cases gc <;> cases s0 <;> simp <;> cases a0 <;> simp <;> cases ge <;> simp <;> cases s2 <;> simp <;> cases s3 <;> simp

theorem impl_ClientOk_eq (c : tImplClient.D) (hg : SmGetting c.2.2.2.2.2.1) (hn : c.2.2.2.1.length ≤ 4611686018427387904) : Wh.impl_ClientOk c = some (clientOk c, ()) := by
  have hL : ∀ x lo hi, Wh.impl_within' (x, lo, hi) = (decide (lo ≤ x ∧ x ≤ hi), ()) := fun x lo hi => Wh.impl_within_v _ _ (within_eq x lo hi)
  have hK : ∀ x, Wh.impl_clientOf' x = (decide (0 ≤ x ∧ x ≤ 3), ()) := fun x => Wh.impl_clientOf_v _ _ (clientOf_eq x)
  have hN := impl_noGet_eq c.2.2.2.2.2.1
  have hN' := Wh.impl_noGet_v _ _ hN
  have hO := impl_GetOk_eq _ hg
  have hO' := Wh.impl_GetOk_v _ _ hO
  have hM := impl_NameOk_eq _ hn
  have hM' := Wh.impl_NameOk_v _ _ hM
  have hD := impl_done_eq _ hg
  obtain ⟨id, a, st, name, n, g, u⟩ := c
  dsimp only at hN hN' hO hO' hD hM hM' ⊢
  simp only [Wh.impl_ClientOk, clientOk, hL, hK, within_eq, clientOf_eq, hN, hN', hO, hO', hM, hM', isSm, Bool.or_true, allB, Bool.and_self, cond_true]
  have e4 : (n > 0) = (0 < n) := rfl
  simp only [e4]
  generalize hd : noGet g = gd
  generalize he : nameOk name = ge
  cases h1 : decide (0 ≤ id ∧ id ≤ 3)
  case false => simp only [Bool.not_false, cond_true, Bool.false_and]
  cases h2 : decide (0 ≤ a ∧ a ≤ 99999)
  case false => simp only [Bool.not_false, Bool.not_true, cond_true, cond_false, Bool.false_and, Bool.and_false]
  cases h4 : decide (0 ≤ n ∧ n ≤ 99999)
  case false => simp only [Bool.not_false, Bool.not_true, cond_true, cond_false, Bool.false_and, Bool.and_false]
  have hn0 : decide (0 < n) = !(n == 0) := by
    have := of_decide_eq_true h4
    rw [beqI]
    by_cases e : n = 0
    · subst e; rfl
    · have : 0 < n := by omega
      simp [e, this]
  rw [hn0]
  have hst : decide (0 ≤ st ∧ st ≤ 4) = (st == 0 || (st == 1 || (st == 2 || (st == 3 || st == 4)))) := by
    simp only [beqI, ← Bool.decide_or]
    exact decide_eq_decide.2 ⟨fun h => by omega, fun h => by omega⟩
  rw [hst]
  have x12 : (st == 1) = true → (st == 2) = false ∧ (st == 3) = false := by simp; intro e; subst e; decide
  have x42 : (st == 4) = true → (st == 2) = false ∧ (st == 3) = false := by simp; intro e; subst e; decide
  generalize (n == 0) = n0
  generalize (a == 0) = a0
  generalize (st == 0) = s0
  generalize (st == 1) = s1 at *
  generalize (st == 2) = s2 at *
  generalize (st == 3) = s3 at *
  generalize (st == 4) = s4 at *
  generalize (name == []) = m0
  rcases Bool.eq_false_or_eq_true (getOk g) with hc | hc
  · have hD1 := hD hc
    have hD2 := Wh.impl_Getting_done_v _ _ hD1
    simp only [hD1, hD2, isSm, hc, Bool.or_true, cond_true]
    generalize getDone g = b
    cases n0 <;> cases gd <;> cases s0 <;> simp <;> cases a0 <;> simp <;> cases ge <;> simp <;> cases s1 <;> simp at x12 ⊢ <;> cases s4 <;> simp at x42 ⊢ <;> cases s2 <;> simp at x12 x42 ⊢ <;> cases s3 <;> simp at x12 x42 ⊢
  · simp only [hc]
    generalize getDone g = b
    cases n0 <;> simp <;> cases gd <;> simp <;> cases s0 <;> simp <;> cases a0 <;> simp <;> cases ge <;> simp <;> cases s1 <;> simp at x12 ⊢ <;> cases s4 <;> simp at x42 ⊢ <;> cases s2 <;> simp at x12 x42 ⊢ <;> cases s3 <;> simp at x12 x42 ⊢

end Pl
