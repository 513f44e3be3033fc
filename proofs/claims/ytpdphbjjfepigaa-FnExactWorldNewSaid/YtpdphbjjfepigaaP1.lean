import Derived.Test.YtpdphbjjfepigaaN2
open Go Go.Ab
namespace Pl

theorem wrap64 {n : Int} (h1 : -9223372036854775808 ≤ n) (h2 : n ≤ 9223372036854775807) : IntKind.wrap .i64 n = n := by
  simp [IntKind.wrap, IntKind.signed, IntKind.bits]
  omega

theorem comes_up {X Y : Type} {r : X → Option (X ⊕ Y)} (st : Nat → X) {n : Nat} {y : Y} (hs : ∀ i, i < n → r (st i) = some (.inl (st (i + 1)))) (he : r (st n) = some (.inr y)) : ∀ k, k ≤ n → Comes r (st k) y := by
  intro k hk
  have : ∀ d k, k + d = n → Comes r (st k) y := by
    intro d
    induction d with
    | zero => intro k hk; have : k = n := by omega
              subst this; exact .out he
    | succ d ih => intro k hk; exact .again (hs k (by omega)) (ih (k + 1) (by omega))
  exact this (n - k) k (by omega)

theorem cb {X Y : Type} {r : X → Option (X ⊕ Y)} {x : X} {y : Y} (h : Comes r x y) : comesB r x = true := (h.is (y0 := y)).1
theorem cv {X Y : Type} {r : X → Option (X ⊕ Y)} {x : X} {y : Y} (h : Comes r x y) (y0 : Y) : comesV r y0 x = y := h.is.2
theorem sumC_inl {α β γ : Type} (a : α) (f : α → γ) (g : β → γ) : sumC (.inl a) f g = f a := rfl
theorem sumC_inr {α β γ : Type} (a : β) (f : α → γ) (g : β → γ) : sumC (.inr a) f g = g a := rfl

theorem allB_one (a : Bool) : allB [a] = a := rfl
theorem allB_cons (a b : Bool) (l : List Bool) : allB (a :: b :: l) = (a && allB (b :: l)) := rfl
theorem isSm_some {α : Type} (x : α) : isSm (some x) = true := rfl

theorem getD_eq {α : Type} (l : List α) (i : Nat) (z : α) (h : i < l.length) : l.getD i z = l[i] := by simp [h]

theorem eqIntS_refl (a : List Int) (h : a.length ≤ 4611686018427387904) : Wh.laws_eqIntS (a, a) = some (true, ()) := by
  have hl : Comes Wh.laws_eqIntS_l0 (((0 : Int), a, a), ()) (.inr ((), ())) := by
    refine comes_up (st := fun i => (((i : Int), a, a), ())) (n := a.length) ?_ ?_ 0 (Nat.zero_le _)
    · intro i hi
      have h1 : decide ((i : Int) < (a.length : Int)) = true := by simpa using hi
      have h2 : IntKind.wrap .i64 ((i : Int) + 1) = ((i + 1 : Nat) : Int) := by rw [wrap64] <;> omega
      have h3 : decide ((0 : Int) ≤ (i : Int)) = true := by simp
      simp [Wh.laws_eqIntS_l0, allB, h1, h2, h3, hi]
    · simp [Wh.laws_eqIntS_l0]
  simp [Wh.laws_eqIntS, cb hl, cv hl, sumC_inr]

theorem eqPlan_refl (a : tImplPlan.D) (h1 : a.2.2.1.length ≤ 4611686018427387904) (h2 : a.2.2.2.1.length ≤ 4611686018427387904) : Wh.laws_eqPlan (a, a) = some (true, ()) := by
  simp [Wh.laws_eqPlan, Wh.laws_eqIntS', eqIntS_refl _ h1, eqIntS_refl _ h2, allB, isSm]

theorem eqEq_refl (a : tImplEq.D) (h1 : a.1.length ≤ 4611686018427387904) : Wh.laws_eqEq (a, a) = some (true, ()) := by
  simp [Wh.laws_eqEq, Wh.laws_eqIntS', eqIntS_refl _ h1, allB, isSm]

theorem eqEqS_refl (a : List tImplEq.D) (h : a.length ≤ 4611686018427387904) (hr : ∀ x ∈ a, x.1.length ≤ 4611686018427387904) : Wh.laws_eqEqS (a, a) = some (true, ()) := by
  have hl : Comes Wh.laws_eqEqS_l0 (((0 : Int), a, a), ()) (.inr ((), ())) := by
    refine comes_up (st := fun i => (((i : Int), a, a), ())) (n := a.length) ?_ ?_ 0 (Nat.zero_le _)
    · intro i hi
      have h2 : IntKind.wrap .i64 ((i : Int) + 1) = ((i + 1 : Nat) : Int) := by rw [wrap64] <;> omega
      have h4 := eqEq_refl (a[i]) (hr _ (by simp))
      simp [Wh.laws_eqEqS_l0, Wh.laws_eqEq', allB, h2, hi, h4, isSm]
    · simp [Wh.laws_eqEqS_l0]
  simp [Wh.laws_eqEqS, cb hl, cv hl, sumC_inr]

theorem eqSolver_refl (a : tImplSolver.D) (h : a.2.2.1.length ≤ 4611686018427387904) (hr : ∀ x ∈ a.2.2.1, x.1.length ≤ 4611686018427387904) : Wh.laws_eqSolver (a, a) = some (true, ()) := by
  simp [Wh.laws_eqSolver, Wh.laws_eqEqS', eqEqS_refl _ h hr, allB, isSm]

/-- no list in it is longer than any machine's -/
def SmPlan (a : tImplPlan.D) : Prop := a.2.2.1.length ≤ 4611686018427387904 ∧ a.2.2.2.1.length ≤ 4611686018427387904
def SmSolver (a : tImplSolver.D) : Prop := a.2.2.1.length ≤ 4611686018427387904 ∧ ∀ x ∈ a.2.2.1, x.1.length ≤ 4611686018427387904
def SmGetting (a : tImplGetting.D) : Prop := SmPlan a.1 ∧ SmSolver a.2.1
def SmClient (a : tImplClient.D) : Prop := SmGetting a.2.2.2.2.2.1

theorem eqGetting_refl (a : tImplGetting.D) (h : SmGetting a) : Wh.laws_eqGetting (a, a) = some (true, ()) := by
  simp [Wh.laws_eqGetting, Wh.laws_eqPlan', Wh.laws_eqSolver', eqPlan_refl _ h.1.1 h.1.2, eqSolver_refl _ h.2.1 h.2.2, allB, isSm]

theorem eqClient_refl (a : tImplClient.D) (h : SmClient a) : Wh.laws_eqClient (a, a) = some (true, ()) := by
  simp [Wh.laws_eqClient, Wh.laws_eqGetting', eqGetting_refl _ h, allB, isSm]

end Pl
open Go Go.Ab
namespace Pl

theorem l1In_eq (n lo hi : Int) : Wh.spec_l1In (n, lo, hi) = some (decide (lo ≤ n ∧ n ≤ hi), ()) := by
  by_cases h : lo ≤ n <;> simp [Wh.spec_l1In, h]
theorem within_eq (n lo hi : Int) : Wh.impl_within (n, lo, hi) = some (decide (lo ≤ n ∧ n ≤ hi), ()) := by
  by_cases h : lo ≤ n <;> simp [Wh.impl_within, h]
theorem clientOf_eq (n : Int) : Wh.impl_clientOf n = some (decide (0 ≤ n ∧ n ≤ 3), ()) := by
  simp [Wh.impl_clientOf, Wh.impl_within', within_eq, allB, isSm]

def allN : Nat → (Nat → Bool) → Bool
  | 0, _ => true
  | n + 1, p => allN n p && p n

theorem allN_iff {p : Nat → Bool} : ∀ {n : Nat}, allN n p = true ↔ ∀ i, i < n → p i = true
  | 0 => by simp [allN]
  | n + 1 => by
    rw [allN, Bool.and_eq_true, allN_iff]
    constructor
    · rintro ⟨h1, h2⟩ i hi
      by_cases e : i = n
      · subst e; exact h2
      · exact h1 i (by omega)
    · intro h
      exact ⟨fun i hi => h i (by omega), h n (by omega)⟩

theorem allN_congr {p q : Nat → Bool} : ∀ {n : Nat}, (∀ i, i < n → p i = q i) → allN n p = allN n q
  | 0, _ => rfl
  | n + 1, h => by rw [allN, allN, allN_congr fun i hi => h i (by omega), h n (by omega)]

/-- a loop that leaves at the first place where p fails -/
theorem comes_all {X Y : Type} {r : X → Option (X ⊕ Y)} (st : Nat → X) {n : Nat} {p : Nat → Bool} {yf yt : Y} (hs : ∀ i, i < n → (∀ j, j < i → p j = true) → p i = true → r (st i) = some (.inl (st (i + 1))))
    (hf : ∀ i, i < n → (∀ j, j < i → p j = true) → p i = false → r (st i) = some (.inr yf)) (he : r (st n) = some (.inr yt)) : Comes r (st 0) (if allN n p = true then yt else yf) := by
  have main : ∀ d k, k + d = n → (∀ j, j < k → p j = true) → Comes r (st k) (if allN n p = true then yt else yf) := by
    intro d
    induction d with
    | zero =>
      intro k hk hp
      have : k = n := by omega
      subst this
      rw [if_pos (allN_iff.2 hp)]
      exact .out he
    | succ d ih =>
      intro k hk hp
      cases hpk : p k with
      | true =>
        refine .again (hs k (by omega) hp hpk) (ih (k + 1) (by omega) fun j hj => ?_)
        by_cases e : j = k
        · subst e; exact hpk
        · exact hp j (by omega)
      | false =>
        have : ¬ allN n p = true := by
          intro h
          have := allN_iff.1 h k (by omega)
          rw [hpk] at this; cases this
        rw [if_neg this]
        exact .out (hf k (by omega) hp hpk)
  exact main n 0 (by omega) (fun j hj => by omega)

theorem wrapN {i : Nat} (h : i ≤ 4611686018427387904) : IntKind.wrap .i64 ((i : Int) + 1) = ((i + 1 : Nat) : Int) := by rw [wrap64] <;> omega
theorem wrapP {i : Nat} (h : i ≤ 4611686018427387904) : IntKind.wrap .i64 ((i : Int) - 1) = (i : Int) - 1 := by rw [wrap64] <;> omega

theorem wrap1 : IntKind.wrap .i64 1 = 1 := by decide


end Pl
