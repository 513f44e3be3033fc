import Derived.Test.YtpdphbjjfepigaaN2
open Go Go.Ab
namespace Pl

theorem wrap64 {n : Int} (h1 : -9223372036854775808 ≤ n) (h2 : n ≤ 9223372036854775807) : IntKind.wrap .i64 n = n := by
  simp [IntKind.wrap, IntKind.signed, IntKind.bits]
  omega

theorem comes_up {X Y : Type} {r : X → Option (X ⊕ Y)} (st : Nat → X) {n : Nat} {y : Y} (hs : ∀ i, i < n → r (st i) = some (.inl (st (i + 1)))) (he : r (st n) = some (.inr y)) : ∀ k, k ≤ n → Comes r (st k) y := by
  intro k hk
  have : ∀ d k, k + d = n → Comes r (st k) y := by
    intro d
    induction d with
    | zero => intro k hk; have : k = n := by omega
              subst this; exact .out he
    | succ d ih => intro k hk; exact .again (hs k (by omega)) (ih (k + 1) (by omega))
  exact this (n - k) k (by omega)

theorem cb {X Y : Type} {r : X → Option (X ⊕ Y)} {x : X} {y : Y} (h : Comes r x y) : comesB r x = true := (h.is (y0 := y)).1
theorem cv {X Y : Type} {r : X → Option (X ⊕ Y)} {x : X} {y : Y} (h : Comes r x y) (y0 : Y) : comesV r y0 x = y := h.is.2
theorem sumC_inl {α β γ : Type} (a : α) (f : α → γ) (g : β → γ) : sumC (.inl a) f g = f a := rfl
theorem sumC_inr {α β γ : Type} (a : β) (f : α → γ) (g : β → γ) : sumC (.inr a) f g = g a := rfl

theorem allB_one (a : Bool) : allB [a] = a := rfl
theorem allB_cons (a b : Bool) (l : List Bool) : allB (a :: b :: l) = (a && allB (b :: l)) := rfl
theorem isSm_some {α : Type} (x : α) : isSm (some x) = true := rfl

theorem getD_eq {α : Type} (l : List α) (i : Nat) (z : α) (h : i < l.length) : l.getD i z = l[i] := by simp [h]

theorem eqIntS_refl (a : List Int) (h : a.length ≤ 4611686018427387904) : Wh.laws_eqIntS (a, a) = some (true, ()) := by
  have hl : Comes Wh.laws_eqIntS_l0 (((0 : Int), a, a), ()) (.inr ((), ())) := by
    refine comes_up (st := fun i => (((i : Int), a, a), ())) (n := a.length) ?_ ?_ 0 (Nat.zero_le _)
    · intro i hi
      have h1 : decide ((i : Int) < (a.length : Int)) = true := by simpa using hi
      have h2 : IntKind.wrap .i64 ((i : Int) + 1) = ((i + 1 : Nat) : Int) := by rw [wrap64] <;> omega
      have h3 : decide ((0 : Int) ≤ (i : Int)) = true := by simp
      simp [Wh.laws_eqIntS_l0, allB, h1, h2, h3, hi]
    · simp [Wh.laws_eqIntS_l0]
  simp [Wh.laws_eqIntS, cb hl, cv hl, sumC_inr]

theorem eqPlan_refl (a : tImplPlan.D) (h1 : a.2.2.1.length ≤ 4611686018427387904) (h2 : a.2.2.2.1.length ≤ 4611686018427387904) : Wh.laws_eqPlan (a, a) = some (true, ()) := by
  simp [Wh.laws_eqPlan, Wh.laws_eqIntS', eqIntS_refl _ h1, eqIntS_refl _ h2, allB, isSm]

theorem eqEq_refl (a : tImplEq.D) (h1 : a.1.length ≤ 4611686018427387904) : Wh.laws_eqEq (a, a) = some (true, ()) := by
  simp [Wh.laws_eqEq, Wh.laws_eqIntS', eqIntS_refl _ h1, allB, isSm]

theorem eqEqS_refl (a : List tImplEq.D) (h : a.length ≤ 4611686018427387904) (hr : ∀ x ∈ a, x.1.length ≤ 4611686018427387904) : Wh.laws_eqEqS (a, a) = some (true, ()) := by
  have hl : Comes Wh.laws_eqEqS_l0 (((0 : Int), a, a), ()) (.inr ((), ())) := by
    refine comes_up (st := fun i => (((i : Int), a, a), ())) (n := a.length) ?_ ?_ 0 (Nat.zero_le _)
    · intro i hi
      have h2 : IntKind.wrap .i64 ((i : Int) + 1) = ((i + 1 : Nat) : Int) := by rw [wrap64] <;> omega
      have h4 := eqEq_refl (a[i]) (hr _ (by simp))
      simp [Wh.laws_eqEqS_l0, Wh.laws_eqEq', allB, h2, hi, h4, isSm]
    · simp [Wh.laws_eqEqS_l0]
  simp [Wh.laws_eqEqS, cb hl, cv hl, sumC_inr]

theorem eqSolver_refl (a : tImplSolver.D) (h : a.2.2.1.length ≤ 4611686018427387904) (hr : ∀ x ∈ a.2.2.1, x.1.length ≤ 4611686018427387904) : Wh.laws_eqSolver (a, a) = some (true, ()) := by
  simp [Wh.laws_eqSolver, Wh.laws_eqEqS', eqEqS_refl _ h hr, allB, isSm]

/-- no list in it is longer than any machine's -/
def SmPlan (a : tImplPlan.D) : Prop := a.2.2.1.length ≤ 4611686018427387904 ∧ a.2.2.2.1.length ≤ 4611686018427387904
def SmSolver (a : tImplSolver.D) : Prop := a.2.2.1.length ≤ 4611686018427387904 ∧ ∀ x ∈ a.2.2.1, x.1.length ≤ 4611686018427387904
def SmGetting (a : tImplGetting.D) : Prop := SmPlan a.1 ∧ SmSolver a.2.1
def SmClient (a : tImplClient.D) : Prop := SmGetting a.2.2.2.2.2.1

theorem eqGetting_refl (a : tImplGetting.D) (h : SmGetting a) : Wh.laws_eqGetting (a, a) = some (true, ()) := by
  simp [Wh.laws_eqGetting, Wh.laws_eqPlan', Wh.laws_eqSolver', eqPlan_refl _ h.1.1 h.1.2, eqSolver_refl _ h.2.1 h.2.2, allB, isSm]

theorem eqClient_refl (a : tImplClient.D) (h : SmClient a) : Wh.laws_eqClient (a, a) = some (true, ()) := by
  simp [Wh.laws_eqClient, Wh.laws_eqGetting', eqGetting_refl _ h, allB, isSm]

end Pl
