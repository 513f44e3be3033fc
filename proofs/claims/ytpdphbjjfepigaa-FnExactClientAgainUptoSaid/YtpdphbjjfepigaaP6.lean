import Derived.Test.YtpdphbjjfepigaaP5
open Go Go.Ab
namespace Pl

/-- the first place from k on where p fails, or the end -/
def scan (p : Nat → Bool) : Nat → Nat → Nat
  | 0, k => k
  | d + 1, k => if p k = true then scan p d (k + 1) else k

theorem scan_spec (p : Nat → Bool) : ∀ d k, k ≤ scan p d k ∧ scan p d k ≤ k + d ∧ (∀ j, k ≤ j → j < scan p d k → p j = true) ∧ (scan p d k < k + d → p (scan p d k) = false)
  | 0, k => ⟨Nat.le_refl _, Nat.le_refl _, fun j h1 h2 => by simp only [scan] at h2; omega, fun h => by simp only [scan] at h; omega⟩
  | d + 1, k => by
    unfold scan
    by_cases h : p k = true
    · rw [if_pos h]
      obtain ⟨a, b, c, e⟩ := scan_spec p d (k + 1)
      refine ⟨by omega, by omega, fun j h1 h2 => ?_, fun hh => e (by omega)⟩
      by_cases ej : j = k
      · subst ej; exact h
      · exact c j (by omega) h2
    · rw [if_neg h]
      refine ⟨Nat.le_refl _, by omega, fun j h1 h2 => by omega, fun _ => by simpa using h⟩

theorem comes_first {X Y : Type} {r : X → Option (X ⊕ Y)} (st : Nat → X) {n : Nat} (p : Nat → Bool) (yf : Nat → Y) (hs : ∀ i, i < n → p i = true → r (st i) = some (.inl (st (i + 1))))
    (hf : ∀ i, i < n → p i = false → r (st i) = some (.inr (yf i))) (he : r (st n) = some (.inr (yf n))) : Comes r (st 0) (yf (scan p n 0)) := by
  have main : ∀ d k, k + d = n → Comes r (st k) (yf (scan p d k)) := by
    intro d
    induction d with
    | zero => intro k hk; have : k = n := by omega
              subst this; exact .out he
    | succ d ih =>
      intro k hk
      unfold scan
      cases hp : p k with
      | true => rw [if_pos rfl]; exact .again (hs k (by omega) hp) (ih (k + 1) (by omega))
      | false => rw [if_neg (by simp)]; exact .out (hf k (by omega) hp)
  exact main n 0 (by omega)

/-! ### a solved block -/
def isAt (s : tImplSolver.D) (n : Int) (i : Nat) : Bool := decide ((eqA s i).1.length = 1) && decide (headA s i = n)
def getI (s : tImplSolver.D) (n : Int) : Nat := scan (fun i => !isAt s n i) s.2.2.1.length 0
def getV (s : tImplSolver.D) (n : Int) : List UInt8 × Bool := if getI s n < s.2.2.1.length then ((eqA s (getI s n)).2.1, true) else ([], false)

theorem getI_at {s : tImplSolver.D} {n : Int} (h : getI s n < s.2.2.1.length) : isAt s n (getI s n) = true := by
  have := (scan_spec (fun i => !isAt s n i) s.2.2.1.length 0).2.2.2 (by rw [Nat.zero_add]; exact h)
  simpa [getI] using this
theorem getI_le {s : tImplSolver.D} {n : Int} {i : Nat} (hi : i < s.2.2.1.length) (h : isAt s n i = true) : getI s n ≤ i := by
  rcases Nat.lt_or_ge i (getI s n) with hl | hl
  · have := (scan_spec (fun i => !isAt s n i) s.2.2.1.length 0).2.2.1 i (Nat.zero_le _) hl
    simp [h] at this
  · exact hl

theorem len1 (l : List Int) : ((l.length : Int) == 1) = decide (l.length = 1) := by
  by_cases e : l.length = 1
  · rw [e]; rfl
  · have : ¬ (l.length : Int) = 1 := by omega
    rw [decide_eq_false e]; simpa using this

theorem impl_get_eq (s : tImplSolver.D) (hs : SmSolver s) (n : Int) : Wh.impl_Solver_get (s, n) = some (getV s n, ()) := by
  have rnd : ∀ i, i < s.2.2.1.length → Wh.impl_Solver_get_l0 (((i : Int), n, s.2.2.1, (s.2.2.1.length : Int)), ()) = bif !isAt s n i then some (.inl ((((i + 1 : Nat) : Int), n, s.2.2.1, (s.2.2.1.length : Int)), ())) else some (.inr (.inl (((eqA s i).2.1, true), ()))) := by
    intro i hi
    have eA : List.getD s.2.2.1 i ([], [], ()) = eqA s i := rfl
    have f1 : List.getD (eqA s i).1 0 0 = headA s i := rfl
    have hi' : decide ((i : Int) < (s.2.2.1.length : Int)) = true := by simpa using hi
    have h0 : decide ((0 : Int) ≤ (i : Int)) = true := by simp
    have w := wrapN (i := i) (by have := hs.1; omega)
    have d1 := len1 (eqA s i).1
    have d2 : (headA s i == n) = decide (headA s i = n) := rfl
    have d3 : (!decide ((eqA s i).1.length = 1) || decide ((0 : Int) < ((eqA s i).1.length : Int))) = true := by
      by_cases e : (eqA s i).1.length = 1
      · simp [e]
      · simp [e]
    cases hA : decide ((eqA s i).1.length = 1) <;> cases hB : decide (headA s i = n) <;> simp only [hA, Bool.not_true, Bool.not_false, Bool.true_or, Bool.false_or] at d3 <;>
      simp only [Wh.impl_Solver_get_l0, hi', h0, Int.toNat_natCast, Int.toNat_zero, eA, f1, d1, d2, hA, hB, d3, w, isAt, allB, cond_true, cond_false, Bool.not_true, Bool.not_false, Bool.true_and, Bool.false_and, Bool.and_true, Bool.and_false, Bool.true_or, Bool.or_true, Bool.false_or, Bool.or_false, Bool.and_self, decide_true, Int.le_refl]
  have hl : Comes Wh.impl_Solver_get_l0 (((0 : Int), n, s.2.2.1, (s.2.2.1.length : Int)), ()) (if getI s n < s.2.2.1.length then .inl (((eqA s (getI s n)).2.1, true), ()) else .inr ((), ())) := by
    refine comes_first (fun i => (((i : Int), n, s.2.2.1, (s.2.2.1.length : Int)), ())) (fun i => !isAt s n i) (fun i => if i < s.2.2.1.length then (.inl (((eqA s i).2.1, true), ()) : ((List UInt8 × Bool) × Unit) ⊕ (Unit × Unit)) else .inr ((), ())) ?_ ?_ ?_
    · intro i hi h
      simp only [rnd i hi]; rw [h]; rfl
    · intro i hi h
      simp only [rnd i hi]; rw [h, if_pos hi]; rfl
    · simp [Wh.impl_Solver_get_l0]
  by_cases h : getI s n < s.2.2.1.length
  · rw [if_pos h] at hl
    simp only [Wh.impl_Solver_get, cb hl, cv hl, getV, if_pos h, cond_true]
  · rw [if_neg h] at hl
    simp only [Wh.impl_Solver_get, cb hl, cv hl, getV, if_neg h, cond_true]

/-- how many blocks are solved from the first one on -/
def pre (s : tImplSolver.D) : Nat := scan (fun n => (getV s n).2) s.1.toNat 0

theorem impl_prefix_eq (s : tImplSolver.D) (hs : SmSolver s) (h1 : 1 ≤ s.1 ∧ s.1 ≤ 24) : Wh.impl_Solver_prefix s = some ((pre s : Int), ()) := by
  have hl : Comes Wh.impl_Solver_prefix_l0 (((0 : Int), ()), s) ((pre s : Int), ()) := by
    refine comes_first (fun n => (((n : Int), ()), s)) (n := s.1.toNat) (fun n => (getV s n).2) (fun n => ((n : Int), ())) ?_ ?_ ?_
    · intro i hi h
      have hi' : decide ((i : Int) < s.1) = true := by simp; omega
      have w := wrapN (i := i) (by omega)
      simp only [Wh.impl_Solver_prefix_l0, hi', Wh.impl_Solver_get', impl_get_eq s hs, h, w, allB, isSm, cond_true, cond_false, Bool.not_true]
    · intro i hi h
      have hi' : decide ((i : Int) < s.1) = true := by simp; omega
      simp only [Wh.impl_Solver_prefix_l0, hi', Wh.impl_Solver_get', impl_get_eq s hs, h, allB, isSm, cond_true, cond_false, Bool.not_false]
    · have hi' : decide (((s.1.toNat : Nat) : Int) < s.1) = false := by simp; omega
      simp only [Wh.impl_Solver_prefix_l0, hi', cond_false]
  simp only [Wh.impl_Solver_prefix, cb hl, cv hl, cond_true]

theorem getV_end {s : tImplSolver.D} (h : solverOk s = true) : (getV s s.1).2 = false := by
  simp only [solverOk, Bool.and_eq_true] at h
  have ha := h.1.2
  unfold getV
  by_cases hi : getI s s.1 < s.2.2.1.length
  · exfalso
    have hat := getI_at hi
    simp only [isAt, Bool.and_eq_true, decide_eq_true_eq] at hat
    have hro := rowOk_of ha hi
    simp only [rowOk, Bool.and_eq_true] at hro
    have hp : 0 < (eqA s (getI s s.1)).1.length := by omega
    have := allN_iff.1 hro.1 0 hp
    simp only [rowP, Bool.and_eq_true, decide_eq_true_eq] at this
    have e := hat.2
    unfold headA at e
    omega
  · rw [if_neg hi]

end Pl
