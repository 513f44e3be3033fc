import Derived.Test.YtpdphbjjfepigaaP5
open Go Go.Ab
namespace Pl

theorem wrapPn {i : Nat} (h : i ≤ 4611686018427387904) (h0 : 0 < i) : IntKind.wrap .i64 ((i : Int) - 1) = ((i - 1 : Nat) : Int) := by rw [wrap64] <;> omega

/-! ### solvers -/
def eqA (s : tImplSolver.D) (i : Nat) : tImplEq.D := s.2.2.1.getD i ([], [], ())
def headA (s : tImplSolver.D) (i : Nat) : Int := (eqA s i).1.getD 0 0
def eqP (s : tImplSolver.D) (i : Nat) : Bool :=
  rowOk (eqA s i).1 s.1 && decide ((eqA s i).1.length ≠ 0) && decide (((eqA s i).2.1.length : Int) = s.2.1) && (decide (i = 0) || decide (headA s (i - 1) < headA s i))

theorem eqA_mem (s : tImplSolver.D) (i : Nat) (h : i < s.2.2.1.length) : eqA s i ∈ s.2.2.1 := by
  rw [eqA, getD_eq _ _ _ h]; simp

theorem spec_Solver_loop (s : tImplSolver.D) (hs : SmSolver s) (h1 : 1 ≤ s.1 ∧ s.1 ≤ 24) : Comes Wh.spec_SolverOk_l0 (((0 : Int), ()), s) (if allN s.2.2.1.length (eqP s) = true then .inr ((), s) else .inl (false, ())) := by
  have rnd : ∀ i, i < s.2.2.1.length → (∀ j, j < i → eqP s j = true) → Wh.spec_SolverOk_l0 (((i : Int), ()), s) = bif eqP s i then some (.inl ((((i + 1 : Nat) : Int), ()), s)) else some (.inr (.inl (false, ()))) := by
    intro i hi hp
    have hm := eqA_mem s i hi
    have hr := spec_RowOk_eq (eqA s i).1 s.1 (hs.2 _ hm) (by omega) (by omega)
    have hr' : Wh.spec_RowOk' ((eqA s i).1, s.1) = (rowOk (eqA s i).1 s.1, ()) := by simp only [Wh.spec_RowOk', hr]
    have eA : List.getD s.2.2.1 i ([], [], ()) = eqA s i := rfl
    have hi' : decide ((i : Int) < (s.2.2.1.length : Int)) = true := by simpa using hi
    have h0 : decide ((0 : Int) ≤ (i : Int)) = true := by simp
    have w := wrapN (i := i) (by have := hs.1; omega)
    have d1 : (((eqA s i).1.length : Int) == 0) = !decide ((eqA s i).1.length ≠ 0) := by
      by_cases e : (eqA s i).1.length = 0 <;> simp [e]
    have d2 : (((eqA s i).2.1.length : Int) != s.2.1) = !decide (((eqA s i).2.1.length : Int) = s.2.1) := rfl
    have d3 : decide ((0 : Int) < ((eqA s i).1.length : Int)) = decide ((eqA s i).1.length ≠ 0) := by
      by_cases e : (eqA s i).1.length = 0 <;> simp [e]; omega
    rcases Nat.eq_zero_or_pos i with hz | hz
    · subst hz
      have g0 : decide (((0 : Nat) : Int) > 0) = false := by decide
      cases hA : rowOk (eqA s 0).1 s.1 <;> cases hB : decide ((eqA s 0).1.length ≠ 0) <;> cases hC : decide (((eqA s 0).2.1.length : Int) = s.2.1) <;>
        simp only [Wh.spec_SolverOk_l0, hi', h0, Int.toNat_natCast, eA, hr', hr, d1, d2, d3, g0, hA, hB, hC, w, eqP, allB, isSm, cond_true, cond_false, Bool.not_true, Bool.not_false, Bool.true_and, Bool.false_and, Bool.and_true, Bool.and_false, Bool.true_or, Bool.or_true, Bool.and_self, decide_true]
    · have g0 : decide ((i : Int) > 0) = true := by simpa using hz
      have gz : decide (i = 0) = false := by simp; omega
      have w2 := wrapPn (i := i) (by have := hs.1; omega) hz
      have eB : List.getD s.2.2.1 (i - 1) ([], [], ()) = eqA s (i - 1) := rfl
      have hq := hp (i - 1) (by omega)
      simp only [eqP, Bool.and_eq_true, decide_eq_true_eq] at hq
      have q1 : decide ((0 : Int) < ((eqA s (i - 1)).1.length : Int)) = true := by have := hq.1.1.2; simp; omega
      have q2 : decide (((i - 1 : Nat) : Int) < (s.2.2.1.length : Int)) = true := by simp; omega
      have q3 : decide ((0 : Int) ≤ ((i - 1 : Nat) : Int)) = true := by simp
      have f1 : List.getD (eqA s i).1 0 0 = headA s i := rfl
      have f2 : List.getD (eqA s (i - 1)).1 0 0 = headA s (i - 1) := rfl
      have d4 : decide (headA s (i - 1) ≥ headA s i) = !decide (headA s (i - 1) < headA s i) := by
        by_cases e : headA s (i - 1) < headA s i
        · have : ¬ headA s i ≤ headA s (i - 1) := by omega
          simp [e, this]
        · have : headA s i ≤ headA s (i - 1) := by omega
          simp [e, this]
      cases hA : rowOk (eqA s i).1 s.1 <;> cases hB : decide ((eqA s i).1.length ≠ 0) <;> cases hC : decide (((eqA s i).2.1.length : Int) = s.2.1) <;> cases hD : decide (headA s (i - 1) < headA s i) <;>
        simp only [Wh.spec_SolverOk_l0, hi', h0, Int.toNat_natCast, Int.toNat_zero, eA, eB, f1, f2, hr', hr, d1, d2, d3, d4, g0, gz, hA, hB, hC, hD, w, w2, q1, q2, q3, eqP, allB, isSm, cond_true, cond_false, Bool.not_true, Bool.not_false, Bool.true_and, Bool.false_and, Bool.and_true, Bool.and_false, Bool.true_or, Bool.or_true, Bool.false_or, Bool.or_false, Bool.and_self, decide_true, Int.le_refl]
  refine comes_all (fun i => (((i : Int), ()), s)) ?_ ?_ ?_
  · intro i hi hp h
    rw [rnd i hi hp, h]; rfl
  · intro i hi hp h
    rw [rnd i hi hp, h]; rfl
  · simp [Wh.spec_SolverOk_l0]

end Pl
