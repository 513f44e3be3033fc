import Derived.Test.YtpdphbjjfepigaaP6
open Go Go.Ab
namespace Pl

def hasA (row : List Int) (n : Int) : Bool := !allN row.length fun j => !(row.getD j 0 == n)

theorem hasA_iff (row : List Int) (n : Int) : hasA row n = true ↔ ∃ j, j < row.length ∧ row.getD j 0 = n := by
  unfold hasA
  cases h : allN row.length fun j => !(row.getD j 0 == n) with
  | true =>
    rw [allN_iff] at h
    simp only [Bool.not_true, Bool.false_eq_true, false_iff, not_exists, not_and]
    intro j hj e
    have := h j hj
    simp only [e, beq_self_eq_true, Bool.not_true, Bool.false_eq_true] at this
  | false =>
    simp only [Bool.not_false, true_iff]
    by_cases e : ∃ j, j < row.length ∧ row.getD j 0 = n
    · exact e
    · exfalso
      have : allN row.length (fun j => !(row.getD j 0 == n)) = true := by
        rw [allN_iff]; intro j hj
        simp only [Bool.not_eq_true', beq_eq_false_iff_ne, ne_eq]
        intro e2; exact e ⟨j, hj, e2⟩
      rw [h] at this; cases this

theorem spec_l3Has_eq (row : List Int) (n : Int) (h : row.length ≤ 4611686018427387904) : Wh.spec_l3Has (row, n) = some (hasA row n, ()) := by
  have hl : Comes Wh.spec_l3Has_l0 (((0 : Int), n, row), ()) (if (allN row.length fun j => !(row.getD j 0 == n)) = true then .inr ((), ()) else .inl (true, ())) := by
    refine comes_all (fun i => (((i : Int), n, row), ())) ?_ ?_ ?_
    · intro i hi _ hp
      have hi' : decide ((i : Int) < (row.length : Int)) = true := by simpa using hi
      have h0 : decide ((0 : Int) ≤ (i : Int)) = true := by simp
      have hp' : (row.getD i 0 == n) = false := by simpa using hp
      simp only [Wh.spec_l3Has_l0, hi', h0, Int.toNat_natCast, hp', wrapN (i := i) (by omega), allB, cond_true, cond_false, Bool.and_self]
    · intro i hi _ hp
      have hi' : decide ((i : Int) < (row.length : Int)) = true := by simpa using hi
      have h0 : decide ((0 : Int) ≤ (i : Int)) = true := by simp
      have hp' : (row.getD i 0 == n) = true := by simpa using hp
      simp only [Wh.spec_l3Has_l0, hi', h0, Int.toNat_natCast, hp', allB, cond_true, cond_false, Bool.and_self]
    · simp [Wh.spec_l3Has_l0]
  cases hp : (allN row.length fun j => !(row.getD j 0 == n)) with
  | true =>
    rw [hp, if_pos rfl] at hl
    simp only [Wh.spec_l3Has, cb hl, cv hl, hasA, hp, cond_true, Bool.not_true]
  | false =>
    rw [hp, if_neg (by simp)] at hl
    simp only [Wh.spec_l3Has, cb hl, cv hl, hasA, hp, cond_true, Bool.not_false]

def crossP (s : tImplSolver.D) (i k : Nat) : Bool := decide (k = i) || !hasA (eqA s k).1 (headA s i)
def cross (s : tImplSolver.D) : Bool := allN s.2.2.1.length fun i => allN s.2.2.1.length (crossP s i)

theorem spec_Solver_in (s : tImplSolver.D) (hs : SmSolver s) (i : Nat) (hi : i < s.2.2.1.length) (hne : (eqA s i).1.length ≠ 0) :
    Comes Wh.spec_SolverOk_l2 (((0 : Int), (i : Int), ()), s) (if allN s.2.2.1.length (crossP s i) = true then .inr (((), (i : Int)), s) else .inl (false, ())) := by
  have rnd : ∀ k, k < s.2.2.1.length → Wh.spec_SolverOk_l2 (((k : Int), (i : Int), ()), s) = bif crossP s i k then some (.inl ((((k + 1 : Nat) : Int), (i : Int), ()), s)) else some (.inr (.inl (false, ()))) := by
    intro k hk
    have hr := spec_l3Has_eq (eqA s k).1 (headA s i) (hs.2 _ (eqA_mem s k hk))
    have hr' : Wh.spec_l3Has' ((eqA s k).1, headA s i) = (hasA (eqA s k).1 (headA s i), ()) := by simp only [Wh.spec_l3Has', hr]
    have eA : List.getD s.2.2.1 i ([], [], ()) = eqA s i := rfl
    have eB : List.getD s.2.2.1 k ([], [], ()) = eqA s k := rfl
    have f1 : List.getD (eqA s i).1 0 0 = headA s i := rfl
    have hi' : decide ((i : Int) < (s.2.2.1.length : Int)) = true := by simpa using hi
    have hk' : decide ((k : Int) < (s.2.2.1.length : Int)) = true := by simpa using hk
    have h0 : decide ((0 : Int) ≤ (i : Int)) = true := by simp
    have h1 : decide ((0 : Int) ≤ (k : Int)) = true := by simp
    have h2 : decide ((0 : Int) < ((eqA s i).1.length : Int)) = true := by simp; omega
    have w := wrapN (i := k) (by have := hs.1; omega)
    have d1 : ((k : Int) != (i : Int)) = !decide (k = i) := by
      by_cases e : k = i
      · subst e; simp
      · have : (k : Int) ≠ i := by omega
        simp [e, this]
    cases hA : decide (k = i) <;> cases hB : hasA (eqA s k).1 (headA s i) <;>
      simp only [Wh.spec_SolverOk_l2, hi', hk', h0, h1, h2, Int.toNat_natCast, Int.toNat_zero, eA, eB, f1, hr, hr', d1, hA, hB, w, crossP, allB, isSm, cond_true, cond_false, Bool.not_true, Bool.not_false, Bool.true_and, Bool.false_and, Bool.and_true, Bool.and_false, Bool.true_or, Bool.or_true, Bool.false_or, Bool.or_false, Bool.and_self, Bool.or_self, decide_true, Int.le_refl]
  refine comes_all (fun k => (((k : Int), (i : Int), ()), s)) ?_ ?_ ?_
  · intro k hk _ h
    rw [rnd k hk, h]; rfl
  · intro k hk _ h
    rw [rnd k hk, h]; rfl
  · simp [Wh.spec_SolverOk_l2]

theorem spec_Solver_out (s : tImplSolver.D) (hs : SmSolver s) (hne : ∀ i, i < s.2.2.1.length → (eqA s i).1.length ≠ 0) :
    Comes Wh.spec_SolverOk_l1 (((0 : Int), ()), s) (if cross s = true then .inr ((), ()) else .inl (false, ())) := by
  refine comes_all (fun i => (((i : Int), ()), s)) ?_ ?_ ?_
  · intro i hi _ h
    have hl := spec_Solver_in s hs i hi (hne i hi)
    rw [h, if_pos rfl] at hl
    have hi' : decide ((i : Int) < (s.2.2.1.length : Int)) = true := by simpa using hi
    simp only [Wh.spec_SolverOk_l1, hi', cb hl, cv hl, cond_true]
    dsimp only [sumC]
    rw [wrapN (i := i) (by have := hs.1; omega)]
  · intro i hi _ h
    have hl := spec_Solver_in s hs i hi (hne i hi)
    rw [h, if_neg (by simp)] at hl
    have hi' : decide ((i : Int) < (s.2.2.1.length : Int)) = true := by simpa using hi
    simp only [Wh.spec_SolverOk_l1, hi', cb hl, cv hl, cond_true]
  · simp [Wh.spec_SolverOk_l1]

def solverOk (s : tImplSolver.D) : Bool := decide (1 ≤ s.1 ∧ s.1 ≤ 24) && decide (1 ≤ s.2.1 ∧ s.2.1 ≤ 16) && allN s.2.2.1.length (eqP s) && cross s

theorem eqP_ne {s : tImplSolver.D} (h : allN s.2.2.1.length (eqP s) = true) (i : Nat) (hi : i < s.2.2.1.length) : (eqA s i).1.length ≠ 0 := by
  have := allN_iff.1 h i hi
  simp only [eqP, Bool.and_eq_true, decide_eq_true_eq] at this
  exact this.1.1.2

theorem spec_SolverOk_eq (s : tImplSolver.D) (hs : SmSolver s) : Wh.spec_SolverOk s = some (solverOk s, ()) := by
  by_cases a1 : 1 ≤ s.1 ∧ s.1 ≤ 24
  case neg => simp [Wh.spec_SolverOk, Wh.spec_l1In', l1In_eq, allB, isSm, a1, solverOk]
  by_cases a2 : 1 ≤ s.2.1 ∧ s.2.1 ≤ 16
  case neg => simp [Wh.spec_SolverOk, Wh.spec_l1In', l1In_eq, allB, isSm, a1, a2, solverOk]
  have hl := spec_Solver_loop s hs a1
  cases h1 : allN s.2.2.1.length (eqP s) with
  | false =>
    rw [h1, if_neg (by simp)] at hl
    simp [Wh.spec_SolverOk, Wh.spec_l1In', l1In_eq, allB, isSm, a1, a2, solverOk, cb hl, cv hl, h1]
  | true =>
    rw [h1, if_pos rfl] at hl
    have hl2 := spec_Solver_out s hs (eqP_ne h1)
    cases h2 : cross s with
    | false =>
      rw [h2, if_neg (by simp)] at hl2
      simp [Wh.spec_SolverOk, Wh.spec_l1In', l1In_eq, allB, isSm, a1, a2, solverOk, cb hl, cv hl, h1, h2]
      dsimp only [sumC]
      simp only [cb hl2, cv hl2, cond_true]
    | true =>
      rw [h2, if_pos rfl] at hl2
      simp [Wh.spec_SolverOk, Wh.spec_l1In', l1In_eq, allB, isSm, a1, a2, solverOk, cb hl, cv hl, h1, h2]
      dsimp only [sumC]
      simp only [cb hl2, cv hl2, cond_true]

end Pl
