import Derived.Test.YtpdphbjjfepigaaP1
open Go Go.Ab
namespace Pl

theorem wrapPn {i : Nat} (h : i ≤ 4611686018427387904) (h0 : 0 < i) : IntKind.wrap .i64 ((i : Int) - 1) = ((i - 1 : Nat) : Int) := by rw [wrap64] <;> omega

/-! ### solvers -/
def eqA (s : tImplSolver.D) (i : Nat) : tImplEq.D := s.2.2.1.getD i ([], [], ())
def headA (s : tImplSolver.D) (i : Nat) : Int := (eqA s i).1.getD 0 0
def eqP (s : tImplSolver.D) (i : Nat) : Bool :=
  rowOk (eqA s i).1 s.1 && decide ((eqA s i).1.length ≠ 0) && decide (((eqA s i).2.1.length : Int) = s.2.1) && (decide (i = 0) || decide (headA s (i - 1) < headA s i))

theorem eqA_mem (s : tImplSolver.D) (i : Nat) (h : i < s.2.2.1.length) : eqA s i ∈ s.2.2.1 := by
  rw [eqA, getD_eq _ _ _ h]; simp

theorem spec_Solver_loop (s : tImplSolver.D) (hs : SmSolver s) (h1 : 1 ≤ s.1 ∧ s.1 ≤ 24) : Comes Wh.spec_SolverOk_l0 (((0 : Int), ()), s) (if allN s.2.2.1.length (eqP s) = true then .inr ((), s) else .inl (false, ())) := by
  have rnd : ∀ i, i < s.2.2.1.length → (∀ j, j < i → eqP s j = true) → Wh.spec_SolverOk_l0 (((i : Int), ()), s) = bif eqP s i then some (.inl ((((i + 1 : Nat) : Int), ()), s)) else some (.inr (.inl (false, ()))) := by
    intro i hi hp
    have hm := eqA_mem s i hi
    have hr := spec_RowOk_eq (eqA s i).1 s.1 (hs.2 _ hm) (by omega) (by omega)
    have hr' : Wh.spec_RowOk' ((eqA s i).1, s.1) = (rowOk (eqA s i).1 s.1, ()) := by simp only [Wh.spec_RowOk', hr]
    have eA : List.getD s.2.2.1 i ([], [], ()) = eqA s i := rfl
    have hi' : decide ((i : Int) < (s.2.2.1.length : Int)) = true := by simpa using hi
    have h0 : decide ((0 : Int) ≤ (i : Int)) = true := by simp
    have w := wrapN (i := i) (by have := hs.1; omega)
    have d1 : (((eqA s i).1.length : Int) == 0) = !decide ((eqA s i).1.length ≠ 0) := by
      by_cases e : (eqA s i).1.length = 0 <;> simp [e]
    have d2 : (((eqA s i).2.1.length : Int) != s.2.1) = !decide (((eqA s i).2.1.length : Int) = s.2.1) := rfl
    have d3 : decide ((0 : Int) < ((eqA s i).1.length : Int)) = decide ((eqA s i).1.length ≠ 0) := by
      by_cases e : (eqA s i).1.length = 0 <;> simp [e]; omega
    rcases Nat.eq_zero_or_pos i with hz | hz
    · subst hz
      have g0 : decide (((0 : Nat) : Int) > 0) = false := by decide
      cases hA : rowOk (eqA s 0).1 s.1 <;> cases hB : decide ((eqA s 0).1.length ≠ 0) <;> cases hC : decide (((eqA s 0).2.1.length : Int) = s.2.1) <;>
        simp only [Wh.spec_SolverOk_l0, hi', h0, Int.toNat_natCast, eA, hr', hr, d1, d2, d3, g0, hA, hB, hC, w, eqP, allB, isSm, cond_true, cond_false, Bool.not_true, Bool.not_false, Bool.true_and, Bool.false_and, Bool.and_true, Bool.and_false, Bool.true_or, Bool.or_true, Bool.and_self, decide_true]
    · have g0 : decide ((i : Int) > 0) = true := by simpa using hz
      have gz : decide (i = 0) = false := by simp; omega
      have w2 := wrapPn (i := i) (by have := hs.1; omega) hz
      have eB : List.getD s.2.2.1 (i - 1) ([], [], ()) = eqA s (i - 1) := rfl
      have hq := hp (i - 1) (by omega)
      simp only [eqP, Bool.and_eq_true, decide_eq_true_eq] at hq
      have q1 : decide ((0 : Int) < ((eqA s (i - 1)).1.length : Int)) = true := by have := hq.1.1.2; simp; omega
      have q2 : decide (((i - 1 : Nat) : Int) < (s.2.2.1.length : Int)) = true := by simp; omega
      have q3 : decide ((0 : Int) ≤ ((i - 1 : Nat) : Int)) = true := by simp
      have f1 : List.getD (eqA s i).1 0 0 = headA s i := rfl
      have f2 : List.getD (eqA s (i - 1)).1 0 0 = headA s (i - 1) := rfl
      have d4 : decide (headA s (i - 1) ≥ headA s i) = !decide (headA s (i - 1) < headA s i) := by
        by_cases e : headA s (i - 1) < headA s i
        · have : ¬ headA s i ≤ headA s (i - 1) := by omega
          simp [e, this]
        · have : headA s i ≤ headA s (i - 1) := by omega
          simp [e, this]
      cases hA : rowOk (eqA s i).1 s.1 <;> cases hB : decide ((eqA s i).1.length ≠ 0) <;> cases hC : decide (((eqA s i).2.1.length : Int) = s.2.1) <;> cases hD : decide (headA s (i - 1) < headA s i) <;>
        simp only [Wh.spec_SolverOk_l0, hi', h0, Int.toNat_natCast, Int.toNat_zero, eA, eB, f1, f2, hr', hr, d1, d2, d3, d4, g0, gz, hA, hB, hC, hD, w, w2, q1, q2, q3, eqP, allB, isSm, cond_true, cond_false, Bool.not_true, Bool.not_false, Bool.true_and, Bool.false_and, Bool.and_true, Bool.and_false, Bool.true_or, Bool.or_true, Bool.false_or, Bool.or_false, Bool.and_self, decide_true, Int.le_refl]
  refine comes_all (fun i => (((i : Int), ()), s)) ?_ ?_ ?_
  · intro i hi hp h
    rw [rnd i hi hp, h]; rfl
  · intro i hi hp h
    rw [rnd i hi hp, h]; rfl
  · simp [Wh.spec_SolverOk_l0]

end Pl
open Go Go.Ab
namespace Pl

def hasA (row : List Int) (n : Int) : Bool := !allN row.length fun j => !(row.getD j 0 == n)

theorem hasA_iff (row : List Int) (n : Int) : hasA row n = true ↔ ∃ j, j < row.length ∧ row.getD j 0 = n := by
  unfold hasA
  cases h : allN row.length fun j => !(row.getD j 0 == n) with
  | true =>
    rw [allN_iff] at h
    simp only [Bool.not_true, Bool.false_eq_true, false_iff, not_exists, not_and]
    intro j hj e
    have := h j hj
    simp only [e, beq_self_eq_true, Bool.not_true, Bool.false_eq_true] at this
  | false =>
    simp only [Bool.not_false, true_iff]
    by_cases e : ∃ j, j < row.length ∧ row.getD j 0 = n
    · exact e
    · exfalso
      have : allN row.length (fun j => !(row.getD j 0 == n)) = true := by
        rw [allN_iff]; intro j hj
        simp only [Bool.not_eq_true', beq_eq_false_iff_ne, ne_eq]
        intro e2; exact e ⟨j, hj, e2⟩
      rw [h] at this; cases this

theorem spec_l3Has_eq (row : List Int) (n : Int) (h : row.length ≤ 4611686018427387904) : Wh.spec_l3Has (row, n) = some (hasA row n, ()) := by
  have hl : Comes Wh.spec_l3Has_l0 (((0 : Int), n, row), ()) (if (allN row.length fun j => !(row.getD j 0 == n)) = true then .inr ((), ()) else .inl (true, ())) := by
    refine comes_all (fun i => (((i : Int), n, row), ())) ?_ ?_ ?_
    · intro i hi _ hp
      have hi' : decide ((i : Int) < (row.length : Int)) = true := by simpa using hi
      have h0 : decide ((0 : Int) ≤ (i : Int)) = true := by simp
      have hp' : (row.getD i 0 == n) = false := by simpa using hp
      simp only [Wh.spec_l3Has_l0, hi', h0, Int.toNat_natCast, hp', wrapN (i := i) (by omega), allB, cond_true, cond_false, Bool.and_self]
    · intro i hi _ hp
      have hi' : decide ((i : Int) < (row.length : Int)) = true := by simpa using hi
      have h0 : decide ((0 : Int) ≤ (i : Int)) = true := by simp
      have hp' : (row.getD i 0 == n) = true := by simpa using hp
      simp only [Wh.spec_l3Has_l0, hi', h0, Int.toNat_natCast, hp', allB, cond_true, cond_false, Bool.and_self]
    · simp [Wh.spec_l3Has_l0]
  cases hp : (allN row.length fun j => !(row.getD j 0 == n)) with
  | true =>
    rw [hp, if_pos rfl] at hl
    simp only [Wh.spec_l3Has, cb hl, cv hl, hasA, hp, cond_true, Bool.not_true]
  | false =>
    rw [hp, if_neg (by simp)] at hl
    simp only [Wh.spec_l3Has, cb hl, cv hl, hasA, hp, cond_true, Bool.not_false]

def crossP (s : tImplSolver.D) (i k : Nat) : Bool := decide (k = i) || !hasA (eqA s k).1 (headA s i)
def cross (s : tImplSolver.D) : Bool := allN s.2.2.1.length fun i => allN s.2.2.1.length (crossP s i)

theorem spec_Solver_in (s : tImplSolver.D) (hs : SmSolver s) (i : Nat) (hi : i < s.2.2.1.length) (hne : (eqA s i).1.length ≠ 0) :
    Comes Wh.spec_SolverOk_l2 (((0 : Int), (i : Int), ()), s) (if allN s.2.2.1.length (crossP s i) = true then .inr (((), (i : Int)), s) else .inl (false, ())) := by
  have rnd : ∀ k, k < s.2.2.1.length → Wh.spec_SolverOk_l2 (((k : Int), (i : Int), ()), s) = bif crossP s i k then some (.inl ((((k + 1 : Nat) : Int), (i : Int), ()), s)) else some (.inr (.inl (false, ()))) := by
    intro k hk
    have hr := spec_l3Has_eq (eqA s k).1 (headA s i) (hs.2 _ (eqA_mem s k hk))
    have hr' : Wh.spec_l3Has' ((eqA s k).1, headA s i) = (hasA (eqA s k).1 (headA s i), ()) := by simp only [Wh.spec_l3Has', hr]
    have eA : List.getD s.2.2.1 i ([], [], ()) = eqA s i := rfl
    have eB : List.getD s.2.2.1 k ([], [], ()) = eqA s k := rfl
    have f1 : List.getD (eqA s i).1 0 0 = headA s i := rfl
    have hi' : decide ((i : Int) < (s.2.2.1.length : Int)) = true := by simpa using hi
    have hk' : decide ((k : Int) < (s.2.2.1.length : Int)) = true := by simpa using hk
    have h0 : decide ((0 : Int) ≤ (i : Int)) = true := by simp
    have h1 : decide ((0 : Int) ≤ (k : Int)) = true := by simp
    have h2 : decide ((0 : Int) < ((eqA s i).1.length : Int)) = true := by simp; omega
    have w := wrapN (i := k) (by have := hs.1; omega)
    have d1 : ((k : Int) != (i : Int)) = !decide (k = i) := by
      by_cases e : k = i
      · subst e; simp
      · have : (k : Int) ≠ i := by omega
        simp [e, this]
    cases hA : decide (k = i) <;> cases hB : hasA (eqA s k).1 (headA s i) <;>
      simp only [Wh.spec_SolverOk_l2, hi', hk', h0, h1, h2, Int.toNat_natCast, Int.toNat_zero, eA, eB, f1, hr, hr', d1, hA, hB, w, crossP, allB, isSm, cond_true, cond_false, Bool.not_true, Bool.not_false, Bool.true_and, Bool.false_and, Bool.and_true, Bool.and_false, Bool.true_or, Bool.or_true, Bool.false_or, Bool.or_false, Bool.and_self, Bool.or_self, decide_true, Int.le_refl]
  refine comes_all (fun k => (((k : Int), (i : Int), ()), s)) ?_ ?_ ?_
  · intro k hk _ h
    rw [rnd k hk, h]; rfl
  · intro k hk _ h
    rw [rnd k hk, h]; rfl
  · simp [Wh.spec_SolverOk_l2]

theorem spec_Solver_out (s : tImplSolver.D) (hs : SmSolver s) (hne : ∀ i, i < s.2.2.1.length → (eqA s i).1.length ≠ 0) :
    Comes Wh.spec_SolverOk_l1 (((0 : Int), ()), s) (if cross s = true then .inr ((), ()) else .inl (false, ())) := by
  refine comes_all (fun i => (((i : Int), ()), s)) ?_ ?_ ?_
  · intro i hi _ h
    have hl := spec_Solver_in s hs i hi (hne i hi)
    rw [h, if_pos rfl] at hl
    have hi' : decide ((i : Int) < (s.2.2.1.length : Int)) = true := by simpa using hi
    simp only [Wh.spec_SolverOk_l1, hi', cb hl, cv hl, cond_true]
    dsimp only [sumC]
    rw [wrapN (i := i) (by have := hs.1; omega)]
  · intro i hi _ h
    have hl := spec_Solver_in s hs i hi (hne i hi)
    rw [h, if_neg (by simp)] at hl
    have hi' : decide ((i : Int) < (s.2.2.1.length : Int)) = true := by simpa using hi
    simp only [Wh.spec_SolverOk_l1, hi', cb hl, cv hl, cond_true]
  · simp [Wh.spec_SolverOk_l1]

def solverOk (s : tImplSolver.D) : Bool := decide (1 ≤ s.1 ∧ s.1 ≤ 24) && decide (1 ≤ s.2.1 ∧ s.2.1 ≤ 16) && allN s.2.2.1.length (eqP s) && cross s

theorem eqP_ne {s : tImplSolver.D} (h : allN s.2.2.1.length (eqP s) = true) (i : Nat) (hi : i < s.2.2.1.length) : (eqA s i).1.length ≠ 0 := by
  have := allN_iff.1 h i hi
  simp only [eqP, Bool.and_eq_true, decide_eq_true_eq] at this
  exact this.1.1.2

theorem spec_SolverOk_eq (s : tImplSolver.D) (hs : SmSolver s) : Wh.spec_SolverOk s = some (solverOk s, ()) := by
  by_cases a1 : 1 ≤ s.1 ∧ s.1 ≤ 24
  case neg => simp [Wh.spec_SolverOk, Wh.spec_l1In', l1In_eq, allB, isSm, a1, solverOk]
  by_cases a2 : 1 ≤ s.2.1 ∧ s.2.1 ≤ 16
  case neg => simp [Wh.spec_SolverOk, Wh.spec_l1In', l1In_eq, allB, isSm, a1, a2, solverOk]
  have hl := spec_Solver_loop s hs a1
  cases h1 : allN s.2.2.1.length (eqP s) with
  | false =>
    rw [h1, if_neg (by simp)] at hl
    simp [Wh.spec_SolverOk, Wh.spec_l1In', l1In_eq, allB, isSm, a1, a2, solverOk, cb hl, cv hl, h1]
  | true =>
    rw [h1, if_pos rfl] at hl
    have hl2 := spec_Solver_out s hs (eqP_ne h1)
    cases h2 : cross s with
    | false =>
      rw [h2, if_neg (by simp)] at hl2
      simp [Wh.spec_SolverOk, Wh.spec_l1In', l1In_eq, allB, isSm, a1, a2, solverOk, cb hl, cv hl, h1, h2]
      dsimp only [sumC]
      simp only [cb hl2, cv hl2, cond_true]
    | true =>
      rw [h2, if_pos rfl] at hl2
      simp [Wh.spec_SolverOk, Wh.spec_l1In', l1In_eq, allB, isSm, a1, a2, solverOk, cb hl, cv hl, h1, h2]
      dsimp only [sumC]
      simp only [cb hl2, cv hl2, cond_true]

end Pl
open Go Go.Ab
namespace Pl

theorem rowOk_mem {row : List Int} {count : Int} (h : rowOk row count = true) (x : Int) (hx : x ∈ row) : 0 ≤ x ∧ x < 24 := by
  simp only [rowOk, Bool.and_eq_true, decide_eq_true_eq] at h
  obtain ⟨i, hi, e⟩ := List.mem_iff_getElem.1 hx
  have := allN_iff.1 h.1 i hi
  simp only [rowP, Bool.and_eq_true, decide_eq_true_eq, getD_eq _ _ _ hi, e] at this
  omega

def heads (s : tImplSolver.D) (i : Nat) : List Int := (List.range i).map (headA s)

theorem heads_snoc (s : tImplSolver.D) (i : Nat) : heads s (i + 1) = heads s i ++ [headA s i] := by simp [heads, List.range_succ]

theorem headA_ok {s : tImplSolver.D} {i : Nat} (h : eqP s i = true) : 0 ≤ headA s i ∧ headA s i < 24 := by
  simp only [eqP, Bool.and_eq_true, decide_eq_true_eq] at h
  have hp : 0 < (eqA s i).1.length := by have := h.1.1.2; omega
  refine rowOk_mem h.1.1.1 _ ?_
  rw [headA, getD_eq _ _ _ hp]; simp

theorem heads_lt {s : tImplSolver.D} {i : Nat} (h : ∀ j, j < i → eqP s j = true) : ∀ x ∈ heads s i, x < 24 := by
  intro x hx
  simp only [heads, List.mem_map, List.mem_range] at hx
  obtain ⟨j, hj, rfl⟩ := hx
  exact (headA_ok (h j hj)).2

theorem impl_Solver_loop (s : tImplSolver.D) (hs : SmSolver s) (h1 : 1 ≤ s.1 ∧ s.1 ≤ 24) :
    Comes Wh.impl_SolverOk_l0 (((0 : Int), (0 : Int), (), s.2.2.1, (s.2.2.1.length : Int)), s) (if allN s.2.2.1.length (eqP s) = true then .inr ((((mkN (heads s s.2.2.1.length) : Nat) : Int), ()), s) else .inl (false, ())) := by
  have rnd : ∀ i, i < s.2.2.1.length → (∀ j, j < i → eqP s j = true) → Wh.impl_SolverOk_l0 (((i : Int), ((mkN (heads s i) : Nat) : Int), (), s.2.2.1, (s.2.2.1.length : Int)), s) = bif eqP s i then some (.inl ((((i + 1 : Nat) : Int), ((mkN (heads s (i + 1)) : Nat) : Int), (), s.2.2.1, (s.2.2.1.length : Int)), s)) else some (.inr (.inl (false, ()))) := by
    intro i hi hp
    have hm := eqA_mem s i hi
    have hr := impl_RowOk_eq (eqA s i).1 s.1 (hs.2 _ hm) (by omega) (by omega)
    have hr' : Wh.impl_RowOk' ((eqA s i).1, s.1) = (rowOk (eqA s i).1 s.1, ()) := by simp only [Wh.impl_RowOk', hr]
    have eA : List.getD s.2.2.1 i ([], [], ()) = eqA s i := rfl
    have hi' : decide ((i : Int) < (s.2.2.1.length : Int)) = true := by simpa using hi
    have h0 : decide ((0 : Int) ≤ (i : Int)) = true := by simp
    have w := wrapN (i := i) (by have := hs.1; omega)
    have d1 : (((eqA s i).1.length : Int) == 0) = !decide ((eqA s i).1.length ≠ 0) := by
      by_cases e : (eqA s i).1.length = 0 <;> simp [e]
    have d2 : (((eqA s i).2.1.length : Int) != s.2.1) = !decide (((eqA s i).2.1.length : Int) = s.2.1) := rfl
    have d3 : decide ((0 : Int) < ((eqA s i).1.length : Int)) = decide ((eqA s i).1.length ≠ 0) := by
      by_cases e : (eqA s i).1.length = 0 <;> simp [e]; omega
    have f1 : List.getD (eqA s i).1 0 0 = headA s i := rfl
    have mk : eqP s i = true → bitsOp .or .u32 ((mkN (heads s i) : Nat) : Int) (IntKind.wrap .u32 ((1 : Int) * (2 : Int) ^ Min.min (Int.toNat (headA s i)) (IntKind.bits .u32))) = ((mkN (heads s (i + 1)) : Nat) : Int) := by
      intro h
      have := headA_ok h
      rw [shl32 this.1 this.2, or32 (mkN_lt _ (heads_lt hp)) (pow24 this.2), heads_snoc, mkN_snoc]
    have mk0 : eqP s i = true → decide (0 ≤ headA s i) = true := fun h => decide_eq_true (headA_ok h).1
    rcases Nat.eq_zero_or_pos i with hz | hz
    · subst hz
      have g0 : decide (((0 : Nat) : Int) > 0) = false := by decide
      cases hA : rowOk (eqA s 0).1 s.1 <;> cases hB : decide ((eqA s 0).1.length ≠ 0) <;> cases hC : decide (((eqA s 0).2.1.length : Int) = s.2.1)
      case true.true.true =>
        have hE : eqP s 0 = true := by simp only [eqP, hA, hB, hC, decide_true, Bool.true_or, Bool.and_self]
        simp only [Wh.impl_SolverOk_l0, hi', h0, Int.toNat_natCast, Int.toNat_zero, eA, f1, hr', hr, d1, d2, d3, g0, hA, hB, hC, w, mk hE, mk0 hE, hE, allB, isSm, cond_true, cond_false, Bool.not_true, Bool.not_false, Bool.true_and, Bool.false_and, Bool.and_true, Bool.and_false, Bool.true_or, Bool.or_true, Bool.and_self, decide_true]
      all_goals
        simp only [Wh.impl_SolverOk_l0, hi', h0, Int.toNat_natCast, eA, hr', hr, d1, d2, d3, g0, hA, hB, hC, w, eqP, allB, isSm, cond_true, cond_false, Bool.not_true, Bool.not_false, Bool.true_and, Bool.false_and, Bool.and_true, Bool.and_false, Bool.true_or, Bool.or_true, Bool.and_self, decide_true]
    · have g0 : decide ((i : Int) > 0) = true := by simpa using hz
      have gz : decide (i = 0) = false := by simp; omega
      have w2 := wrapPn (i := i) (by have := hs.1; omega) hz
      have eB : List.getD s.2.2.1 (i - 1) ([], [], ()) = eqA s (i - 1) := rfl
      have hq := hp (i - 1) (by omega)
      simp only [eqP, Bool.and_eq_true, decide_eq_true_eq] at hq
      have q1 : decide ((0 : Int) < ((eqA s (i - 1)).1.length : Int)) = true := by have := hq.1.1.2; simp; omega
      have q2 : decide (((i - 1 : Nat) : Int) < (s.2.2.1.length : Int)) = true := by simp; omega
      have q3 : decide ((0 : Int) ≤ ((i - 1 : Nat) : Int)) = true := by simp
      have f2 : List.getD (eqA s (i - 1)).1 0 0 = headA s (i - 1) := rfl
      have d4 : decide (headA s (i - 1) ≥ headA s i) = !decide (headA s (i - 1) < headA s i) := by
        by_cases e : headA s (i - 1) < headA s i
        · have : ¬ headA s i ≤ headA s (i - 1) := by omega
          simp [e, this]
        · have : headA s i ≤ headA s (i - 1) := by omega
          simp [e, this]
      cases hA : rowOk (eqA s i).1 s.1 <;> cases hB : decide ((eqA s i).1.length ≠ 0) <;> cases hC : decide (((eqA s i).2.1.length : Int) = s.2.1) <;> cases hD : decide (headA s (i - 1) < headA s i)
      case true.true.true.true =>
        have hE : eqP s i = true := by simp only [eqP, hA, hB, hC, hD, Bool.or_true, Bool.and_self]
        simp only [Wh.impl_SolverOk_l0, hi', h0, Int.toNat_natCast, Int.toNat_zero, eA, eB, f1, f2, hr', hr, d1, d2, d3, d4, g0, gz, hA, hB, hC, hD, w, w2, q1, q2, q3, mk hE, mk0 hE, hE, allB, isSm, cond_true, cond_false, Bool.not_true, Bool.not_false, Bool.true_and, Bool.false_and, Bool.and_true, Bool.and_false, Bool.true_or, Bool.or_true, Bool.false_or, Bool.or_false, Bool.and_self, decide_true, Int.le_refl]
      all_goals
        simp only [Wh.impl_SolverOk_l0, hi', h0, Int.toNat_natCast, Int.toNat_zero, eA, eB, f1, f2, hr', hr, d1, d2, d3, d4, g0, gz, hA, hB, hC, hD, w, w2, q1, q2, q3, eqP, allB, isSm, cond_true, cond_false, Bool.not_true, Bool.not_false, Bool.true_and, Bool.false_and, Bool.and_true, Bool.and_false, Bool.true_or, Bool.or_true, Bool.false_or, Bool.or_false, Bool.and_self, decide_true, Int.le_refl]
  have e0 : ((mkN (heads s 0) : Nat) : Int) = 0 := rfl
  refine e0 ▸ comes_all (fun i => (((i : Int), ((mkN (heads s i) : Nat) : Int), (), s.2.2.1, (s.2.2.1.length : Int)), s)) ?_ ?_ ?_
  · intro i hi hp h
    rw [rnd i hi hp, h]; rfl
  · intro i hi hp h
    rw [rnd i hi hp, h]; rfl
  · simp [Wh.impl_SolverOk_l0]

def tailA (s : tImplSolver.D) (k : Nat) : List Int := (eqA s k).1.drop 1
def maskP (s : tImplSolver.D) (k : Nat) : Bool := decide (mkN (tailA s k) &&& mkN (heads s s.2.2.1.length) = 0)

theorem impl_Solver_out (s : tImplSolver.D) (hs : SmSolver s) (ha : allN s.2.2.1.length (eqP s) = true) :
    Comes Wh.impl_SolverOk_l1 (((0 : Int), ((mkN (heads s s.2.2.1.length) : Nat) : Int), s.2.2.1, (s.2.2.1.length : Int)), ()) (if allN s.2.2.1.length (maskP s) = true then .inr ((), ()) else .inl (false, ())) := by
  have rnd : ∀ k, k < s.2.2.1.length → Wh.impl_SolverOk_l1 (((k : Int), ((mkN (heads s s.2.2.1.length) : Nat) : Int), s.2.2.1, (s.2.2.1.length : Int)), ()) = bif maskP s k then some (.inl ((((k + 1 : Nat) : Int), ((mkN (heads s s.2.2.1.length) : Nat) : Int), s.2.2.1, (s.2.2.1.length : Int)), ())) else some (.inr (.inl (false, ()))) := by
    intro k hk
    have hm := eqA_mem s k hk
    have hl := hs.2 _ hm
    have hq := allN_iff.1 ha k hk
    simp only [eqP, Bool.and_eq_true, decide_eq_true_eq] at hq
    have hne := hq.1.1.2
    have hmem : ∀ x ∈ tailA s k, 0 ≤ x ∧ x < 24 := fun x hx => rowOk_mem hq.1.1.1 x (List.mem_of_mem_drop hx)
    have hr := impl_mask_eq (tailA s k) (by rw [tailA, List.length_drop]; omega) hmem
    have hr' : Wh.impl_mask' (tailA s k) = (((mkN (tailA s k) : Nat) : Int), ()) := by simp only [Wh.impl_mask', hr]
    have eA : List.getD s.2.2.1 k ([], [], ()) = eqA s k := rfl
    have et : List.take (Int.toNat (((eqA s k).1.length : Int) - 1)) (List.drop (Int.toNat 1) (eqA s k).1) = tailA s k := by
      rw [tailA]
      exact List.take_of_length_le (by simp)
    have hk' : decide ((k : Int) < (s.2.2.1.length : Int)) = true := by simpa using hk
    have h0 : decide ((0 : Int) ≤ (k : Int)) = true := by simp
    have h1 : decide ((1 : Int) ≤ ((eqA s k).1.length : Int)) = true := by simp; omega
    have w := wrapN (i := k) (by have := hs.1; omega)
    have ea := and32 (mkN_lt _ fun x hx => (hmem x hx).2) (mkN_lt _ (heads_lt (allN_iff.1 ha)))
    have en : (((mkN (tailA s k) &&& mkN (heads s s.2.2.1.length) : Nat) : Int) != 0) = !maskP s k := by
      unfold maskP
      by_cases e : mkN (tailA s k) &&& mkN (heads s s.2.2.1.length) = 0
      · rw [e]; rfl
      · rw [decide_eq_false e, Bool.not_false, bne_iff_ne]; omega
    cases hc : maskP s k <;>
      simp only [Wh.impl_SolverOk_l1, hk', h0, h1, Int.toNat_natCast, eA, et, hr, hr', ea, en, hc, w, allB, isSm, cond_true, cond_false, Bool.not_true, Bool.not_false, Bool.and_self, decide_true, Int.le_refl]
  refine comes_all (fun k => (((k : Int), ((mkN (heads s s.2.2.1.length) : Nat) : Int), s.2.2.1, (s.2.2.1.length : Int)), ())) ?_ ?_ ?_
  · intro k hk _ h
    rw [rnd k hk, h]; rfl
  · intro k hk _ h
    rw [rnd k hk, h]; rfl
  · simp [Wh.impl_SolverOk_l1]

end Pl
open Go Go.Ab
namespace Pl

theorem asc {f : Nat → Int} {n : Nat} (h : ∀ i, 0 < i → i < n → f (i - 1) < f i) : ∀ j i, i < j → j < n → f i < f j := by
  intro j
  induction j with
  | zero => intro i hi; omega
  | succ j ih =>
    intro i hi hj
    have h1 : f j < f (j + 1) := h (j + 1) (by omega) hj
    by_cases e : i = j
    · subst e; exact h1
    · have := ih i (by omega) (by omega)
      omega

theorem row_asc {row : List Int} {count : Int} (h : rowOk row count = true) (m : Nat) (hm : 0 < m) (hl : m < row.length) : row.getD 0 0 < row.getD m 0 := by
  simp only [rowOk, Bool.and_eq_true] at h
  refine asc (f := fun i => row.getD i 0) (n := row.length) ?_ m 0 hm hl
  intro i h0 hi
  have := allN_iff.1 h.1 i hi
  simp only [rowP, Bool.and_eq_true, Bool.or_eq_true, decide_eq_true_eq] at this
  exact this.2.resolve_left (by omega)

theorem heads_asc {s : tImplSolver.D} (h : allN s.2.2.1.length (eqP s) = true) : ∀ j i, i < j → j < s.2.2.1.length → headA s i < headA s j := by
  refine asc ?_
  intro i h0 hi
  have := allN_iff.1 h i hi
  simp only [eqP, Bool.and_eq_true, Bool.or_eq_true, decide_eq_true_eq] at this
  exact this.2.resolve_left (by omega)

theorem rowOk_of {s : tImplSolver.D} (h : allN s.2.2.1.length (eqP s) = true) {k : Nat} (hk : k < s.2.2.1.length) : rowOk (eqA s k).1 s.1 = true := by
  have := allN_iff.1 h k hk
  simp only [eqP, Bool.and_eq_true] at this
  exact this.1.1.1

theorem mem_tail {s : tImplSolver.D} {k : Nat} {x : Int} : x ∈ tailA s k ↔ ∃ m, 0 < m ∧ m < (eqA s k).1.length ∧ (eqA s k).1.getD m 0 = x := by
  rw [tailA, List.mem_iff_getElem]
  constructor
  · rintro ⟨i, hi, e⟩
    rw [List.length_drop] at hi
    refine ⟨i + 1, by omega, by omega, ?_⟩
    rw [getD_eq _ _ _ (by omega : i + 1 < (eqA s k).1.length)]
    rw [List.getElem_drop] at e
    simpa [Nat.add_comm] using e
  · rintro ⟨m, h0, hm, e⟩
    refine ⟨m - 1, by rw [List.length_drop]; omega, ?_⟩
    rw [List.getElem_drop]
    rw [getD_eq _ _ _ hm] at e
    have : 1 + (m - 1) = m := by omega
    simp only [this]
    exact e

theorem mem_heads {s : tImplSolver.D} {n : Nat} {x : Int} : x ∈ heads s n ↔ ∃ i, i < n ∧ headA s i = x := by simp [heads]

theorem maskP_iff {s : tImplSolver.D} (ha : allN s.2.2.1.length (eqP s) = true) {k : Nat} (hk : k < s.2.2.1.length) :
    maskP s k = true ↔ ∀ i, i < s.2.2.1.length → headA s i ∉ tailA s k := by
  have hr := rowOk_of ha hk
  unfold maskP
  rw [decide_eq_true_eq]
  constructor
  · intro h i hi hm
    have h1 : (mkN (tailA s k)).testBit (headA s i).toNat = true := by
      rw [mkN_test, List.any_eq_true]; exact ⟨_, hm, by simp⟩
    have h2 : (mkN (heads s s.2.2.1.length)).testBit (headA s i).toNat = true := by
      rw [mkN_test, List.any_eq_true]; exact ⟨_, mem_heads.2 ⟨i, hi, rfl⟩, by simp⟩
    have : (mkN (tailA s k) &&& mkN (heads s s.2.2.1.length)).testBit (headA s i).toNat = true := by rw [Nat.testBit_and, h1, h2]; rfl
    rw [h, Nat.zero_testBit] at this; cases this
  · intro h
    apply Nat.eq_of_testBit_eq
    intro j
    rw [Nat.testBit_and, Nat.zero_testBit, mkN_test, mkN_test, Bool.and_eq_false_iff]
    cases h1 : (tailA s k).any fun x => decide (x.toNat = j) with
    | false => exact .inl rfl
    | true =>
      refine .inr ?_
      cases h2 : (heads s s.2.2.1.length).any fun x => decide (x.toNat = j) with
      | false => rfl
      | true =>
        exfalso
        obtain ⟨x, hx, ex⟩ := List.any_eq_true.1 h1
        obtain ⟨y, hy, ey⟩ := List.any_eq_true.1 h2
        simp only [decide_eq_true_eq] at ex ey
        obtain ⟨i, hi, rfl⟩ := mem_heads.1 hy
        have b1 := headA_ok (allN_iff.1 ha i hi)
        have b2 := rowOk_mem hr x (List.mem_of_mem_drop hx)
        have : x = headA s i := by omega
        subst this
        exact h i hi hx

theorem cross_eq {s : tImplSolver.D} (ha : allN s.2.2.1.length (eqP s) = true) : allN s.2.2.1.length (maskP s) = cross s := by
  have hne := eqP_ne ha
  have key : allN s.2.2.1.length (maskP s) = true ↔ cross s = true := by
    rw [allN_iff, cross, allN_iff]
    constructor
    · intro h i hi
      rw [allN_iff]
      intro k hk
      simp only [crossP, Bool.or_eq_true, decide_eq_true_eq]
      by_cases e : k = i
      · exact .inl e
      · refine .inr ?_
        cases hh : hasA (eqA s k).1 (headA s i) with
        | false => rfl
        | true =>
          exfalso
          obtain ⟨j, hj, ej⟩ := (hasA_iff _ _).1 hh
          rcases Nat.eq_zero_or_pos j with hz | hz
          · subst hz
            have e2 : headA s k = headA s i := ej
            rcases Nat.lt_or_gt_of_ne e with hlt | hlt
            · have := heads_asc ha i k hlt hi; omega
            · have := heads_asc ha k i hlt hk; omega
          · exact (maskP_iff ha hk).1 (h k hk) i hi (mem_tail.2 ⟨j, hz, hj, ej⟩)
    · intro h k hk
      rw [maskP_iff ha hk]
      intro i hi hm
      obtain ⟨m, h0, hml, e⟩ := mem_tail.1 hm
      have := allN_iff.1 (h i hi) k hk
      simp only [crossP, Bool.or_eq_true, decide_eq_true_eq] at this
      rcases this with hki | hn
      · subst hki
        have := row_asc (rowOk_of ha hk) m h0 hml
        rw [e] at this
        unfold headA at this
        omega
      · have : hasA (eqA s k).1 (headA s i) = true := (hasA_iff _ _).2 ⟨m, hml, e⟩
        rw [this] at hn; cases hn
  cases h1 : allN s.2.2.1.length (maskP s) <;> cases h2 : cross s
  · rfl
  · rw [key.2 h2] at h1; cases h1
  · rw [key.1 h1] at h2; cases h2
  · rfl

theorem impl_SolverOk_eq (s : tImplSolver.D) (hs : SmSolver s) : Wh.impl_SolverOk s = some (solverOk s, ()) := by
  by_cases a1 : 1 ≤ s.1 ∧ s.1 ≤ 24
  case neg => simp [Wh.impl_SolverOk, Wh.impl_within', within_eq, allB, isSm, a1, solverOk]
  by_cases a2 : 1 ≤ s.2.1 ∧ s.2.1 ≤ 16
  case neg => simp [Wh.impl_SolverOk, Wh.impl_within', within_eq, allB, isSm, a1, a2, solverOk]
  have hl := impl_Solver_loop s hs a1
  cases h1 : allN s.2.2.1.length (eqP s) with
  | false =>
    rw [h1, if_neg (by simp)] at hl
    simp [Wh.impl_SolverOk, Wh.impl_within', within_eq, allB, isSm, a1, a2, solverOk, cb hl, cv hl, h1]
  | true =>
    rw [h1, if_pos rfl] at hl
    have hl2 := impl_Solver_out s hs h1
    rw [cross_eq h1] at hl2
    cases h2 : cross s with
    | false =>
      rw [h2, if_neg (by simp)] at hl2
      simp [Wh.impl_SolverOk, Wh.impl_within', within_eq, allB, isSm, a1, a2, solverOk, cb hl, cv hl, h1, h2]
      dsimp only [sumC]
      simp only [cb hl2, cv hl2, cond_true]
    | true =>
      rw [h2, if_pos rfl] at hl2
      simp [Wh.impl_SolverOk, Wh.impl_within', within_eq, allB, isSm, a1, a2, solverOk, cb hl, cv hl, h1, h2]
      dsimp only [sumC]
      simp only [cb hl2, cv hl2, cond_true]

end Pl
open Go Go.Ab
namespace Pl

/-- the first place from k on where p fails, or the end -/
def scan (p : Nat → Bool) : Nat → Nat → Nat
  | 0, k => k
  | d + 1, k => if p k = true then scan p d (k + 1) else k

theorem scan_spec (p : Nat → Bool) : ∀ d k, k ≤ scan p d k ∧ scan p d k ≤ k + d ∧ (∀ j, k ≤ j → j < scan p d k → p j = true) ∧ (scan p d k < k + d → p (scan p d k) = false)
  | 0, k => ⟨Nat.le_refl _, Nat.le_refl _, fun j h1 h2 => by simp only [scan] at h2; omega, fun h => by simp only [scan] at h; omega⟩
  | d + 1, k => by
    unfold scan
    by_cases h : p k = true
    · rw [if_pos h]
      obtain ⟨a, b, c, e⟩ := scan_spec p d (k + 1)
      refine ⟨by omega, by omega, fun j h1 h2 => ?_, fun hh => e (by omega)⟩
      by_cases ej : j = k
      · subst ej; exact h
      · exact c j (by omega) h2
    · rw [if_neg h]
      refine ⟨Nat.le_refl _, by omega, fun j h1 h2 => by omega, fun _ => by simpa using h⟩

theorem comes_first {X Y : Type} {r : X → Option (X ⊕ Y)} (st : Nat → X) {n : Nat} (p : Nat → Bool) (yf : Nat → Y) (hs : ∀ i, i < n → p i = true → r (st i) = some (.inl (st (i + 1))))
    (hf : ∀ i, i < n → p i = false → r (st i) = some (.inr (yf i))) (he : r (st n) = some (.inr (yf n))) : Comes r (st 0) (yf (scan p n 0)) := by
  have main : ∀ d k, k + d = n → Comes r (st k) (yf (scan p d k)) := by
    intro d
    induction d with
    | zero => intro k hk; have : k = n := by omega
              subst this; exact .out he
    | succ d ih =>
      intro k hk
      unfold scan
      cases hp : p k with
      | true => rw [if_pos rfl]; exact .again (hs k (by omega) hp) (ih (k + 1) (by omega))
      | false => rw [if_neg (by simp)]; exact .out (hf k (by omega) hp)
  exact main n 0 (by omega)

/-! ### a solved block -/
def isAt (s : tImplSolver.D) (n : Int) (i : Nat) : Bool := decide ((eqA s i).1.length = 1) && decide (headA s i = n)
def getI (s : tImplSolver.D) (n : Int) : Nat := scan (fun i => !isAt s n i) s.2.2.1.length 0
def getV (s : tImplSolver.D) (n : Int) : List UInt8 × Bool := if getI s n < s.2.2.1.length then ((eqA s (getI s n)).2.1, true) else ([], false)

theorem getI_at {s : tImplSolver.D} {n : Int} (h : getI s n < s.2.2.1.length) : isAt s n (getI s n) = true := by
  have := (scan_spec (fun i => !isAt s n i) s.2.2.1.length 0).2.2.2 (by rw [Nat.zero_add]; exact h)
  simpa [getI] using this
theorem getI_le {s : tImplSolver.D} {n : Int} {i : Nat} (hi : i < s.2.2.1.length) (h : isAt s n i = true) : getI s n ≤ i := by
  rcases Nat.lt_or_ge i (getI s n) with hl | hl
  · have := (scan_spec (fun i => !isAt s n i) s.2.2.1.length 0).2.2.1 i (Nat.zero_le _) hl
    simp [h] at this
  · exact hl

theorem len1 (l : List Int) : ((l.length : Int) == 1) = decide (l.length = 1) := by
  by_cases e : l.length = 1
  · rw [e]; rfl
  · have : ¬ (l.length : Int) = 1 := by omega
    rw [decide_eq_false e]; simpa using this

theorem impl_get_eq (s : tImplSolver.D) (hs : SmSolver s) (n : Int) : Wh.impl_Solver_get (s, n) = some (getV s n, ()) := by
  have rnd : ∀ i, i < s.2.2.1.length → Wh.impl_Solver_get_l0 (((i : Int), n, s.2.2.1, (s.2.2.1.length : Int)), ()) = bif !isAt s n i then some (.inl ((((i + 1 : Nat) : Int), n, s.2.2.1, (s.2.2.1.length : Int)), ())) else some (.inr (.inl (((eqA s i).2.1, true), ()))) := by
    intro i hi
    have eA : List.getD s.2.2.1 i ([], [], ()) = eqA s i := rfl
    have f1 : List.getD (eqA s i).1 0 0 = headA s i := rfl
    have hi' : decide ((i : Int) < (s.2.2.1.length : Int)) = true := by simpa using hi
    have h0 : decide ((0 : Int) ≤ (i : Int)) = true := by simp
    have w := wrapN (i := i) (by have := hs.1; omega)
    have d1 := len1 (eqA s i).1
    have d2 : (headA s i == n) = decide (headA s i = n) := rfl
    have d3 : (!decide ((eqA s i).1.length = 1) || decide ((0 : Int) < ((eqA s i).1.length : Int))) = true := by
      by_cases e : (eqA s i).1.length = 1
      · simp [e]
      · simp [e]
    cases hA : decide ((eqA s i).1.length = 1) <;> cases hB : decide (headA s i = n) <;> simp only [hA, Bool.not_true, Bool.not_false, Bool.true_or, Bool.false_or] at d3 <;>
      simp only [Wh.impl_Solver_get_l0, hi', h0, Int.toNat_natCast, Int.toNat_zero, eA, f1, d1, d2, hA, hB, d3, w, isAt, allB, cond_true, cond_false, Bool.not_true, Bool.not_false, Bool.true_and, Bool.false_and, Bool.and_true, Bool.and_false, Bool.true_or, Bool.or_true, Bool.false_or, Bool.or_false, Bool.and_self, decide_true, Int.le_refl]
  have hl : Comes Wh.impl_Solver_get_l0 (((0 : Int), n, s.2.2.1, (s.2.2.1.length : Int)), ()) (if getI s n < s.2.2.1.length then .inl (((eqA s (getI s n)).2.1, true), ()) else .inr ((), ())) := by
    refine comes_first (fun i => (((i : Int), n, s.2.2.1, (s.2.2.1.length : Int)), ())) (fun i => !isAt s n i) (fun i => if i < s.2.2.1.length then (.inl (((eqA s i).2.1, true), ()) : ((List UInt8 × Bool) × Unit) ⊕ (Unit × Unit)) else .inr ((), ())) ?_ ?_ ?_
    · intro i hi h
      simp only [rnd i hi]; rw [h]; rfl
    · intro i hi h
      simp only [rnd i hi]; rw [h, if_pos hi]; rfl
    · simp [Wh.impl_Solver_get_l0]
  by_cases h : getI s n < s.2.2.1.length
  · rw [if_pos h] at hl
    simp only [Wh.impl_Solver_get, cb hl, cv hl, getV, if_pos h, cond_true]
  · rw [if_neg h] at hl
    simp only [Wh.impl_Solver_get, cb hl, cv hl, getV, if_neg h, cond_true]

theorem spec_get_eq (s : tImplSolver.D) (hs : SmSolver s) (n : Int) : Wh.spec_l3Get (s, n) = some (getV s n, ()) := by
  have rnd : ∀ i, i < s.2.2.1.length → Wh.spec_l3Get_l0 (((i : Int), (), n), s) = bif !isAt s n i then some (.inl ((((i + 1 : Nat) : Int), (), n), s)) else some (.inr (.inl (((eqA s i).2.1, true), ()))) := by
    intro i hi
    have eA : List.getD s.2.2.1 i ([], [], ()) = eqA s i := rfl
    have f1 : List.getD (eqA s i).1 0 0 = headA s i := rfl
    have hi' : decide ((i : Int) < (s.2.2.1.length : Int)) = true := by simpa using hi
    have h0 : decide ((0 : Int) ≤ (i : Int)) = true := by simp
    have w := wrapN (i := i) (by have := hs.1; omega)
    have d1 := len1 (eqA s i).1
    have d2 : (headA s i == n) = decide (headA s i = n) := rfl
    have d3 : (!decide ((eqA s i).1.length = 1) || decide ((0 : Int) < ((eqA s i).1.length : Int))) = true := by
      by_cases e : (eqA s i).1.length = 1
      · simp [e]
      · simp [e]
    cases hA : decide ((eqA s i).1.length = 1) <;> cases hB : decide (headA s i = n) <;> simp only [hA, Bool.not_true, Bool.not_false, Bool.true_or, Bool.false_or] at d3 <;>
      simp only [Wh.spec_l3Get_l0, hi', h0, Int.toNat_natCast, Int.toNat_zero, eA, f1, d1, d2, hA, hB, d3, w, isAt, allB, cond_true, cond_false, Bool.not_true, Bool.not_false, Bool.true_and, Bool.false_and, Bool.and_true, Bool.and_false, Bool.true_or, Bool.or_true, Bool.false_or, Bool.or_false, Bool.and_self, decide_true, Int.le_refl]
  have hl : Comes Wh.spec_l3Get_l0 (((0 : Int), (), n), s) (if getI s n < s.2.2.1.length then .inl (((eqA s (getI s n)).2.1, true), ()) else .inr ((), ())) := by
    refine comes_first (fun i => (((i : Int), (), n), s)) (fun i => !isAt s n i) (fun i => if i < s.2.2.1.length then (.inl (((eqA s i).2.1, true), ()) : ((List UInt8 × Bool) × Unit) ⊕ (Unit × Unit)) else .inr ((), ())) ?_ ?_ ?_
    · intro i hi h
      simp only [rnd i hi]; rw [h]; rfl
    · intro i hi h
      simp only [rnd i hi]; rw [h, if_pos hi]; rfl
    · simp [Wh.spec_l3Get_l0]
  by_cases h : getI s n < s.2.2.1.length
  · rw [if_pos h] at hl
    simp only [Wh.spec_l3Get, cb hl, cv hl, getV, if_pos h, cond_true]
  · rw [if_neg h] at hl
    simp only [Wh.spec_l3Get, cb hl, cv hl, getV, if_neg h, cond_true]

/-- how many blocks are solved from the first one on -/
def pre (s : tImplSolver.D) : Nat := scan (fun n => (getV s n).2) s.1.toNat 0

theorem impl_prefix_eq (s : tImplSolver.D) (hs : SmSolver s) (h1 : 1 ≤ s.1 ∧ s.1 ≤ 24) : Wh.impl_Solver_prefix s = some ((pre s : Int), ()) := by
  have hl : Comes Wh.impl_Solver_prefix_l0 (((0 : Int), ()), s) ((pre s : Int), ()) := by
    refine comes_first (fun n => (((n : Int), ()), s)) (n := s.1.toNat) (fun n => (getV s n).2) (fun n => ((n : Int), ())) ?_ ?_ ?_
    · intro i hi h
      have hi' : decide ((i : Int) < s.1) = true := by simp; omega
      have w := wrapN (i := i) (by omega)
      simp only [Wh.impl_Solver_prefix_l0, hi', Wh.impl_Solver_get', impl_get_eq s hs, h, w, allB, isSm, cond_true, cond_false, Bool.not_true]
    · intro i hi h
      have hi' : decide ((i : Int) < s.1) = true := by simp; omega
      simp only [Wh.impl_Solver_prefix_l0, hi', Wh.impl_Solver_get', impl_get_eq s hs, h, allB, isSm, cond_true, cond_false, Bool.not_false]
    · have hi' : decide (((s.1.toNat : Nat) : Int) < s.1) = false := by simp; omega
      simp only [Wh.impl_Solver_prefix_l0, hi', cond_false]
  simp only [Wh.impl_Solver_prefix, cb hl, cv hl, cond_true]

theorem getV_end {s : tImplSolver.D} (h : solverOk s = true) : (getV s s.1).2 = false := by
  simp only [solverOk, Bool.and_eq_true] at h
  have ha := h.1.2
  unfold getV
  by_cases hi : getI s s.1 < s.2.2.1.length
  · exfalso
    have hat := getI_at hi
    simp only [isAt, Bool.and_eq_true, decide_eq_true_eq] at hat
    have hro := rowOk_of ha hi
    simp only [rowOk, Bool.and_eq_true] at hro
    have hp : 0 < (eqA s (getI s s.1)).1.length := by omega
    have := allN_iff.1 hro.1 0 hp
    simp only [rowP, Bool.and_eq_true, decide_eq_true_eq] at this
    have e := hat.2
    unfold headA at e
    omega
  · rw [if_neg hi]

theorem spec_prefix_eq (s : tImplSolver.D) (hs : SmSolver s) (h : solverOk s = true) : Wh.spec_l3Prefix s = some ((pre s : Int), ()) := by
  have h1 : 1 ≤ s.1 ∧ s.1 ≤ 24 := by
    simp only [solverOk, Bool.and_eq_true, decide_eq_true_eq] at h; exact h.1.1.1
  have hl : Comes Wh.spec_l3Prefix_l0 (((0 : Int), ()), s) ((pre s : Int), ()) := by
    refine comes_first (fun n => (((n : Int), ()), s)) (n := s.1.toNat) (fun n => (getV s n).2) (fun n => ((n : Int), ())) ?_ ?_ ?_
    · intro i hi h
      have w := wrapN (i := i) (by omega)
      simp only [Wh.spec_l3Prefix_l0, Wh.spec_l3Get', spec_get_eq s hs, h, w, allB, isSm, cond_true, cond_false, Bool.not_true]
    · intro i hi h
      simp only [Wh.spec_l3Prefix_l0, Wh.spec_l3Get', spec_get_eq s hs, h, allB, isSm, cond_true, cond_false, Bool.not_false]
    · have e : ((s.1.toNat : Nat) : Int) = s.1 := by omega
      simp only [Wh.spec_l3Prefix_l0, Wh.spec_l3Get', spec_get_eq s hs, e, getV_end h, allB, isSm, cond_true, Bool.not_false]
  simp only [Wh.spec_l3Prefix, cb hl, cv hl, cond_true]

end Pl
open Go Go.Ab
namespace Pl

theorem asc_gap {f : Nat → Int} {n : Nat} (h : ∀ i, 0 < i → i < n → f (i - 1) < f i) : ∀ j, j < n → ∀ i, i ≤ j → f i + ((j : Int) - i) ≤ f j := by
  intro j
  induction j with
  | zero => intro _ i hi; have : i = 0 := by omega
            subst this; omega
  | succ j ih =>
    intro hj i hi
    by_cases e : i = j + 1
    · subst e; omega
    · have h1 : f j < f (j + 1) := h (j + 1) (by omega) hj
      have := ih (by omega) i (by omega)
      omega

theorem solverOk_parts {s : tImplSolver.D} (h : solverOk s = true) : (1 ≤ s.1 ∧ s.1 ≤ 24) ∧ (1 ≤ s.2.1 ∧ s.2.1 ≤ 16) ∧ allN s.2.2.1.length (eqP s) = true ∧ cross s = true := by
  simp only [solverOk, Bool.and_eq_true, decide_eq_true_eq] at h
  exact ⟨h.1.1.1, h.1.1.2, h.1.2, h.2⟩

theorem head_row {s : tImplSolver.D} (ha : allN s.2.2.1.length (eqP s) = true) {k m : Nat} (hk : k < s.2.2.1.length) (hm : m < (eqA s k).1.length) : 0 ≤ (eqA s k).1.getD m 0 ∧ (eqA s k).1.getD m 0 ≤ s.1 - 1 := by
  have := rowOk_of ha hk
  simp only [rowOk, Bool.and_eq_true] at this
  have := allN_iff.1 this.1 m hm
  simp only [rowP, Bool.and_eq_true, decide_eq_true_eq] at this
  exact this.1

theorem heads_asc1 {s : tImplSolver.D} (h : allN s.2.2.1.length (eqP s) = true) : ∀ i, 0 < i → i < s.2.2.1.length → headA s (i - 1) < headA s i :=
  fun i h0 hi => heads_asc h i (i - 1) (by omega) hi

theorem done_iff {s : tImplSolver.D} (h : solverOk s = true) : ((pre s : Nat) : Int) = s.1 ↔ (s.2.2.1.length : Int) = s.1 := by
  obtain ⟨h1, _, ha, hx⟩ := solverOk_parts h
  have hne := eqP_ne ha
  have hb : ∀ i, i < s.2.2.1.length → 0 ≤ headA s i ∧ headA s i ≤ s.1 - 1 := fun i hi => head_row ha hi (by have := hne i hi; omega)
  have sp := scan_spec (fun n => (getV s n).2) s.1.toNat 0
  have sp' : pre s ≤ s.1.toNat ∧ (∀ j, j < pre s → (getV s j).2 = true) ∧ (pre s < s.1.toNat → (getV s (pre s)).2 = false) :=
    ⟨by have := sp.2.1; unfold pre; omega, fun j hj => sp.2.2.1 j (Nat.zero_le _) hj, fun hh => sp.2.2.2 (by unfold pre at hh; omega)⟩
  have gap := asc_gap (heads_asc1 ha)
  have hle : (s.2.2.1.length : Int) ≤ s.1 := by
    rcases Nat.eq_zero_or_pos s.2.2.1.length with hz | hz
    · omega
    · have a := gap (s.2.2.1.length - 1) (by omega) 0 (Nat.zero_le _)
      have b := hb (s.2.2.1.length - 1) (by omega)
      have c := hb 0 (by omega)
      omega
  constructor
  · intro hp
    have hin : ∀ n : Nat, n < s.1.toNat → getI s n < s.2.2.1.length ∧ headA s (getI s n) = n := by
      intro n hn
      have := sp'.2.1 n (by omega)
      unfold getV at this
      by_cases hi : getI s n < s.2.2.1.length
      · have hat := getI_at hi
        simp only [isAt, Bool.and_eq_true, decide_eq_true_eq] at hat
        exact ⟨hi, hat.2⟩
      · rw [if_neg hi] at this; cases this
    have g2 := asc_gap (f := fun n => (getI s n : Int)) (n := s.1.toNat) (by
      intro i h0 hi
      have a := hin i hi
      have b := hin (i - 1) (by omega)
      show ((getI s ((i - 1 : Nat) : Int) : Nat) : Int) < ((getI s (i : Int) : Nat) : Int)
      rcases Nat.lt_trichotomy (getI s ((i - 1 : Nat) : Int)) (getI s (i : Int)) with hlt | heq | hgt
      · omega
      · rw [heq] at b; omega
      · have := heads_asc ha _ _ hgt b.1; omega)
    have c := g2 (s.1.toNat - 1) (by omega) 0 (Nat.zero_le _)
    have d := (hin (s.1.toNat - 1) (by omega)).1
    omega
  · intro hl
    have hd : ∀ i, i < s.2.2.1.length → headA s i = i := by
      intro i hi
      have a := gap i hi 0 (Nat.zero_le _)
      have b := gap (s.2.2.1.length - 1) (by omega) i (by omega)
      have c := hb 0 (by omega)
      have d := hb (s.2.2.1.length - 1) (by omega)
      omega
    have hm : allN s.2.2.1.length (maskP s) = true := by rw [cross_eq ha]; exact hx
    have hone : ∀ i, i < s.2.2.1.length → (eqA s i).1.length = 1 := by
      intro i hi
      by_cases e : (eqA s i).1.length = 1
      · exact e
      · exfalso
        have h2 : 1 < (eqA s i).1.length := by have := hne i hi; omega
        have hr := head_row ha hi h2
        have ht : (eqA s i).1.getD 1 0 ∈ tailA s i := mem_tail.2 ⟨1, by omega, h2, rfl⟩
        have hlt : ((eqA s i).1.getD 1 0).toNat < s.2.2.1.length := by omega
        have := (maskP_iff ha hi).1 (allN_iff.1 hm i hi) _ hlt
        rw [hd _ hlt] at this
        have e2 : ((((eqA s i).1.getD 1 0).toNat : Nat) : Int) = (eqA s i).1.getD 1 0 := by omega
        rw [e2] at this
        exact this ht
    have hget : ∀ n : Nat, n < s.2.2.1.length → (getV s n).2 = true := by
      intro n hn
      have : getI s n ≤ n := getI_le hn (by simp only [isAt, hone n hn, hd n hn, decide_true, Bool.and_self])
      unfold getV
      rw [if_pos (by omega)]
    by_cases hlt : pre s < s.1.toNat
    · have a := sp'.2.2 hlt
      rw [hget (pre s) (by omega)] at a
      cases a
    · have := sp'.1
      omega

theorem beqI (a b : Int) : (a == b) = decide (a = b) := rfl

/-! ### gettings -/
def getOk (g : tImplGetting.D) : Bool := planOk g.1 && solverOk g.2.1 && decide (g.2.1.1 = cnt g.1) && decide (g.2.1.2.1 = g.1.2.1)

theorem planOk_parts {p : tImplPlan.D} (h : planOk p = true) : (1 ≤ p.1 ∧ p.1 ≤ 300) ∧ (1 ≤ p.2.1 ∧ p.2.1 ≤ 16) := by
  simp only [planOk, planA, Bool.and_eq_true, decide_eq_true_eq] at h
  exact ⟨h.1.1.1.1.1.1, h.1.1.1.1.1.2⟩

theorem spec_GetOk_eq (g : tImplGetting.D) (hg : SmGetting g) : Wh.spec_GetOk g = some (getOk g, ()) := by
  have hP := spec_PlanOk_eq g.1
  have hS := spec_SolverOk_eq g.2.1 hg.2
  cases h1 : planOk g.1 with
  | false => simp only [Wh.spec_GetOk, Wh.spec_PlanOk', Wh.spec_SolverOk', hP, hS, h1, getOk, allB, isSm, cond_true, cond_false, Bool.not_true, Bool.not_false, Bool.true_and, Bool.false_and, Bool.true_or, Bool.and_self]
  | true =>
    obtain ⟨a1, a2⟩ := planOk_parts h1
    have hc := spec_count_eq g.1 a1 a2
    have d1 : (g.2.1.1 == cnt g.1) = decide (g.2.1.1 = cnt g.1) := beqI _ _
    have d2 : (g.2.1.2.1 == g.1.2.1) = decide (g.2.1.2.1 = g.1.2.1) := beqI _ _
    cases h2 : solverOk g.2.1 <;> cases h3 : decide (g.2.1.1 = cnt g.1) <;>
      simp only [Wh.spec_GetOk, Wh.spec_PlanOk', Wh.spec_SolverOk', Wh.spec_l5Count', hP, hS, hc, d1, d2, h1, h2, h3, getOk, allB, isSm, cond_true, cond_false, Bool.not_true, Bool.not_false, Bool.true_and, Bool.false_and, Bool.and_true, Bool.and_false, Bool.true_or, Bool.or_true, Bool.false_or, Bool.and_self]

theorem impl_GetOk_eq (g : tImplGetting.D) (hg : SmGetting g) : Wh.impl_GetOk g = some (getOk g, ()) := by
  have hP := impl_PlanOk_eq g.1
  have hS := impl_SolverOk_eq g.2.1 hg.2
  cases h1 : planOk g.1 with
  | false => simp only [Wh.impl_GetOk, Wh.impl_PlanOk', Wh.impl_SolverOk', hP, hS, h1, getOk, allB, isSm, cond_true, cond_false, Bool.not_true, Bool.not_false, Bool.true_and, Bool.false_and, Bool.true_or, Bool.and_self]
  | true =>
    obtain ⟨a1, a2⟩ := planOk_parts h1
    have hc := impl_count_eq g.1 a1 a2
    have d1 : (g.2.1.1 == cnt g.1) = decide (g.2.1.1 = cnt g.1) := beqI _ _
    have d2 : (g.2.1.2.1 == g.1.2.1) = decide (g.2.1.2.1 = g.1.2.1) := beqI _ _
    cases h2 : solverOk g.2.1 <;> cases h3 : decide (g.2.1.1 = cnt g.1) <;>
      simp only [Wh.impl_GetOk, Wh.impl_PlanOk', Wh.impl_SolverOk', Wh.impl_Plan_count', hP, hS, hc, d1, d2, h1, h2, h3, getOk, allB, isSm, cond_true, cond_false, Bool.not_true, Bool.not_false, Bool.true_and, Bool.false_and, Bool.and_true, Bool.and_false, Bool.true_or, Bool.or_true, Bool.false_or, Bool.and_self]

theorem getOk_parts {g : tImplGetting.D} (h : getOk g = true) : planOk g.1 = true ∧ solverOk g.2.1 = true ∧ g.2.1.1 = cnt g.1 ∧ g.2.1.2.1 = g.1.2.1 := by
  simp only [getOk, Bool.and_eq_true, decide_eq_true_eq] at h
  exact ⟨h.1.1.1, h.1.1.2, h.1.2, h.2⟩

def getDone (g : tImplGetting.D) : Bool := getOk g && decide ((g.2.1.2.2.1.length : Int) = cnt g.1)

theorem spec_GetDone_eq (g : tImplGetting.D) (hg : SmGetting g) : Wh.spec_GetDone g = some (getDone g, ()) := by
  have hO := spec_GetOk_eq g hg
  have hO' := Wh.spec_GetOk_v _ _ hO
  rcases Bool.eq_false_or_eq_true (getOk g) with h1 | h1
  case inr => simp only [Wh.spec_GetDone, hO', hO, h1, getDone, allB, isSm, cond_true, cond_false, Bool.not_false, Bool.false_and, Bool.true_or, Bool.and_self]
  case inl =>
    obtain ⟨a1, a2⟩ := planOk_parts (getOk_parts h1).1
    have hc := spec_count_eq g.1 a1 a2
    have hc' := Wh.spec_l5Count_v _ _ hc
    have d1 : ((g.2.1.2.2.1.length : Int) == cnt g.1) = decide ((g.2.1.2.2.1.length : Int) = cnt g.1) := beqI _ _
    simp only [Wh.spec_GetDone, hO', hc', hO, hc, h1, d1, getDone, allB, isSm, cond_true, Bool.not_true, Bool.true_and, Bool.false_or, Bool.and_self]

theorem impl_done_eq (g : tImplGetting.D) (hg : SmGetting g) (h : getOk g = true) : Wh.impl_Getting_done g = some (getDone g, ()) := by
  obtain ⟨_, hs, e1, e2⟩ := getOk_parts h
  have hp := impl_prefix_eq g.2.1 hg.2 (solverOk_parts hs).1
  have hp' := Wh.impl_Solver_prefix_v _ _ hp
  have hd := done_iff hs
  have : (((pre g.2.1 : Nat) : Int) == g.2.1.1) = getDone g := by
    unfold getDone
    rw [h, Bool.true_and, ← e1]
    rw [beqI]
    by_cases e : ((pre g.2.1 : Nat) : Int) = g.2.1.1
    · rw [decide_eq_true e, decide_eq_true (hd.1 e)]
    · rw [decide_eq_false e, decide_eq_false (fun hh => e (hd.2 hh))]
  simp only [Wh.impl_Getting_done, hp', hp, this, allB, isSm, cond_true]

end Pl
open Go Go.Ab
namespace Pl

def noGet (g : tImplGetting.D) : Bool :=
  (g.1.1 == 0) && (g.1.2.1 == 0) && ((g.1.2.2.1.length : Int) == 0) && ((g.1.2.2.2.1.length : Int) == 0) && (g.2.1.1 == 0) && (g.2.1.2.1 == 0) && ((g.2.1.2.2.1.length : Int) == 0)

theorem impl_noGet_eq (g : tImplGetting.D) : Wh.impl_noGet g = some (noGet g, ()) := by
  simp only [Wh.impl_noGet, noGet, Bool.cond_false_right]

theorem spec_None_eq (c : tImplClient.D) : Wh.spec_l13None c = some (noGet c.2.2.2.2.2.1, ()) := by
  simp only [Wh.spec_l13None, noGet, Bool.cond_false_right]
  congr 2
  generalize ((c.2.2.2.2.2.1.1.2.2.1.length : Int) == 0) = a1
  generalize ((c.2.2.2.2.2.1.1.2.2.2.1.length : Int) == 0) = a2
  generalize (c.2.2.2.2.2.1.1.1 == 0) = a3
  generalize (c.2.2.2.2.2.1.1.2.1 == 0) = a4
  generalize (c.2.2.2.2.2.1.2.1.1 == 0) = a5
  generalize (c.2.2.2.2.2.1.2.1.2.1 == 0) = a6
  generalize ((c.2.2.2.2.2.1.2.1.2.2.1.length : Int) == 0) = a7
  cases a1 <;> cases a2 <;> cases a3 <;> cases a4 <;> simp

def clientOk (c : tImplClient.D) : Bool :=
  decide (0 ≤ c.1 ∧ c.1 ≤ 3) && decide (0 ≤ c.2.1 ∧ c.2.1 ≤ 99999) && decide (0 ≤ c.2.2.1 ∧ c.2.2.1 ≤ 4) && decide (0 ≤ c.2.2.2.2.1 ∧ c.2.2.2.2.1 ≤ 99999) &&
  (bif c.2.2.2.2.1 == 0 then noGet c.2.2.2.2.2.1 else getOk c.2.2.2.2.2.1) &&
  (bif c.2.2.1 == 0 then c.2.2.2.1 == [] && c.2.2.2.2.1 == 0 else
    !(c.2.1 == 0) && nameOk c.2.2.2.1 &&
    (bif c.2.2.1 == 2 then !(c.2.2.2.2.1 == 0) && !getDone c.2.2.2.2.2.1 else bif c.2.2.1 == 3 then !(c.2.2.2.2.1 == 0) && getDone c.2.2.2.2.2.1 else c.2.2.2.2.1 == 0 || !getDone c.2.2.2.2.2.1))

theorem spec_ClientOk_eq (c : tImplClient.D) (hg : SmGetting c.2.2.2.2.2.1) (hn : c.2.2.2.1.length ≤ 4611686018427387904) : Wh.spec_ClientOk c = some (clientOk c, ()) := by
  have hL : ∀ x lo hi, Wh.spec_l1In' (x, lo, hi) = (decide (lo ≤ x ∧ x ≤ hi), ()) := fun x lo hi => Wh.spec_l1In_v _ _ (l1In_eq x lo hi)
  have hN := spec_None_eq c
  have hN' := Wh.spec_l13None_v _ _ hN
  have hO := spec_GetOk_eq _ hg
  have hO' := Wh.spec_GetOk_v _ _ hO
  have hD := spec_GetDone_eq _ hg
  have hD' := Wh.spec_GetDone_v _ _ hD
  have hM := spec_NameOk_eq _ hn
  have hM' := Wh.spec_NameOk_v _ _ hM
  obtain ⟨id, a, st, name, n, g, u⟩ := c
  dsimp only at hN hN' hO hO' hD hD' hM hM' ⊢
  simp only [Wh.spec_ClientOk, clientOk, hL, l1In_eq, hN, hN', hO, hO', hD, hD', hM, hM', isSm, Bool.or_true, allB, Bool.and_self, cond_true]
  have e4 : (n > 0) = (0 < n) := rfl
  simp only [e4]
  generalize hb : getDone g = b
  generalize hc : getOk g = gc
  generalize hd : noGet g = gd
  generalize he : nameOk name = ge
  cases h1 : decide (0 ≤ id ∧ id ≤ 3)
  case false => simp only [Bool.not_false, cond_true, Bool.false_and]
  cases h2 : decide (0 ≤ a ∧ a ≤ 99999)
  case false => simp only [Bool.not_false, Bool.not_true, cond_true, cond_false, Bool.false_and, Bool.and_false]
  cases h3 : decide (0 ≤ st ∧ st ≤ 4)
  case false => simp only [Bool.not_false, Bool.not_true, cond_true, cond_false, Bool.false_and, Bool.and_false]
  cases h4 : decide (0 ≤ n ∧ n ≤ 99999)
  case false => simp only [Bool.not_false, Bool.not_true, cond_true, cond_false, Bool.false_and, Bool.and_false]
  have hn0 : decide (0 < n) = !(n == 0) := by
    have := of_decide_eq_true h4
    rw [beqI]
    by_cases e : n = 0
    · subst e; rfl
    · have : 0 < n := by omega
      simp [e, this]
  rw [hn0]
  generalize (n == 0) = n0
  generalize (a == 0) = a0
  generalize (st == 0) = s0
  generalize (st == 2) = s2
  generalize (st == 3) = s3
  generalize (name == []) = m0
  cases n0 <;> cases gd <;> cases gc <;> cases s0 <;> simp <;> cases a0 <;> simp <;> cases ge <;> simp <;> cases s2 <;> simp <;> cases s3 <;> simp

theorem impl_ClientOk_eq (c : tImplClient.D) (hg : SmGetting c.2.2.2.2.2.1) (hn : c.2.2.2.1.length ≤ 4611686018427387904) : Wh.impl_ClientOk c = some (clientOk c, ()) := by
  have hL : ∀ x lo hi, Wh.impl_within' (x, lo, hi) = (decide (lo ≤ x ∧ x ≤ hi), ()) := fun x lo hi => Wh.impl_within_v _ _ (within_eq x lo hi)
  have hK : ∀ x, Wh.impl_clientOf' x = (decide (0 ≤ x ∧ x ≤ 3), ()) := fun x => Wh.impl_clientOf_v _ _ (clientOf_eq x)
  have hN := impl_noGet_eq c.2.2.2.2.2.1
  have hN' := Wh.impl_noGet_v _ _ hN
  have hO := impl_GetOk_eq _ hg
  have hO' := Wh.impl_GetOk_v _ _ hO
  have hM := impl_NameOk_eq _ hn
  have hM' := Wh.impl_NameOk_v _ _ hM
  have hD := impl_done_eq _ hg
  obtain ⟨id, a, st, name, n, g, u⟩ := c
  dsimp only at hN hN' hO hO' hD hM hM' ⊢
  simp only [Wh.impl_ClientOk, clientOk, hL, hK, within_eq, clientOf_eq, hN, hN', hO, hO', hM, hM', isSm, Bool.or_true, allB, Bool.and_self, cond_true]
  have e4 : (n > 0) = (0 < n) := rfl
  simp only [e4]
  generalize hd : noGet g = gd
  generalize he : nameOk name = ge
  cases h1 : decide (0 ≤ id ∧ id ≤ 3)
  case false => simp only [Bool.not_false, cond_true, Bool.false_and]
  cases h2 : decide (0 ≤ a ∧ a ≤ 99999)
  case false => simp only [Bool.not_false, Bool.not_true, cond_true, cond_false, Bool.false_and, Bool.and_false]
  cases h4 : decide (0 ≤ n ∧ n ≤ 99999)
  case false => simp only [Bool.not_false, Bool.not_true, cond_true, cond_false, Bool.false_and, Bool.and_false]
  have hn0 : decide (0 < n) = !(n == 0) := by
    have := of_decide_eq_true h4
    rw [beqI]
    by_cases e : n = 0
    · subst e; rfl
    · have : 0 < n := by omega
      simp [e, this]
  rw [hn0]
  have hst : decide (0 ≤ st ∧ st ≤ 4) = (st == 0 || (st == 1 || (st == 2 || (st == 3 || st == 4)))) := by
    simp only [beqI, ← Bool.decide_or]
    exact decide_eq_decide.2 ⟨fun h => by omega, fun h => by omega⟩
  rw [hst]
  have x12 : (st == 1) = true → (st == 2) = false ∧ (st == 3) = false := by simp; intro e; subst e; decide
  have x42 : (st == 4) = true → (st == 2) = false ∧ (st == 3) = false := by simp; intro e; subst e; decide
  generalize (n == 0) = n0
  generalize (a == 0) = a0
  generalize (st == 0) = s0
  generalize (st == 1) = s1 at *
  generalize (st == 2) = s2 at *
  generalize (st == 3) = s3 at *
  generalize (st == 4) = s4 at *
  generalize (name == []) = m0
  rcases Bool.eq_false_or_eq_true (getOk g) with hc | hc
  · have hD1 := hD hc
    have hD2 := Wh.impl_Getting_done_v _ _ hD1
    simp only [hD1, hD2, isSm, hc, Bool.or_true, cond_true]
    generalize getDone g = b
    cases n0 <;> cases gd <;> cases s0 <;> simp <;> cases a0 <;> simp <;> cases ge <;> simp <;> cases s1 <;> simp at x12 ⊢ <;> cases s4 <;> simp at x42 ⊢ <;> cases s2 <;> simp at x12 x42 ⊢ <;> cases s3 <;> simp at x12 x42 ⊢
  · simp only [hc]
    generalize getDone g = b
    cases n0 <;> simp <;> cases gd <;> simp <;> cases s0 <;> simp <;> cases a0 <;> simp <;> cases ge <;> simp <;> cases s1 <;> simp at x12 ⊢ <;> cases s4 <;> simp at x42 ⊢ <;> cases s2 <;> simp at x12 x42 ⊢ <;> cases s3 <;> simp at x12 x42 ⊢

end Pl
open Go Go.Ab
namespace Pl

/-! ### bulk bounds every list -/
theorem sum_mem {α : Type} (f : α → Nat) : ∀ (l : List α) (x : α), x ∈ l → f x ≤ (l.map f).sum
  | a :: l, x, h => by
    rw [List.map_cons, List.sum_cons]
    rcases List.mem_cons.1 h with rfl | h
    · omega
    · have := sum_mem f l x h; omega
theorem len_sum {α : Type} (f : α → Nat) (h : ∀ x, 1 ≤ f x) : ∀ l : List α, l.length ≤ (l.map f).sum
  | [] => by simp
  | a :: l => by
    rw [List.map_cons, List.sum_cons, List.length_cons]
    have := len_sum f h l; have := h a; omega

/-- no list and no text in it is longer than the bound of the statement -/
structure Sml (c : tImplClient.D) : Prop where
  name : c.2.2.2.1.length ≤ 1048576
  p3 : c.2.2.2.2.2.1.1.2.2.1.length ≤ 1048576
  p4 : c.2.2.2.2.2.1.1.2.2.2.1.length ≤ 1048576
  s3 : c.2.2.2.2.2.1.2.1.2.2.1.length ≤ 1048576
  row : ∀ x ∈ c.2.2.2.2.2.1.2.1.2.2.1, x.1.length ≤ 1048576 ∧ x.2.1.length ≤ 1048576

theorem lenI (l : List Int) (n : Nat) (h : (l.map (bulk (.int .i64))).sum + 1 ≤ n) : l.length ≤ n := by
  have := len_sum (bulk (.int .i64)) (fun _ => Nat.le_refl 1) l
  omega

theorem eq_bulk (x : tImplEq.D) : bulk tImplEq x = ((x.1.map (bulk (.int .i64))).sum + 1) + (x.2.1.length + 1 + 0) := rfl

theorem sml_of (c : tImplClient.D) (h : bulk tImplClient c ≤ 1048576) : Sml c := by
  have e : bulk tImplClient c = 1 + (1 + (1 + ((c.2.2.2.1.length + 1) + (1 + (((1 + (1 + (((c.2.2.2.2.2.1.1.2.2.1.map (bulk (.int .i64))).sum + 1) + (((c.2.2.2.2.2.1.1.2.2.2.1.map (bulk (.int .i64))).sum + 1) + 0)))) + ((1 + (1 + (((c.2.2.2.2.2.1.2.1.2.2.1.map (bulk tImplEq)).sum + 1) + 0))) + 0)) + 0))))) := rfl
  rw [e] at h
  refine ⟨by omega, lenI _ _ (by omega), lenI _ _ (by omega), ?_, ?_⟩
  · have := len_sum (bulk tImplEq) (fun x => by rw [eq_bulk]; omega) c.2.2.2.2.2.1.2.1.2.2.1
    omega
  · intro x hx
    have := sum_mem (bulk tImplEq) _ x hx
    rw [eq_bulk] at this
    exact ⟨lenI _ _ (by omega), by omega⟩

theorem Sml.sm {c : tImplClient.D} (h : Sml c) : SmGetting c.2.2.2.2.2.1 :=
  ⟨⟨by have := h.p3; omega, by have := h.p4; omega⟩, by have := h.s3; omega, fun x hx => by have := (h.row x hx).1; omega⟩

/-! ### sizes answer -/
theorem szIntS_ok (a : List Int) (n : Int) : ∃ v, Wh.laws_szIntS (a, n) = some (v, ()) := by
  simp only [Wh.laws_szIntS]
  cases decide (IntKind.wrap .i64 (n - (a.length : Int)) < 0) <;> exact ⟨_, rfl⟩
theorem szPlan_ok (a : tImplPlan.D) (n : Int) : ∃ v, Wh.laws_szPlan (a, n) = some (v, ()) := by
  obtain ⟨v, hv⟩ := szIntS_ok a.2.2.1 n
  obtain ⟨w, hw⟩ := szIntS_ok a.2.2.2.1 v
  simp only [Wh.laws_szPlan, hv, Wh.laws_szIntS_v _ _ hv, hw, Wh.laws_szIntS_v _ _ hw, allB, isSm, cond_true]
  cases decide (v < 0) <;> cases decide (w < 0) <;> exact ⟨_, rfl⟩
theorem szEq_ok (a : tImplEq.D) (n : Int) : ∃ v, Wh.laws_szEq (a, n) = some (v, ()) := by
  obtain ⟨v, hv⟩ := szIntS_ok a.1 n
  simp only [Wh.laws_szEq, hv, Wh.laws_szIntS_v _ _ hv, allB, isSm, cond_true]
  cases decide (v < 0) <;> cases decide (IntKind.wrap .i64 (v - (a.2.1.length : Int)) < 0) <;> exact ⟨_, rfl⟩
theorem szEqS_ok (a : List tImplEq.D) (n : Int) (h : a.length ≤ 1048576) : ∃ v, Wh.laws_szEqS (a, n) = some (v, ()) := by
  have hl : ∀ d k : Nat, k + d = a.length → ∀ m : Int, ∃ y, Comes Wh.laws_szEqS_l0 (((k : Int), m, a), ()) y := by
    intro d
    induction d with
    | zero =>
      intro k hk m
      have hk' : decide ((k : Int) < (a.length : Int)) = false := by simp; omega
      exact ⟨_, .out (by simp only [Wh.laws_szEqS_l0, hk', cond_false]; rfl)⟩
    | succ d ih =>
      intro k hk m
      have hk' : decide ((k : Int) < (a.length : Int)) = true := by simp; omega
      have h0 : decide ((0 : Int) ≤ (k : Int)) = true := by simp
      have w := wrapN (i := k) (by omega)
      obtain ⟨v, hv⟩ := szEq_ok (List.getD a k ([], [], ())) m
      cases hd : decide (v < 0) with
      | true => exact ⟨_, .out (by simp only [Wh.laws_szEqS_l0, hk', h0, Int.toNat_natCast, hv, Wh.laws_szEq_v _ _ hv, hd, allB, isSm, cond_true, Bool.and_self]; rfl)⟩
      | false =>
        obtain ⟨y, hy⟩ := ih (k + 1) (by omega) v
        exact ⟨y, .again (by simp only [Wh.laws_szEqS_l0, hk', h0, w, Int.toNat_natCast, hv, Wh.laws_szEq_v _ _ hv, hd, allB, isSm, cond_true, cond_false, Bool.and_self]) hy⟩
  simp only [Wh.laws_szEqS]
  cases decide (IntKind.wrap .i64 (n - (a.length : Int)) < 0) with
  | true => exact ⟨_, rfl⟩
  | false =>
    obtain ⟨y, hy⟩ := hl a.length 0 (by omega) (IntKind.wrap .i64 (n - (a.length : Int)))
    have e1 := cb hy
    have e2 := cv hy Wh.laws_szEqS_l0_y
    rw [show (((0 : Nat) : Int)) = 0 from rfl] at e1 e2
    simp only [e1, e2, cond_true, cond_false]
    cases y with
    | inl y => exact ⟨_, rfl⟩
    | inr y => exact ⟨_, rfl⟩
theorem szSolver_ok (a : tImplSolver.D) (n : Int) (h : a.2.2.1.length ≤ 1048576) : ∃ v, Wh.laws_szSolver (a, n) = some (v, ()) := by
  obtain ⟨v, hv⟩ := szEqS_ok a.2.2.1 n h
  simp only [Wh.laws_szSolver, hv, Wh.laws_szEqS_v _ _ hv, allB, isSm, cond_true]
  cases decide (v < 0) <;> exact ⟨_, rfl⟩
theorem szGetting_ok (a : tImplGetting.D) (n : Int) (h : a.2.1.2.2.1.length ≤ 1048576) : ∃ v, Wh.laws_szGetting (a, n) = some (v, ()) := by
  obtain ⟨v, hv⟩ := szPlan_ok a.1 n
  obtain ⟨w, hw⟩ := szSolver_ok a.2.1 v h
  simp only [Wh.laws_szGetting, hv, Wh.laws_szPlan_v _ _ hv, hw, Wh.laws_szSolver_v _ _ hw, allB, isSm, cond_true]
  cases decide (v < 0) <;> cases decide (w < 0) <;> exact ⟨_, rfl⟩
theorem szClient_ok (c : tImplClient.D) (n : Int) (h : Sml c) : ∃ v, Wh.laws_szClient (c, n) = some (v, ()) := by
  obtain ⟨v, hv⟩ := szGetting_ok c.2.2.2.2.2.1 (IntKind.wrap .i64 (n - (c.2.2.2.1.length : Int))) h.s3
  simp only [Wh.laws_szClient, hv, Wh.laws_szGetting_v _ _ hv, allB, isSm, cond_true]
  cases decide (IntKind.wrap .i64 (n - (c.2.2.2.1.length : Int)) < 0) <;> cases decide (v < 0) <;> exact ⟨_, rfl⟩

/-! ### copies are the thing itself -/
def copyL {α : Type} (a : List α) (z : α) (i : Nat) : List α := a.take i ++ List.replicate (a.length - i) z

theorem copyL_len {α : Type} (a : List α) (z : α) (i : Nat) (h : i ≤ a.length) : (copyL a z i).length = a.length := by
  rw [copyL, List.length_append, List.length_take, List.length_replicate]; omega
theorem copyL_zero {α : Type} (a : List α) (z : α) : copyL a z 0 = List.replicate a.length z := by simp [copyL]
theorem copyL_all {α : Type} (a : List α) (z : α) : copyL a z a.length = a := by simp [copyL]
theorem copyL_set {α : Type} (a : List α) (z z' : α) (i : Nat) (h : i < a.length) : (copyL a z i).set i (a.getD i z') = copyL a z (i + 1) := by
  have e1 : a.length - i = (a.length - (i + 1)) + 1 := by omega
  have e2 : (a.take i).length = i := by rw [List.length_take]; omega
  rw [copyL, copyL, e1, List.replicate_succ, List.set_append_right _ _ (by omega), e2, Nat.sub_self, List.set_cons_zero, List.take_succ_eq_append_getElem h, List.append_assoc, getD_eq _ _ _ h]
  rfl

theorem toIntS_eq (a : List Int) (h : a.length ≤ 1048576) : Wh.laws_toIntS a = some (a, ()) := by
  have hl : Comes Wh.laws_toIntS_l0 (((0 : Int), a, ()), List.replicate a.length 0) ((), a) := by
    have := comes_up (r := Wh.laws_toIntS_l0) (st := fun i => (((i : Int), a, ()), copyL a 0 i)) (n := a.length) (y := ((), a)) ?_ ?_ 0 (Nat.zero_le _)
    · rw [copyL_zero] at this; exact this
    · intro i hi
      have hi' : decide ((i : Int) < (a.length : Int)) = true := by simpa using hi
      have h0 : decide ((0 : Int) ≤ (i : Int)) = true := by simp
      simp only [Wh.laws_toIntS_l0, hi', h0, Int.toNat_natCast, copyL_len a 0 i (by omega), copyL_set a 0 0 i hi, wrapN (i := i) (by omega), allB, cond_true, Bool.and_self]
    · have hi' : decide (((a.length : Nat) : Int) < (a.length : Int)) = false := by simp
      simp only [Wh.laws_toIntS_l0, hi', cond_false, copyL_all]
  have b0 : decide ((0 : Int) ≤ (a.length : Int)) = true := by simp
  have b1 : decide ((a.length : Int) ≤ (maxRows : Int)) = true := decide_eq_true (by unfold maxRows; omega)
  simp only [Wh.laws_toIntS, Int.toNat_natCast, cb hl, cv hl, b0, b1, Int.le_refl, decide_true, allB, cond_true, Bool.and_self]

theorem toPlan_eq (a : tImplPlan.D) (h1 : a.2.2.1.length ≤ 1048576) (h2 : a.2.2.2.1.length ≤ 1048576) : Wh.laws_toPlan a = some (a, ()) := by
  have e1 := toIntS_eq _ h1
  have e2 := toIntS_eq _ h2
  simp only [Wh.laws_toPlan, e1, e2, Wh.laws_toIntS_v _ _ e1, Wh.laws_toIntS_v _ _ e2, allB, isSm, cond_true]
theorem toEq_eq (a : tImplEq.D) (h1 : a.1.length ≤ 1048576) : Wh.laws_toEq a = some (a, ()) := by
  have e1 := toIntS_eq _ h1
  simp only [Wh.laws_toEq, e1, Wh.laws_toIntS_v _ _ e1, allB, isSm, cond_true]

theorem toEqS_eq (a : List tImplEq.D) (h : a.length ≤ 1048576) (hr : ∀ x ∈ a, x.1.length ≤ 1048576) : Wh.laws_toEqS a = some (a, ()) := by
  have hl : Comes Wh.laws_toEqS_l0 (((0 : Int), a, ()), List.replicate a.length ([], [], ())) ((), a) := by
    have := comes_up (r := Wh.laws_toEqS_l0) (st := fun i => (((i : Int), a, ()), copyL a ([], [], ()) i)) (n := a.length) (y := ((), a)) ?_ ?_ 0 (Nat.zero_le _)
    · rw [copyL_zero] at this; exact this
    · intro i hi
      have hi' : decide ((i : Int) < (a.length : Int)) = true := by simpa using hi
      have h0 : decide ((0 : Int) ≤ (i : Int)) = true := by simp
      have he := toEq_eq (List.getD a i ([], [], ())) (hr _ (by rw [getD_eq _ _ _ hi]; simp))
      have hs : (copyL a ([], [], ()) i).set i ((List.getD a i ([], [], ())).1, (List.getD a i ([], [], ())).2) = copyL a ([], [], ()) (i + 1) := copyL_set a ([], [], ()) ([], [], ()) i hi
      simp only [Wh.laws_toEqS_l0, hi', h0, Int.toNat_natCast, copyL_len a ([], [], ()) i (by omega), he, Wh.laws_toEq_v _ _ he, hs, wrapN (i := i) (by omega), allB, isSm, cond_true, Bool.and_self]
    · have hi' : decide (((a.length : Nat) : Int) < (a.length : Int)) = false := by simp
      simp only [Wh.laws_toEqS_l0, hi', cond_false, copyL_all]
  have b0 : decide ((0 : Int) ≤ (a.length : Int)) = true := by simp
  have b1 : decide ((a.length : Int) ≤ (maxRows : Int)) = true := decide_eq_true (by unfold maxRows; omega)
  simp only [Wh.laws_toEqS, Int.toNat_natCast, cb hl, cv hl, b0, b1, Int.le_refl, decide_true, allB, cond_true, Bool.and_self]

theorem toSolver_eq (a : tImplSolver.D) (h : a.2.2.1.length ≤ 1048576) (hr : ∀ x ∈ a.2.2.1, x.1.length ≤ 1048576) : Wh.laws_toSolver a = some (a, ()) := by
  have e1 := toEqS_eq _ h hr
  simp only [Wh.laws_toSolver, e1, Wh.laws_toEqS_v _ _ e1, allB, isSm, cond_true]
theorem toClient_eq (c : tImplClient.D) (h : Sml c) : Wh.laws_toClient c = some (c, ()) := by
  have e1 := toPlan_eq c.2.2.2.2.2.1.1 h.p3 h.p4
  have e2 := toSolver_eq c.2.2.2.2.2.1.2.1 h.s3 fun x hx => (h.row x hx).1
  have e3 : Wh.laws_toGetting c.2.2.2.2.2.1 = some (c.2.2.2.2.2.1, ()) := by
    simp only [Wh.laws_toGetting, e1, e2, Wh.laws_toPlan_v _ _ e1, Wh.laws_toSolver_v _ _ e2, allB, isSm, cond_true]
  simp only [Wh.laws_toClient, e3, Wh.laws_toGetting_v _ _ e3, allB, isSm, cond_true]

theorem law_ClientOk (c : tImplClient.D) (hb : bulk tImplClient c ≤ 1048576) : Wh.laws_FnExactClientOk c = some (true, ()) := by
  have h := sml_of c hb
  obtain ⟨v, hv⟩ := szClient_ok c 1048576 h
  have ht := toClient_eq c h
  have hn : c.2.2.2.1.length ≤ 4611686018427387904 := by have := h.name; omega
  have hS := spec_ClientOk_eq c h.sm hn
  have hI := impl_ClientOk_eq c h.sm hn
  have hE := eqClient_refl c h.sm
  have hv' := Wh.laws_szClient_v _ _ hv
  have ht' := Wh.laws_toClient_v _ _ ht
  have hS' := Wh.spec_ClientOk_v _ _ hS
  have hI' := Wh.impl_ClientOk_v _ _ hI
  have hE' := Wh.laws_eqClient_v _ _ hE
  clear hb h hn
  obtain ⟨id, a, st, name, n, ⟨⟨p1, p2, p3, p4, _⟩, ⟨s1, s2, s3, _⟩, _⟩, _⟩ := c
  generalize clientOk _ = b at hS hI hS' hI'
  simp only [Wh.laws_FnExactClientOk, hv, hv', ht, ht', hS, hS', hI, hI', hE, hE', allB, isSm, cond_true, Bool.and_self]
  cases decide (v < 0) <;> cases b <;> rfl

end Pl
open Go Go.Ab
namespace Pl

/-! ### texts -/
def textL (s : tImplSolver.D) : Nat → List UInt8
  | 0 => []
  | i + 1 => textL s i ++ (getV s i).1

theorem getV_len {s : tImplSolver.D} (h : solverOk s = true) (n : Int) : (getV s n).1.length ≤ 16 := by
  obtain ⟨h1, h2, ha, _⟩ := solverOk_parts h
  unfold getV
  by_cases hi : getI s n < s.2.2.1.length
  · rw [if_pos hi]
    have := allN_iff.1 ha _ hi
    simp only [eqP, Bool.and_eq_true, decide_eq_true_eq] at this
    have := this.1.2
    show (eqA s (getI s n)).2.1.length ≤ 16
    omega
  · rw [if_neg hi]; exact Nat.zero_le _

theorem textL_len {s : tImplSolver.D} (h : solverOk s = true) : ∀ i, (textL s i).length ≤ 16 * i
  | 0 => Nat.le_refl _
  | i + 1 => by
    rw [textL, List.length_append]
    have := textL_len h i; have := getV_len h i; omega

theorem pre_le (s : tImplSolver.D) : pre s ≤ s.1.toNat := by
  have := (scan_spec (fun n => (getV s n).2) s.1.toNat 0).2.1
  unfold pre; omega

def textG (g : tImplGetting.D) : List UInt8 := (textL g.2.1 (pre g.2.1)).take g.1.1.toNat

theorem spec_l6Text_eq (g : tImplGetting.D) (hg : SmGetting g) (h : getOk g = true) : Wh.spec_l6Text g = some (textG g, ()) := by
  obtain ⟨hp, hs, _, _⟩ := getOk_parts h
  obtain ⟨a1, a2⟩ := planOk_parts hp
  have h1 := (solverOk_parts hs).1
  have hpre := spec_prefix_eq g.2.1 hg.2 hs
  have hpre' := Wh.spec_l3Prefix_v _ _ hpre
  have hple := pre_le g.2.1
  have hl : Comes Wh.spec_l6Text_l0 (((0 : Int), [], ()), g) (((), textL g.2.1 (pre g.2.1)), g) := by
    refine comes_up (st := fun i => (((i : Int), textL g.2.1 i, ()), g)) (n := pre g.2.1) ?_ ?_ 0 (Nat.zero_le _)
    · intro i hi
      have hi' : decide ((i : Int) < ((pre g.2.1 : Nat) : Int)) = true := by simpa using hi
      have hget := spec_get_eq g.2.1 hg.2 i
      have hget' := Wh.spec_l3Get_v _ _ hget
      have w := wrapN (i := i) (by omega)
      have hb : decide ((textL g.2.1 i).length + (getV g.2.1 i).1.length ≤ maxRows) = true := by
        have := textL_len hs i; have := getV_len hs (i : Int)
        exact decide_eq_true (by unfold maxRows; omega)
      simp only [Wh.spec_l6Text_l0, hpre, hpre', hi', hget, hget', hb, w, textL, allB, isSm, cond_true]
    · have hi' : decide (((pre g.2.1 : Nat) : Int) < ((pre g.2.1 : Nat) : Int)) = false := by simp
      simp only [Wh.spec_l6Text_l0, hpre, hpre', hi', allB, isSm, cond_true, cond_false]
  simp only [Wh.spec_l6Text, cb hl, cv hl, cond_true, textG]
  generalize textL g.2.1 (pre g.2.1) = out
  have z : decide ((0 : Int) ≤ g.1.1) = true := decide_eq_true (by omega)
  by_cases e : g.1.1 < (out.length : Int)
  · have e1 : decide ((out.length : Int) > g.1.1) = true := decide_eq_true e
    have e2 : decide (g.1.1 ≤ (out.length : Int)) = true := decide_eq_true (by omega)
    simp only [e1, e2, z, allB, cond_true, Bool.and_self, Int.sub_zero, Int.toNat_zero, List.drop_zero]
  · have e1 : decide ((out.length : Int) > g.1.1) = false := decide_eq_false e
    simp only [e1, cond_false]
    rw [List.take_of_length_le (by omega)]

theorem impl_GetText_eq (g : tImplGetting.D) (hg : SmGetting g) (h : getOk g = true) : Wh.impl_GetText g = some (textG g, ()) := by
  obtain ⟨hp, hs, _, _⟩ := getOk_parts h
  obtain ⟨a1, a2⟩ := planOk_parts hp
  have h1 := (solverOk_parts hs).1
  have hpre := impl_prefix_eq g.2.1 hg.2 h1
  have hpre' := Wh.impl_Solver_prefix_v _ _ hpre
  have hple := pre_le g.2.1
  have hok := impl_GetOk_eq g hg
  have hok' := Wh.impl_GetOk_v _ _ hok
  have hl : Comes Wh.impl_GetText_l0 (((0 : Int), [], (), ((pre g.2.1 : Nat) : Int)), g) (((), textL g.2.1 (pre g.2.1)), g) := by
    refine comes_up (st := fun i => (((i : Int), textL g.2.1 i, (), ((pre g.2.1 : Nat) : Int)), g)) (n := pre g.2.1) ?_ ?_ 0 (Nat.zero_le _)
    · intro i hi
      have hi' : decide ((i : Int) < ((pre g.2.1 : Nat) : Int)) = true := by simpa using hi
      have hget := impl_get_eq g.2.1 hg.2 i
      have hget' := Wh.impl_Solver_get_v _ _ hget
      have w := wrapN (i := i) (by omega)
      have hb : decide ((textL g.2.1 i).length + (getV g.2.1 i).1.length ≤ maxRows) = true := by
        have := textL_len hs i; have := getV_len hs (i : Int)
        exact decide_eq_true (by unfold maxRows; omega)
      simp only [Wh.impl_GetText_l0, hi', hget, hget', hb, w, textL, allB, isSm, cond_true]
    · have hi' : decide (((pre g.2.1 : Nat) : Int) < ((pre g.2.1 : Nat) : Int)) = false := by simp
      simp only [Wh.impl_GetText_l0, hi', cond_false]
  simp only [Wh.impl_GetText, hok, hok', h, hpre, hpre', cb hl, cv hl, allB, isSm, cond_true, cond_false, Bool.not_true, textG]
  generalize textL g.2.1 (pre g.2.1) = out
  have z : decide ((0 : Int) ≤ g.1.1) = true := decide_eq_true (by omega)
  have z2 : decide ((0 : Int) ≤ (out.length : Int)) = true := decide_eq_true (by omega)
  by_cases e : g.1.1 < (out.length : Int)
  · have e2 : decide (g.1.1 ≤ (out.length : Int)) = true := decide_eq_true (by omega)
    simp only [if_pos e, e2, z, allB, cond_true, Bool.and_self, Int.sub_zero, Int.toNat_zero, List.drop_zero]
  · simp only [if_neg e, z2, Int.le_refl, decide_true, allB, cond_true, Bool.and_self, Int.sub_zero, Int.toNat_zero, Int.toNat_natCast, List.drop_zero]
    rw [List.take_of_length_le (by omega), List.take_of_length_le (by omega)]

def clientText (c : tImplClient.D) : List UInt8 := bif !clientOk c || c.2.2.2.2.1 == 0 then [] else textG c.2.2.2.2.2.1

theorem clientOk_get {c : tImplClient.D} (h : clientOk c = true) (hn : (c.2.2.2.2.1 == 0) = false) : getOk c.2.2.2.2.2.1 = true := by
  simp only [clientOk, Bool.and_eq_true, hn, cond_false] at h
  exact h.1.2

theorem spec_ClientText_eq (c : tImplClient.D) (hg : SmGetting c.2.2.2.2.2.1) (hn : c.2.2.2.1.length ≤ 4611686018427387904) : Wh.spec_ClientText c = some (clientText c, ()) := by
  have hO := spec_ClientOk_eq c hg hn
  have hO' := Wh.spec_ClientOk_v _ _ hO
  cases h : clientOk c with
  | false => simp only [Wh.spec_ClientText, hO, hO', h, clientText, allB, isSm, cond_true, Bool.not_false, Bool.true_or]
  | true =>
    cases h2 : (c.2.2.2.2.1 == 0) with
    | true => simp only [Wh.spec_ClientText, hO, hO', h, h2, clientText, allB, isSm, cond_true, cond_false, Bool.not_true, Bool.or_true]
    | false =>
      have hT := spec_l6Text_eq _ hg (clientOk_get h h2)
      have hT' := Wh.spec_l6Text_v _ _ hT
      simp only [Wh.spec_ClientText, hO, hO', h, h2, hT, hT', clientText, allB, isSm, cond_true, cond_false, Bool.not_true, Bool.or_false]

theorem impl_ClientText_eq (c : tImplClient.D) (hg : SmGetting c.2.2.2.2.2.1) (hn : c.2.2.2.1.length ≤ 4611686018427387904) : Wh.impl_ClientText c = some (clientText c, ()) := by
  have hO := impl_ClientOk_eq c hg hn
  have hO' := Wh.impl_ClientOk_v _ _ hO
  cases h : clientOk c with
  | false => simp only [Wh.impl_ClientText, hO, hO', h, clientText, allB, isSm, cond_true, Bool.not_false, Bool.true_or]
  | true =>
    cases h2 : (c.2.2.2.2.1 == 0) with
    | true => simp only [Wh.impl_ClientText, hO, hO', h, h2, clientText, allB, isSm, cond_true, cond_false, Bool.not_true, Bool.or_true]
    | false =>
      have hT := impl_GetText_eq _ hg (clientOk_get h h2)
      have hT' := Wh.impl_GetText_v _ _ hT
      simp only [Wh.impl_ClientText, hO, hO', h, h2, hT, hT', clientText, allB, isSm, cond_true, cond_false, Bool.not_true, Bool.or_false]

theorem law_ClientText (c : tImplClient.D) (hb : bulk tImplClient c ≤ 1048576) : Wh.laws_FnExactClientText c = some (true, ()) := by
  have h := sml_of c hb
  obtain ⟨v, hv⟩ := szClient_ok c 1048576 h
  have ht := toClient_eq c h
  have hn : c.2.2.2.1.length ≤ 4611686018427387904 := by have := h.name; omega
  have hS := spec_ClientText_eq c h.sm hn
  have hI := impl_ClientText_eq c h.sm hn
  have hE := eqClient_refl c h.sm
  have hv' := Wh.laws_szClient_v _ _ hv
  have ht' := Wh.laws_toClient_v _ _ ht
  have hS' := Wh.spec_ClientText_v _ _ hS
  have hI' := Wh.impl_ClientText_v _ _ hI
  have hE' := Wh.laws_eqClient_v _ _ hE
  clear hb h hn
  obtain ⟨id, a, st, name, n, ⟨⟨p1, p2, p3, p4, _⟩, ⟨s1, s2, s3, _⟩, _⟩, _⟩ := c
  generalize clientText _ = b at hS hI hS' hI'
  have eb : (!(b == b)) = false := by simp
  simp only [Wh.laws_FnExactClientText, hv, hv', ht, ht', hS, hS', hI, hI', hE, hE', allB, isSm, cond_true, Bool.and_self]
  cases decide (v < 0) <;> simp

end Pl
