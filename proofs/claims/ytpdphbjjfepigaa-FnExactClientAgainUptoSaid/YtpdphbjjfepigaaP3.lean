import Derived.Test.YtpdphbjjfepigaaP2
open Go Go.Ab
namespace Pl

/-! ### masks -/
def mkN (l : List Int) : Nat := l.foldl (fun m x => m ||| 2 ^ x.toNat) 0

theorem mkN_snoc (l : List Int) (x : Int) : mkN (l ++ [x]) = mkN l ||| 2 ^ x.toNat := by simp [mkN, List.foldl_append]

theorem mk_test (l : List Int) (j : Nat) : ∀ m : Nat, (l.foldl (fun m x => m ||| 2 ^ x.toNat) m).testBit j = (m.testBit j || l.any fun x => decide (x.toNat = j)) := by
  induction l with
  | nil => simp
  | cons x l ih =>
    intro m
    rw [List.foldl_cons, ih]
    simp [Nat.testBit_or, Nat.testBit_two_pow, Bool.or_assoc]

theorem mkN_test (l : List Int) (j : Nat) : (mkN l).testBit j = l.any fun x => decide (x.toNat = j) := by
  rw [mkN, mk_test]; simp

theorem mk_lt (l : List Int) (h : ∀ x ∈ l, x < 24) : ∀ m : Nat, m < 2 ^ 24 → l.foldl (fun m x => m ||| 2 ^ x.toNat) m < 2 ^ 24 := by
  induction l with
  | nil => intro m hm; exact hm
  | cons x l ih =>
    intro m hm
    rw [List.foldl_cons]
    refine ih (fun y hy => h y (List.mem_cons_of_mem _ hy)) _ (Nat.or_lt_two_pow hm ?_)
    exact Nat.pow_lt_pow_right (by decide) (by have := h x List.mem_cons_self; omega)

theorem mkN_lt (l : List Int) (h : ∀ x ∈ l, x < 24) : mkN l < 2 ^ 24 := mk_lt l h 0 (by decide)

theorem nat32 {a : Nat} (ha : a < 2 ^ 24) : (BitVec.ofInt 32 (a : Int)).toNat = a := by
  rw [BitVec.ofInt_natCast, BitVec.toNat_ofNat]; omega
theorem wrap32 {n : Nat} (h : n < 2 ^ 24) : IntKind.wrap .u32 (n : Int) = (n : Int) := by
  simp [IntKind.wrap, IntKind.bits, IntKind.signed]; omega
theorem or32 {a b : Nat} (ha : a < 2 ^ 24) (hb : b < 2 ^ 24) : bitsOp .or .u32 (a : Int) (b : Int) = ((a ||| b : Nat) : Int) := by
  show IntKind.wrap .u32 (((BitVec.ofInt 32 (a : Int) ||| BitVec.ofInt 32 (b : Int)).toNat : Nat) : Int) = _
  rw [BitVec.toNat_or, nat32 ha, nat32 hb, wrap32 (Nat.or_lt_two_pow ha hb)]
theorem and32 {a b : Nat} (ha : a < 2 ^ 24) (hb : b < 2 ^ 24) : bitsOp .and .u32 (a : Int) (b : Int) = ((a &&& b : Nat) : Int) := by
  show IntKind.wrap .u32 (((BitVec.ofInt 32 (a : Int) &&& BitVec.ofInt 32 (b : Int)).toNat : Nat) : Int) = _
  rw [BitVec.toNat_and, nat32 ha, nat32 hb, wrap32 (Nat.and_lt_two_pow _ hb)]
theorem shl32 {n : Int} (h : 0 ≤ n) (h' : n < 24) : IntKind.wrap .u32 ((1 : Int) * (2 : Int) ^ Min.min (Int.toNat n) (IntKind.bits .u32)) = ((2 ^ n.toNat : Nat) : Int) := by
  obtain ⟨k, rfl⟩ : ∃ k : Nat, n = k := ⟨n.toNat, by omega⟩
  have hk : k < 24 := by omega
  have hm : min k 32 = k := by omega
  have h2 : 2 ^ k < 2 ^ 24 := Nat.pow_lt_pow_right (by decide) hk
  have e : (1 : Int) * (2 : Int) ^ Min.min (Int.toNat k) (IntKind.bits .u32) = ((2 ^ k : Nat) : Int) := by
    simp [IntKind.bits, hm]
  rw [e, wrap32 h2]; simp

theorem pow24 {n : Int} (h' : n < 24) : 2 ^ n.toNat < 2 ^ 24 := Nat.pow_lt_pow_right (by decide) (by omega)

theorem impl_mask_eq (row : List Int) (hl : row.length ≤ 4611686018427387904) (h : ∀ x ∈ row, 0 ≤ x ∧ x < 24) : Wh.impl_mask row = some ((mkN row : Int), ()) := by
  have hc : Comes Wh.impl_mask_l0 (((0 : Int), (0 : Int), row, (row.length : Int)), ()) ((mkN row : Int), ()) := by
    refine comes_up (st := fun i => (((i : Int), (mkN (row.take i) : Int), row, (row.length : Int)), ())) (n := row.length) ?_ ?_ 0 (Nat.zero_le _)
    · intro i hi
      have h0 := h row[i] (by simp)
      have h3 := wrapN (i := i) (by omega)
      have e : mkN (row.take (i + 1)) = mkN (row.take i) ||| 2 ^ (row[i]).toNat := by rw [List.take_succ_eq_append_getElem hi, mkN_snoc]
      have h4 := shl32 h0.1 h0.2
      have h5 := or32 (mkN_lt (row.take i) fun x hx => (h x (List.mem_of_mem_take hx)).2) (pow24 h0.2)
      simp only [Wh.impl_mask_l0, getD_eq _ _ _ hi, Int.toNat_natCast, h3, h4, h5, e, allB, Int.ofNat_lt, hi, h0.1, decide_true, cond_true, Int.natCast_nonneg, Bool.and_self]
    · simp [Wh.impl_mask_l0]
  simp [Wh.impl_mask, cb hc, cv hc]

end Pl
open Go Go.Ab
namespace Pl

theorem wrapPn {i : Nat} (h : i ≤ 4611686018427387904) (h0 : 0 < i) : IntKind.wrap .i64 ((i : Int) - 1) = ((i - 1 : Nat) : Int) := by rw [wrap64] <;> omega

/-! ### solvers -/
def eqA (s : tImplSolver.D) (i : Nat) : tImplEq.D := s.2.2.1.getD i ([], [], ())
def headA (s : tImplSolver.D) (i : Nat) : Int := (eqA s i).1.getD 0 0
def eqP (s : tImplSolver.D) (i : Nat) : Bool :=
  rowOk (eqA s i).1 s.1 && decide ((eqA s i).1.length ≠ 0) && decide (((eqA s i).2.1.length : Int) = s.2.1) && (decide (i = 0) || decide (headA s (i - 1) < headA s i))

theorem eqA_mem (s : tImplSolver.D) (i : Nat) (h : i < s.2.2.1.length) : eqA s i ∈ s.2.2.1 := by
  rw [eqA, getD_eq _ _ _ h]; simp

theorem spec_Solver_loop (s : tImplSolver.D) (hs : SmSolver s) (h1 : 1 ≤ s.1 ∧ s.1 ≤ 24) : Comes Wh.spec_SolverOk_l0 (((0 : Int), ()), s) (if allN s.2.2.1.length (eqP s) = true then .inr ((), s) else .inl (false, ())) := by
  have rnd : ∀ i, i < s.2.2.1.length → (∀ j, j < i → eqP s j = true) → Wh.spec_SolverOk_l0 (((i : Int), ()), s) = bif eqP s i then some (.inl ((((i + 1 : Nat) : Int), ()), s)) else some (.inr (.inl (false, ()))) := by
    intro i hi hp
    have hm := eqA_mem s i hi
    have hr := spec_RowOk_eq (eqA s i).1 s.1 (hs.2 _ hm) (by omega) (by omega)
    have hr' : Wh.spec_RowOk' ((eqA s i).1, s.1) = (rowOk (eqA s i).1 s.1, ()) := by simp only [Wh.spec_RowOk', hr]
    have eA : List.getD s.2.2.1 i ([], [], ()) = eqA s i := rfl
    have hi' : decide ((i : Int) < (s.2.2.1.length : Int)) = true := by simpa using hi
    have h0 : decide ((0 : Int) ≤ (i : Int)) = true := by simp
    have w := wrapN (i := i) (by have := hs.1; omega)
    have d1 : (((eqA s i).1.length : Int) == 0) = !decide ((eqA s i).1.length ≠ 0) := by
      by_cases e : (eqA s i).1.length = 0 <;> simp [e]
    have d2 : (((eqA s i).2.1.length : Int) != s.2.1) = !decide (((eqA s i).2.1.length : Int) = s.2.1) := rfl
    have d3 : decide ((0 : Int) < ((eqA s i).1.length : Int)) = decide ((eqA s i).1.length ≠ 0) := by
      by_cases e : (eqA s i).1.length = 0 <;> simp [e]; omega
    rcases Nat.eq_zero_or_pos i with hz | hz
    · subst hz
      have g0 : decide (((0 : Nat) : Int) > 0) = false := by decide
      cases hA : rowOk (eqA s 0).1 s.1 <;> cases hB : decide ((eqA s 0).1.length ≠ 0) <;> cases hC : decide (((eqA s 0).2.1.length : Int) = s.2.1) <;>
        simp only [Wh.spec_SolverOk_l0, hi', h0, Int.toNat_natCast, eA, hr', hr, d1, d2, d3, g0, hA, hB, hC, w, eqP, allB, isSm, cond_true, cond_false, Bool.not_true, Bool.not_false, Bool.true_and, Bool.false_and, Bool.and_true, Bool.and_false, Bool.true_or, Bool.or_true, Bool.and_self, decide_true]
    · have g0 : decide ((i : Int) > 0) = true := by simpa using hz
      have gz : decide (i = 0) = false := by simp; omega
      have w2 := wrapPn (i := i) (by have := hs.1; omega) hz
      have eB : List.getD s.2.2.1 (i - 1) ([], [], ()) = eqA s (i - 1) := rfl
      have hq := hp (i - 1) (by omega)
      simp only [eqP, Bool.and_eq_true, decide_eq_true_eq] at hq
      have q1 : decide ((0 : Int) < ((eqA s (i - 1)).1.length : Int)) = true := by have := hq.1.1.2; simp; omega
      have q2 : decide (((i - 1 : Nat) : Int) < (s.2.2.1.length : Int)) = true := by simp; omega
      have q3 : decide ((0 : Int) ≤ ((i - 1 : Nat) : Int)) = true := by simp
      have f1 : List.getD (eqA s i).1 0 0 = headA s i := rfl
      have f2 : List.getD (eqA s (i - 1)).1 0 0 = headA s (i - 1) := rfl
      have d4 : decide (headA s (i - 1) ≥ headA s i) = !decide (headA s (i - 1) < headA s i) := by
        by_cases e : headA s (i - 1) < headA s i
        · have : ¬ headA s i ≤ headA s (i - 1) := by omega
          simp [e, this]
        · have : headA s i ≤ headA s (i - 1) := by omega
          simp [e, this]
      cases hA : rowOk (eqA s i).1 s.1 <;> cases hB : decide ((eqA s i).1.length ≠ 0) <;> cases hC : decide (((eqA s i).2.1.length : Int) = s.2.1) <;> cases hD : decide (headA s (i - 1) < headA s i) <;>
        simp only [Wh.spec_SolverOk_l0, hi', h0, Int.toNat_natCast, Int.toNat_zero, eA, eB, f1, f2, hr', hr, d1, d2, d3, d4, g0, gz, hA, hB, hC, hD, w, w2, q1, q2, q3, eqP, allB, isSm, cond_true, cond_false, Bool.not_true, Bool.not_false, Bool.true_and, Bool.false_and, Bool.and_true, Bool.and_false, Bool.true_or, Bool.or_true, Bool.false_or, Bool.or_false, Bool.and_self, decide_true, Int.le_refl]
  refine comes_all (fun i => (((i : Int), ()), s)) ?_ ?_ ?_
  · intro i hi hp h
    rw [rnd i hi hp, h]; rfl
  · intro i hi hp h
    rw [rnd i hi hp, h]; rfl
  · simp [Wh.spec_SolverOk_l0]

end Pl
open Go Go.Ab
namespace Pl

def hasA (row : List Int) (n : Int) : Bool := !allN row.length fun j => !(row.getD j 0 == n)

theorem hasA_iff (row : List Int) (n : Int) : hasA row n = true ↔ ∃ j, j < row.length ∧ row.getD j 0 = n := by
  unfold hasA
  cases h : allN row.length fun j => !(row.getD j 0 == n) with
  | true =>
    rw [allN_iff] at h
    simp only [Bool.not_true, Bool.false_eq_true, false_iff, not_exists, not_and]
    intro j hj e
    have := h j hj
    simp only [e, beq_self_eq_true, Bool.not_true, Bool.false_eq_true] at this
  | false =>
    simp only [Bool.not_false, true_iff]
    by_cases e : ∃ j, j < row.length ∧ row.getD j 0 = n
    · exact e
    · exfalso
      have : allN row.length (fun j => !(row.getD j 0 == n)) = true := by
        rw [allN_iff]; intro j hj
        simp only [Bool.not_eq_true', beq_eq_false_iff_ne, ne_eq]
        intro e2; exact e ⟨j, hj, e2⟩
      rw [h] at this; cases this

theorem spec_l3Has_eq (row : List Int) (n : Int) (h : row.length ≤ 4611686018427387904) : Wh.spec_l3Has (row, n) = some (hasA row n, ()) := by
  have hl : Comes Wh.spec_l3Has_l0 (((0 : Int), n, row), ()) (if (allN row.length fun j => !(row.getD j 0 == n)) = true then .inr ((), ()) else .inl (true, ())) := by
    refine comes_all (fun i => (((i : Int), n, row), ())) ?_ ?_ ?_
    · intro i hi _ hp
      have hi' : decide ((i : Int) < (row.length : Int)) = true := by simpa using hi
      have h0 : decide ((0 : Int) ≤ (i : Int)) = true := by simp
      have hp' : (row.getD i 0 == n) = false := by simpa using hp
      simp only [Wh.spec_l3Has_l0, hi', h0, Int.toNat_natCast, hp', wrapN (i := i) (by omega), allB, cond_true, cond_false, Bool.and_self]
    · intro i hi _ hp
      have hi' : decide ((i : Int) < (row.length : Int)) = true := by simpa using hi
      have h0 : decide ((0 : Int) ≤ (i : Int)) = true := by simp
      have hp' : (row.getD i 0 == n) = true := by simpa using hp
      simp only [Wh.spec_l3Has_l0, hi', h0, Int.toNat_natCast, hp', allB, cond_true, cond_false, Bool.and_self]
    · simp [Wh.spec_l3Has_l0]
  cases hp : (allN row.length fun j => !(row.getD j 0 == n)) with
  | true =>
    rw [hp, if_pos rfl] at hl
    simp only [Wh.spec_l3Has, cb hl, cv hl, hasA, hp, cond_true, Bool.not_true]
  | false =>
    rw [hp, if_neg (by simp)] at hl
    simp only [Wh.spec_l3Has, cb hl, cv hl, hasA, hp, cond_true, Bool.not_false]

def crossP (s : tImplSolver.D) (i k : Nat) : Bool := decide (k = i) || !hasA (eqA s k).1 (headA s i)
def cross (s : tImplSolver.D) : Bool := allN s.2.2.1.length fun i => allN s.2.2.1.length (crossP s i)

theorem spec_Solver_in (s : tImplSolver.D) (hs : SmSolver s) (i : Nat) (hi : i < s.2.2.1.length) (hne : (eqA s i).1.length ≠ 0) :
    Comes Wh.spec_SolverOk_l2 (((0 : Int), (i : Int), ()), s) (if allN s.2.2.1.length (crossP s i) = true then .inr (((), (i : Int)), s) else .inl (false, ())) := by
  have rnd : ∀ k, k < s.2.2.1.length → Wh.spec_SolverOk_l2 (((k : Int), (i : Int), ()), s) = bif crossP s i k then some (.inl ((((k + 1 : Nat) : Int), (i : Int), ()), s)) else some (.inr (.inl (false, ()))) := by
    intro k hk
    have hr := spec_l3Has_eq (eqA s k).1 (headA s i) (hs.2 _ (eqA_mem s k hk))
    have hr' : Wh.spec_l3Has' ((eqA s k).1, headA s i) = (hasA (eqA s k).1 (headA s i), ()) := by simp only [Wh.spec_l3Has', hr]
    have eA : List.getD s.2.2.1 i ([], [], ()) = eqA s i := rfl
    have eB : List.getD s.2.2.1 k ([], [], ()) = eqA s k := rfl
    have f1 : List.getD (eqA s i).1 0 0 = headA s i := rfl
    have hi' : decide ((i : Int) < (s.2.2.1.length : Int)) = true := by simpa using hi
    have hk' : decide ((k : Int) < (s.2.2.1.length : Int)) = true := by simpa using hk
    have h0 : decide ((0 : Int) ≤ (i : Int)) = true := by simp
    have h1 : decide ((0 : Int) ≤ (k : Int)) = true := by simp
    have h2 : decide ((0 : Int) < ((eqA s i).1.length : Int)) = true := by simp; omega
    have w := wrapN (i := k) (by have := hs.1; omega)
    have d1 : ((k : Int) != (i : Int)) = !decide (k = i) := by
      by_cases e : k = i
      · subst e; simp
      · have : (k : Int) ≠ i := by omega
        simp [e, this]
    cases hA : decide (k = i) <;> cases hB : hasA (eqA s k).1 (headA s i) <;>
      simp only [Wh.spec_SolverOk_l2, hi', hk', h0, h1, h2, Int.toNat_natCast, Int.toNat_zero, eA, eB, f1, hr, hr', d1, hA, hB, w, crossP, allB, isSm, cond_true, cond_false, Bool.not_true, Bool.not_false, Bool.true_and, Bool.false_and, Bool.and_true, Bool.and_false, Bool.true_or, Bool.or_true, Bool.false_or, Bool.or_false, Bool.and_self, Bool.or_self, decide_true, Int.le_refl]
  refine comes_all (fun k => (((k : Int), (i : Int), ()), s)) ?_ ?_ ?_
  · intro k hk _ h
    rw [rnd k hk, h]; rfl
  · intro k hk _ h
    rw [rnd k hk, h]; rfl
  · simp [Wh.spec_SolverOk_l2]

theorem spec_Solver_out (s : tImplSolver.D) (hs : SmSolver s) (hne : ∀ i, i < s.2.2.1.length → (eqA s i).1.length ≠ 0) :
    Comes Wh.spec_SolverOk_l1 (((0 : Int), ()), s) (if cross s = true then .inr ((), ()) else .inl (false, ())) := by
  refine comes_all (fun i => (((i : Int), ()), s)) ?_ ?_ ?_
  · intro i hi _ h
    have hl := spec_Solver_in s hs i hi (hne i hi)
    rw [h, if_pos rfl] at hl
    have hi' : decide ((i : Int) < (s.2.2.1.length : Int)) = true := by simpa using hi
    simp only [Wh.spec_SolverOk_l1, hi', cb hl, cv hl, cond_true]
    dsimp only [sumC]
    rw [wrapN (i := i) (by have := hs.1; omega)]
  · intro i hi _ h
    have hl := spec_Solver_in s hs i hi (hne i hi)
    rw [h, if_neg (by simp)] at hl
    have hi' : decide ((i : Int) < (s.2.2.1.length : Int)) = true := by simpa using hi
    simp only [Wh.spec_SolverOk_l1, hi', cb hl, cv hl, cond_true]
  · simp [Wh.spec_SolverOk_l1]

def solverOk (s : tImplSolver.D) : Bool := decide (1 ≤ s.1 ∧ s.1 ≤ 24) && decide (1 ≤ s.2.1 ∧ s.2.1 ≤ 16) && allN s.2.2.1.length (eqP s) && cross s

theorem eqP_ne {s : tImplSolver.D} (h : allN s.2.2.1.length (eqP s) = true) (i : Nat) (hi : i < s.2.2.1.length) : (eqA s i).1.length ≠ 0 := by
  have := allN_iff.1 h i hi
  simp only [eqP, Bool.and_eq_true, decide_eq_true_eq] at this
  exact this.1.1.2

theorem spec_SolverOk_eq (s : tImplSolver.D) (hs : SmSolver s) : Wh.spec_SolverOk s = some (solverOk s, ()) := by
  by_cases a1 : 1 ≤ s.1 ∧ s.1 ≤ 24
  case neg => simp [Wh.spec_SolverOk, Wh.spec_l1In', l1In_eq, allB, isSm, a1, solverOk]
  by_cases a2 : 1 ≤ s.2.1 ∧ s.2.1 ≤ 16
  case neg => simp [Wh.spec_SolverOk, Wh.spec_l1In', l1In_eq, allB, isSm, a1, a2, solverOk]
  have hl := spec_Solver_loop s hs a1
  cases h1 : allN s.2.2.1.length (eqP s) with
  | false =>
    rw [h1, if_neg (by simp)] at hl
    simp [Wh.spec_SolverOk, Wh.spec_l1In', l1In_eq, allB, isSm, a1, a2, solverOk, cb hl, cv hl, h1]
  | true =>
    rw [h1, if_pos rfl] at hl
    have hl2 := spec_Solver_out s hs (eqP_ne h1)
    cases h2 : cross s with
    | false =>
      rw [h2, if_neg (by simp)] at hl2
      simp [Wh.spec_SolverOk, Wh.spec_l1In', l1In_eq, allB, isSm, a1, a2, solverOk, cb hl, cv hl, h1, h2]
      dsimp only [sumC]
      simp only [cb hl2, cv hl2, cond_true]
    | true =>
      rw [h2, if_pos rfl] at hl2
      simp [Wh.spec_SolverOk, Wh.spec_l1In', l1In_eq, allB, isSm, a1, a2, solverOk, cb hl, cv hl, h1, h2]
      dsimp only [sumC]
      simp only [cb hl2, cv hl2, cond_true]

end Pl
