import Derived.Test.YtpdphbjjfepigaaP3
open Go Go.Ab
namespace Pl

theorem rowOk_mem {row : List Int} {count : Int} (h : rowOk row count = true) (x : Int) (hx : x ∈ row) : 0 ≤ x ∧ x < 24 := by
  simp only [rowOk, Bool.and_eq_true, decide_eq_true_eq] at h
  obtain ⟨i, hi, e⟩ := List.mem_iff_getElem.1 hx
  have := allN_iff.1 h.1 i hi
  simp only [rowP, Bool.and_eq_true, decide_eq_true_eq, getD_eq _ _ _ hi, e] at this
  omega

def heads (s : tImplSolver.D) (i : Nat) : List Int := (List.range i).map (headA s)

theorem heads_snoc (s : tImplSolver.D) (i : Nat) : heads s (i + 1) = heads s i ++ [headA s i] := by simp [heads, List.range_succ]

theorem headA_ok {s : tImplSolver.D} {i : Nat} (h : eqP s i = true) : 0 ≤ headA s i ∧ headA s i < 24 := by
  simp only [eqP, Bool.and_eq_true, decide_eq_true_eq] at h
  have hp : 0 < (eqA s i).1.length := by have := h.1.1.2; omega
  refine rowOk_mem h.1.1.1 _ ?_
  rw [headA, getD_eq _ _ _ hp]; simp

theorem heads_lt {s : tImplSolver.D} {i : Nat} (h : ∀ j, j < i → eqP s j = true) : ∀ x ∈ heads s i, x < 24 := by
  intro x hx
  simp only [heads, List.mem_map, List.mem_range] at hx
  obtain ⟨j, hj, rfl⟩ := hx
  exact (headA_ok (h j hj)).2

theorem impl_Solver_loop (s : tImplSolver.D) (hs : SmSolver s) (h1 : 1 ≤ s.1 ∧ s.1 ≤ 24) :
    Comes Wh.impl_SolverOk_l0 (((0 : Int), (0 : Int), (), s.2.2.1, (s.2.2.1.length : Int)), s) (if allN s.2.2.1.length (eqP s) = true then .inr ((((mkN (heads s s.2.2.1.length) : Nat) : Int), ()), s) else .inl (false, ())) := by
  have rnd : ∀ i, i < s.2.2.1.length → (∀ j, j < i → eqP s j = true) → Wh.impl_SolverOk_l0 (((i : Int), ((mkN (heads s i) : Nat) : Int), (), s.2.2.1, (s.2.2.1.length : Int)), s) = bif eqP s i then some (.inl ((((i + 1 : Nat) : Int), ((mkN (heads s (i + 1)) : Nat) : Int), (), s.2.2.1, (s.2.2.1.length : Int)), s)) else some (.inr (.inl (false, ()))) := by
    intro i hi hp
    have hm := eqA_mem s i hi
    have hr := impl_RowOk_eq (eqA s i).1 s.1 (hs.2 _ hm) (by omega) (by omega)
    have hr' : Wh.impl_RowOk' ((eqA s i).1, s.1) = (rowOk (eqA s i).1 s.1, ()) := by simp only [Wh.impl_RowOk', hr]
    have eA : List.getD s.2.2.1 i ([], [], ()) = eqA s i := rfl
    have hi' : decide ((i : Int) < (s.2.2.1.length : Int)) = true := by simpa using hi
    have h0 : decide ((0 : Int) ≤ (i : Int)) = true := by simp
    have w := wrapN (i := i) (by have := hs.1; omega)
    have d1 : (((eqA s i).1.length : Int) == 0) = !decide ((eqA s i).1.length ≠ 0) := by
      by_cases e : (eqA s i).1.length = 0 <;> simp [e]
    have d2 : (((eqA s i).2.1.length : Int) != s.2.1) = !decide (((eqA s i).2.1.length : Int) = s.2.1) := rfl
    have d3 : decide ((0 : Int) < ((eqA s i).1.length : Int)) = decide ((eqA s i).1.length ≠ 0) := by
      by_cases e : (eqA s i).1.length = 0 <;> simp [e]; omega
    have f1 : List.getD (eqA s i).1 0 0 = headA s i := rfl
    have mk : eqP s i = true → bitsOp .or .u32 ((mkN (heads s i) : Nat) : Int) (IntKind.wrap .u32 ((1 : Int) * (2 : Int) ^ Min.min (Int.toNat (headA s i)) (IntKind.bits .u32))) = ((mkN (heads s (i + 1)) : Nat) : Int) := by
      intro h
      have := headA_ok h
      rw [shl32 this.1 this.2, or32 (mkN_lt _ (heads_lt hp)) (pow24 this.2), heads_snoc, mkN_snoc]
    have mk0 : eqP s i = true → decide (0 ≤ headA s i) = true := fun h => decide_eq_true (headA_ok h).1
    rcases Nat.eq_zero_or_pos i with hz | hz
    · subst hz
      have g0 : decide (((0 : Nat) : Int) > 0) = false := by decide
      cases hA : rowOk (eqA s 0).1 s.1 <;> cases hB : decide ((eqA s 0).1.length ≠ 0) <;> cases hC : decide (((eqA s 0).2.1.length : Int) = s.2.1)
      case true.true.true =>
        have hE : eqP s 0 = true := by simp only [eqP, hA, hB, hC, decide_true, Bool.true_or, Bool.and_self]
        simp only [Wh.impl_SolverOk_l0, hi', h0, Int.toNat_natCast, Int.toNat_zero, eA, f1, hr', hr, d1, d2, d3, g0, hA, hB, hC, w, mk hE, mk0 hE, hE, allB, isSm, cond_true, cond_false, Bool.not_true, Bool.not_false, Bool.true_and, Bool.false_and, Bool.and_true, Bool.and_false, Bool.true_or, Bool.or_true, Bool.and_self, decide_true]
      all_goals
        simp only [Wh.impl_SolverOk_l0, hi', h0, Int.toNat_natCast, eA, hr', hr, d1, d2, d3, g0, hA, hB, hC, w, eqP, allB, isSm, cond_true, cond_false, Bool.not_true, Bool.not_false, Bool.true_and, Bool.false_and, Bool.and_true, Bool.and_false, Bool.true_or, Bool.or_true, Bool.and_self, decide_true]
    · have g0 : decide ((i : Int) > 0) = true := by simpa using hz
      have gz : decide (i = 0) = false := by simp; omega
      have w2 := wrapPn (i := i) (by have := hs.1; omega) hz
      have eB : List.getD s.2.2.1 (i - 1) ([], [], ()) = eqA s (i - 1) := rfl
      have hq := hp (i - 1) (by omega)
      simp only [eqP, Bool.and_eq_true, decide_eq_true_eq] at hq
      have q1 : decide ((0 : Int) < ((eqA s (i - 1)).1.length : Int)) = true := by have := hq.1.1.2; simp; omega
      have q2 : decide (((i - 1 : Nat) : Int) < (s.2.2.1.length : Int)) = true := by simp; omega
      have q3 : decide ((0 : Int) ≤ ((i - 1 : Nat) : Int)) = true := by simp
      have f2 : List.getD (eqA s (i - 1)).1 0 0 = headA s (i - 1) := rfl
      have d4 : decide (headA s (i - 1) ≥ headA s i) = !decide (headA s (i - 1) < headA s i) := by
        by_cases e : headA s (i - 1) < headA s i
        · have : ¬ headA s i ≤ headA s (i - 1) := by omega
          simp [e, this]
        · have : headA s i ≤ headA s (i - 1) := by omega
          simp [e, this]
      cases hA : rowOk (eqA s i).1 s.1 <;> cases hB : decide ((eqA s i).1.length ≠ 0) <;> cases hC : decide (((eqA s i).2.1.length : Int) = s.2.1) <;> cases hD : decide (headA s (i - 1) < headA s i)
      case true.true.true.true =>
        have hE : eqP s i = true := by simp only [eqP, hA, hB, hC, hD, Bool.or_true, Bool.and_self]
        simp only [Wh.impl_SolverOk_l0, hi', h0, Int.toNat_natCast, Int.toNat_zero, eA, eB, f1, f2, hr', hr, d1, d2, d3, d4, g0, gz, hA, hB, hC, hD, w, w2, q1, q2, q3, mk hE, mk0 hE, hE, allB, isSm, cond_true, cond_false, Bool.not_true, Bool.not_false, Bool.true_and, Bool.false_and, Bool.and_true, Bool.and_false, Bool.true_or, Bool.or_true, Bool.false_or, Bool.or_false, Bool.and_self, decide_true, Int.le_refl]
      all_goals
        simp only [Wh.impl_SolverOk_l0, hi', h0, Int.toNat_natCast, Int.toNat_zero, eA, eB, f1, f2, hr', hr, d1, d2, d3, d4, g0, gz, hA, hB, hC, hD, w, w2, q1, q2, q3, eqP, allB, isSm, cond_true, cond_false, Bool.not_true, Bool.not_false, Bool.true_and, Bool.false_and, Bool.and_true, Bool.and_false, Bool.true_or, Bool.or_true, Bool.false_or, Bool.or_false, Bool.and_self, decide_true, Int.le_refl]
  have e0 : ((mkN (heads s 0) : Nat) : Int) = 0 := rfl
  refine e0 ▸ comes_all (fun i => (((i : Int), ((mkN (heads s i) : Nat) : Int), (), s.2.2.1, (s.2.2.1.length : Int)), s)) ?_ ?_ ?_
  · intro i hi hp h
    rw [rnd i hi hp, h]; rfl
  · intro i hi hp h
    rw [rnd i hi hp, h]; rfl
  · simp [Wh.impl_SolverOk_l0]

def tailA (s : tImplSolver.D) (k : Nat) : List Int := (eqA s k).1.drop 1
def maskP (s : tImplSolver.D) (k : Nat) : Bool := decide (mkN (tailA s k) &&& mkN (heads s s.2.2.1.length) = 0)

theorem impl_Solver_out (s : tImplSolver.D) (hs : SmSolver s) (ha : allN s.2.2.1.length (eqP s) = true) :
    Comes Wh.impl_SolverOk_l1 (((0 : Int), ((mkN (heads s s.2.2.1.length) : Nat) : Int), s.2.2.1, (s.2.2.1.length : Int)), ()) (if allN s.2.2.1.length (maskP s) = true then .inr ((), ()) else .inl (false, ())) := by
  have rnd : ∀ k, k < s.2.2.1.length → Wh.impl_SolverOk_l1 (((k : Int), ((mkN (heads s s.2.2.1.length) : Nat) : Int), s.2.2.1, (s.2.2.1.length : Int)), ()) = bif maskP s k then some (.inl ((((k + 1 : Nat) : Int), ((mkN (heads s s.2.2.1.length) : Nat) : Int), s.2.2.1, (s.2.2.1.length : Int)), ())) else some (.inr (.inl (false, ()))) := by
    intro k hk
    have hm := eqA_mem s k hk
    have hl := hs.2 _ hm
    have hq := allN_iff.1 ha k hk
    simp only [eqP, Bool.and_eq_true, decide_eq_true_eq] at hq
    have hne := hq.1.1.2
    have hmem : ∀ x ∈ tailA s k, 0 ≤ x ∧ x < 24 := fun x hx => rowOk_mem hq.1.1.1 x (List.mem_of_mem_drop hx)
    have hr := impl_mask_eq (tailA s k) (by rw [tailA, List.length_drop]; omega) hmem
    have hr' : Wh.impl_mask' (tailA s k) = (((mkN (tailA s k) : Nat) : Int), ()) := by simp only [Wh.impl_mask', hr]
    have eA : List.getD s.2.2.1 k ([], [], ()) = eqA s k := rfl
    have et : List.take (Int.toNat (((eqA s k).1.length : Int) - 1)) (List.drop (Int.toNat 1) (eqA s k).1) = tailA s k := by
      rw [tailA]
      exact List.take_of_length_le (by simp)
    have hk' : decide ((k : Int) < (s.2.2.1.length : Int)) = true := by simpa using hk
    have h0 : decide ((0 : Int) ≤ (k : Int)) = true := by simp
    have h1 : decide ((1 : Int) ≤ ((eqA s k).1.length : Int)) = true := by simp; omega
    have w := wrapN (i := k) (by have := hs.1; omega)
    have ea := and32 (mkN_lt _ fun x hx => (hmem x hx).2) (mkN_lt _ (heads_lt (allN_iff.1 ha)))
    have en : (((mkN (tailA s k) &&& mkN (heads s s.2.2.1.length) : Nat) : Int) != 0) = !maskP s k := by
      unfold maskP
      by_cases e : mkN (tailA s k) &&& mkN (heads s s.2.2.1.length) = 0
      · rw [e]; rfl
      · rw [decide_eq_false e, Bool.not_false, bne_iff_ne]; omega
    cases hc : maskP s k <;>
      simp only [Wh.impl_SolverOk_l1, hk', h0, h1, Int.toNat_natCast, eA, et, hr, hr', ea, en, hc, w, allB, isSm, cond_true, cond_false, Bool.not_true, Bool.not_false, Bool.and_self, decide_true, Int.le_refl]
  refine comes_all (fun k => (((k : Int), ((mkN (heads s s.2.2.1.length) : Nat) : Int), s.2.2.1, (s.2.2.1.length : Int)), ())) ?_ ?_ ?_
  · intro k hk _ h
    rw [rnd k hk, h]; rfl
  · intro k hk _ h
    rw [rnd k hk, h]; rfl
  · simp [Wh.impl_SolverOk_l1]

end Pl
