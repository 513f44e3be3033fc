import Derived.Test.YtpdphbjjfepigaaP4
open Go Go.Ab
namespace Pl

theorem asc {f : Nat → Int} {n : Nat} (h : ∀ i, 0 < i → i < n → f (i - 1) < f i) : ∀ j i, i < j → j < n → f i < f j := by
  intro j
  induction j with
  | zero => intro i hi; omega
  | succ j ih =>
    intro i hi hj
    have h1 : f j < f (j + 1) := h (j + 1) (by omega) hj
    by_cases e : i = j
    · subst e; exact h1
    · have := ih i (by omega) (by omega)
      omega

theorem row_asc {row : List Int} {count : Int} (h : rowOk row count = true) (m : Nat) (hm : 0 < m) (hl : m < row.length) : row.getD 0 0 < row.getD m 0 := by
  simp only [rowOk, Bool.and_eq_true] at h
  refine asc (f := fun i => row.getD i 0) (n := row.length) ?_ m 0 hm hl
  intro i h0 hi
  have := allN_iff.1 h.1 i hi
  simp only [rowP, Bool.and_eq_true, Bool.or_eq_true, decide_eq_true_eq] at this
  exact this.2.resolve_left (by omega)

theorem heads_asc {s : tImplSolver.D} (h : allN s.2.2.1.length (eqP s) = true) : ∀ j i, i < j → j < s.2.2.1.length → headA s i < headA s j := by
  refine asc ?_
  intro i h0 hi
  have := allN_iff.1 h i hi
  simp only [eqP, Bool.and_eq_true, Bool.or_eq_true, decide_eq_true_eq] at this
  exact this.2.resolve_left (by omega)

theorem rowOk_of {s : tImplSolver.D} (h : allN s.2.2.1.length (eqP s) = true) {k : Nat} (hk : k < s.2.2.1.length) : rowOk (eqA s k).1 s.1 = true := by
  have := allN_iff.1 h k hk
  simp only [eqP, Bool.and_eq_true] at this
  exact this.1.1.1

theorem mem_tail {s : tImplSolver.D} {k : Nat} {x : Int} : x ∈ tailA s k ↔ ∃ m, 0 < m ∧ m < (eqA s k).1.length ∧ (eqA s k).1.getD m 0 = x := by
  rw [tailA, List.mem_iff_getElem]
  constructor
  · rintro ⟨i, hi, e⟩
    rw [List.length_drop] at hi
    refine ⟨i + 1, by omega, by omega, ?_⟩
    rw [getD_eq _ _ _ (by omega : i + 1 < (eqA s k).1.length)]
    rw [List.getElem_drop] at e
    simpa [Nat.add_comm] using e
  · rintro ⟨m, h0, hm, e⟩
    refine ⟨m - 1, by rw [List.length_drop]; omega, ?_⟩
    rw [List.getElem_drop]
    rw [getD_eq _ _ _ hm] at e
    have : 1 + (m - 1) = m := by omega
    simp only [this]
    exact e

theorem mem_heads {s : tImplSolver.D} {n : Nat} {x : Int} : x ∈ heads s n ↔ ∃ i, i < n ∧ headA s i = x := by simp [heads]

theorem maskP_iff {s : tImplSolver.D} (ha : allN s.2.2.1.length (eqP s) = true) {k : Nat} (hk : k < s.2.2.1.length) :
    maskP s k = true ↔ ∀ i, i < s.2.2.1.length → headA s i ∉ tailA s k := by
  have hr := rowOk_of ha hk
  unfold maskP
  rw [decide_eq_true_eq]
  constructor
  · intro h i hi hm
    have h1 : (mkN (tailA s k)).testBit (headA s i).toNat = true := by
      rw [mkN_test, List.any_eq_true]; exact ⟨_, hm, by simp⟩
    have h2 : (mkN (heads s s.2.2.1.length)).testBit (headA s i).toNat = true := by
      rw [mkN_test, List.any_eq_true]; exact ⟨_, mem_heads.2 ⟨i, hi, rfl⟩, by simp⟩
    have : (mkN (tailA s k) &&& mkN (heads s s.2.2.1.length)).testBit (headA s i).toNat = true := by rw [Nat.testBit_and, h1, h2]; rfl
    rw [h, Nat.zero_testBit] at this; cases this
  · intro h
    apply Nat.eq_of_testBit_eq
    intro j
    rw [Nat.testBit_and, Nat.zero_testBit, mkN_test, mkN_test, Bool.and_eq_false_iff]
    cases h1 : (tailA s k).any fun x => decide (x.toNat = j) with
    | false => exact .inl rfl
    | true =>
      refine .inr ?_
      cases h2 : (heads s s.2.2.1.length).any fun x => decide (x.toNat = j) with
      | false => rfl
      | true =>
        exfalso
        obtain ⟨x, hx, ex⟩ := List.any_eq_true.1 h1
        obtain ⟨y, hy, ey⟩ := List.any_eq_true.1 h2
        simp only [decide_eq_true_eq] at ex ey
        obtain ⟨i, hi, rfl⟩ := mem_heads.1 hy
        have b1 := headA_ok (allN_iff.1 ha i hi)
        have b2 := rowOk_mem hr x (List.mem_of_mem_drop hx)
        have : x = headA s i := by omega
        subst this
        exact h i hi hx

theorem cross_eq {s : tImplSolver.D} (ha : allN s.2.2.1.length (eqP s) = true) : allN s.2.2.1.length (maskP s) = cross s := by
  have hne := eqP_ne ha
  have key : allN s.2.2.1.length (maskP s) = true ↔ cross s = true := by
    rw [allN_iff, cross, allN_iff]
    constructor
    · intro h i hi
      rw [allN_iff]
      intro k hk
      simp only [crossP, Bool.or_eq_true, decide_eq_true_eq]
      by_cases e : k = i
      · exact .inl e
      · refine .inr ?_
        cases hh : hasA (eqA s k).1 (headA s i) with
        | false => rfl
        | true =>
          exfalso
          obtain ⟨j, hj, ej⟩ := (hasA_iff _ _).1 hh
          rcases Nat.eq_zero_or_pos j with hz | hz
          · subst hz
            have e2 : headA s k = headA s i := ej
            rcases Nat.lt_or_gt_of_ne e with hlt | hlt
            · have := heads_asc ha i k hlt hi; omega
            · have := heads_asc ha k i hlt hk; omega
          · exact (maskP_iff ha hk).1 (h k hk) i hi (mem_tail.2 ⟨j, hz, hj, ej⟩)
    · intro h k hk
      rw [maskP_iff ha hk]
      intro i hi hm
      obtain ⟨m, h0, hml, e⟩ := mem_tail.1 hm
      have := allN_iff.1 (h i hi) k hk
      simp only [crossP, Bool.or_eq_true, decide_eq_true_eq] at this
      rcases this with hki | hn
      · subst hki
        have := row_asc (rowOk_of ha hk) m h0 hml
        rw [e] at this
        unfold headA at this
        omega
      · have : hasA (eqA s k).1 (headA s i) = true := (hasA_iff _ _).2 ⟨m, hml, e⟩
        rw [this] at hn; cases hn
  cases h1 : allN s.2.2.1.length (maskP s) <;> cases h2 : cross s
  · rfl
  · rw [key.2 h2] at h1; cases h1
  · rw [key.1 h1] at h2; cases h2
  · rfl

theorem impl_SolverOk_eq (s : tImplSolver.D) (hs : SmSolver s) : Wh.impl_SolverOk s = some (solverOk s, ()) := by
  by_cases a1 : 1 ≤ s.1 ∧ s.1 ≤ 24
  case neg => simp [Wh.impl_SolverOk, Wh.impl_within', within_eq, allB, isSm, a1, solverOk]
  by_cases a2 : 1 ≤ s.2.1 ∧ s.2.1 ≤ 16
  case neg => simp [Wh.impl_SolverOk, Wh.impl_within', within_eq, allB, isSm, a1, a2, solverOk]
  have hl := impl_Solver_loop s hs a1
  cases h1 : allN s.2.2.1.length (eqP s) with
  | false =>
    rw [h1, if_neg (by simp)] at hl
    simp [Wh.impl_SolverOk, Wh.impl_within', within_eq, allB, isSm, a1, a2, solverOk, cb hl, cv hl, h1]
  | true =>
    rw [h1, if_pos rfl] at hl
    have hl2 := impl_Solver_out s hs h1
    rw [cross_eq h1] at hl2
    cases h2 : cross s with
    | false =>
      rw [h2, if_neg (by simp)] at hl2
      simp [Wh.impl_SolverOk, Wh.impl_within', within_eq, allB, isSm, a1, a2, solverOk, cb hl, cv hl, h1, h2]
      dsimp only [sumC]
      simp only [cb hl2, cv hl2, cond_true]
    | true =>
      rw [h2, if_pos rfl] at hl2
      simp [Wh.impl_SolverOk, Wh.impl_within', within_eq, allB, isSm, a1, a2, solverOk, cb hl, cv hl, h1, h2]
      dsimp only [sumC]
      simp only [cb hl2, cv hl2, cond_true]

end Pl
