import Derived.Test.YtpdphbjjfepigaaP3
open Go Go.Ab
namespace Pl

/-! ### plans -/
def cnt (p : tImplPlan.D) : Int := (p.1 + p.2.1 - 1).tdiv p.2.1

theorem cnt_bound (p : tImplPlan.D) (h1 : 1 ≤ p.1 ∧ p.1 ≤ 300) (h2 : 1 ≤ p.2.1 ∧ p.2.1 ≤ 16) : 1 ≤ cnt p ∧ cnt p ≤ 400 := by
  unfold cnt
  rw [Int.tdiv_eq_ediv_of_nonneg (by omega)]
  constructor
  · exact (Int.le_ediv_iff_mul_le (by omega)).2 (by omega)
  · have : (p.1 + p.2.1 - 1) / p.2.1 ≤ (p.1 + p.2.1 - 1) := Int.ediv_le_self _ (by omega)
    omega

theorem spec_count_eq (p : tImplPlan.D) (h1 : 1 ≤ p.1 ∧ p.1 ≤ 300) (h2 : 1 ≤ p.2.1 ∧ p.2.1 ≤ 16) : Wh.spec_l5Count p = some (cnt p, ()) := by
  have hb := cnt_bound p h1 h2
  have e1 : IntKind.wrap .i64 (p.1 + p.2.1) = p.1 + p.2.1 := by rw [wrap64] <;> omega
  have e2 : IntKind.wrap .i64 (p.1 + p.2.1 - 1) = p.1 + p.2.1 - 1 := by rw [wrap64] <;> omega
  have e3 : IntKind.wrap .i64 ((p.1 + p.2.1 - 1).tdiv p.2.1) = (p.1 + p.2.1 - 1).tdiv p.2.1 := by unfold cnt at hb; rw [wrap64] <;> omega
  have hz : (p.2.1 != 0) = true := by simp; omega
  simp [Wh.spec_l5Count, e1, e2, e3, allB, cnt, hz]
theorem impl_count_eq (p : tImplPlan.D) (h1 : 1 ≤ p.1 ∧ p.1 ≤ 300) (h2 : 1 ≤ p.2.1 ∧ p.2.1 ≤ 16) : Wh.impl_Plan_count p = some (cnt p, ()) := by
  have hb := cnt_bound p h1 h2
  have e1 : IntKind.wrap .i64 (p.1 + p.2.1) = p.1 + p.2.1 := by rw [wrap64] <;> omega
  have e2 : IntKind.wrap .i64 (p.1 + p.2.1 - 1) = p.1 + p.2.1 - 1 := by rw [wrap64] <;> omega
  have e3 : IntKind.wrap .i64 ((p.1 + p.2.1 - 1).tdiv p.2.1) = (p.1 + p.2.1 - 1).tdiv p.2.1 := by unfold cnt at hb; rw [wrap64] <;> omega
  have hz : (p.2.1 != 0) = true := by simp; omega
  simp [Wh.impl_Plan_count, e1, e2, e3, allB, cnt, hz]

def planP (p : tImplPlan.D) (i : Nat) : Bool :=
  decide (1 ≤ p.2.2.1.getD i 0 ∧ p.2.2.1.getD i 0 ≤ cnt p) && (decide (i = 0) || decide (p.2.2.1.getD (i - 1) 0 < p.2.2.1.getD i 0)) && decide (1 ≤ p.2.2.2.1.getD i 0 ∧ p.2.2.2.1.getD i 0 ≤ 99)
def planA (p : tImplPlan.D) : Bool := decide (1 ≤ p.1 ∧ p.1 ≤ 300) && decide (1 ≤ p.2.1 ∧ p.2.1 ≤ 16) && decide (cnt p ≤ 24) && decide (1 ≤ p.2.2.1.length ∧ p.2.2.1.length ≤ 3) && decide (p.2.2.2.1.length = p.2.2.1.length)
def planOk (p : tImplPlan.D) : Bool := planA p && allN p.2.2.1.length (planP p) && decide (p.2.2.1.getD (p.2.2.1.length - 1) 0 = cnt p)

theorem spec_PlanOk_loop (p : tImplPlan.D) (h : planA p = true) : Comes Wh.spec_PlanOk_l0 (((0 : Int), ()), p) (if allN p.2.2.1.length (planP p) = true then .inr ((), p) else .inl (false, ())) := by
  simp only [planA, Bool.and_eq_true, decide_eq_true_eq] at h
  obtain ⟨⟨⟨⟨a1, a2⟩, a3⟩, a4⟩, a5⟩ := h
  have hc := spec_count_eq p a1 a2
  refine comes_all (fun i => (((i : Int), ()), p)) ?_ ?_ ?_
  · intro i hi _ hp
    have hi2 : i < p.2.2.2.1.length := by omega
    have e0 : p.2.2.1.getD i 0 = p.2.2.1[i] := by simp [hi]
    have e1 : p.2.2.2.1.getD i 0 = p.2.2.2.1[i] := by simp [hi2]
    simp only [planP, Bool.and_eq_true, Bool.or_eq_true, decide_eq_true_eq, e0, e1] at hp
    obtain ⟨⟨hp1, hp2⟩, hp3⟩ := hp
    have h3 := wrapN (i := i) (by omega)
    have h5 := wrapP (i := i) (by omega)
    by_cases hz : i = 0
    · subst hz
      simp [Wh.spec_PlanOk_l0, hi, hi2, allB, wrap1, Wh.spec_l1In', Wh.spec_l5Count', hc, l1In_eq, isSm, hp1, hp3]
    · have h6 : (0 : Int) < i := by omega
      have h8 : ((i : Int) - 1).toNat = i - 1 := by omega
      have h10 : i - 1 < p.2.2.1.length := by omega
      have h9 : ¬ p.2.2.1[i] ≤ p.2.2.1[i - 1] := by
        have : p.2.2.1.getD (i - 1) 0 = p.2.2.1[i - 1] := by simp [h10]
        have := hp2.resolve_left hz
        omega
      have h11 : (0 : Int) ≤ (i : Int) - 1 := by omega
      have h12 : (i : Int) - 1 < p.2.2.1.length := by omega
      have h13 : (1 : Int) ≤ i := by omega
      simp [Wh.spec_PlanOk_l0, hi, hi2, allB, h3, h5, h6, h8, h9, h10, h11, h12, h13, Wh.spec_l1In', Wh.spec_l5Count', hc, l1In_eq, isSm, hp1, hp3, show 0 < i by omega]
  · intro i hi _ hp
    have hi2 : i < p.2.2.2.1.length := by omega
    have e0 : p.2.2.1.getD i 0 = p.2.2.1[i] := by simp [hi]
    have e1 : p.2.2.2.1.getD i 0 = p.2.2.2.1[i] := by simp [hi2]
    simp only [planP, Bool.and_eq_false_iff, Bool.or_eq_false_iff, decide_eq_false_iff_not, e0, e1] at hp
    have h5 := wrapP (i := i) (by omega)
    by_cases hp1 : 1 ≤ p.2.2.1[i] ∧ p.2.2.1[i] ≤ cnt p
    · by_cases hz : i = 0
      · subst hz
        have hp3 : ¬ ((1 : Int) ≤ p.2.2.2.1[0] ∧ p.2.2.2.1[0] ≤ (99 : Int)) := by
          rcases hp with (hp | hp) | hp
          · exact absurd hp1 hp
          · exact absurd rfl hp.1
          · exact hp
        simp [Wh.spec_PlanOk_l0, hi, hi2, allB, Wh.spec_l1In', Wh.spec_l5Count', hc, l1In_eq, isSm, hp1, hp3]
      · have h6 : (0 : Int) < i := by omega
        have h8 : ((i : Int) - 1).toNat = i - 1 := by omega
        have h10 : i - 1 < p.2.2.1.length := by omega
        have e2 : p.2.2.1.getD (i - 1) 0 = p.2.2.1[i - 1] := by simp [h10]
        rw [e2] at hp
        have h11 : (0 : Int) ≤ (i : Int) - 1 := by omega
        have h12 : (i : Int) - 1 < p.2.2.1.length := by omega
        have h13 : (1 : Int) ≤ i := by omega
        by_cases h9 : p.2.2.1[i] ≤ p.2.2.1[i - 1]
        · simp [Wh.spec_PlanOk_l0, hi, allB, h5, h6, h8, h9, h10, h11, h12, h13, Wh.spec_l1In', Wh.spec_l5Count', hc, l1In_eq, isSm, hp1, show 0 < i by omega]
        · have hp3 : ¬ (1 ≤ p.2.2.2.1[i] ∧ p.2.2.2.1[i] ≤ 99) := by
            rcases hp with (hp | hp) | hp
            · exact absurd hp1 hp
            · exact absurd hp.2 (by omega)
            · exact hp
          simp [Wh.spec_PlanOk_l0, hi, hi2, allB, h5, h6, h8, h9, h10, h11, h12, h13, Wh.spec_l1In', Wh.spec_l5Count', hc, l1In_eq, isSm, hp1, hp3, show 0 < i by omega]
    · simp [Wh.spec_PlanOk_l0, hi, allB, Wh.spec_l1In', Wh.spec_l5Count', hc, l1In_eq, isSm, hp1]
  · simp [Wh.spec_PlanOk_l0]

theorem spec_PlanOk_eq (p : tImplPlan.D) : Wh.spec_PlanOk p = some (planOk p, ()) := by
  by_cases a1 : 1 ≤ p.1 ∧ p.1 ≤ 300
  case neg => simp [Wh.spec_PlanOk, Wh.spec_l1In', l1In_eq, allB, isSm, a1, planOk, planA]
  by_cases a2 : 1 ≤ p.2.1 ∧ p.2.1 ≤ 16
  case neg => simp [Wh.spec_PlanOk, Wh.spec_l1In', l1In_eq, allB, isSm, a1, a2, planOk, planA]
  have hc := spec_count_eq p a1 a2
  have hb := cnt_bound p a1 a2
  by_cases a3 : cnt p ≤ 24
  case neg => simp [Wh.spec_PlanOk, Wh.spec_l1In', Wh.spec_l5Count', hc, l1In_eq, allB, isSm, a1, a2, a3, planOk, planA]
  by_cases a4 : 1 ≤ p.2.2.1.length ∧ p.2.2.1.length ≤ 3
  case neg =>
    have a4' : ¬ ((1 : Int) ≤ (p.2.2.1.length : Int) ∧ (p.2.2.1.length : Int) ≤ 3) := by omega
    simp only [Wh.spec_PlanOk, Wh.spec_l1In', Wh.spec_l5Count', hc, l1In_eq, allB, isSm, a1, a2, a3, a4, a4', hb.1, planOk, planA, and_self, decide_true, decide_false, Bool.not_true, Bool.not_false, cond_true, cond_false, Bool.true_and, Bool.false_and, Bool.and_false, Bool.true_or, Bool.or_true, Bool.and_self]
  by_cases a5 : p.2.2.2.1.length = p.2.2.1.length
  case neg =>
    have a4' : ((1 : Int) ≤ (p.2.2.1.length : Int) ∧ (p.2.2.1.length : Int) ≤ 3) := by omega
    have a5' : ((p.2.2.2.1.length : Int) != (p.2.2.1.length : Int)) = true := by simp; omega
    simp only [Wh.spec_PlanOk, Wh.spec_l1In', Wh.spec_l5Count', hc, l1In_eq, allB, isSm, a1, a2, a3, a4, a4', a5, a5', hb.1, planOk, planA, and_self, decide_true, decide_false, Bool.not_true, Bool.not_false, cond_true, cond_false, Bool.true_and, Bool.false_and, Bool.and_false, Bool.true_or, Bool.or_true, Bool.and_self]
  have hA : planA p = true := by simp only [planA, a1, a2, a3, a4, a5, and_self, decide_true, Bool.and_self]
  have hl := spec_PlanOk_loop p hA
  have a4' : ((1 : Int) ≤ (p.2.2.1.length : Int) ∧ (p.2.2.1.length : Int) ≤ 3) := by omega
  have a5' : ((p.2.2.2.1.length : Int) != (p.2.2.1.length : Int)) = false := by simp; omega
  have w1 : IntKind.wrap .i64 ((p.2.2.1.length : Int) - 1) = (p.2.2.1.length : Int) - 1 := wrapP (by omega)
  have w2 : ((p.2.2.1.length : Int) - 1).toNat = p.2.2.1.length - 1 := by omega
  have w3 : (0 : Int) ≤ (p.2.2.1.length : Int) - 1 := by omega
  have w4 : (p.2.2.1.length : Int) - 1 < (p.2.2.1.length : Int) := by omega
  cases hp : allN p.2.2.1.length (planP p) with
  | true =>
    rw [hp, if_pos rfl] at hl
    simp only [Wh.spec_PlanOk, cb hl, cv hl, Wh.spec_l1In', Wh.spec_l5Count', hc, l1In_eq, allB, isSm, a1, a2, a3, a4', a5', hb.1, planOk, hA, hp, w1, w2, w3, w4, and_self, decide_true, decide_false, Bool.not_true, Bool.not_false, cond_true, cond_false, Bool.true_and, Bool.false_and, Bool.and_false, Bool.true_or, Bool.or_true, Bool.and_self]
    dsimp only [sumC]
    simp only [hc, w1, w2, w3, w4, decide_true, Bool.and_self, cond_true]
    rfl
  | false =>
    rw [hp, if_neg (by simp)] at hl
    simp only [Wh.spec_PlanOk, cb hl, cv hl, Wh.spec_l1In', Wh.spec_l5Count', hc, l1In_eq, allB, isSm, a1, a2, a3, a4', a5', hb.1, planOk, hA, hp, and_self, decide_true, decide_false, Bool.not_true, Bool.not_false, cond_true, cond_false, Bool.true_and, Bool.false_and, Bool.and_false, Bool.true_or, Bool.or_true, Bool.and_self]

theorem impl_PlanOk_loop (p : tImplPlan.D) (h : planA p = true) : Comes Wh.impl_PlanOk_l0 (((0 : Int), (), p.2.2.1, (p.2.2.1.length : Int)), p) (if allN p.2.2.1.length (planP p) = true then .inr ((), ()) else .inl (false, ())) := by
  simp only [planA, Bool.and_eq_true, decide_eq_true_eq] at h
  obtain ⟨⟨⟨⟨a1, a2⟩, a3⟩, a4⟩, a5⟩ := h
  have hc := impl_count_eq p a1 a2
  refine comes_all (fun i => (((i : Int), (), p.2.2.1, (p.2.2.1.length : Int)), p)) ?_ ?_ ?_
  · intro i hi _ hp
    have hi2 : i < p.2.2.2.1.length := by omega
    have e0 : p.2.2.1.getD i 0 = p.2.2.1[i] := by simp [hi]
    have e1 : p.2.2.2.1.getD i 0 = p.2.2.2.1[i] := by simp [hi2]
    simp only [planP, Bool.and_eq_true, Bool.or_eq_true, decide_eq_true_eq, e0, e1] at hp
    obtain ⟨⟨hp1, hp2⟩, hp3⟩ := hp
    have h3 := wrapN (i := i) (by omega)
    have h5 := wrapP (i := i) (by omega)
    by_cases hz : i = 0
    · subst hz
      simp [Wh.impl_PlanOk_l0, hi, hi2, allB, wrap1, Wh.impl_within', Wh.impl_Plan_count', hc, within_eq, isSm, hp1, hp3]
    · have h6 : (0 : Int) < i := by omega
      have h8 : ((i : Int) - 1).toNat = i - 1 := by omega
      have h10 : i - 1 < p.2.2.1.length := by omega
      have h9 : ¬ p.2.2.1[i] ≤ p.2.2.1[i - 1] := by
        have : p.2.2.1.getD (i - 1) 0 = p.2.2.1[i - 1] := by simp [h10]
        have := hp2.resolve_left hz
        omega
      have h11 : (0 : Int) ≤ (i : Int) - 1 := by omega
      have h12 : (i : Int) - 1 < p.2.2.1.length := by omega
      have h13 : (1 : Int) ≤ i := by omega
      simp [Wh.impl_PlanOk_l0, hi, hi2, allB, h3, h5, h6, h8, h9, h10, h11, h12, h13, Wh.impl_within', Wh.impl_Plan_count', hc, within_eq, isSm, hp1, hp3, show 0 < i by omega]
  · intro i hi _ hp
    have hi2 : i < p.2.2.2.1.length := by omega
    have e0 : p.2.2.1.getD i 0 = p.2.2.1[i] := by simp [hi]
    have e1 : p.2.2.2.1.getD i 0 = p.2.2.2.1[i] := by simp [hi2]
    simp only [planP, Bool.and_eq_false_iff, Bool.or_eq_false_iff, decide_eq_false_iff_not, e0, e1] at hp
    have h5 := wrapP (i := i) (by omega)
    by_cases hp1 : 1 ≤ p.2.2.1[i] ∧ p.2.2.1[i] ≤ cnt p
    · by_cases hz : i = 0
      · subst hz
        have hp3 : ¬ ((1 : Int) ≤ p.2.2.2.1[0] ∧ p.2.2.2.1[0] ≤ (99 : Int)) := by
          rcases hp with (hp | hp) | hp
          · exact absurd hp1 hp
          · exact absurd rfl hp.1
          · exact hp
        simp [Wh.impl_PlanOk_l0, hi, hi2, allB, Wh.impl_within', Wh.impl_Plan_count', hc, within_eq, isSm, hp1, hp3]
      · have h6 : (0 : Int) < i := by omega
        have h8 : ((i : Int) - 1).toNat = i - 1 := by omega
        have h10 : i - 1 < p.2.2.1.length := by omega
        have e2 : p.2.2.1.getD (i - 1) 0 = p.2.2.1[i - 1] := by simp [h10]
        rw [e2] at hp
        have h11 : (0 : Int) ≤ (i : Int) - 1 := by omega
        have h12 : (i : Int) - 1 < p.2.2.1.length := by omega
        have h13 : (1 : Int) ≤ i := by omega
        by_cases h9 : p.2.2.1[i] ≤ p.2.2.1[i - 1]
        · simp [Wh.impl_PlanOk_l0, hi, allB, h5, h6, h8, h9, h10, h11, h12, h13, Wh.impl_within', Wh.impl_Plan_count', hc, within_eq, isSm, hp1, show 0 < i by omega]
        · have hp3 : ¬ (1 ≤ p.2.2.2.1[i] ∧ p.2.2.2.1[i] ≤ 99) := by
            rcases hp with (hp | hp) | hp
            · exact absurd hp1 hp
            · exact absurd hp.2 (by omega)
            · exact hp
          simp [Wh.impl_PlanOk_l0, hi, hi2, allB, h5, h6, h8, h9, h10, h11, h12, h13, Wh.impl_within', Wh.impl_Plan_count', hc, within_eq, isSm, hp1, hp3, show 0 < i by omega]
    · simp [Wh.impl_PlanOk_l0, hi, allB, Wh.impl_within', Wh.impl_Plan_count', hc, within_eq, isSm, hp1]
  · simp [Wh.impl_PlanOk_l0]

theorem impl_PlanOk_eq (p : tImplPlan.D) : Wh.impl_PlanOk p = some (planOk p, ()) := by
  by_cases a1 : 1 ≤ p.1 ∧ p.1 ≤ 300
  case neg => simp [Wh.impl_PlanOk, Wh.impl_within', within_eq, allB, isSm, a1, planOk, planA]
  by_cases a2 : 1 ≤ p.2.1 ∧ p.2.1 ≤ 16
  case neg => simp [Wh.impl_PlanOk, Wh.impl_within', within_eq, allB, isSm, a1, a2, planOk, planA]
  have hc := impl_count_eq p a1 a2
  have hb := cnt_bound p a1 a2
  by_cases a3 : cnt p ≤ 24
  case neg =>
    have a3' : cnt p > 24 := by omega
    simp [Wh.impl_PlanOk, Wh.impl_within', Wh.impl_Plan_count', hc, within_eq, allB, isSm, a1, a2, a3, a3', planOk, planA]
  have a3' : ¬ cnt p > 24 := by omega
  by_cases a4 : 1 ≤ p.2.2.1.length ∧ p.2.2.1.length ≤ 3
  case neg =>
    have a4' : ¬ ((1 : Int) ≤ (p.2.2.1.length : Int) ∧ (p.2.2.1.length : Int) ≤ 3) := by omega
    simp only [Wh.impl_PlanOk, Wh.impl_within', Wh.impl_Plan_count', hc, within_eq, allB, isSm, a1, a2, a3, a3', a4, a4', planOk, planA, and_self, decide_true, decide_false, Bool.not_true, Bool.not_false, cond_true, cond_false, Bool.true_and, Bool.false_and, Bool.and_false, Bool.true_or, Bool.or_true, Bool.and_self]
  by_cases a5 : p.2.2.2.1.length = p.2.2.1.length
  case neg =>
    have a4' : ((1 : Int) ≤ (p.2.2.1.length : Int) ∧ (p.2.2.1.length : Int) ≤ 3) := by omega
    have a5' : ((p.2.2.2.1.length : Int) != (p.2.2.1.length : Int)) = true := by simp; omega
    simp only [Wh.impl_PlanOk, Wh.impl_within', Wh.impl_Plan_count', hc, within_eq, allB, isSm, a1, a2, a3, a3', a4, a4', a5, a5', planOk, planA, and_self, decide_true, decide_false, Bool.not_true, Bool.not_false, cond_true, cond_false, Bool.true_and, Bool.false_and, Bool.and_false, Bool.true_or, Bool.or_true, Bool.and_self]
  have hA : planA p = true := by simp only [planA, a1, a2, a3, a4, a5, and_self, decide_true, Bool.and_self]
  have hl := impl_PlanOk_loop p hA
  have a4' : ((1 : Int) ≤ (p.2.2.1.length : Int) ∧ (p.2.2.1.length : Int) ≤ 3) := by omega
  have a5' : ((p.2.2.2.1.length : Int) != (p.2.2.1.length : Int)) = false := by simp; omega
  have w1 : IntKind.wrap .i64 ((p.2.2.1.length : Int) - 1) = (p.2.2.1.length : Int) - 1 := wrapP (by omega)
  have w2 : ((p.2.2.1.length : Int) - 1).toNat = p.2.2.1.length - 1 := by omega
  have w3 : (0 : Int) ≤ (p.2.2.1.length : Int) - 1 := by omega
  have w4 : (p.2.2.1.length : Int) - 1 < (p.2.2.1.length : Int) := by omega
  by_cases a6 : p.2.2.1.getD (p.2.2.1.length - 1) 0 = cnt p
  case neg =>
    have a6' : (p.2.2.1.getD (p.2.2.1.length - 1) 0 != cnt p) = true := by simpa using a6
    simp only [Wh.impl_PlanOk, Wh.impl_within', Wh.impl_Plan_count', hc, within_eq, allB, isSm, a1, a2, a3', a4', a5', a6, a6', planOk, hA, w1, w2, w3, w4, and_self, decide_true, decide_false, Bool.not_true, Bool.not_false, cond_true, cond_false, Bool.true_and, Bool.false_and, Bool.and_false, Bool.true_or, Bool.or_true, Bool.and_self]
  have a6' : (p.2.2.1.getD (p.2.2.1.length - 1) 0 != cnt p) = false := by simpa using a6
  have a7 : decide (p.2.2.1.getD (p.2.2.1.length - 1) 0 = cnt p) = true := by simpa using a6
  cases hp : allN p.2.2.1.length (planP p) with
  | true =>
    rw [hp, if_pos rfl] at hl
    simp only [Wh.impl_PlanOk, cb hl, cv hl, Wh.impl_within', Wh.impl_Plan_count', hc, within_eq, allB, isSm, a1, a2, a3', a4', a5', a6', a7, planOk, hA, hp, w1, w2, w3, w4, and_self, decide_true, decide_false, Bool.not_true, Bool.not_false, cond_true, cond_false, Bool.true_and, Bool.false_and, Bool.and_false, Bool.true_or, Bool.or_true, Bool.and_self]
  | false =>
    rw [hp, if_neg (by simp)] at hl
    simp only [Wh.impl_PlanOk, cb hl, cv hl, Wh.impl_within', Wh.impl_Plan_count', hc, within_eq, allB, isSm, a1, a2, a3', a4', a5', a6', a7, planOk, hA, hp, w1, w2, w3, w4, and_self, decide_true, decide_false, Bool.not_true, Bool.not_false, cond_true, cond_false, Bool.true_and, Bool.false_and, Bool.and_false, Bool.true_or, Bool.or_true, Bool.and_self]

end Pl
