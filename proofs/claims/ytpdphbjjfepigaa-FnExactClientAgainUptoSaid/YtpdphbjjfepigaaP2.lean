import Derived.Test.YtpdphbjjfepigaaP1
open Go Go.Ab
namespace Pl

theorem l1In_eq (n lo hi : Int) : Wh.spec_l1In (n, lo, hi) = some (decide (lo ≤ n ∧ n ≤ hi), ()) := by
  by_cases h : lo ≤ n <;> simp [Wh.spec_l1In, h]
theorem within_eq (n lo hi : Int) : Wh.impl_within (n, lo, hi) = some (decide (lo ≤ n ∧ n ≤ hi), ()) := by
  by_cases h : lo ≤ n <;> simp [Wh.impl_within, h]
theorem clientOf_eq (n : Int) : Wh.impl_clientOf n = some (decide (0 ≤ n ∧ n ≤ 3), ()) := by
  simp [Wh.impl_clientOf, Wh.impl_within', within_eq, allB, isSm]

def allN : Nat → (Nat → Bool) → Bool
  | 0, _ => true
  | n + 1, p => allN n p && p n

theorem allN_iff {p : Nat → Bool} : ∀ {n : Nat}, allN n p = true ↔ ∀ i, i < n → p i = true
  | 0 => by simp [allN]
  | n + 1 => by
    rw [allN, Bool.and_eq_true, allN_iff]
    constructor
    · rintro ⟨h1, h2⟩ i hi
      by_cases e : i = n
      · subst e; exact h2
      · exact h1 i (by omega)
    · intro h
      exact ⟨fun i hi => h i (by omega), h n (by omega)⟩

theorem allN_congr {p q : Nat → Bool} : ∀ {n : Nat}, (∀ i, i < n → p i = q i) → allN n p = allN n q
  | 0, _ => rfl
  | n + 1, h => by rw [allN, allN, allN_congr fun i hi => h i (by omega), h n (by omega)]

/-- a loop that leaves at the first place where p fails -/
theorem comes_all {X Y : Type} {r : X → Option (X ⊕ Y)} (st : Nat → X) {n : Nat} {p : Nat → Bool} {yf yt : Y} (hs : ∀ i, i < n → (∀ j, j < i → p j = true) → p i = true → r (st i) = some (.inl (st (i + 1))))
    (hf : ∀ i, i < n → (∀ j, j < i → p j = true) → p i = false → r (st i) = some (.inr yf)) (he : r (st n) = some (.inr yt)) : Comes r (st 0) (if allN n p = true then yt else yf) := by
  have main : ∀ d k, k + d = n → (∀ j, j < k → p j = true) → Comes r (st k) (if allN n p = true then yt else yf) := by
    intro d
    induction d with
    | zero =>
      intro k hk hp
      have : k = n := by omega
      subst this
      rw [if_pos (allN_iff.2 hp)]
      exact .out he
    | succ d ih =>
      intro k hk hp
      cases hpk : p k with
      | true =>
        refine .again (hs k (by omega) hp hpk) (ih (k + 1) (by omega) fun j hj => ?_)
        by_cases e : j = k
        · subst e; exact hpk
        · exact hp j (by omega)
      | false =>
        have : ¬ allN n p = true := by
          intro h
          have := allN_iff.1 h k (by omega)
          rw [hpk] at this; cases this
        rw [if_neg this]
        exact .out (hf k (by omega) hp hpk)
  exact main n 0 (by omega) (fun j hj => by omega)

theorem wrapN {i : Nat} (h : i ≤ 4611686018427387904) : IntKind.wrap .i64 ((i : Int) + 1) = ((i + 1 : Nat) : Int) := by rw [wrap64] <;> omega
theorem wrapP {i : Nat} (h : i ≤ 4611686018427387904) : IntKind.wrap .i64 ((i : Int) - 1) = (i : Int) - 1 := by rw [wrap64] <;> omega

theorem wrap1 : IntKind.wrap .i64 1 = 1 := by decide

/-! ### names -/
def nameP (t : List UInt8) (i : Nat) : Bool := decide (97 ≤ (t.getD i 0).toNat) && decide ((t.getD i 0).toNat ≤ 122)
def nameOk (t : List UInt8) : Bool := allN t.length (nameP t) && decide (1 ≤ t.length ∧ t.length ≤ 6)

theorem spec_NameOk_eq (t : List UInt8) (h : t.length ≤ 4611686018427387904) : Wh.spec_NameOk t = some (nameOk t, ()) := by
  have hl : Comes Wh.spec_NameOk_l0 (((0 : Int), t), ()) (if allN t.length (nameP t) = true then .inr (t, ()) else .inl (false, ())) := by
    refine comes_all (fun i => (((i : Int), t), ())) ?_ ?_ ?_
    · intro i hi _ hp
      have e0 : t.getD i 0 = t[i] := by simp [hi]
      simp only [nameP, Bool.and_eq_true, decide_eq_true_eq, e0] at hp
      have h1 : ¬ (((t[i].toNat : Nat) : Int) < 97) := by omega
      have h2 : ¬ (122 < ((t[i].toNat : Nat) : Int)) := by omega
      have h3 := wrapN (i := i) (by omega)
      simp [Wh.spec_NameOk_l0, hi, allB, h1, h2, h3]
    · intro i hi _ hp
      have e0 : t.getD i 0 = t[i] := by simp [hi]
      simp only [nameP, Bool.and_eq_false_iff, decide_eq_false_iff_not, e0] at hp
      by_cases h1 : ((t[i].toNat : Nat) : Int) < 97
      · simp [Wh.spec_NameOk_l0, hi, allB, h1]
      · have h2 : 122 < ((t[i].toNat : Nat) : Int) := by omega
        simp [Wh.spec_NameOk_l0, hi, allB, h1, h2]
    · simp [Wh.spec_NameOk_l0]
  have e : decide ((1 : Int) ≤ (t.length : Int) ∧ (t.length : Int) ≤ 6) = decide (1 ≤ t.length ∧ t.length ≤ 6) := by congr 1; exact propext ⟨fun h => by omega, fun h => by omega⟩
  cases hp : allN t.length (nameP t) with
  | true =>
    rw [hp, if_pos rfl] at hl
    simp only [Wh.spec_NameOk, cb hl, cv hl, nameOk, hp, Wh.spec_l1In', l1In_eq, allB, isSm, cond_true, Bool.true_and]
    exact congrArg (fun b => some (b, ())) e
  | false =>
    rw [hp, if_neg (by simp)] at hl
    simp [Wh.spec_NameOk, cb hl, cv hl, nameOk, hp]

theorem impl_NameOk_eq (t : List UInt8) (h : t.length ≤ 4611686018427387904) : Wh.impl_NameOk t = some (nameOk t, ()) := by
  have hl : Comes Wh.impl_NameOk_l0 (((0 : Int), t, (t.length : Int)), ()) (if allN t.length (nameP t) = true then .inr (t, ()) else .inl (false, ())) := by
    refine comes_all (fun i => (((i : Int), t, (t.length : Int)), ())) ?_ ?_ ?_
    · intro i hi _ hp
      have e0 : t.getD i 0 = t[i] := by simp [hi]
      simp only [nameP, Bool.and_eq_true, decide_eq_true_eq, e0] at hp
      have h1 : ¬ (((t[i].toNat : Nat) : Int) < 97) := by omega
      have h2 : ¬ (122 < ((t[i].toNat : Nat) : Int)) := by omega
      have h3 := wrapN (i := i) (by omega)
      simp [Wh.impl_NameOk_l0, hi, allB, h1, h2, h3]
    · intro i hi _ hp
      have e0 : t.getD i 0 = t[i] := by simp [hi]
      simp only [nameP, Bool.and_eq_false_iff, decide_eq_false_iff_not, e0] at hp
      by_cases h1 : ((t[i].toNat : Nat) : Int) < 97
      · simp [Wh.impl_NameOk_l0, hi, allB, h1]
      · have h2 : 122 < ((t[i].toNat : Nat) : Int) := by omega
        simp [Wh.impl_NameOk_l0, hi, allB, h1, h2]
    · simp [Wh.impl_NameOk_l0]
  have e : decide ((1 : Int) ≤ (t.length : Int) ∧ (t.length : Int) ≤ 6) = decide (1 ≤ t.length ∧ t.length ≤ 6) := by congr 1; exact propext ⟨fun h => by omega, fun h => by omega⟩
  cases hp : allN t.length (nameP t) with
  | true =>
    rw [hp, if_pos rfl] at hl
    simp only [Wh.impl_NameOk, cb hl, cv hl, nameOk, hp, Wh.impl_within', within_eq, allB, isSm, cond_true, Bool.true_and]
    exact congrArg (fun b => some (b, ())) e
  | false =>
    rw [hp, if_neg (by simp)] at hl
    simp [Wh.impl_NameOk, cb hl, cv hl, nameOk, hp]

/-! ### rows -/
def rowP (row : List Int) (count : Int) (i : Nat) : Bool := decide (0 ≤ row.getD i 0 ∧ row.getD i 0 ≤ count - 1) && (decide (i = 0) || decide (row.getD (i - 1) 0 < row.getD i 0))
def rowOk (row : List Int) (count : Int) : Bool := allN row.length (rowP row count) && decide (0 ≤ count ∧ count ≤ 24)

/-- a number that a machine holds -/
def I64 (n : Int) : Prop := -9223372036854775808 ≤ n ∧ n ≤ 9223372036854775807

theorem spec_RowOk_eq (row : List Int) (count : Int) (h : row.length ≤ 4611686018427387904) (hc : -9223372036854775807 ≤ count) (hc' : count ≤ 9223372036854775807) : Wh.spec_RowOk (row, count) = some (rowOk row count, ()) := by
  have hl : Comes Wh.spec_RowOk_l0 (((0 : Int), row, count), ()) (if allN row.length (rowP row count) = true then .inr (count, ()) else .inl (false, ())) := by
    refine comes_all (fun i => (((i : Int), row, count), ())) ?_ ?_ ?_
    · intro i hi _ hp
      have e0 : row.getD i 0 = row[i] := by simp [hi]
      simp only [rowP, Bool.and_eq_true, Bool.or_eq_true, decide_eq_true_eq, e0] at hp
      have h3 := wrapN (i := i) (by omega)
      have h4 : IntKind.wrap .i64 (count - 1) = count - 1 := by rw [wrap64] <;> omega
      have h5 := wrapP (i := i) (by omega)
      obtain ⟨hp1, hp2⟩ := hp
      by_cases hz : i = 0
      · subst hz
        simp [Wh.spec_RowOk_l0, hi, allB, h4, wrap1, Wh.spec_l1In', l1In_eq, isSm, hp1]
      · have h6 : (0 : Int) < i := by omega
        have h7 : row.getD (i - 1) 0 < row[i] := hp2.resolve_left hz
        have h8 : ((i : Int) - 1).toNat = i - 1 := by omega
        have h9 : ¬ row[i] ≤ row[i - 1] := by
          have : row.getD (i - 1) 0 = row[i - 1] := by simp [show i - 1 < row.length by omega]
          omega
        have h10 : i - 1 < row.length := by omega
        have h11 : (0 : Int) ≤ (i : Int) - 1 := by omega
        have h12 : (i : Int) - 1 < row.length := by omega
        have h13 : (1 : Int) ≤ i := by omega
        simp [Wh.spec_RowOk_l0, hi, allB, h3, h4, h5, h6, h8, h9, h10, h11, h12, h13, Wh.spec_l1In', l1In_eq, isSm, hp1, show 0 < i by omega]
    · intro i hi _ hp
      have e0 : row.getD i 0 = row[i] := by simp [hi]
      simp only [rowP, Bool.and_eq_false_iff, Bool.or_eq_false_iff, decide_eq_false_iff_not, e0] at hp
      have h4 : IntKind.wrap .i64 (count - 1) = count - 1 := by rw [wrap64] <;> omega
      have h5 := wrapP (i := i) (by omega)
      by_cases hp1 : 0 ≤ row[i] ∧ row[i] ≤ count - 1
      · have hp2 := hp.resolve_left (fun h => h hp1)
        have h6 : (0 : Int) < i := by omega
        have h8 : ((i : Int) - 1).toNat = i - 1 := by omega
        have h9 : row[i] ≤ row[i - 1] := by
          have : row.getD (i - 1) 0 = row[i - 1] := by simp [show i - 1 < row.length by omega]
          omega
        have h10 : i - 1 < row.length := by omega
        have h11 : (0 : Int) ≤ (i : Int) - 1 := by omega
        have h12 : (i : Int) - 1 < row.length := by omega
        have h13 : (1 : Int) ≤ i := by omega
        simp [Wh.spec_RowOk_l0, hi, allB, h4, h5, h6, h8, h9, h10, h11, h12, h13, Wh.spec_l1In', l1In_eq, isSm, hp1, show 0 < i by omega]
      · simp [Wh.spec_RowOk_l0, hi, allB, h4, Wh.spec_l1In', l1In_eq, isSm, hp1]
    · simp [Wh.spec_RowOk_l0]
  cases hp : allN row.length (rowP row count) with
  | true =>
    rw [hp, if_pos rfl] at hl
    simp [Wh.spec_RowOk, cb hl, cv hl, rowOk, hp, Wh.spec_l1In', l1In_eq, allB, isSm]
  | false =>
    rw [hp, if_neg (by simp)] at hl
    simp [Wh.spec_RowOk, cb hl, cv hl, rowOk, hp]

theorem impl_RowOk_eq (row : List Int) (count : Int) (h : row.length ≤ 4611686018427387904) (hc : -9223372036854775807 ≤ count) (hc' : count ≤ 9223372036854775807) : Wh.impl_RowOk (row, count) = some (rowOk row count, ()) := by
  have hl : Comes Wh.impl_RowOk_l0 (((0 : Int), row, count, row, (row.length : Int)), ()) (if allN row.length (rowP row count) = true then .inr (count, ()) else .inl (false, ())) := by
    refine comes_all (fun i => (((i : Int), row, count, row, (row.length : Int)), ())) ?_ ?_ ?_
    · intro i hi _ hp
      have e0 : row.getD i 0 = row[i] := by simp [hi]
      simp only [rowP, Bool.and_eq_true, Bool.or_eq_true, decide_eq_true_eq, e0] at hp
      have h3 := wrapN (i := i) (by omega)
      have h4 : IntKind.wrap .i64 (count - 1) = count - 1 := by rw [wrap64] <;> omega
      have h5 := wrapP (i := i) (by omega)
      obtain ⟨hp1, hp2⟩ := hp
      by_cases hz : i = 0
      · subst hz
        simp [Wh.impl_RowOk_l0, hi, allB, h4, wrap1, Wh.impl_within', within_eq, isSm, hp1]
      · have h6 : (0 : Int) < i := by omega
        have h7 : row.getD (i - 1) 0 < row[i] := hp2.resolve_left hz
        have h8 : ((i : Int) - 1).toNat = i - 1 := by omega
        have h9 : ¬ row[i] ≤ row[i - 1] := by
          have : row.getD (i - 1) 0 = row[i - 1] := by simp [show i - 1 < row.length by omega]
          omega
        have h10 : i - 1 < row.length := by omega
        have h11 : (0 : Int) ≤ (i : Int) - 1 := by omega
        have h12 : (i : Int) - 1 < row.length := by omega
        have h13 : (1 : Int) ≤ i := by omega
        simp [Wh.impl_RowOk_l0, hi, allB, h3, h4, h5, h6, h8, h9, h10, h11, h12, h13, Wh.impl_within', within_eq, isSm, hp1, show 0 < i by omega]
    · intro i hi _ hp
      have e0 : row.getD i 0 = row[i] := by simp [hi]
      simp only [rowP, Bool.and_eq_false_iff, Bool.or_eq_false_iff, decide_eq_false_iff_not, e0] at hp
      have h4 : IntKind.wrap .i64 (count - 1) = count - 1 := by rw [wrap64] <;> omega
      have h5 := wrapP (i := i) (by omega)
      by_cases hp1 : 0 ≤ row[i] ∧ row[i] ≤ count - 1
      · have hp2 := hp.resolve_left (fun h => h hp1)
        have h6 : (0 : Int) < i := by omega
        have h8 : ((i : Int) - 1).toNat = i - 1 := by omega
        have h9 : row[i] ≤ row[i - 1] := by
          have : row.getD (i - 1) 0 = row[i - 1] := by simp [show i - 1 < row.length by omega]
          omega
        have h10 : i - 1 < row.length := by omega
        have h11 : (0 : Int) ≤ (i : Int) - 1 := by omega
        have h12 : (i : Int) - 1 < row.length := by omega
        have h13 : (1 : Int) ≤ i := by omega
        simp [Wh.impl_RowOk_l0, hi, allB, h4, h5, h6, h8, h9, h10, h11, h12, h13, Wh.impl_within', within_eq, isSm, hp1, show 0 < i by omega]
      · simp [Wh.impl_RowOk_l0, hi, allB, h4, Wh.impl_within', within_eq, isSm, hp1]
    · simp [Wh.impl_RowOk_l0]
  cases hp : allN row.length (rowP row count) with
  | true =>
    rw [hp, if_pos rfl] at hl
    simp [Wh.impl_RowOk, cb hl, cv hl, rowOk, hp, Wh.impl_within', within_eq, allB, isSm]
  | false =>
    rw [hp, if_neg (by simp)] at hl
    simp [Wh.impl_RowOk, cb hl, cv hl, rowOk, hp]

end Pl
open Go Go.Ab
namespace Pl

/-! ### plans -/
def cnt (p : tImplPlan.D) : Int := (p.1 + p.2.1 - 1).tdiv p.2.1

theorem cnt_bound (p : tImplPlan.D) (h1 : 1 ≤ p.1 ∧ p.1 ≤ 300) (h2 : 1 ≤ p.2.1 ∧ p.2.1 ≤ 16) : 1 ≤ cnt p ∧ cnt p ≤ 400 := by
  unfold cnt
  rw [Int.tdiv_eq_ediv_of_nonneg (by omega)]
  constructor
  · exact (Int.le_ediv_iff_mul_le (by omega)).2 (by omega)
  · have : (p.1 + p.2.1 - 1) / p.2.1 ≤ (p.1 + p.2.1 - 1) := Int.ediv_le_self _ (by omega)
    omega

theorem spec_count_eq (p : tImplPlan.D) (h1 : 1 ≤ p.1 ∧ p.1 ≤ 300) (h2 : 1 ≤ p.2.1 ∧ p.2.1 ≤ 16) : Wh.spec_l5Count p = some (cnt p, ()) := by
  have hb := cnt_bound p h1 h2
  have e1 : IntKind.wrap .i64 (p.1 + p.2.1) = p.1 + p.2.1 := by rw [wrap64] <;> omega
  have e2 : IntKind.wrap .i64 (p.1 + p.2.1 - 1) = p.1 + p.2.1 - 1 := by rw [wrap64] <;> omega
  have e3 : IntKind.wrap .i64 ((p.1 + p.2.1 - 1).tdiv p.2.1) = (p.1 + p.2.1 - 1).tdiv p.2.1 := by unfold cnt at hb; rw [wrap64] <;> omega
  have hz : (p.2.1 != 0) = true := by simp; omega
  simp [Wh.spec_l5Count, e1, e2, e3, allB, cnt, hz]
theorem impl_count_eq (p : tImplPlan.D) (h1 : 1 ≤ p.1 ∧ p.1 ≤ 300) (h2 : 1 ≤ p.2.1 ∧ p.2.1 ≤ 16) : Wh.impl_Plan_count p = some (cnt p, ()) := by
  have hb := cnt_bound p h1 h2
  have e1 : IntKind.wrap .i64 (p.1 + p.2.1) = p.1 + p.2.1 := by rw [wrap64] <;> omega
  have e2 : IntKind.wrap .i64 (p.1 + p.2.1 - 1) = p.1 + p.2.1 - 1 := by rw [wrap64] <;> omega
  have e3 : IntKind.wrap .i64 ((p.1 + p.2.1 - 1).tdiv p.2.1) = (p.1 + p.2.1 - 1).tdiv p.2.1 := by unfold cnt at hb; rw [wrap64] <;> omega
  have hz : (p.2.1 != 0) = true := by simp; omega
  simp [Wh.impl_Plan_count, e1, e2, e3, allB, cnt, hz]

def planP (p : tImplPlan.D) (i : Nat) : Bool :=
  decide (1 ≤ p.2.2.1.getD i 0 ∧ p.2.2.1.getD i 0 ≤ cnt p) && (decide (i = 0) || decide (p.2.2.1.getD (i - 1) 0 < p.2.2.1.getD i 0)) && decide (1 ≤ p.2.2.2.1.getD i 0 ∧ p.2.2.2.1.getD i 0 ≤ 99)
def planA (p : tImplPlan.D) : Bool := decide (1 ≤ p.1 ∧ p.1 ≤ 300) && decide (1 ≤ p.2.1 ∧ p.2.1 ≤ 16) && decide (cnt p ≤ 24) && decide (1 ≤ p.2.2.1.length ∧ p.2.2.1.length ≤ 3) && decide (p.2.2.2.1.length = p.2.2.1.length)
def planOk (p : tImplPlan.D) : Bool := planA p && allN p.2.2.1.length (planP p) && decide (p.2.2.1.getD (p.2.2.1.length - 1) 0 = cnt p)

theorem spec_PlanOk_loop (p : tImplPlan.D) (h : planA p = true) : Comes Wh.spec_PlanOk_l0 (((0 : Int), ()), p) (if allN p.2.2.1.length (planP p) = true then .inr ((), p) else .inl (false, ())) := by
  simp only [planA, Bool.and_eq_true, decide_eq_true_eq] at h
  obtain ⟨⟨⟨⟨a1, a2⟩, a3⟩, a4⟩, a5⟩ := h
  have hc := spec_count_eq p a1 a2
  refine comes_all (fun i => (((i : Int), ()), p)) ?_ ?_ ?_
  · intro i hi _ hp
    have hi2 : i < p.2.2.2.1.length := by omega
    have e0 : p.2.2.1.getD i 0 = p.2.2.1[i] := by simp [hi]
    have e1 : p.2.2.2.1.getD i 0 = p.2.2.2.1[i] := by simp [hi2]
    simp only [planP, Bool.and_eq_true, Bool.or_eq_true, decide_eq_true_eq, e0, e1] at hp
    obtain ⟨⟨hp1, hp2⟩, hp3⟩ := hp
    have h3 := wrapN (i := i) (by omega)
    have h5 := wrapP (i := i) (by omega)
    by_cases hz : i = 0
    · subst hz
      simp [Wh.spec_PlanOk_l0, hi, hi2, allB, wrap1, Wh.spec_l1In', Wh.spec_l5Count', hc, l1In_eq, isSm, hp1, hp3]
    · have h6 : (0 : Int) < i := by omega
      have h8 : ((i : Int) - 1).toNat = i - 1 := by omega
      have h10 : i - 1 < p.2.2.1.length := by omega
      have h9 : ¬ p.2.2.1[i] ≤ p.2.2.1[i - 1] := by
        have : p.2.2.1.getD (i - 1) 0 = p.2.2.1[i - 1] := by simp [h10]
        have := hp2.resolve_left hz
        omega
      have h11 : (0 : Int) ≤ (i : Int) - 1 := by omega
      have h12 : (i : Int) - 1 < p.2.2.1.length := by omega
      have h13 : (1 : Int) ≤ i := by omega
      simp [Wh.spec_PlanOk_l0, hi, hi2, allB, h3, h5, h6, h8, h9, h10, h11, h12, h13, Wh.spec_l1In', Wh.spec_l5Count', hc, l1In_eq, isSm, hp1, hp3, show 0 < i by omega]
  · intro i hi _ hp
    have hi2 : i < p.2.2.2.1.length := by omega
    have e0 : p.2.2.1.getD i 0 = p.2.2.1[i] := by simp [hi]
    have e1 : p.2.2.2.1.getD i 0 = p.2.2.2.1[i] := by simp [hi2]
    simp only [planP, Bool.and_eq_false_iff, Bool.or_eq_false_iff, decide_eq_false_iff_not, e0, e1] at hp
    have h5 := wrapP (i := i) (by omega)
    by_cases hp1 : 1 ≤ p.2.2.1[i] ∧ p.2.2.1[i] ≤ cnt p
    · by_cases hz : i = 0
      · subst hz
        have hp3 : ¬ ((1 : Int) ≤ p.2.2.2.1[0] ∧ p.2.2.2.1[0] ≤ (99 : Int)) := by
          rcases hp with (hp | hp) | hp
          · exact absurd hp1 hp
          · exact absurd rfl hp.1
          · exact hp
        simp [Wh.spec_PlanOk_l0, hi, hi2, allB, Wh.spec_l1In', Wh.spec_l5Count', hc, l1In_eq, isSm, hp1, hp3]
      · have h6 : (0 : Int) < i := by omega
        have h8 : ((i : Int) - 1).toNat = i - 1 := by omega
        have h10 : i - 1 < p.2.2.1.length := by omega
        have e2 : p.2.2.1.getD (i - 1) 0 = p.2.2.1[i - 1] := by simp [h10]
        rw [e2] at hp
        have h11 : (0 : Int) ≤ (i : Int) - 1 := by omega
        have h12 : (i : Int) - 1 < p.2.2.1.length := by omega
        have h13 : (1 : Int) ≤ i := by omega
        by_cases h9 : p.2.2.1[i] ≤ p.2.2.1[i - 1]
        · simp [Wh.spec_PlanOk_l0, hi, allB, h5, h6, h8, h9, h10, h11, h12, h13, Wh.spec_l1In', Wh.spec_l5Count', hc, l1In_eq, isSm, hp1, show 0 < i by omega]
        · have hp3 : ¬ (1 ≤ p.2.2.2.1[i] ∧ p.2.2.2.1[i] ≤ 99) := by
            rcases hp with (hp | hp) | hp
            · exact absurd hp1 hp
            · exact absurd hp.2 (by omega)
            · exact hp
          simp [Wh.spec_PlanOk_l0, hi, hi2, allB, h5, h6, h8, h9, h10, h11, h12, h13, Wh.spec_l1In', Wh.spec_l5Count', hc, l1In_eq, isSm, hp1, hp3, show 0 < i by omega]
    · simp [Wh.spec_PlanOk_l0, hi, allB, Wh.spec_l1In', Wh.spec_l5Count', hc, l1In_eq, isSm, hp1]
  · simp [Wh.spec_PlanOk_l0]

theorem spec_PlanOk_eq (p : tImplPlan.D) : Wh.spec_PlanOk p = some (planOk p, ()) := by
  by_cases a1 : 1 ≤ p.1 ∧ p.1 ≤ 300
  case neg => simp [Wh.spec_PlanOk, Wh.spec_l1In', l1In_eq, allB, isSm, a1, planOk, planA]
  by_cases a2 : 1 ≤ p.2.1 ∧ p.2.1 ≤ 16
  case neg => simp [Wh.spec_PlanOk, Wh.spec_l1In', l1In_eq, allB, isSm, a1, a2, planOk, planA]
  have hc := spec_count_eq p a1 a2
  have hb := cnt_bound p a1 a2
  by_cases a3 : cnt p ≤ 24
  case neg => simp [Wh.spec_PlanOk, Wh.spec_l1In', Wh.spec_l5Count', hc, l1In_eq, allB, isSm, a1, a2, a3, planOk, planA]
  by_cases a4 : 1 ≤ p.2.2.1.length ∧ p.2.2.1.length ≤ 3
  case neg =>
    have a4' : ¬ ((1 : Int) ≤ (p.2.2.1.length : Int) ∧ (p.2.2.1.length : Int) ≤ 3) := by omega
    simp only [Wh.spec_PlanOk, Wh.spec_l1In', Wh.spec_l5Count', hc, l1In_eq, allB, isSm, a1, a2, a3, a4, a4', hb.1, planOk, planA, and_self, decide_true, decide_false, Bool.not_true, Bool.not_false, cond_true, cond_false, Bool.true_and, Bool.false_and, Bool.and_false, Bool.true_or, Bool.or_true, Bool.and_self]
  by_cases a5 : p.2.2.2.1.length = p.2.2.1.length
  case neg =>
    have a4' : ((1 : Int) ≤ (p.2.2.1.length : Int) ∧ (p.2.2.1.length : Int) ≤ 3) := by omega
    have a5' : ((p.2.2.2.1.length : Int) != (p.2.2.1.length : Int)) = true := by simp; omega
    simp only [Wh.spec_PlanOk, Wh.spec_l1In', Wh.spec_l5Count', hc, l1In_eq, allB, isSm, a1, a2, a3, a4, a4', a5, a5', hb.1, planOk, planA, and_self, decide_true, decide_false, Bool.not_true, Bool.not_false, cond_true, cond_false, Bool.true_and, Bool.false_and, Bool.and_false, Bool.true_or, Bool.or_true, Bool.and_self]
  have hA : planA p = true := by simp only [planA, a1, a2, a3, a4, a5, and_self, decide_true, Bool.and_self]
  have hl := spec_PlanOk_loop p hA
  have a4' : ((1 : Int) ≤ (p.2.2.1.length : Int) ∧ (p.2.2.1.length : Int) ≤ 3) := by omega
  have a5' : ((p.2.2.2.1.length : Int) != (p.2.2.1.length : Int)) = false := by simp; omega
  have w1 : IntKind.wrap .i64 ((p.2.2.1.length : Int) - 1) = (p.2.2.1.length : Int) - 1 := wrapP (by omega)
  have w2 : ((p.2.2.1.length : Int) - 1).toNat = p.2.2.1.length - 1 := by omega
  have w3 : (0 : Int) ≤ (p.2.2.1.length : Int) - 1 := by omega
  have w4 : (p.2.2.1.length : Int) - 1 < (p.2.2.1.length : Int) := by omega
  cases hp : allN p.2.2.1.length (planP p) with
  | true =>
    rw [hp, if_pos rfl] at hl
    simp only [Wh.spec_PlanOk, cb hl, cv hl, Wh.spec_l1In', Wh.spec_l5Count', hc, l1In_eq, allB, isSm, a1, a2, a3, a4', a5', hb.1, planOk, hA, hp, w1, w2, w3, w4, and_self, decide_true, decide_false, Bool.not_true, Bool.not_false, cond_true, cond_false, Bool.true_and, Bool.false_and, Bool.and_false, Bool.true_or, Bool.or_true, Bool.and_self]
    dsimp only [sumC]
    simp only [hc, w1, w2, w3, w4, decide_true, Bool.and_self, cond_true]
    rfl
  | false =>
    rw [hp, if_neg (by simp)] at hl
    simp only [Wh.spec_PlanOk, cb hl, cv hl, Wh.spec_l1In', Wh.spec_l5Count', hc, l1In_eq, allB, isSm, a1, a2, a3, a4', a5', hb.1, planOk, hA, hp, and_self, decide_true, decide_false, Bool.not_true, Bool.not_false, cond_true, cond_false, Bool.true_and, Bool.false_and, Bool.and_false, Bool.true_or, Bool.or_true, Bool.and_self]

theorem impl_PlanOk_loop (p : tImplPlan.D) (h : planA p = true) : Comes Wh.impl_PlanOk_l0 (((0 : Int), (), p.2.2.1, (p.2.2.1.length : Int)), p) (if allN p.2.2.1.length (planP p) = true then .inr ((), ()) else .inl (false, ())) := by
  simp only [planA, Bool.and_eq_true, decide_eq_true_eq] at h
  obtain ⟨⟨⟨⟨a1, a2⟩, a3⟩, a4⟩, a5⟩ := h
  have hc := impl_count_eq p a1 a2
  refine comes_all (fun i => (((i : Int), (), p.2.2.1, (p.2.2.1.length : Int)), p)) ?_ ?_ ?_
  · intro i hi _ hp
    have hi2 : i < p.2.2.2.1.length := by omega
    have e0 : p.2.2.1.getD i 0 = p.2.2.1[i] := by simp [hi]
    have e1 : p.2.2.2.1.getD i 0 = p.2.2.2.1[i] := by simp [hi2]
    simp only [planP, Bool.and_eq_true, Bool.or_eq_true, decide_eq_true_eq, e0, e1] at hp
    obtain ⟨⟨hp1, hp2⟩, hp3⟩ := hp
    have h3 := wrapN (i := i) (by omega)
    have h5 := wrapP (i := i) (by omega)
    by_cases hz : i = 0
    · subst hz
      simp [Wh.impl_PlanOk_l0, hi, hi2, allB, wrap1, Wh.impl_within', Wh.impl_Plan_count', hc, within_eq, isSm, hp1, hp3]
    · have h6 : (0 : Int) < i := by omega
      have h8 : ((i : Int) - 1).toNat = i - 1 := by omega
      have h10 : i - 1 < p.2.2.1.length := by omega
      have h9 : ¬ p.2.2.1[i] ≤ p.2.2.1[i - 1] := by
        have : p.2.2.1.getD (i - 1) 0 = p.2.2.1[i - 1] := by simp [h10]
        have := hp2.resolve_left hz
        omega
      have h11 : (0 : Int) ≤ (i : Int) - 1 := by omega
      have h12 : (i : Int) - 1 < p.2.2.1.length := by omega
      have h13 : (1 : Int) ≤ i := by omega
      simp [Wh.impl_PlanOk_l0, hi, hi2, allB, h3, h5, h6, h8, h9, h10, h11, h12, h13, Wh.impl_within', Wh.impl_Plan_count', hc, within_eq, isSm, hp1, hp3, show 0 < i by omega]
  · intro i hi _ hp
    have hi2 : i < p.2.2.2.1.length := by omega
    have e0 : p.2.2.1.getD i 0 = p.2.2.1[i] := by simp [hi]
    have e1 : p.2.2.2.1.getD i 0 = p.2.2.2.1[i] := by simp [hi2]
    simp only [planP, Bool.and_eq_false_iff, Bool.or_eq_false_iff, decide_eq_false_iff_not, e0, e1] at hp
    have h5 := wrapP (i := i) (by omega)
    by_cases hp1 : 1 ≤ p.2.2.1[i] ∧ p.2.2.1[i] ≤ cnt p
    · by_cases hz : i = 0
      · subst hz
        have hp3 : ¬ ((1 : Int) ≤ p.2.2.2.1[0] ∧ p.2.2.2.1[0] ≤ (99 : Int)) := by
          rcases hp with (hp | hp) | hp
          · exact absurd hp1 hp
          · exact absurd rfl hp.1
          · exact hp
        simp [Wh.impl_PlanOk_l0, hi, hi2, allB, Wh.impl_within', Wh.impl_Plan_count', hc, within_eq, isSm, hp1, hp3]
      · have h6 : (0 : Int) < i := by omega
        have h8 : ((i : Int) - 1).toNat = i - 1 := by omega
        have h10 : i - 1 < p.2.2.1.length := by omega
        have e2 : p.2.2.1.getD (i - 1) 0 = p.2.2.1[i - 1] := by simp [h10]
        rw [e2] at hp
        have h11 : (0 : Int) ≤ (i : Int) - 1 := by omega
        have h12 : (i : Int) - 1 < p.2.2.1.length := by omega
        have h13 : (1 : Int) ≤ i := by omega
        by_cases h9 : p.2.2.1[i] ≤ p.2.2.1[i - 1]
        · simp [Wh.impl_PlanOk_l0, hi, allB, h5, h6, h8, h9, h10, h11, h12, h13, Wh.impl_within', Wh.impl_Plan_count', hc, within_eq, isSm, hp1, show 0 < i by omega]
        · have hp3 : ¬ (1 ≤ p.2.2.2.1[i] ∧ p.2.2.2.1[i] ≤ 99) := by
            rcases hp with (hp | hp) | hp
            · exact absurd hp1 hp
            · exact absurd hp.2 (by omega)
            · exact hp
          simp [Wh.impl_PlanOk_l0, hi, hi2, allB, h5, h6, h8, h9, h10, h11, h12, h13, Wh.impl_within', Wh.impl_Plan_count', hc, within_eq, isSm, hp1, hp3, show 0 < i by omega]
    · simp [Wh.impl_PlanOk_l0, hi, allB, Wh.impl_within', Wh.impl_Plan_count', hc, within_eq, isSm, hp1]
  · simp [Wh.impl_PlanOk_l0]

theorem impl_PlanOk_eq (p : tImplPlan.D) : Wh.impl_PlanOk p = some (planOk p, ()) := by
  by_cases a1 : 1 ≤ p.1 ∧ p.1 ≤ 300
  case neg => simp [Wh.impl_PlanOk, Wh.impl_within', within_eq, allB, isSm, a1, planOk, planA]
  by_cases a2 : 1 ≤ p.2.1 ∧ p.2.1 ≤ 16
  case neg => simp [Wh.impl_PlanOk, Wh.impl_within', within_eq, allB, isSm, a1, a2, planOk, planA]
  have hc := impl_count_eq p a1 a2
  have hb := cnt_bound p a1 a2
  by_cases a3 : cnt p ≤ 24
  case neg =>
    have a3' : cnt p > 24 := by omega
    simp [Wh.impl_PlanOk, Wh.impl_within', Wh.impl_Plan_count', hc, within_eq, allB, isSm, a1, a2, a3, a3', planOk, planA]
  have a3' : ¬ cnt p > 24 := by omega
  by_cases a4 : 1 ≤ p.2.2.1.length ∧ p.2.2.1.length ≤ 3
  case neg =>
    have a4' : ¬ ((1 : Int) ≤ (p.2.2.1.length : Int) ∧ (p.2.2.1.length : Int) ≤ 3) := by omega
    simp only [Wh.impl_PlanOk, Wh.impl_within', Wh.impl_Plan_count', hc, within_eq, allB, isSm, a1, a2, a3, a3', a4, a4', planOk, planA, and_self, decide_true, decide_false, Bool.not_true, Bool.not_false, cond_true, cond_false, Bool.true_and, Bool.false_and, Bool.and_false, Bool.true_or, Bool.or_true, Bool.and_self]
  by_cases a5 : p.2.2.2.1.length = p.2.2.1.length
  case neg =>
    have a4' : ((1 : Int) ≤ (p.2.2.1.length : Int) ∧ (p.2.2.1.length : Int) ≤ 3) := by omega
    have a5' : ((p.2.2.2.1.length : Int) != (p.2.2.1.length : Int)) = true := by simp; omega
    simp only [Wh.impl_PlanOk, Wh.impl_within', Wh.impl_Plan_count', hc, within_eq, allB, isSm, a1, a2, a3, a3', a4, a4', a5, a5', planOk, planA, and_self, decide_true, decide_false, Bool.not_true, Bool.not_false, cond_true, cond_false, Bool.true_and, Bool.false_and, Bool.and_false, Bool.true_or, Bool.or_true, Bool.and_self]
  have hA : planA p = true := by simp only [planA, a1, a2, a3, a4, a5, and_self, decide_true, Bool.and_self]
  have hl := impl_PlanOk_loop p hA
  have a4' : ((1 : Int) ≤ (p.2.2.1.length : Int) ∧ (p.2.2.1.length : Int) ≤ 3) := by omega
  have a5' : ((p.2.2.2.1.length : Int) != (p.2.2.1.length : Int)) = false := by simp; omega
  have w1 : IntKind.wrap .i64 ((p.2.2.1.length : Int) - 1) = (p.2.2.1.length : Int) - 1 := wrapP (by omega)
  have w2 : ((p.2.2.1.length : Int) - 1).toNat = p.2.2.1.length - 1 := by omega
  have w3 : (0 : Int) ≤ (p.2.2.1.length : Int) - 1 := by omega
  have w4 : (p.2.2.1.length : Int) - 1 < (p.2.2.1.length : Int) := by omega
  by_cases a6 : p.2.2.1.getD (p.2.2.1.length - 1) 0 = cnt p
  case neg =>
    have a6' : (p.2.2.1.getD (p.2.2.1.length - 1) 0 != cnt p) = true := by simpa using a6
    simp only [Wh.impl_PlanOk, Wh.impl_within', Wh.impl_Plan_count', hc, within_eq, allB, isSm, a1, a2, a3', a4', a5', a6, a6', planOk, hA, w1, w2, w3, w4, and_self, decide_true, decide_false, Bool.not_true, Bool.not_false, cond_true, cond_false, Bool.true_and, Bool.false_and, Bool.and_false, Bool.true_or, Bool.or_true, Bool.and_self]
  have a6' : (p.2.2.1.getD (p.2.2.1.length - 1) 0 != cnt p) = false := by simpa using a6
  have a7 : decide (p.2.2.1.getD (p.2.2.1.length - 1) 0 = cnt p) = true := by simpa using a6
  cases hp : allN p.2.2.1.length (planP p) with
  | true =>
    rw [hp, if_pos rfl] at hl
    simp only [Wh.impl_PlanOk, cb hl, cv hl, Wh.impl_within', Wh.impl_Plan_count', hc, within_eq, allB, isSm, a1, a2, a3', a4', a5', a6', a7, planOk, hA, hp, w1, w2, w3, w4, and_self, decide_true, decide_false, Bool.not_true, Bool.not_false, cond_true, cond_false, Bool.true_and, Bool.false_and, Bool.and_false, Bool.true_or, Bool.or_true, Bool.and_self]
  | false =>
    rw [hp, if_neg (by simp)] at hl
    simp only [Wh.impl_PlanOk, cb hl, cv hl, Wh.impl_within', Wh.impl_Plan_count', hc, within_eq, allB, isSm, a1, a2, a3', a4', a5', a6', a7, planOk, hA, hp, w1, w2, w3, w4, and_self, decide_true, decide_false, Bool.not_true, Bool.not_false, cond_true, cond_false, Bool.true_and, Bool.false_and, Bool.and_false, Bool.true_or, Bool.or_true, Bool.and_self]

end Pl
