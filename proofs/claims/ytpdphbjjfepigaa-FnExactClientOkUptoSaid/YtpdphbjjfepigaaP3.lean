import Derived.Test.YtpdphbjjfepigaaP2
open Go Go.Ab
namespace Pl

def allN : Nat → (Nat → Bool) → Bool
  | 0, _ => true
  | n + 1, p => allN n p && p n

theorem allN_iff {p : Nat → Bool} : ∀ {n : Nat}, allN n p = true ↔ ∀ i, i < n → p i = true
  | 0 => by simp [allN]
  | n + 1 => by
    rw [allN, Bool.and_eq_true, allN_iff]
    constructor
    · rintro ⟨h1, h2⟩ i hi
      by_cases e : i = n
      · subst e; exact h2
      · exact h1 i (by omega)
    · intro h
      exact ⟨fun i hi => h i (by omega), h n (by omega)⟩

theorem allN_congr {p q : Nat → Bool} : ∀ {n : Nat}, (∀ i, i < n → p i = q i) → allN n p = allN n q
  | 0, _ => rfl
  | n + 1, h => by rw [allN, allN, allN_congr fun i hi => h i (by omega), h n (by omega)]

/-- a loop that leaves at the first place where p fails -/
theorem comes_all {X Y : Type} {r : X → Option (X ⊕ Y)} (st : Nat → X) {n : Nat} {p : Nat → Bool} {yf yt : Y} (hs : ∀ i, i < n → (∀ j, j < i → p j = true) → p i = true → r (st i) = some (.inl (st (i + 1))))
    (hf : ∀ i, i < n → (∀ j, j < i → p j = true) → p i = false → r (st i) = some (.inr yf)) (he : r (st n) = some (.inr yt)) : Comes r (st 0) (if allN n p = true then yt else yf) := by
  have main : ∀ d k, k + d = n → (∀ j, j < k → p j = true) → Comes r (st k) (if allN n p = true then yt else yf) := by
    intro d
    induction d with
    | zero =>
      intro k hk hp
      have : k = n := by omega
      subst this
      rw [if_pos (allN_iff.2 hp)]
      exact .out he
    | succ d ih =>
      intro k hk hp
      cases hpk : p k with
      | true =>
        refine .again (hs k (by omega) hp hpk) (ih (k + 1) (by omega) fun j hj => ?_)
        by_cases e : j = k
        · subst e; exact hpk
        · exact hp j (by omega)
      | false =>
        have : ¬ allN n p = true := by
          intro h
          have := allN_iff.1 h k (by omega)
          rw [hpk] at this; cases this
        rw [if_neg this]
        exact .out (hf k (by omega) hp hpk)
  exact main n 0 (by omega) (fun j hj => by omega)

theorem wrapN {i : Nat} (h : i ≤ 4611686018427387904) : IntKind.wrap .i64 ((i : Int) + 1) = ((i + 1 : Nat) : Int) := by rw [wrap64] <;> omega
theorem wrapP {i : Nat} (h : i ≤ 4611686018427387904) : IntKind.wrap .i64 ((i : Int) - 1) = (i : Int) - 1 := by rw [wrap64] <;> omega

theorem wrap1 : IntKind.wrap .i64 1 = 1 := by decide

/-! ### names -/
def nameP (t : List UInt8) (i : Nat) : Bool := decide (97 ≤ (t.getD i 0).toNat) && decide ((t.getD i 0).toNat ≤ 122)
def nameOk (t : List UInt8) : Bool := allN t.length (nameP t) && decide (1 ≤ t.length ∧ t.length ≤ 6)

theorem spec_NameOk_eq (t : List UInt8) (h : t.length ≤ 4611686018427387904) : Wh.spec_NameOk t = some (nameOk t, ()) := by
  have hl : Comes Wh.spec_NameOk_l0 (((0 : Int), t), ()) (if allN t.length (nameP t) = true then .inr (t, ()) else .inl (false, ())) := by
    refine comes_all (fun i => (((i : Int), t), ())) ?_ ?_ ?_
    · intro i hi _ hp
      have e0 : t.getD i 0 = t[i] := by simp [hi]
      simp only [nameP, Bool.and_eq_true, decide_eq_true_eq, e0] at hp
      have h1 : ¬ (((t[i].toNat : Nat) : Int) < 97) := by omega
      have h2 : ¬ (122 < ((t[i].toNat : Nat) : Int)) := by omega
      have h3 := wrapN (i := i) (by omega)
      simp [Wh.spec_NameOk_l0, hi, allB, h1, h2, h3]
    · intro i hi _ hp
      have e0 : t.getD i 0 = t[i] := by simp [hi]
      simp only [nameP, Bool.and_eq_false_iff, decide_eq_false_iff_not, e0] at hp
      by_cases h1 : ((t[i].toNat : Nat) : Int) < 97
      · simp [Wh.spec_NameOk_l0, hi, allB, h1]
      · have h2 : 122 < ((t[i].toNat : Nat) : Int) := by omega
        simp [Wh.spec_NameOk_l0, hi, allB, h1, h2]
    · simp [Wh.spec_NameOk_l0]
  have e : decide ((1 : Int) ≤ (t.length : Int) ∧ (t.length : Int) ≤ 6) = decide (1 ≤ t.length ∧ t.length ≤ 6) := by congr 1; exact propext ⟨fun h => by omega, fun h => by omega⟩
  cases hp : allN t.length (nameP t) with
  | true =>
    rw [hp, if_pos rfl] at hl
    simp only [Wh.spec_NameOk, cb hl, cv hl, nameOk, hp, Wh.spec_l1In', l1In_eq, allB, isSm, cond_true, Bool.true_and]
    exact congrArg (fun b => some (b, ())) e
  | false =>
    rw [hp, if_neg (by simp)] at hl
    simp [Wh.spec_NameOk, cb hl, cv hl, nameOk, hp]

theorem impl_NameOk_eq (t : List UInt8) (h : t.length ≤ 4611686018427387904) : Wh.impl_NameOk t = some (nameOk t, ()) := by
  have hl : Comes Wh.impl_NameOk_l0 (((0 : Int), t, (t.length : Int)), ()) (if allN t.length (nameP t) = true then .inr (t, ()) else .inl (false, ())) := by
    refine comes_all (fun i => (((i : Int), t, (t.length : Int)), ())) ?_ ?_ ?_
    · intro i hi _ hp
      have e0 : t.getD i 0 = t[i] := by simp [hi]
      simp only [nameP, Bool.and_eq_true, decide_eq_true_eq, e0] at hp
      have h1 : ¬ (((t[i].toNat : Nat) : Int) < 97) := by omega
      have h2 : ¬ (122 < ((t[i].toNat : Nat) : Int)) := by omega
      have h3 := wrapN (i := i) (by omega)
      simp [Wh.impl_NameOk_l0, hi, allB, h1, h2, h3]
    · intro i hi _ hp
      have e0 : t.getD i 0 = t[i] := by simp [hi]
      simp only [nameP, Bool.and_eq_false_iff, decide_eq_false_iff_not, e0] at hp
      by_cases h1 : ((t[i].toNat : Nat) : Int) < 97
      · simp [Wh.impl_NameOk_l0, hi, allB, h1]
      · have h2 : 122 < ((t[i].toNat : Nat) : Int) := by omega
        simp [Wh.impl_NameOk_l0, hi, allB, h1, h2]
    · simp [Wh.impl_NameOk_l0]
  have e : decide ((1 : Int) ≤ (t.length : Int) ∧ (t.length : Int) ≤ 6) = decide (1 ≤ t.length ∧ t.length ≤ 6) := by congr 1; exact propext ⟨fun h => by omega, fun h => by omega⟩
  cases hp : allN t.length (nameP t) with
  | true =>
    rw [hp, if_pos rfl] at hl
    simp only [Wh.impl_NameOk, cb hl, cv hl, nameOk, hp, Wh.impl_within', within_eq, allB, isSm, cond_true, Bool.true_and]
    exact congrArg (fun b => some (b, ())) e
  | false =>
    rw [hp, if_neg (by simp)] at hl
    simp [Wh.impl_NameOk, cb hl, cv hl, nameOk, hp]

/-! ### rows -/
def rowP (row : List Int) (count : Int) (i : Nat) : Bool := decide (0 ≤ row.getD i 0 ∧ row.getD i 0 ≤ count - 1) && (decide (i = 0) || decide (row.getD (i - 1) 0 < row.getD i 0))
def rowOk (row : List Int) (count : Int) : Bool := allN row.length (rowP row count) && decide (0 ≤ count ∧ count ≤ 24)

/-- a number that a machine holds -/
def I64 (n : Int) : Prop := -9223372036854775808 ≤ n ∧ n ≤ 9223372036854775807

theorem spec_RowOk_eq (row : List Int) (count : Int) (h : row.length ≤ 4611686018427387904) (hc : -9223372036854775807 ≤ count) (hc' : count ≤ 9223372036854775807) : Wh.spec_RowOk (row, count) = some (rowOk row count, ()) := by
  have hl : Comes Wh.spec_RowOk_l0 (((0 : Int), row, count), ()) (if allN row.length (rowP row count) = true then .inr (count, ()) else .inl (false, ())) := by
    refine comes_all (fun i => (((i : Int), row, count), ())) ?_ ?_ ?_
    · intro i hi _ hp
      have e0 : row.getD i 0 = row[i] := by simp [hi]
      simp only [rowP, Bool.and_eq_true, Bool.or_eq_true, decide_eq_true_eq, e0] at hp
      have h3 := wrapN (i := i) (by omega)
      have h4 : IntKind.wrap .i64 (count - 1) = count - 1 := by rw [wrap64] <;> omega
      have h5 := wrapP (i := i) (by omega)
      obtain ⟨hp1, hp2⟩ := hp
      by_cases hz : i = 0
      · subst hz
        simp [Wh.spec_RowOk_l0, hi, allB, h4, wrap1, Wh.spec_l1In', l1In_eq, isSm, hp1]
      · have h6 : (0 : Int) < i := by omega
        have h7 : row.getD (i - 1) 0 < row[i] := hp2.resolve_left hz
        have h8 : ((i : Int) - 1).toNat = i - 1 := by omega
        have h9 : ¬ row[i] ≤ row[i - 1] := by
          have : row.getD (i - 1) 0 = row[i - 1] := by simp [show i - 1 < row.length by omega]
          omega
        have h10 : i - 1 < row.length := by omega
        have h11 : (0 : Int) ≤ (i : Int) - 1 := by omega
        have h12 : (i : Int) - 1 < row.length := by omega
        have h13 : (1 : Int) ≤ i := by omega
        simp [Wh.spec_RowOk_l0, hi, allB, h3, h4, h5, h6, h8, h9, h10, h11, h12, h13, Wh.spec_l1In', l1In_eq, isSm, hp1, show 0 < i by omega]
    · intro i hi _ hp
      have e0 : row.getD i 0 = row[i] := by simp [hi]
      simp only [rowP, Bool.and_eq_false_iff, Bool.or_eq_false_iff, decide_eq_false_iff_not, e0] at hp
      have h4 : IntKind.wrap .i64 (count - 1) = count - 1 := by rw [wrap64] <;> omega
      have h5 := wrapP (i := i) (by omega)
      by_cases hp1 : 0 ≤ row[i] ∧ row[i] ≤ count - 1
      · have hp2 := hp.resolve_left (fun h => h hp1)
        have h6 : (0 : Int) < i := by omega
        have h8 : ((i : Int) - 1).toNat = i - 1 := by omega
        have h9 : row[i] ≤ row[i - 1] := by
          have : row.getD (i - 1) 0 = row[i - 1] := by simp [show i - 1 < row.length by omega]
          omega
        have h10 : i - 1 < row.length := by omega
        have h11 : (0 : Int) ≤ (i : Int) - 1 := by omega
        have h12 : (i : Int) - 1 < row.length := by omega
        have h13 : (1 : Int) ≤ i := by omega
        simp [Wh.spec_RowOk_l0, hi, allB, h4, h5, h6, h8, h9, h10, h11, h12, h13, Wh.spec_l1In', l1In_eq, isSm, hp1, show 0 < i by omega]
      · simp [Wh.spec_RowOk_l0, hi, allB, h4, Wh.spec_l1In', l1In_eq, isSm, hp1]
    · simp [Wh.spec_RowOk_l0]
  cases hp : allN row.length (rowP row count) with
  | true =>
    rw [hp, if_pos rfl] at hl
    simp [Wh.spec_RowOk, cb hl, cv hl, rowOk, hp, Wh.spec_l1In', l1In_eq, allB, isSm]
  | false =>
    rw [hp, if_neg (by simp)] at hl
    simp [Wh.spec_RowOk, cb hl, cv hl, rowOk, hp]

theorem impl_RowOk_eq (row : List Int) (count : Int) (h : row.length ≤ 4611686018427387904) (hc : -9223372036854775807 ≤ count) (hc' : count ≤ 9223372036854775807) : Wh.impl_RowOk (row, count) = some (rowOk row count, ()) := by
  have hl : Comes Wh.impl_RowOk_l0 (((0 : Int), row, count, row, (row.length : Int)), ()) (if allN row.length (rowP row count) = true then .inr (count, ()) else .inl (false, ())) := by
    refine comes_all (fun i => (((i : Int), row, count, row, (row.length : Int)), ())) ?_ ?_ ?_
    · intro i hi _ hp
      have e0 : row.getD i 0 = row[i] := by simp [hi]
      simp only [rowP, Bool.and_eq_true, Bool.or_eq_true, decide_eq_true_eq, e0] at hp
      have h3 := wrapN (i := i) (by omega)
      have h4 : IntKind.wrap .i64 (count - 1) = count - 1 := by rw [wrap64] <;> omega
      have h5 := wrapP (i := i) (by omega)
      obtain ⟨hp1, hp2⟩ := hp
      by_cases hz : i = 0
      · subst hz
        simp [Wh.impl_RowOk_l0, hi, allB, h4, wrap1, Wh.impl_within', within_eq, isSm, hp1]
      · have h6 : (0 : Int) < i := by omega
        have h7 : row.getD (i - 1) 0 < row[i] := hp2.resolve_left hz
        have h8 : ((i : Int) - 1).toNat = i - 1 := by omega
        have h9 : ¬ row[i] ≤ row[i - 1] := by
          have : row.getD (i - 1) 0 = row[i - 1] := by simp [show i - 1 < row.length by omega]
          omega
        have h10 : i - 1 < row.length := by omega
        have h11 : (0 : Int) ≤ (i : Int) - 1 := by omega
        have h12 : (i : Int) - 1 < row.length := by omega
        have h13 : (1 : Int) ≤ i := by omega
        simp [Wh.impl_RowOk_l0, hi, allB, h3, h4, h5, h6, h8, h9, h10, h11, h12, h13, Wh.impl_within', within_eq, isSm, hp1, show 0 < i by omega]
    · intro i hi _ hp
      have e0 : row.getD i 0 = row[i] := by simp [hi]
      simp only [rowP, Bool.and_eq_false_iff, Bool.or_eq_false_iff, decide_eq_false_iff_not, e0] at hp
      have h4 : IntKind.wrap .i64 (count - 1) = count - 1 := by rw [wrap64] <;> omega
      have h5 := wrapP (i := i) (by omega)
      by_cases hp1 : 0 ≤ row[i] ∧ row[i] ≤ count - 1
      · have hp2 := hp.resolve_left (fun h => h hp1)
        have h6 : (0 : Int) < i := by omega
        have h8 : ((i : Int) - 1).toNat = i - 1 := by omega
        have h9 : row[i] ≤ row[i - 1] := by
          have : row.getD (i - 1) 0 = row[i - 1] := by simp [show i - 1 < row.length by omega]
          omega
        have h10 : i - 1 < row.length := by omega
        have h11 : (0 : Int) ≤ (i : Int) - 1 := by omega
        have h12 : (i : Int) - 1 < row.length := by omega
        have h13 : (1 : Int) ≤ i := by omega
        simp [Wh.impl_RowOk_l0, hi, allB, h4, h5, h6, h8, h9, h10, h11, h12, h13, Wh.impl_within', within_eq, isSm, hp1, show 0 < i by omega]
      · simp [Wh.impl_RowOk_l0, hi, allB, h4, Wh.impl_within', within_eq, isSm, hp1]
    · simp [Wh.impl_RowOk_l0]
  cases hp : allN row.length (rowP row count) with
  | true =>
    rw [hp, if_pos rfl] at hl
    simp [Wh.impl_RowOk, cb hl, cv hl, rowOk, hp, Wh.impl_within', within_eq, allB, isSm]
  | false =>
    rw [hp, if_neg (by simp)] at hl
    simp [Wh.impl_RowOk, cb hl, cv hl, rowOk, hp]

end Pl
