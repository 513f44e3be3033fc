import Derived.Test.YtpdphbjjfepigaaP4
open Go Go.Ab
namespace Pl

/-! ### masks -/
def mkN (l : List Int) : Nat := l.foldl (fun m x => m ||| 2 ^ x.toNat) 0

theorem mkN_snoc (l : List Int) (x : Int) : mkN (l ++ [x]) = mkN l ||| 2 ^ x.toNat := by simp [mkN, List.foldl_append]

theorem mk_test (l : List Int) (j : Nat) : ∀ m : Nat, (l.foldl (fun m x => m ||| 2 ^ x.toNat) m).testBit j = (m.testBit j || l.any fun x => decide (x.toNat = j)) := by
  induction l with
  | nil => simp
  | cons x l ih =>
    intro m
    rw [List.foldl_cons, ih]
    simp [Nat.testBit_or, Nat.testBit_two_pow, Bool.or_assoc]

theorem mkN_test (l : List Int) (j : Nat) : (mkN l).testBit j = l.any fun x => decide (x.toNat = j) := by
  rw [mkN, mk_test]; simp

theorem mk_lt (l : List Int) (h : ∀ x ∈ l, x < 24) : ∀ m : Nat, m < 2 ^ 24 → l.foldl (fun m x => m ||| 2 ^ x.toNat) m < 2 ^ 24 := by
  induction l with
  | nil => intro m hm; exact hm
  | cons x l ih =>
    intro m hm
    rw [List.foldl_cons]
    refine ih (fun y hy => h y (List.mem_cons_of_mem _ hy)) _ (Nat.or_lt_two_pow hm ?_)
    exact Nat.pow_lt_pow_right (by decide) (by have := h x List.mem_cons_self; omega)

theorem mkN_lt (l : List Int) (h : ∀ x ∈ l, x < 24) : mkN l < 2 ^ 24 := mk_lt l h 0 (by decide)

theorem nat32 {a : Nat} (ha : a < 2 ^ 24) : (BitVec.ofInt 32 (a : Int)).toNat = a := by
  rw [BitVec.ofInt_natCast, BitVec.toNat_ofNat]; omega
theorem wrap32 {n : Nat} (h : n < 2 ^ 24) : IntKind.wrap .u32 (n : Int) = (n : Int) := by
  simp [IntKind.wrap, IntKind.bits, IntKind.signed]; omega
theorem or32 {a b : Nat} (ha : a < 2 ^ 24) (hb : b < 2 ^ 24) : bitsOp .or .u32 (a : Int) (b : Int) = ((a ||| b : Nat) : Int) := by
  show IntKind.wrap .u32 (((BitVec.ofInt 32 (a : Int) ||| BitVec.ofInt 32 (b : Int)).toNat : Nat) : Int) = _
  rw [BitVec.toNat_or, nat32 ha, nat32 hb, wrap32 (Nat.or_lt_two_pow ha hb)]
theorem and32 {a b : Nat} (ha : a < 2 ^ 24) (hb : b < 2 ^ 24) : bitsOp .and .u32 (a : Int) (b : Int) = ((a &&& b : Nat) : Int) := by
  show IntKind.wrap .u32 (((BitVec.ofInt 32 (a : Int) &&& BitVec.ofInt 32 (b : Int)).toNat : Nat) : Int) = _
  rw [BitVec.toNat_and, nat32 ha, nat32 hb, wrap32 (Nat.and_lt_two_pow _ hb)]
theorem shl32 {n : Int} (h : 0 ≤ n) (h' : n < 24) : IntKind.wrap .u32 ((1 : Int) * (2 : Int) ^ Min.min (Int.toNat n) (IntKind.bits .u32)) = ((2 ^ n.toNat : Nat) : Int) := by
  obtain ⟨k, rfl⟩ : ∃ k : Nat, n = k := ⟨n.toNat, by omega⟩
  have hk : k < 24 := by omega
  have hm : min k 32 = k := by omega
  have h2 : 2 ^ k < 2 ^ 24 := Nat.pow_lt_pow_right (by decide) hk
  have e : (1 : Int) * (2 : Int) ^ Min.min (Int.toNat k) (IntKind.bits .u32) = ((2 ^ k : Nat) : Int) := by
    simp [IntKind.bits, hm]
  rw [e, wrap32 h2]; simp

theorem pow24 {n : Int} (h' : n < 24) : 2 ^ n.toNat < 2 ^ 24 := Nat.pow_lt_pow_right (by decide) (by omega)

theorem impl_mask_eq (row : List Int) (hl : row.length ≤ 4611686018427387904) (h : ∀ x ∈ row, 0 ≤ x ∧ x < 24) : Wh.impl_mask row = some ((mkN row : Int), ()) := by
  have hc : Comes Wh.impl_mask_l0 (((0 : Int), (0 : Int), row, (row.length : Int)), ()) ((mkN row : Int), ()) := by
    refine comes_up (st := fun i => (((i : Int), (mkN (row.take i) : Int), row, (row.length : Int)), ())) (n := row.length) ?_ ?_ 0 (Nat.zero_le _)
    · intro i hi
      have h0 := h row[i] (by simp)
      have h3 := wrapN (i := i) (by omega)
      have e : mkN (row.take (i + 1)) = mkN (row.take i) ||| 2 ^ (row[i]).toNat := by rw [List.take_succ_eq_append_getElem hi, mkN_snoc]
      have h4 := shl32 h0.1 h0.2
      have h5 := or32 (mkN_lt (row.take i) fun x hx => (h x (List.mem_of_mem_take hx)).2) (pow24 h0.2)
      simp only [Wh.impl_mask_l0, getD_eq _ _ _ hi, Int.toNat_natCast, h3, h4, h5, e, allB, Int.ofNat_lt, hi, h0.1, decide_true, cond_true, Int.natCast_nonneg, Bool.and_self]
    · simp [Wh.impl_mask_l0]
  simp [Wh.impl_mask, cb hc, cv hc]

end Pl
