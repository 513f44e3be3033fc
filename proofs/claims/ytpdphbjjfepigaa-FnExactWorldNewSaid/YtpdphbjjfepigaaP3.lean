import Derived.Test.YtpdphbjjfepigaaP2
open Go Go.Ab
namespace Pl

/-! Item -/
noncomputable def mkItem (_ : tImplItem.D) (k : Int) : tImplItem.D := (k, mt (k + 1), k + 2, mt (k + 3), ())
def nItem (_ : tImplItem.D) : Nat := 4
theorem eqItem_refl (w : tImplItem.D) : Wh.laws_eqItem (w, w) = some (true, ()) := by simp [Wh.laws_eqItem]
theorem eqItemS_refl (a : List tImplItem.D) (h : a.length ≤ 4611686018427387904) : Wh.laws_eqItemS (a, a) = some (true, ()) := by
  have hl : Comes Wh.laws_eqItemS_l0 (((0 : Int), a, a), ()) (.inr ((), ())) := by
    refine comes_up (st := fun i => (((i : Int), a, a), ())) (n := a.length) ?_ ?_ 0 (Nat.zero_le _)
    · intro i hi
      have h2 := wrapN (i := i) (by omega)
      have h4 := eqItem_refl (a[i])
      simp [Wh.laws_eqItemS_l0, Wh.laws_eqItem', allB, h2, hi, h4, isSm]
    · simp [Wh.laws_eqItemS_l0]
  simp [Wh.laws_eqItemS, cb hl, cv hl, sumC_inr]
theorem markItemS_eq (a : List tImplItem.D) (k : Int) (h0 : 0 ≤ k) (h1 : k + (sumN nItem a : Nat) < big) (hl : a.length ≤ 4611686018427387904) : Wh.laws_markItemS (a, k) = some (k + (sumN nItem a : Nat), markL mkItem nItem a k, ()) := by
  have hc : Comes Wh.laws_markItemS_l0 (((0 : Int), (), k), a) (k + (sumN nItem a : Nat), markL mkItem nItem a k) := by
    have := comes_up (r := Wh.laws_markItemS_l0) (st := fun i => (((i : Int), (), ks nItem k a i), part mkItem nItem k a i)) (n := a.length) (y := (k + (sumN nItem a : Nat), markL mkItem nItem a k)) ?_ ?_ 0 (Nat.zero_le _)
    · simpa [ks_zero, part_zero] using this
    · intro i hi
      have b1 := ks_le nItem k a i
      have b2 := ks_lt nItem k a i hi
      have b3 : nItem a[i] = 4 := rfl
      have e2 := wrapN (i := i) (by omega)
      have e4 := ks_succ nItem k a i hi
      have e3 := part_set mkItem nItem k a i hi
      have pl := part_len mkItem nItem k a i (Nat.le_of_lt hi)
      have pg := fun z => part_get mkItem nItem k a i z hi
      have hi' : i < (part mkItem nItem k a i).length := by omega
      simp only [mkItem] at e3
      rw [b3] at e4
      generalize ks nItem k a i = q at *
      have w0 := wrapK (k := q) (by omega) (by omega)
      have w1 := wrapK (k := q + 1) (by omega) (by omega)
      have w2 := wrapK (k := q + 2) (by omega) (by omega)
      have w3 := wrapK (k := q + 3) (by omega) (by omega)
      have a1 : q + 1 + 1 = q + 2 := by omega
      have a2 : q + 2 + 1 = q + 3 := by omega
      have a3 : q + 3 + 1 = ks nItem k a (i + 1) := by rw [e4]; omega
      rw [a1] at w1
      rw [a2] at w2
      rw [a3] at w3
      have t1 := markText_eq (q + 1) (by omega) (by omega)
      have t3 := markText_eq (q + 3) (by omega) (by omega)
      have c1 : decide ((i : Int) < (a.length : Int)) = true := by simpa using hi
      simp only [Wh.laws_markItemS_l0, Int.toNat_natCast, pl, pg, getD_set' _ _ _ _ hi', set_set', List.length_set, c1, cond_true, allB, Bool.and_self, Int.natCast_nonneg, decide_true, isSm,
        w0, a1, w1, a2, w2, a3, w3, Wh.laws_markText_v _ _ t1, t1, Wh.laws_markText_v _ _ t3, t3, e2, e3]
    · simp [Wh.laws_markItemS_l0, part_len, ks_all, part_all, markL_len]
  simp [Wh.laws_markItemS, cb hc, cv hc]
theorem heldItemS_eq (a : List tImplItem.D) (k : Int) (h0 : 0 ≤ k) (h1 : k + (sumN nItem a : Nat) < big) (hl : a.length ≤ 4611686018427387904) : Wh.laws_heldItemS (markL mkItem nItem a k, k) = some (k + (sumN nItem a : Nat), ()) := by
  have hc : Comes Wh.laws_heldItemS_l0 (((0 : Int), markL mkItem nItem a k, k), ()) (.inr (k + (sumN nItem a : Nat), ())) := by
    have := comes_up (r := Wh.laws_heldItemS_l0) (st := fun i => (((i : Int), markL mkItem nItem a k, ks nItem k a i), ())) (n := a.length) (y := .inr (k + (sumN nItem a : Nat), ())) ?_ ?_ 0 (Nat.zero_le _)
    · simpa [ks_zero] using this
    · intro i hi
      have b1 := ks_le nItem k a i
      have b2 := ks_lt nItem k a i hi
      have b3 : nItem a[i] = 4 := rfl
      have e2 := wrapN (i := i) (by omega)
      have e4 := ks_succ nItem k a i hi
      have pl := markL_len mkItem nItem a k
      have pg := fun z => markL_get mkItem nItem k a i z hi
      simp only [mkItem] at pg
      rw [b3] at e4
      generalize ks nItem k a i = q at *
      have w0 := wrapK (k := q) (by omega) (by omega)
      have w1 := wrapK (k := q + 1) (by omega) (by omega)
      have w2 := wrapK (k := q + 2) (by omega) (by omega)
      have w3 := wrapK (k := q + 3) (by omega) (by omega)
      have a1 : q + 1 + 1 = q + 2 := by omega
      have a2 : q + 2 + 1 = q + 3 := by omega
      have a3 : q + 3 + 1 = ks nItem k a (i + 1) := by rw [e4]; omega
      rw [a1] at w1
      rw [a2] at w2
      rw [a3] at w3
      have t1 := markText_eq (q + 1) (by omega) (by omega)
      have t3 := markText_eq (q + 3) (by omega) (by omega)
      have c1 : decide ((i : Int) < (a.length : Int)) = true := by simpa using hi
      have d1 : (mt (q + 1) == mt (q + 1)) = true := by simp
      have d3 : (mt (q + 3) == mt (q + 3)) = true := by simp
      have bn : ∀ x : Int, (x != x) = false := by intro x; simp
      simp only [mkItem, Wh.laws_heldItemS_l0, Int.toNat_natCast, pl, pg, c1, cond_true, cond_false, allB, Bool.and_self, Int.natCast_nonneg, decide_true, isSm, bn,
        w0, a1, w1, a2, w2, a3, w3, Wh.laws_markText_v _ _ t1, t1, Wh.laws_markText_v _ _ t3, t3, e2, d1, d3, Bool.not_true]
    · simp [Wh.laws_heldItemS_l0, markL_len, ks_all]
  simp [Wh.laws_heldItemS, cb hc, cv hc, sumC]

/-! Bucket -/
def mkBucket (_ : tImplBucket.D) (k : Int) : tImplBucket.D := (k, k + 1, k + 2, k + 3, ())
def nBucket (_ : tImplBucket.D) : Nat := 4
theorem eqBucket_refl (w : tImplBucket.D) : Wh.laws_eqBucket (w, w) = some (true, ()) := by simp [Wh.laws_eqBucket]
theorem eqBucketS_refl (a : List tImplBucket.D) (h : a.length ≤ 4611686018427387904) : Wh.laws_eqBucketS (a, a) = some (true, ()) := by
  have hl : Comes Wh.laws_eqBucketS_l0 (((0 : Int), a, a), ()) (.inr ((), ())) := by
    refine comes_up (st := fun i => (((i : Int), a, a), ())) (n := a.length) ?_ ?_ 0 (Nat.zero_le _)
    · intro i hi
      have h2 := wrapN (i := i) (by omega)
      have h4 := eqBucket_refl (a[i])
      simp [Wh.laws_eqBucketS_l0, Wh.laws_eqBucket', allB, h2, hi, h4, isSm]
    · simp [Wh.laws_eqBucketS_l0]
  simp [Wh.laws_eqBucketS, cb hl, cv hl, sumC_inr]
theorem markBucketS_eq (a : List tImplBucket.D) (k : Int) (h0 : 0 ≤ k) (h1 : k + (sumN nBucket a : Nat) < big) (hl : a.length ≤ 4611686018427387904) : Wh.laws_markBucketS (a, k) = some (k + (sumN nBucket a : Nat), markL mkBucket nBucket a k, ()) := by
  have hc : Comes Wh.laws_markBucketS_l0 (((0 : Int), (), k), a) (k + (sumN nBucket a : Nat), markL mkBucket nBucket a k) := by
    have := comes_up (r := Wh.laws_markBucketS_l0) (st := fun i => (((i : Int), (), ks nBucket k a i), part mkBucket nBucket k a i)) (n := a.length) (y := (k + (sumN nBucket a : Nat), markL mkBucket nBucket a k)) ?_ ?_ 0 (Nat.zero_le _)
    · simpa [ks_zero, part_zero] using this
    · intro i hi
      have b1 := ks_le nBucket k a i
      have b2 := ks_lt nBucket k a i hi
      have b3 : nBucket a[i] = 4 := rfl
      have e2 := wrapN (i := i) (by omega)
      have e4 := ks_succ nBucket k a i hi
      have e3 := part_set mkBucket nBucket k a i hi
      have pl := part_len mkBucket nBucket k a i (Nat.le_of_lt hi)
      have pg := fun z => part_get mkBucket nBucket k a i z hi
      have hi' : i < (part mkBucket nBucket k a i).length := by omega
      simp only [mkBucket] at e3
      rw [b3] at e4
      generalize ks nBucket k a i = q at *
      have w0 := wrapK (k := q) (by omega) (by omega)
      have w1 := wrapK (k := q + 1) (by omega) (by omega)
      have w2 := wrapK (k := q + 2) (by omega) (by omega)
      have w3 := wrapK (k := q + 3) (by omega) (by omega)
      have a1 : q + 1 + 1 = q + 2 := by omega
      have a2 : q + 2 + 1 = q + 3 := by omega
      have a3 : q + 3 + 1 = ks nBucket k a (i + 1) := by rw [e4]; omega
      rw [a1] at w1
      rw [a2] at w2
      rw [a3] at w3
      have c1 : decide ((i : Int) < (a.length : Int)) = true := by simpa using hi
      simp only [Wh.laws_markBucketS_l0, Int.toNat_natCast, pl, pg, getD_set' _ _ _ _ hi', set_set', List.length_set, c1, cond_true, allB, Bool.and_self, Int.natCast_nonneg, decide_true, isSm,
        w0, a1, w1, a2, w2, a3, w3, e2, e3]
    · simp [Wh.laws_markBucketS_l0, part_len, ks_all, part_all, markL_len]
  simp [Wh.laws_markBucketS, cb hc, cv hc]
theorem heldBucketS_eq (a : List tImplBucket.D) (k : Int) (h0 : 0 ≤ k) (h1 : k + (sumN nBucket a : Nat) < big) (hl : a.length ≤ 4611686018427387904) : Wh.laws_heldBucketS (markL mkBucket nBucket a k, k) = some (k + (sumN nBucket a : Nat), ()) := by
  have hc : Comes Wh.laws_heldBucketS_l0 (((0 : Int), markL mkBucket nBucket a k, k), ()) (.inr (k + (sumN nBucket a : Nat), ())) := by
    have := comes_up (r := Wh.laws_heldBucketS_l0) (st := fun i => (((i : Int), markL mkBucket nBucket a k, ks nBucket k a i), ())) (n := a.length) (y := .inr (k + (sumN nBucket a : Nat), ())) ?_ ?_ 0 (Nat.zero_le _)
    · simpa [ks_zero] using this
    · intro i hi
      have b1 := ks_le nBucket k a i
      have b2 := ks_lt nBucket k a i hi
      have b3 : nBucket a[i] = 4 := rfl
      have e2 := wrapN (i := i) (by omega)
      have e4 := ks_succ nBucket k a i hi
      have pl := markL_len mkBucket nBucket a k
      have pg := fun z => markL_get mkBucket nBucket k a i z hi
      simp only [mkBucket] at pg
      rw [b3] at e4
      generalize ks nBucket k a i = q at *
      have w0 := wrapK (k := q) (by omega) (by omega)
      have w1 := wrapK (k := q + 1) (by omega) (by omega)
      have w2 := wrapK (k := q + 2) (by omega) (by omega)
      have w3 := wrapK (k := q + 3) (by omega) (by omega)
      have a1 : q + 1 + 1 = q + 2 := by omega
      have a2 : q + 2 + 1 = q + 3 := by omega
      have a3 : q + 3 + 1 = ks nBucket k a (i + 1) := by rw [e4]; omega
      rw [a1] at w1
      rw [a2] at w2
      rw [a3] at w3
      have c1 : decide ((i : Int) < (a.length : Int)) = true := by simpa using hi
      have bn : ∀ x : Int, (x != x) = false := by intro x; simp
      simp only [mkBucket, Wh.laws_heldBucketS_l0, Int.toNat_natCast, pl, pg, c1, cond_true, cond_false, allB, Bool.and_self, Int.natCast_nonneg, decide_true, isSm, bn,
        w0, a1, w1, a2, w2, a3, w3, e2, Bool.not_true]
    · simp [Wh.laws_heldBucketS_l0, markL_len, ks_all]
  simp [Wh.laws_heldBucketS, cb hc, cv hc, sumC]

/-! Serve -/
def mkServe (_ : tImplServe.D) (k : Int) : tImplServe.D := (k, k + 1, k + 2, k + 3, k + 4, k + 5, ())
def nServe (_ : tImplServe.D) : Nat := 6
theorem eqServe_refl (w : tImplServe.D) : Wh.laws_eqServe (w, w) = some (true, ()) := by simp [Wh.laws_eqServe]
theorem eqServeS_refl (a : List tImplServe.D) (h : a.length ≤ 4611686018427387904) : Wh.laws_eqServeS (a, a) = some (true, ()) := by
  have hl : Comes Wh.laws_eqServeS_l0 (((0 : Int), a, a), ()) (.inr ((), ())) := by
    refine comes_up (st := fun i => (((i : Int), a, a), ())) (n := a.length) ?_ ?_ 0 (Nat.zero_le _)
    · intro i hi
      have h2 := wrapN (i := i) (by omega)
      have h4 := eqServe_refl (a[i])
      simp [Wh.laws_eqServeS_l0, Wh.laws_eqServe', allB, h2, hi, h4, isSm]
    · simp [Wh.laws_eqServeS_l0]
  simp [Wh.laws_eqServeS, cb hl, cv hl, sumC_inr]
theorem markServeS_eq (a : List tImplServe.D) (k : Int) (h0 : 0 ≤ k) (h1 : k + (sumN nServe a : Nat) < big) (hl : a.length ≤ 4611686018427387904) : Wh.laws_markServeS (a, k) = some (k + (sumN nServe a : Nat), markL mkServe nServe a k, ()) := by
  have hc : Comes Wh.laws_markServeS_l0 (((0 : Int), (), k), a) (k + (sumN nServe a : Nat), markL mkServe nServe a k) := by
    have := comes_up (r := Wh.laws_markServeS_l0) (st := fun i => (((i : Int), (), ks nServe k a i), part mkServe nServe k a i)) (n := a.length) (y := (k + (sumN nServe a : Nat), markL mkServe nServe a k)) ?_ ?_ 0 (Nat.zero_le _)
    · simpa [ks_zero, part_zero] using this
    · intro i hi
      have b1 := ks_le nServe k a i
      have b2 := ks_lt nServe k a i hi
      have b3 : nServe a[i] = 6 := rfl
      have e2 := wrapN (i := i) (by omega)
      have e4 := ks_succ nServe k a i hi
      have e3 := part_set mkServe nServe k a i hi
      have pl := part_len mkServe nServe k a i (Nat.le_of_lt hi)
      have pg := fun z => part_get mkServe nServe k a i z hi
      have hi' : i < (part mkServe nServe k a i).length := by omega
      simp only [mkServe] at e3
      rw [b3] at e4
      generalize ks nServe k a i = q at *
      have w0 := wrapK (k := q) (by omega) (by omega)
      have w1 := wrapK (k := q + 1) (by omega) (by omega)
      have w2 := wrapK (k := q + 2) (by omega) (by omega)
      have w3 := wrapK (k := q + 3) (by omega) (by omega)
      have w4 := wrapK (k := q + 4) (by omega) (by omega)
      have w5 := wrapK (k := q + 5) (by omega) (by omega)
      have a1 : q + 1 + 1 = q + 2 := by omega
      have a2 : q + 2 + 1 = q + 3 := by omega
      have a3 : q + 3 + 1 = q + 4 := by omega
      have a4 : q + 4 + 1 = q + 5 := by omega
      have a5 : q + 5 + 1 = ks nServe k a (i + 1) := by rw [e4]; omega
      rw [a1] at w1
      rw [a2] at w2
      rw [a3] at w3
      rw [a4] at w4
      rw [a5] at w5
      have c1 : decide ((i : Int) < (a.length : Int)) = true := by simpa using hi
      simp only [Wh.laws_markServeS_l0, Int.toNat_natCast, pl, pg, getD_set' _ _ _ _ hi', set_set', List.length_set, c1, cond_true, allB, Bool.and_self, Int.natCast_nonneg, decide_true, isSm,
        w0, a1, w1, a2, w2, a3, w3, a4, w4, a5, w5, e2, e3]
    · simp [Wh.laws_markServeS_l0, part_len, ks_all, part_all, markL_len]
  simp [Wh.laws_markServeS, cb hc, cv hc]
theorem heldServeS_eq (a : List tImplServe.D) (k : Int) (h0 : 0 ≤ k) (h1 : k + (sumN nServe a : Nat) < big) (hl : a.length ≤ 4611686018427387904) : Wh.laws_heldServeS (markL mkServe nServe a k, k) = some (k + (sumN nServe a : Nat), ()) := by
  have hc : Comes Wh.laws_heldServeS_l0 (((0 : Int), markL mkServe nServe a k, k), ()) (.inr (k + (sumN nServe a : Nat), ())) := by
    have := comes_up (r := Wh.laws_heldServeS_l0) (st := fun i => (((i : Int), markL mkServe nServe a k, ks nServe k a i), ())) (n := a.length) (y := .inr (k + (sumN nServe a : Nat), ())) ?_ ?_ 0 (Nat.zero_le _)
    · simpa [ks_zero] using this
    · intro i hi
      have b1 := ks_le nServe k a i
      have b2 := ks_lt nServe k a i hi
      have b3 : nServe a[i] = 6 := rfl
      have e2 := wrapN (i := i) (by omega)
      have e4 := ks_succ nServe k a i hi
      have pl := markL_len mkServe nServe a k
      have pg := fun z => markL_get mkServe nServe k a i z hi
      simp only [mkServe] at pg
      rw [b3] at e4
      generalize ks nServe k a i = q at *
      have w0 := wrapK (k := q) (by omega) (by omega)
      have w1 := wrapK (k := q + 1) (by omega) (by omega)
      have w2 := wrapK (k := q + 2) (by omega) (by omega)
      have w3 := wrapK (k := q + 3) (by omega) (by omega)
      have w4 := wrapK (k := q + 4) (by omega) (by omega)
      have w5 := wrapK (k := q + 5) (by omega) (by omega)
      have a1 : q + 1 + 1 = q + 2 := by omega
      have a2 : q + 2 + 1 = q + 3 := by omega
      have a3 : q + 3 + 1 = q + 4 := by omega
      have a4 : q + 4 + 1 = q + 5 := by omega
      have a5 : q + 5 + 1 = ks nServe k a (i + 1) := by rw [e4]; omega
      rw [a1] at w1
      rw [a2] at w2
      rw [a3] at w3
      rw [a4] at w4
      rw [a5] at w5
      have c1 : decide ((i : Int) < (a.length : Int)) = true := by simpa using hi
      have bn : ∀ x : Int, (x != x) = false := by intro x; simp
      simp only [mkServe, Wh.laws_heldServeS_l0, Int.toNat_natCast, pl, pg, c1, cond_true, cond_false, allB, Bool.and_self, Int.natCast_nonneg, decide_true, isSm, bn,
        w0, a1, w1, a2, w2, a3, w3, a4, w4, a5, w5, e2, Bool.not_true]
    · simp [Wh.laws_heldServeS_l0, markL_len, ks_all]
  simp [Wh.laws_heldServeS, cb hc, cv hc, sumC]

/-! Frame -/
def mkFrame (_ : tImplFrame.D) (k : Int) : tImplFrame.D := (k, k + 1, k + 2, k + 3, Int.tmod (k + 4) 3 == 0, ())
def nFrame (_ : tImplFrame.D) : Nat := 5
theorem eqFrame_refl (w : tImplFrame.D) : Wh.laws_eqFrame (w, w) = some (true, ()) := by simp [Wh.laws_eqFrame]
theorem eqFrameS_refl (a : List tImplFrame.D) (h : a.length ≤ 4611686018427387904) : Wh.laws_eqFrameS (a, a) = some (true, ()) := by
  have hl : Comes Wh.laws_eqFrameS_l0 (((0 : Int), a, a), ()) (.inr ((), ())) := by
    refine comes_up (st := fun i => (((i : Int), a, a), ())) (n := a.length) ?_ ?_ 0 (Nat.zero_le _)
    · intro i hi
      have h2 := wrapN (i := i) (by omega)
      have h4 := eqFrame_refl (a[i])
      simp [Wh.laws_eqFrameS_l0, Wh.laws_eqFrame', allB, h2, hi, h4, isSm]
    · simp [Wh.laws_eqFrameS_l0]
  simp [Wh.laws_eqFrameS, cb hl, cv hl, sumC_inr]
theorem markFrameS_eq (a : List tImplFrame.D) (k : Int) (h0 : 0 ≤ k) (h1 : k + (sumN nFrame a : Nat) < big) (hl : a.length ≤ 4611686018427387904) : Wh.laws_markFrameS (a, k) = some (k + (sumN nFrame a : Nat), markL mkFrame nFrame a k, ()) := by
  have hc : Comes Wh.laws_markFrameS_l0 (((0 : Int), (), k), a) (k + (sumN nFrame a : Nat), markL mkFrame nFrame a k) := by
    have := comes_up (r := Wh.laws_markFrameS_l0) (st := fun i => (((i : Int), (), ks nFrame k a i), part mkFrame nFrame k a i)) (n := a.length) (y := (k + (sumN nFrame a : Nat), markL mkFrame nFrame a k)) ?_ ?_ 0 (Nat.zero_le _)
    · simpa [ks_zero, part_zero] using this
    · intro i hi
      have b1 := ks_le nFrame k a i
      have b2 := ks_lt nFrame k a i hi
      have b3 : nFrame a[i] = 5 := rfl
      have e2 := wrapN (i := i) (by omega)
      have e4 := ks_succ nFrame k a i hi
      have e3 := part_set mkFrame nFrame k a i hi
      have pl := part_len mkFrame nFrame k a i (Nat.le_of_lt hi)
      have pg := fun z => part_get mkFrame nFrame k a i z hi
      have hi' : i < (part mkFrame nFrame k a i).length := by omega
      simp only [mkFrame] at e3
      rw [b3] at e4
      generalize ks nFrame k a i = q at *
      have w0 := wrapK (k := q) (by omega) (by omega)
      have w1 := wrapK (k := q + 1) (by omega) (by omega)
      have w2 := wrapK (k := q + 2) (by omega) (by omega)
      have w3 := wrapK (k := q + 3) (by omega) (by omega)
      have w4 := wrapK (k := q + 4) (by omega) (by omega)
      have a1 : q + 1 + 1 = q + 2 := by omega
      have a2 : q + 2 + 1 = q + 3 := by omega
      have a3 : q + 3 + 1 = q + 4 := by omega
      have a4 : q + 4 + 1 = ks nFrame k a (i + 1) := by rw [e4]; omega
      rw [a1] at w1
      rw [a2] at w2
      rw [a3] at w3
      rw [a4] at w4
      have c1 : decide ((i : Int) < (a.length : Int)) = true := by simpa using hi
      simp only [Wh.laws_markFrameS_l0, Int.toNat_natCast, pl, pg, getD_set' _ _ _ _ hi', set_set', List.length_set, c1, cond_true, allB, Bool.and_self, Int.natCast_nonneg, decide_true, isSm,
        w0, a1, w1, a2, w2, a3, w3, a4, w4, e2, e3]
    · simp [Wh.laws_markFrameS_l0, part_len, ks_all, part_all, markL_len]
  simp [Wh.laws_markFrameS, cb hc, cv hc]
theorem heldFrameS_eq (a : List tImplFrame.D) (k : Int) (h0 : 0 ≤ k) (h1 : k + (sumN nFrame a : Nat) < big) (hl : a.length ≤ 4611686018427387904) : Wh.laws_heldFrameS (markL mkFrame nFrame a k, k) = some (k + (sumN nFrame a : Nat), ()) := by
  have hc : Comes Wh.laws_heldFrameS_l0 (((0 : Int), markL mkFrame nFrame a k, k), ()) (.inr (k + (sumN nFrame a : Nat), ())) := by
    have := comes_up (r := Wh.laws_heldFrameS_l0) (st := fun i => (((i : Int), markL mkFrame nFrame a k, ks nFrame k a i), ())) (n := a.length) (y := .inr (k + (sumN nFrame a : Nat), ())) ?_ ?_ 0 (Nat.zero_le _)
    · simpa [ks_zero] using this
    · intro i hi
      have b1 := ks_le nFrame k a i
      have b2 := ks_lt nFrame k a i hi
      have b3 : nFrame a[i] = 5 := rfl
      have e2 := wrapN (i := i) (by omega)
      have e4 := ks_succ nFrame k a i hi
      have pl := markL_len mkFrame nFrame a k
      have pg := fun z => markL_get mkFrame nFrame k a i z hi
      simp only [mkFrame] at pg
      rw [b3] at e4
      generalize ks nFrame k a i = q at *
      have w0 := wrapK (k := q) (by omega) (by omega)
      have w1 := wrapK (k := q + 1) (by omega) (by omega)
      have w2 := wrapK (k := q + 2) (by omega) (by omega)
      have w3 := wrapK (k := q + 3) (by omega) (by omega)
      have w4 := wrapK (k := q + 4) (by omega) (by omega)
      have a1 : q + 1 + 1 = q + 2 := by omega
      have a2 : q + 2 + 1 = q + 3 := by omega
      have a3 : q + 3 + 1 = q + 4 := by omega
      have a4 : q + 4 + 1 = ks nFrame k a (i + 1) := by rw [e4]; omega
      rw [a1] at w1
      rw [a2] at w2
      rw [a3] at w3
      rw [a4] at w4
      have c1 : decide ((i : Int) < (a.length : Int)) = true := by simpa using hi
      have d4 : ((Int.tmod (q + 4) 3 == 0) == (Int.tmod (q + 4) 3 == 0)) = true := by simp
      have bn : ∀ x : Int, (x != x) = false := by intro x; simp
      simp only [mkFrame, Wh.laws_heldFrameS_l0, Int.toNat_natCast, pl, pg, c1, cond_true, cond_false, allB, Bool.and_self, Int.natCast_nonneg, decide_true, isSm, bn,
        w0, a1, w1, a2, w2, a3, w3, a4, w4, e2, d4, Bool.not_true]
    · simp [Wh.laws_heldFrameS_l0, markL_len, ks_all]
  simp [Wh.laws_heldFrameS, cb hc, cv hc, sumC]

/-! Packet -/
noncomputable def mkPacket (_ : tImplPacket.D) (k : Int) : tImplPacket.D := (k, mt (k + 1), Int.tmod (k + 2) 3 == 0, ())
def nPacket (_ : tImplPacket.D) : Nat := 3
theorem eqPacket_refl (w : tImplPacket.D) : Wh.laws_eqPacket (w, w) = some (true, ()) := by simp [Wh.laws_eqPacket]
theorem eqPacketS_refl (a : List tImplPacket.D) (h : a.length ≤ 4611686018427387904) : Wh.laws_eqPacketS (a, a) = some (true, ()) := by
  have hl : Comes Wh.laws_eqPacketS_l0 (((0 : Int), a, a), ()) (.inr ((), ())) := by
    refine comes_up (st := fun i => (((i : Int), a, a), ())) (n := a.length) ?_ ?_ 0 (Nat.zero_le _)
    · intro i hi
      have h2 := wrapN (i := i) (by omega)
      have h4 := eqPacket_refl (a[i])
      simp [Wh.laws_eqPacketS_l0, Wh.laws_eqPacket', allB, h2, hi, h4, isSm]
    · simp [Wh.laws_eqPacketS_l0]
  simp [Wh.laws_eqPacketS, cb hl, cv hl, sumC_inr]
theorem markPacketS_eq (a : List tImplPacket.D) (k : Int) (h0 : 0 ≤ k) (h1 : k + (sumN nPacket a : Nat) < big) (hl : a.length ≤ 4611686018427387904) : Wh.laws_markPacketS (a, k) = some (k + (sumN nPacket a : Nat), markL mkPacket nPacket a k, ()) := by
  have hc : Comes Wh.laws_markPacketS_l0 (((0 : Int), (), k), a) (k + (sumN nPacket a : Nat), markL mkPacket nPacket a k) := by
    have := comes_up (r := Wh.laws_markPacketS_l0) (st := fun i => (((i : Int), (), ks nPacket k a i), part mkPacket nPacket k a i)) (n := a.length) (y := (k + (sumN nPacket a : Nat), markL mkPacket nPacket a k)) ?_ ?_ 0 (Nat.zero_le _)
    · simpa [ks_zero, part_zero] using this
    · intro i hi
      have b1 := ks_le nPacket k a i
      have b2 := ks_lt nPacket k a i hi
      have b3 : nPacket a[i] = 3 := rfl
      have e2 := wrapN (i := i) (by omega)
      have e4 := ks_succ nPacket k a i hi
      have e3 := part_set mkPacket nPacket k a i hi
      have pl := part_len mkPacket nPacket k a i (Nat.le_of_lt hi)
      have pg := fun z => part_get mkPacket nPacket k a i z hi
      have hi' : i < (part mkPacket nPacket k a i).length := by omega
      simp only [mkPacket] at e3
      rw [b3] at e4
      generalize ks nPacket k a i = q at *
      have w0 := wrapK (k := q) (by omega) (by omega)
      have w1 := wrapK (k := q + 1) (by omega) (by omega)
      have w2 := wrapK (k := q + 2) (by omega) (by omega)
      have a1 : q + 1 + 1 = q + 2 := by omega
      have a2 : q + 2 + 1 = ks nPacket k a (i + 1) := by rw [e4]; omega
      rw [a1] at w1
      rw [a2] at w2
      have t1 := markText_eq (q + 1) (by omega) (by omega)
      have c1 : decide ((i : Int) < (a.length : Int)) = true := by simpa using hi
      simp only [Wh.laws_markPacketS_l0, Int.toNat_natCast, pl, pg, getD_set' _ _ _ _ hi', set_set', List.length_set, c1, cond_true, allB, Bool.and_self, Int.natCast_nonneg, decide_true, isSm,
        w0, a1, w1, a2, w2, Wh.laws_markText_v _ _ t1, t1, e2, e3]
    · simp [Wh.laws_markPacketS_l0, part_len, ks_all, part_all, markL_len]
  simp [Wh.laws_markPacketS, cb hc, cv hc]
theorem heldPacketS_eq (a : List tImplPacket.D) (k : Int) (h0 : 0 ≤ k) (h1 : k + (sumN nPacket a : Nat) < big) (hl : a.length ≤ 4611686018427387904) : Wh.laws_heldPacketS (markL mkPacket nPacket a k, k) = some (k + (sumN nPacket a : Nat), ()) := by
  have hc : Comes Wh.laws_heldPacketS_l0 (((0 : Int), markL mkPacket nPacket a k, k), ()) (.inr (k + (sumN nPacket a : Nat), ())) := by
    have := comes_up (r := Wh.laws_heldPacketS_l0) (st := fun i => (((i : Int), markL mkPacket nPacket a k, ks nPacket k a i), ())) (n := a.length) (y := .inr (k + (sumN nPacket a : Nat), ())) ?_ ?_ 0 (Nat.zero_le _)
    · simpa [ks_zero] using this
    · intro i hi
      have b1 := ks_le nPacket k a i
      have b2 := ks_lt nPacket k a i hi
      have b3 : nPacket a[i] = 3 := rfl
      have e2 := wrapN (i := i) (by omega)
      have e4 := ks_succ nPacket k a i hi
      have pl := markL_len mkPacket nPacket a k
      have pg := fun z => markL_get mkPacket nPacket k a i z hi
      simp only [mkPacket] at pg
      rw [b3] at e4
      generalize ks nPacket k a i = q at *
      have w0 := wrapK (k := q) (by omega) (by omega)
      have w1 := wrapK (k := q + 1) (by omega) (by omega)
      have w2 := wrapK (k := q + 2) (by omega) (by omega)
      have a1 : q + 1 + 1 = q + 2 := by omega
      have a2 : q + 2 + 1 = ks nPacket k a (i + 1) := by rw [e4]; omega
      rw [a1] at w1
      rw [a2] at w2
      have t1 := markText_eq (q + 1) (by omega) (by omega)
      have c1 : decide ((i : Int) < (a.length : Int)) = true := by simpa using hi
      have d1 : (mt (q + 1) == mt (q + 1)) = true := by simp
      have d2 : ((Int.tmod (q + 2) 3 == 0) == (Int.tmod (q + 2) 3 == 0)) = true := by simp
      have bn : ∀ x : Int, (x != x) = false := by intro x; simp
      simp only [mkPacket, Wh.laws_heldPacketS_l0, Int.toNat_natCast, pl, pg, c1, cond_true, cond_false, allB, Bool.and_self, Int.natCast_nonneg, decide_true, isSm, bn,
        w0, a1, w1, a2, w2, Wh.laws_markText_v _ _ t1, t1, e2, d1, d2, Bool.not_true]
    · simp [Wh.laws_heldPacketS_l0, markL_len, ks_all]
  simp [Wh.laws_heldPacketS, cb hc, cv hc, sumC]

end Pl
open Go Go.Ab
namespace Pl

/-! catalogues, pools, servers -/
/-- no list in it is longer than any machine's -/
def SmCat (c : tImplCat.D) : Prop := c.2.1.length ≤ 4611686018427387904
def SmPool (p : tImplPool.D) : Prop := p.1.length ≤ 4611686018427387904
def SmServer (s : tImplServer.D) : Prop := SmCat s.2.2.2.1 ∧ SmPool s.2.2.2.2.1 ∧ s.2.2.2.2.2.1.length ≤ 4611686018427387904 ∧ s.2.2.2.2.2.2.1.length ≤ 4611686018427387904

theorem eqCat_refl (c : tImplCat.D) (h : SmCat c) : Wh.laws_eqCat (c, c) = some (true, ()) := by
  simp [Wh.laws_eqCat, Wh.laws_eqItemS', eqItemS_refl _ h, allB, isSm]
theorem eqPool_refl (c : tImplPool.D) (h : SmPool c) : Wh.laws_eqPool (c, c) = some (true, ()) := by
  simp [Wh.laws_eqPool, Wh.laws_eqFrameS', eqFrameS_refl _ h, allB, isSm]
theorem eqServer_refl (s : tImplServer.D) (h : SmServer s) : Wh.laws_eqServer (s, s) = some (true, ()) := by
  have e1 := eqCat_refl _ h.1
  have e2 := eqPool_refl _ h.2.1
  have e3 := eqBucketS_refl _ h.2.2.1
  have e4 := eqServeS_refl _ h.2.2.2
  simp [Wh.laws_eqServer, Wh.laws_eqCat_v _ _ e1, e1, Wh.laws_eqPool_v _ _ e2, e2, Wh.laws_eqBucketS_v _ _ e3, e3, Wh.laws_eqServeS_v _ _ e4, e4, allB, isSm]

noncomputable def mkCat (c : tImplCat.D) (k : Int) : tImplCat.D := (c.1, markL mkItem nItem c.2.1 k, c.2.2)
def nCat (c : tImplCat.D) : Nat := sumN nItem c.2.1
theorem markCat_eq (c : tImplCat.D) (k : Int) (h0 : 0 ≤ k) (h1 : k + (nCat c : Nat) < big) (hl : SmCat c) : Wh.laws_markCat (c, k) = some (k + (nCat c : Nat), mkCat c k, ()) := by
  have e1 := markItemS_eq c.2.1 k h0 h1 hl
  simp [Wh.laws_markCat, e1, Wh.laws_markItemS_v _ _ e1, allB, isSm, mkCat, nCat]
theorem heldCat_eq (c : tImplCat.D) (k : Int) (h0 : 0 ≤ k) (h1 : k + (nCat c : Nat) < big) (hl : SmCat c) : Wh.laws_heldCat (mkCat c k, k) = some (k + (nCat c : Nat), ()) := by
  have e1 := heldItemS_eq c.2.1 k h0 h1 hl
  have n1 : ¬ (k + (sumN nItem c.2.1 : Nat)) < 0 := by omega
  simp [Wh.laws_heldCat, mkCat, e1, Wh.laws_heldItemS_v _ _ e1, allB, isSm, nCat, n1]

def mkPool (c : tImplPool.D) (k : Int) : tImplPool.D := (markL mkFrame nFrame c.1 k, c.2)
def nPool (c : tImplPool.D) : Nat := sumN nFrame c.1
theorem markPool_eq (c : tImplPool.D) (k : Int) (h0 : 0 ≤ k) (h1 : k + (nPool c : Nat) < big) (hl : SmPool c) : Wh.laws_markPool (c, k) = some (k + (nPool c : Nat), mkPool c k, ()) := by
  have e1 := markFrameS_eq c.1 k h0 h1 hl
  simp [Wh.laws_markPool, e1, Wh.laws_markFrameS_v _ _ e1, allB, isSm, mkPool, nPool]
theorem heldPool_eq (c : tImplPool.D) (k : Int) (h0 : 0 ≤ k) (h1 : k + (nPool c : Nat) < big) (hl : SmPool c) : Wh.laws_heldPool (mkPool c k, k) = some (k + (nPool c : Nat), ()) := by
  have e1 := heldFrameS_eq c.1 k h0 h1 hl
  have n1 : ¬ (k + (sumN nFrame c.1 : Nat)) < 0 := by omega
  simp [Wh.laws_heldPool, mkPool, e1, Wh.laws_heldFrameS_v _ _ e1, allB, isSm, nPool, n1]

noncomputable def mkServer (s : tImplServer.D) (k : Int) : tImplServer.D :=
  (s.1, s.2.1, s.2.2.1, mkCat s.2.2.2.1 k, mkPool s.2.2.2.2.1 (k + (nCat s.2.2.2.1 : Nat)), markL mkBucket nBucket s.2.2.2.2.2.1 (k + (nCat s.2.2.2.1 : Nat) + (nPool s.2.2.2.2.1 : Nat)),
    markL mkServe nServe s.2.2.2.2.2.2.1 (k + (nCat s.2.2.2.1 : Nat) + (nPool s.2.2.2.2.1 : Nat) + (sumN nBucket s.2.2.2.2.2.1 : Nat)), s.2.2.2.2.2.2.2)
def nServer (s : tImplServer.D) : Nat := nCat s.2.2.2.1 + nPool s.2.2.2.2.1 + sumN nBucket s.2.2.2.2.2.1 + sumN nServe s.2.2.2.2.2.2.1

theorem markServer_eq (s : tImplServer.D) (k : Int) (h0 : 0 ≤ k) (h1 : k + (nServer s : Nat) < big) (hl : SmServer s) : Wh.laws_markServer (s, k) = some (k + (nServer s : Nat), mkServer s k, ()) := by
  unfold nServer at h1
  have e1 := markCat_eq s.2.2.2.1 k h0 (by omega) hl.1
  have e2 := markPool_eq s.2.2.2.2.1 (k + (nCat s.2.2.2.1 : Nat)) (by omega) (by omega) hl.2.1
  have e3 := markBucketS_eq s.2.2.2.2.2.1 (k + (nCat s.2.2.2.1 : Nat) + (nPool s.2.2.2.2.1 : Nat)) (by omega) (by omega) hl.2.2.1
  have e4 := markServeS_eq s.2.2.2.2.2.2.1 (k + (nCat s.2.2.2.1 : Nat) + (nPool s.2.2.2.2.1 : Nat) + (sumN nBucket s.2.2.2.2.2.1 : Nat)) (by omega) (by omega) hl.2.2.2
  have v1 := Wh.laws_markCat_v _ _ e1
  have v2 := Wh.laws_markPool_v _ _ e2
  have v3 := Wh.laws_markBucketS_v _ _ e3
  have v4 := Wh.laws_markServeS_v _ _ e4
  simp only [Wh.laws_markServer, e1, v1, e2, v2, e3, v3, e4, v4, allB, isSm, cond_true]
  simp [mkServer, nServer, mkCat, mkPool]
  omega
theorem heldServer_eq (s : tImplServer.D) (k : Int) (h0 : 0 ≤ k) (h1 : k + (nServer s : Nat) < big) (hl : SmServer s) : Wh.laws_heldServer (mkServer s k, k) = some (k + (nServer s : Nat), ()) := by
  unfold nServer at h1
  have e1 := heldCat_eq s.2.2.2.1 k h0 (by omega) hl.1
  have e2 := heldPool_eq s.2.2.2.2.1 (k + (nCat s.2.2.2.1 : Nat)) (by omega) (by omega) hl.2.1
  have e3 := heldBucketS_eq s.2.2.2.2.2.1 (k + (nCat s.2.2.2.1 : Nat) + (nPool s.2.2.2.2.1 : Nat)) (by omega) (by omega) hl.2.2.1
  have e4 := heldServeS_eq s.2.2.2.2.2.2.1 (k + (nCat s.2.2.2.1 : Nat) + (nPool s.2.2.2.2.1 : Nat) + (sumN nBucket s.2.2.2.2.2.1 : Nat)) (by omega) (by omega) hl.2.2.2
  have v1 := Wh.laws_heldCat_v _ _ e1
  have v2 := Wh.laws_heldPool_v _ _ e2
  have v3 := Wh.laws_heldBucketS_v _ _ e3
  have v4 := Wh.laws_heldServeS_v _ _ e4
  have n1 : decide ((k + (nCat s.2.2.2.1 : Nat)) < 0) = false := by simp; omega
  have n2 : decide ((k + (nCat s.2.2.2.1 : Nat) + (nPool s.2.2.2.2.1 : Nat)) < 0) = false := by simp; omega
  have n3 : decide ((k + (nCat s.2.2.2.1 : Nat) + (nPool s.2.2.2.2.1 : Nat) + (sumN nBucket s.2.2.2.2.2.1 : Nat)) < 0) = false := by simp; omega
  have n4 : decide ((k + (nCat s.2.2.2.1 : Nat) + (nPool s.2.2.2.2.1 : Nat) + (sumN nBucket s.2.2.2.2.2.1 : Nat) + (sumN nServe s.2.2.2.2.2.2.1 : Nat)) < 0) = false := by simp; omega
  simp only [Wh.laws_heldServer, mkServer, e1, v1, e2, v2, e3, v3, e4, v4, allB, isSm, cond_true, cond_false, n1, n2, n3, n4]
  simp [nServer]
  omega

end Pl
open Go Go.Ab
namespace Pl

/-! equations -/
noncomputable def mkE (e : tImplEq.D) (k : Int) : tImplEq.D := (markL mkI nI e.1 k, mt (k + (sumN nI e.1 : Nat)), e.2.2)
def nE (e : tImplEq.D) : Nat := sumN nI e.1 + 1

theorem markEqS_eq (a : List tImplEq.D) (k : Int) (h0 : 0 ≤ k) (h1 : k + (sumN nE a : Nat) < big) (hl : a.length ≤ 4611686018427387904) (hr : ∀ x ∈ a, x.1.length ≤ 4611686018427387904) :
    Wh.laws_markEqS (a, k) = some (k + (sumN nE a : Nat), markL mkE nE a k, ()) := by
  have hc : Comes Wh.laws_markEqS_l0 (((0 : Int), (), k), a) (k + (sumN nE a : Nat), markL mkE nE a k) := by
    have := comes_up (r := Wh.laws_markEqS_l0) (st := fun i => (((i : Int), (), ks nE k a i), part mkE nE k a i)) (n := a.length) (y := (k + (sumN nE a : Nat), markL mkE nE a k)) ?_ ?_ 0 (Nat.zero_le _)
    · simpa [ks_zero, part_zero] using this
    · intro i hi
      have b1 := ks_le nE k a i
      have b2 := ks_lt nE k a i hi
      have b3 : nE a[i] = sumN nI a[i].1 + 1 := rfl
      have m1 := markIntS_eq a[i].1 (ks nE k a i) (by omega) (by omega) (hr _ (by simp))
      have m2 := markText_eq (ks nE k a i + (sumN nI a[i].1 : Nat)) (by omega) (by omega)
      have e1 := wrapK (k := ks nE k a i + (sumN nI a[i].1 : Nat)) (by omega) (by omega)
      have e2 := wrapN (i := i) (by omega)
      have e3 := part_set mkE nE k a i hi
      have e4 := ks_succ nE k a i hi
      have pl := part_len mkE nE k a i (Nat.le_of_lt hi)
      have pg := part_get mkE nE k a i ([], [], ()) hi
      have hi' : i < (part mkE nE k a i).length := by omega
      simp only [mkE] at e3
      have e5 : ks nE k a i + (sumN nI a[i].1 : Nat) + 1 = ks nE k a (i + 1) := by rw [e4, b3]; omega
      rw [e5] at e1
      have c1 : decide ((i : Int) < (a.length : Int)) = true := by simpa using hi
      simp only [Wh.laws_markEqS_l0, Int.toNat_natCast, pl, pg, Wh.laws_markIntS_v _ _ m1, m1, isSm, getD_set' _ _ _ _ hi', Wh.laws_markText_v _ _ m2, m2, set_set', List.length_set, c1, cond_true, allB, Bool.and_self, Int.natCast_nonneg, decide_true, e2, e5, e1, e3]
    · simp [Wh.laws_markEqS_l0, part_len, ks_all, part_all, markL_len]
  simp [Wh.laws_markEqS, cb hc, cv hc]

theorem heldEqS_eq (a : List tImplEq.D) (k : Int) (h0 : 0 ≤ k) (h1 : k + (sumN nE a : Nat) < big) (hl : a.length ≤ 4611686018427387904) (hr : ∀ x ∈ a, x.1.length ≤ 4611686018427387904) :
    Wh.laws_heldEqS (markL mkE nE a k, k) = some (k + (sumN nE a : Nat), ()) := by
  have hc : Comes Wh.laws_heldEqS_l0 (((0 : Int), markL mkE nE a k, k), ()) (.inr (k + (sumN nE a : Nat), ())) := by
    have := comes_up (r := Wh.laws_heldEqS_l0) (st := fun i => (((i : Int), markL mkE nE a k, ks nE k a i), ())) (n := a.length) (y := .inr (k + (sumN nE a : Nat), ())) ?_ ?_ 0 (Nat.zero_le _)
    · simpa [ks_zero] using this
    · intro i hi
      have b1 := ks_le nE k a i
      have b2 := ks_lt nE k a i hi
      have b3 : nE a[i] = sumN nI a[i].1 + 1 := rfl
      have m1 := heldIntS_eq a[i].1 (ks nE k a i) (by omega) (by omega) (hr _ (by simp))
      have m2 := markText_eq (ks nE k a i + (sumN nI a[i].1 : Nat)) (by omega) (by omega)
      have e1 := wrapK (k := ks nE k a i + (sumN nI a[i].1 : Nat)) (by omega) (by omega)
      have e2 := wrapN (i := i) (by omega)
      have e4 := ks_succ nE k a i hi
      have pl := markL_len mkE nE a k
      have pg := markL_get mkE nE k a i ([], [], ()) hi
      simp only [mkE] at pg
      have e5 : ks nE k a i + (sumN nI a[i].1 : Nat) + 1 = ks nE k a (i + 1) := by rw [e4, b3]; omega
      rw [e5] at e1
      have n1 : decide (ks nE k a i + (sumN nI a[i].1 : Nat) < 0) = false := by simp; omega
      have c1 : decide ((i : Int) < (a.length : Int)) = true := by simpa using hi
      have c2 : ((mt (ks nE k a i + (sumN nI a[i].1 : Nat))) == (mt (ks nE k a i + (sumN nI a[i].1 : Nat)))) = true := by simp
      simp only [mkE, Wh.laws_heldEqS_l0, Int.toNat_natCast, pl, pg, Wh.laws_heldIntS_v _ _ m1, m1, isSm, Wh.laws_markText_v _ _ m2, m2, c1, c2, n1, cond_true, cond_false, allB, Bool.and_self, Bool.not_true, Int.natCast_nonneg, decide_true, e2, e5, e1]
    · simp [Wh.laws_heldEqS_l0, markL_len, ks_all]
  simp [Wh.laws_heldEqS, cb hc, cv hc, sumC]


end Pl
