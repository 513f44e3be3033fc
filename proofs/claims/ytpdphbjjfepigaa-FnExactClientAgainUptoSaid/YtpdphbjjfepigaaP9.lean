import Derived.Test.YtpdphbjjfepigaaP8
open Go Go.Ab
namespace Pl

/-! ### marks: a list's elements are written one by one, and read again -/
section
variable {α : Type} (mk1 : α → Int → α) (n1 : α → Nat)

def markL : List α → Int → List α
  | [], _ => []
  | a :: l, k => mk1 a k :: markL l (k + n1 a)

def sumN (l : List α) : Nat := (l.map n1).sum

/-- the number at the i-th element -/
def ks (k : Int) (l : List α) (i : Nat) : Int := k + (sumN n1 (l.take i) : Nat)
/-- the list of which the first i are marked -/
def part (k : Int) (l : List α) (i : Nat) : List α := markL mk1 n1 (l.take i) k ++ l.drop i

theorem markL_len : ∀ (l : List α) (k : Int), (markL mk1 n1 l k).length = l.length
  | [], _ => rfl
  | _ :: l, k => by simp [markL, markL_len l]

theorem markL_app : ∀ (p q : List α) (k : Int), markL mk1 n1 (p ++ q) k = markL mk1 n1 p k ++ markL mk1 n1 q (k + (sumN n1 p : Nat))
  | [], q, k => by simp [markL, sumN]
  | a :: p, q, k => by
    simp only [List.cons_append, markL, markL_app p q, sumN, List.map_cons, List.sum_cons]
    rw [show k + (n1 a : Int) + ((p.map n1).sum : Nat) = k + ((n1 a + (p.map n1).sum : Nat) : Int) by omega]

theorem split_at (l : List α) (i : Nat) (h : i < l.length) : l = l.take i ++ l[i] :: l.drop (i + 1) := by
  rw [List.getElem_cons_drop, List.take_append_drop]

theorem take_succ' (l : List α) (i : Nat) (h : i < l.length) : l.take (i + 1) = l.take i ++ [l[i]] := by
  rw [List.take_add_one, List.getElem?_eq_getElem h]; rfl

theorem ks_zero (k : Int) (l : List α) : ks n1 k l 0 = k := by simp [ks, sumN]
theorem ks_succ (k : Int) (l : List α) (i : Nat) (h : i < l.length) : ks n1 k l (i + 1) = ks n1 k l i + n1 l[i] := by
  simp only [ks, take_succ' l i h, sumN, List.map_append, List.sum_append, List.map_cons, List.map_nil, List.sum_cons, List.sum_nil]
  omega
theorem ks_all (k : Int) (l : List α) : ks n1 k l l.length = k + (sumN n1 l : Nat) := by simp [ks]
theorem ks_le (k : Int) (l : List α) (i : Nat) : k ≤ ks n1 k l i ∧ ks n1 k l i ≤ k + (sumN n1 l : Nat) := by
  have : sumN n1 (l.take i) ≤ sumN n1 l := by
    have e : sumN n1 l = sumN n1 (l.take i) + sumN n1 (l.drop i) := by
      unfold sumN
      rw [← List.sum_append, ← List.map_append, List.take_append_drop]
    omega
  unfold ks
  omega
theorem ks_lt (k : Int) (l : List α) (i : Nat) (h : i < l.length) : ks n1 k l i + n1 l[i] ≤ k + (sumN n1 l : Nat) := by
  rw [← ks_succ n1 k l i h]
  exact (ks_le n1 k l (i + 1)).2

theorem part_zero (k : Int) (l : List α) : part mk1 n1 k l 0 = l := by simp [part, markL]
theorem part_all (k : Int) (l : List α) : part mk1 n1 k l l.length = markL mk1 n1 l k := by simp [part]
theorem part_len (k : Int) (l : List α) (i : Nat) (h : i ≤ l.length) : (part mk1 n1 k l i).length = l.length := by simp [part, markL_len]; omega
theorem part_get (k : Int) (l : List α) (i : Nat) (z : α) (h : i < l.length) : (part mk1 n1 k l i).getD i z = l[i] := by
  have hl : (markL mk1 n1 (l.take i) k).length = i := by rw [markL_len]; simp; omega
  unfold part
  rw [List.getD_eq_getElem?_getD, List.getElem?_append_right (by omega), hl, Nat.sub_self, List.getElem?_drop, List.getElem?_eq_getElem (by omega)]
  simp
theorem part_set (k : Int) (l : List α) (i : Nat) (h : i < l.length) : (part mk1 n1 k l i).set i (mk1 l[i] (ks n1 k l i)) = part mk1 n1 k l (i + 1) := by
  have hl : (markL mk1 n1 (l.take i) k).length = i := by rw [markL_len]; simp; omega
  unfold part
  rw [take_succ' l i h, markL_app, ← List.getElem_cons_drop h, List.set_append_right _ _ (by omega), hl, Nat.sub_self, List.set_cons_zero]
  simp [markL, ks]
theorem markL_get (k : Int) (l : List α) (i : Nat) (z : α) (h : i < l.length) : (markL mk1 n1 l k).getD i z = mk1 l[i] (ks n1 k l i) := by
  rw [← part_all, List.getD_eq_getElem?_getD]
  have hl : (markL mk1 n1 (l.take i) k).length = i := by rw [markL_len]; simp; omega
  have e : markL mk1 n1 l k = markL mk1 n1 (l.take i) k ++ mk1 l[i] (ks n1 k l i) :: markL mk1 n1 (l.drop (i + 1)) (ks n1 k l i + n1 l[i]) := by
    conv => lhs; rw [split_at l i h]
    rw [markL_app]
    rfl
  rw [part_all, e, List.getElem?_append_right (by omega), hl, Nat.sub_self]
  rfl
end

theorem markL_getE {α : Type} (mk1 : α → Int → α) (n1 : α → Nat) (k : Int) (l : List α) (i : Nat) (h : i < l.length) (h' : i < (markL mk1 n1 l k).length) : (markL mk1 n1 l k)[i] = mk1 l[i] (ks n1 k l i) := by
  have := markL_get mk1 n1 k l i l[i] h
  rw [List.getD_eq_getElem?_getD, List.getElem?_eq_getElem h'] at this
  exact this

/-- the marks' text -/
noncomputable def mt (k : Int) : List UInt8 := (Wh.laws_markText' k).1

theorem markText_loop : ∀ (d : Nat) (k : Int) (out : List UInt8), 0 ≤ k → k < (10 : Int) ^ d → d ≤ 18 → out.length + d ≤ 100 → ∃ s : List UInt8, s.length ≤ 100 ∧ Comes Wh.laws_markText_l0 ((k, out), ()) (s, ()) := by
  intro d
  induction d with
  | zero =>
    intro k out h0 h1 _ h2
    have hk : k = 0 := by simp at h1; omega
    subst hk
    exact ⟨out, by omega, .out (by simp [Wh.laws_markText_l0])⟩
  | succ d ih =>
    intro k out h0 h1 hd h2
    by_cases hk : k > 0
    · have hq : k.tdiv 10 < (10 : Int) ^ d := by
        rw [Int.tdiv_eq_ediv_of_nonneg h0]
        rw [Int.pow_succ] at h1
        omega
      have hq0 : 0 ≤ k.tdiv 10 := by rw [Int.tdiv_eq_ediv_of_nonneg h0]; omega
      have hp : (10 : Int) ^ d ≤ (10 : Int) ^ 18 := by
        have : (10 : Nat) ^ d ≤ 10 ^ 18 := Nat.pow_le_pow_right (by decide) (by omega)
        exact_mod_cast this
      have hw : IntKind.wrap .i64 (k.tdiv 10) = k.tdiv 10 := by rw [wrap64] <;> omega
      obtain ⟨s, hs, hc⟩ := ih (k.tdiv 10) (strOf [IntKind.wrap .u8 (IntKind.wrap .i64 (48 + k.tmod 10))] ++ out) hq0 hq (by omega) (by simp [strOf]; omega)
      refine ⟨s, hs, .again (x' := ((k.tdiv 10, strOf [IntKind.wrap .u8 (IntKind.wrap .i64 (48 + k.tmod 10))] ++ out), ())) ?_ hc⟩
      have hl : 1 + out.length ≤ maxRows := by unfold maxRows; omega
      simp [Wh.laws_markText_l0, hk, hl, allB, hw]
    · exact ⟨out, by omega, .out (by simp [Wh.laws_markText_l0, hk])⟩

/-- a number of marks that any machine holds -/
def big : Int := 1000000000000000000

theorem markText_eq (k : Int) (h0 : 0 ≤ k) (h1 : k < big) : Wh.laws_markText k = some (mt k, ()) := by
  have main : ∃ s, Wh.laws_markText k = some (s, ()) := by
    by_cases hk : k ≤ 0
    · exact ⟨[109, 48], by simp [Wh.laws_markText, hk]⟩
    · obtain ⟨s, hs, hc⟩ := markText_loop 18 k [] h0 (by simpa [big] using h1) (by omega) (by simp)
      have hl : 1 + s.length ≤ maxRows := by unfold maxRows; omega
      exact ⟨109 :: s, by simp [Wh.laws_markText, hk, cb hc, cv hc, allB, hl]⟩
  obtain ⟨s, hs⟩ := main
  rw [hs, mt, Wh.laws_markText_v _ _ hs]

theorem wrapK {k : Int} (h0 : 0 ≤ k) (h1 : k ≤ big) : IntKind.wrap .i64 (k + 1) = k + 1 := by unfold big at h1; rw [wrap64] <;> omega

/-! numbers -/
def mkI (_ : Int) (k : Int) : Int := k
def nI (_ : Int) : Nat := 1

theorem markIntS_eq (a : List Int) (k : Int) (h0 : 0 ≤ k) (h1 : k + (sumN nI a : Nat) < big) (hl : a.length ≤ 4611686018427387904) : Wh.laws_markIntS (a, k) = some (k + (sumN nI a : Nat), markL mkI nI a k, ()) := by
  have hc : Comes Wh.laws_markIntS_l0 (((0 : Int), k, ()), a) (k + (sumN nI a : Nat), markL mkI nI a k) := by
    have := comes_up (r := Wh.laws_markIntS_l0) (st := fun i => (((i : Int), ks nI k a i, ()), part mkI nI k a i)) (n := a.length) (y := (k + (sumN nI a : Nat), markL mkI nI a k)) ?_ ?_ 0 (Nat.zero_le _)
    · simpa [ks_zero, part_zero] using this
    · intro i hi
      have b1 := ks_le nI k a i
      have b2 := ks_lt nI k a i hi
      have e1 := wrapK (k := ks nI k a i) (by omega) (by omega)
      have e2 := wrapN (i := i) (by omega)
      have e3 := part_set mkI nI k a i hi
      have e4 := ks_succ nI k a i hi
      simp only [mkI] at e3
      simp only [nI] at e4
      simp [Wh.laws_markIntS_l0, part_len _ _ _ _ _ (Nat.le_of_lt hi), hi, allB, e1, e2, e3, e4]
    · simp [Wh.laws_markIntS_l0, part_len, ks_all, part_all, markL_len]
  simp [Wh.laws_markIntS, cb hc, cv hc]

theorem heldIntS_eq (a : List Int) (k : Int) (h0 : 0 ≤ k) (h1 : k + (sumN nI a : Nat) < big) (hl : a.length ≤ 4611686018427387904) : Wh.laws_heldIntS (markL mkI nI a k, k) = some (k + (sumN nI a : Nat), ()) := by
  have hc : Comes Wh.laws_heldIntS_l0 (((0 : Int), k, markL mkI nI a k), ()) (.inr (k + (sumN nI a : Nat), ())) := by
    have := comes_up (r := Wh.laws_heldIntS_l0) (st := fun i => (((i : Int), ks nI k a i, markL mkI nI a k), ())) (n := a.length) (y := .inr (k + (sumN nI a : Nat), ())) ?_ ?_ 0 (Nat.zero_le _)
    · simpa [ks_zero] using this
    · intro i hi
      have b1 := ks_le nI k a i
      have b2 := ks_lt nI k a i hi
      have e1 := wrapK (k := ks nI k a i) (by omega) (by omega)
      have e2 := wrapN (i := i) (by omega)
      have e3 := markL_getE mkI nI k a i hi (by rw [markL_len]; exact hi)
      have e4 := ks_succ nI k a i hi
      simp only [mkI] at e3
      simp only [nI] at e4
      simp [Wh.laws_heldIntS_l0, markL_len, hi, allB, e1, e2, e3, e4]
    · simp [Wh.laws_heldIntS_l0, markL_len, ks_all]
  simp [Wh.laws_heldIntS, cb hc, cv hc, sumC]

theorem markI_len (a : List Int) (k : Int) : (markL mkI nI a k).length = a.length := markL_len _ _ _ _
theorem sumI (a : List Int) : sumN nI a = a.length := by
  induction a with
  | nil => rfl
  | cons x a ih => simp only [sumN, List.map_cons, List.sum_cons, List.length_cons] at ih ⊢; rw [ih]; simp [nI]; omega

/-! plans -/
def mkP (p : tImplPlan.D) (k : Int) : tImplPlan.D := (p.1, p.2.1, markL mkI nI p.2.2.1 k, markL mkI nI p.2.2.2.1 (k + (sumN nI p.2.2.1 : Nat)), p.2.2.2.2)
def nP (p : tImplPlan.D) : Nat := sumN nI p.2.2.1 + sumN nI p.2.2.2.1

theorem markPlan_eq (p : tImplPlan.D) (k : Int) (h0 : 0 ≤ k) (h1 : k + (nP p : Nat) < big) (hl : SmPlan p) : Wh.laws_markPlan (p, k) = some (k + (nP p : Nat), mkP p k, ()) := by
  unfold nP at h1
  have e1 := markIntS_eq p.2.2.1 k h0 (by omega) hl.1
  have e2 := markIntS_eq p.2.2.2.1 (k + (sumN nI p.2.2.1 : Nat)) (by omega) (by omega) hl.2
  simp [Wh.laws_markPlan, e1, Wh.laws_markIntS_v _ _ e1, e2, Wh.laws_markIntS_v _ _ e2, allB, isSm, mkP, nP]
  omega

theorem heldPlan_eq (p : tImplPlan.D) (k : Int) (h0 : 0 ≤ k) (h1 : k + (nP p : Nat) < big) (hl : SmPlan p) : Wh.laws_heldPlan (mkP p k, k) = some (k + (nP p : Nat), ()) := by
  unfold nP at h1
  have e1 := heldIntS_eq p.2.2.1 k h0 (by omega) hl.1
  have e2 := heldIntS_eq p.2.2.2.1 (k + (sumN nI p.2.2.1 : Nat)) (by omega) (by omega) hl.2
  have n1 : ¬ (k + (sumN nI p.2.2.1 : Nat)) < 0 := by omega
  have n2 : ¬ (k + (sumN nI p.2.2.1 : Nat) + (sumN nI p.2.2.2.1 : Nat)) < 0 := by omega
  simp [Wh.laws_heldPlan, mkP, e1, Wh.laws_heldIntS_v _ _ e1, e2, Wh.laws_heldIntS_v _ _ e2, allB, isSm, nP, n1, n2]
  omega

/-! equations -/
noncomputable def mkE (e : tImplEq.D) (k : Int) : tImplEq.D := (markL mkI nI e.1 k, mt (k + (sumN nI e.1 : Nat)), e.2.2)
def nE (e : tImplEq.D) : Nat := sumN nI e.1 + 1

theorem set_set' {α : Type} (l : List α) (i : Nat) (x y : α) : (l.set i x).set i y = l.set i y := by simp

theorem getD_set' {α : Type} (l : List α) (i : Nat) (x z : α) (h : i < l.length) : (l.set i x).getD i z = x := by simp [h]

theorem markEqS_eq (a : List tImplEq.D) (k : Int) (h0 : 0 ≤ k) (h1 : k + (sumN nE a : Nat) < big) (hl : a.length ≤ 4611686018427387904) (hr : ∀ x ∈ a, x.1.length ≤ 4611686018427387904) :
    Wh.laws_markEqS (a, k) = some (k + (sumN nE a : Nat), markL mkE nE a k, ()) := by
  have hc : Comes Wh.laws_markEqS_l0 (((0 : Int), (), k), a) (k + (sumN nE a : Nat), markL mkE nE a k) := by
    have := comes_up (r := Wh.laws_markEqS_l0) (st := fun i => (((i : Int), (), ks nE k a i), part mkE nE k a i)) (n := a.length) (y := (k + (sumN nE a : Nat), markL mkE nE a k)) ?_ ?_ 0 (Nat.zero_le _)
    · simpa [ks_zero, part_zero] using this
    · intro i hi
      have b1 := ks_le nE k a i
      have b2 := ks_lt nE k a i hi
      have b3 : nE a[i] = sumN nI a[i].1 + 1 := rfl
      have m1 := markIntS_eq a[i].1 (ks nE k a i) (by omega) (by omega) (hr _ (by simp))
      have m2 := markText_eq (ks nE k a i + (sumN nI a[i].1 : Nat)) (by omega) (by omega)
      have e1 := wrapK (k := ks nE k a i + (sumN nI a[i].1 : Nat)) (by omega) (by omega)
      have e2 := wrapN (i := i) (by omega)
      have e3 := part_set mkE nE k a i hi
      have e4 := ks_succ nE k a i hi
      have pl := part_len mkE nE k a i (Nat.le_of_lt hi)
      have pg := part_get mkE nE k a i ([], [], ()) hi
      have hi' : i < (part mkE nE k a i).length := by omega
      simp only [mkE] at e3
      have e5 : ks nE k a i + (sumN nI a[i].1 : Nat) + 1 = ks nE k a (i + 1) := by rw [e4, b3]; omega
      rw [e5] at e1
      have c1 : decide ((i : Int) < (a.length : Int)) = true := by simpa using hi
      simp only [Wh.laws_markEqS_l0, Int.toNat_natCast, pl, pg, Wh.laws_markIntS_v _ _ m1, m1, isSm, getD_set' _ _ _ _ hi', Wh.laws_markText_v _ _ m2, m2, set_set', List.length_set, c1, cond_true, allB, Bool.and_self, Int.natCast_nonneg, decide_true, e2, e5, e1, e3]
    · simp [Wh.laws_markEqS_l0, part_len, ks_all, part_all, markL_len]
  simp [Wh.laws_markEqS, cb hc, cv hc]

theorem heldEqS_eq (a : List tImplEq.D) (k : Int) (h0 : 0 ≤ k) (h1 : k + (sumN nE a : Nat) < big) (hl : a.length ≤ 4611686018427387904) (hr : ∀ x ∈ a, x.1.length ≤ 4611686018427387904) :
    Wh.laws_heldEqS (markL mkE nE a k, k) = some (k + (sumN nE a : Nat), ()) := by
  have hc : Comes Wh.laws_heldEqS_l0 (((0 : Int), markL mkE nE a k, k), ()) (.inr (k + (sumN nE a : Nat), ())) := by
    have := comes_up (r := Wh.laws_heldEqS_l0) (st := fun i => (((i : Int), markL mkE nE a k, ks nE k a i), ())) (n := a.length) (y := .inr (k + (sumN nE a : Nat), ())) ?_ ?_ 0 (Nat.zero_le _)
    · simpa [ks_zero] using this
    · intro i hi
      have b1 := ks_le nE k a i
      have b2 := ks_lt nE k a i hi
      have b3 : nE a[i] = sumN nI a[i].1 + 1 := rfl
      have m1 := heldIntS_eq a[i].1 (ks nE k a i) (by omega) (by omega) (hr _ (by simp))
      have m2 := markText_eq (ks nE k a i + (sumN nI a[i].1 : Nat)) (by omega) (by omega)
      have e1 := wrapK (k := ks nE k a i + (sumN nI a[i].1 : Nat)) (by omega) (by omega)
      have e2 := wrapN (i := i) (by omega)
      have e4 := ks_succ nE k a i hi
      have pl := markL_len mkE nE a k
      have pg := markL_get mkE nE k a i ([], [], ()) hi
      simp only [mkE] at pg
      have e5 : ks nE k a i + (sumN nI a[i].1 : Nat) + 1 = ks nE k a (i + 1) := by rw [e4, b3]; omega
      rw [e5] at e1
      have n1 : decide (ks nE k a i + (sumN nI a[i].1 : Nat) < 0) = false := by simp; omega
      have c1 : decide ((i : Int) < (a.length : Int)) = true := by simpa using hi
      have c2 : ((mt (ks nE k a i + (sumN nI a[i].1 : Nat))) == (mt (ks nE k a i + (sumN nI a[i].1 : Nat)))) = true := by simp
      simp only [mkE, Wh.laws_heldEqS_l0, Int.toNat_natCast, pl, pg, Wh.laws_heldIntS_v _ _ m1, m1, isSm, Wh.laws_markText_v _ _ m2, m2, c1, c2, n1, cond_true, cond_false, allB, Bool.and_self, Bool.not_true, Int.natCast_nonneg, decide_true, e2, e5, e1]
    · simp [Wh.laws_heldEqS_l0, markL_len, ks_all]
  simp [Wh.laws_heldEqS, cb hc, cv hc, sumC]

/-! solvers, gettings, clients -/
noncomputable def mkS (s : tImplSolver.D) (k : Int) : tImplSolver.D := (s.1, s.2.1, markL mkE nE s.2.2.1 k, s.2.2.2)
def nS (s : tImplSolver.D) : Nat := sumN nE s.2.2.1

theorem markSolver_eq (s : tImplSolver.D) (k : Int) (h0 : 0 ≤ k) (h1 : k + (nS s : Nat) < big) (hl : SmSolver s) : Wh.laws_markSolver (s, k) = some (k + (nS s : Nat), mkS s k, ()) := by
  have e1 := markEqS_eq s.2.2.1 k h0 h1 hl.1 hl.2
  simp [Wh.laws_markSolver, e1, Wh.laws_markEqS_v _ _ e1, allB, isSm, mkS, nS]
theorem heldSolver_eq (s : tImplSolver.D) (k : Int) (h0 : 0 ≤ k) (h1 : k + (nS s : Nat) < big) (hl : SmSolver s) : Wh.laws_heldSolver (mkS s k, k) = some (k + (nS s : Nat), ()) := by
  have e1 := heldEqS_eq s.2.2.1 k h0 h1 hl.1 hl.2
  have n1 : ¬ (k + (sumN nE s.2.2.1 : Nat)) < 0 := by omega
  simp [Wh.laws_heldSolver, mkS, e1, Wh.laws_heldEqS_v _ _ e1, allB, isSm, nS, n1]

noncomputable def mkG (g : tImplGetting.D) (k : Int) : tImplGetting.D := (mkP g.1 k, mkS g.2.1 (k + (nP g.1 : Nat)), g.2.2)
def nG (g : tImplGetting.D) : Nat := nP g.1 + nS g.2.1
theorem markGetting_eq (g : tImplGetting.D) (k : Int) (h0 : 0 ≤ k) (h1 : k + (nG g : Nat) < big) (hl : SmGetting g) : Wh.laws_markGetting (g, k) = some (k + (nG g : Nat), mkG g k, ()) := by
  unfold nG at h1
  have e1 := markPlan_eq g.1 k h0 (by omega) hl.1
  have e2 := markSolver_eq g.2.1 (k + (nP g.1 : Nat)) (by omega) (by omega) hl.2
  have v1 := Wh.laws_markPlan_v _ _ e1
  have v2 := Wh.laws_markSolver_v _ _ e2
  simp only [Wh.laws_markGetting, e1, v1, e2, v2, allB, isSm, cond_true]
  simp [mkG, nG, mkP, mkS]
  omega
theorem heldGetting_eq (g : tImplGetting.D) (k : Int) (h0 : 0 ≤ k) (h1 : k + (nG g : Nat) < big) (hl : SmGetting g) : Wh.laws_heldGetting (mkG g k, k) = some (k + (nG g : Nat), ()) := by
  unfold nG at h1
  have e1 := heldPlan_eq g.1 k h0 (by omega) hl.1
  have e2 := heldSolver_eq g.2.1 (k + (nP g.1 : Nat)) (by omega) (by omega) hl.2
  have n1 : decide ((k + (nP g.1 : Nat)) < 0) = false := by simp; omega
  have n2 : decide ((k + (nP g.1 : Nat) + (nS g.2.1 : Nat)) < 0) = false := by simp; omega
  simp only [Wh.laws_heldGetting, mkG, e1, Wh.laws_heldPlan_v _ _ e1, e2, Wh.laws_heldSolver_v _ _ e2, allB, isSm, n1, n2, cond_true, cond_false]
  simp [nG]
  omega

noncomputable def mkC (c : tImplClient.D) (k : Int) : tImplClient.D := (c.1, c.2.1, c.2.2.1, c.2.2.2.1, c.2.2.2.2.1, mkG c.2.2.2.2.2.1 k, c.2.2.2.2.2.2)
def nC (c : tImplClient.D) : Nat := nG c.2.2.2.2.2.1
theorem markClient_eq (c : tImplClient.D) (k : Int) (h0 : 0 ≤ k) (h1 : k + (nC c : Nat) < big) (hl : SmClient c) : Wh.laws_markClient (c, k) = some (k + (nC c : Nat), mkC c k, ()) := by
  have e1 := markGetting_eq c.2.2.2.2.2.1 k h0 h1 hl
  have v1 := Wh.laws_markGetting_v _ _ e1
  simp only [Wh.laws_markClient, e1, v1, allB, isSm, cond_true]
  simp [mkC, nC, mkG, mkP, mkS]
theorem heldClient_eq (c : tImplClient.D) (k : Int) (h0 : 0 ≤ k) (h1 : k + (nC c : Nat) < big) (hl : SmClient c) : Wh.laws_heldClient (mkC c k, k) = some (k + (nC c : Nat), ()) := by
  have e1 := heldGetting_eq c.2.2.2.2.2.1 k h0 h1 hl
  have n1 : decide ((k + (nG c.2.2.2.2.2.1 : Nat)) < 0) = false := by simp; omega
  simp only [Wh.laws_heldClient, mkC, e1, Wh.laws_heldGetting_v _ _ e1, allB, isSm, n1, cond_true, cond_false]
  rfl

/-! words -/
noncomputable def mkW (_ : tImplWord.D) (k : Int) : tImplWord.D := (k, k + 1, k + 2, k + 3, k + 4, mt (k + 5), mt (k + 6), ())
def nW (_ : tImplWord.D) : Nat := 7

theorem eqWord_refl (w : tImplWord.D) : Wh.laws_eqWord (w, w) = some (true, ()) := by simp [Wh.laws_eqWord]

theorem eqWordS_refl (a : List tImplWord.D) (h : a.length ≤ 4611686018427387904) : Wh.laws_eqWordS (a, a) = some (true, ()) := by
  have hl : Comes Wh.laws_eqWordS_l0 (((0 : Int), a, a), ()) (.inr ((), ())) := by
    refine comes_up (st := fun i => (((i : Int), a, a), ())) (n := a.length) ?_ ?_ 0 (Nat.zero_le _)
    · intro i hi
      have h2 := wrapN (i := i) (by omega)
      have h4 := eqWord_refl (a[i])
      simp [Wh.laws_eqWordS_l0, Wh.laws_eqWord', allB, h2, hi, h4, isSm]
    · simp [Wh.laws_eqWordS_l0]
  simp [Wh.laws_eqWordS, cb hl, cv hl, sumC_inr]

theorem markWordS_eq (a : List tImplWord.D) (k : Int) (h0 : 0 ≤ k) (h1 : k + (sumN nW a : Nat) < big) (hl : a.length ≤ 4611686018427387904) : Wh.laws_markWordS (a, k) = some (k + (sumN nW a : Nat), markL mkW nW a k, ()) := by
  have hc : Comes Wh.laws_markWordS_l0 (((0 : Int), (), k), a) (k + (sumN nW a : Nat), markL mkW nW a k) := by
    have := comes_up (r := Wh.laws_markWordS_l0) (st := fun i => (((i : Int), (), ks nW k a i), part mkW nW k a i)) (n := a.length) (y := (k + (sumN nW a : Nat), markL mkW nW a k)) ?_ ?_ 0 (Nat.zero_le _)
    · simpa [ks_zero, part_zero] using this
    · intro i hi
      have b1 := ks_le nW k a i
      have b2 := ks_lt nW k a i hi
      have b3 : nW a[i] = 7 := rfl
      have e2 := wrapN (i := i) (by omega)
      have e3 := part_set mkW nW k a i hi
      have e4 := ks_succ nW k a i hi
      have pl := part_len mkW nW k a i (Nat.le_of_lt hi)
      have pg := part_get mkW nW k a i ((0 : Int), (0 : Int), (0 : Int), (0 : Int), (0 : Int), [], [], ()) hi
      have hi' : i < (part mkW nW k a i).length := by omega
      simp only [mkW] at e3
      rw [b3] at e4
      generalize ks nW k a i = q at *
      have w0 := wrapK (k := q) (by omega) (by omega)
      have w1 := wrapK (k := q + 1) (by omega) (by omega)
      have w2 := wrapK (k := q + 2) (by omega) (by omega)
      have w3 := wrapK (k := q + 3) (by omega) (by omega)
      have w4 := wrapK (k := q + 4) (by omega) (by omega)
      have w5 := wrapK (k := q + 5) (by omega) (by omega)
      have w6 := wrapK (k := q + 6) (by omega) (by omega)
      rw [show q + 1 + 1 = q + 2 by omega] at w1
      rw [show q + 2 + 1 = q + 3 by omega] at w2
      rw [show q + 3 + 1 = q + 4 by omega] at w3
      rw [show q + 4 + 1 = q + 5 by omega] at w4
      rw [show q + 5 + 1 = q + 6 by omega] at w5
      rw [show q + 6 + 1 = ks nW k a (i + 1) by rw [e4]; omega] at w6
      have t5 := markText_eq (q + 5) (by omega) (by omega)
      have t6 := markText_eq (q + 6) (by omega) (by omega)
      have c1 : decide ((i : Int) < (a.length : Int)) = true := by simpa using hi
      have a1 : q + 1 + 1 = q + 2 := by omega
      have a2 : q + 2 + 1 = q + 3 := by omega
      have a3 : q + 3 + 1 = q + 4 := by omega
      have a4 : q + 4 + 1 = q + 5 := by omega
      have a5 : q + 5 + 1 = q + 6 := by omega
      have a6 : q + 6 + 1 = ks nW k a (i + 1) := by rw [e4]; omega
      simp only [Wh.laws_markWordS_l0, Int.toNat_natCast, pl, pg, getD_set' _ _ _ _ hi', set_set', List.length_set, c1, cond_true, allB, Bool.and_self, Int.natCast_nonneg, decide_true, isSm,
        w0, a1, w1, a2, w2, a3, w3, a4, w4, a5, w5, a6, w6, Wh.laws_markText_v _ _ t5, t5, Wh.laws_markText_v _ _ t6, t6, e2, e3]
    · simp [Wh.laws_markWordS_l0, part_len, ks_all, part_all, markL_len]
  simp [Wh.laws_markWordS, cb hc, cv hc]

theorem heldWordS_eq (a : List tImplWord.D) (k : Int) (h0 : 0 ≤ k) (h1 : k + (sumN nW a : Nat) < big) (hl : a.length ≤ 4611686018427387904) : Wh.laws_heldWordS (markL mkW nW a k, k) = some (k + (sumN nW a : Nat), ()) := by
  have hc : Comes Wh.laws_heldWordS_l0 (((0 : Int), markL mkW nW a k, k), ()) (.inr (k + (sumN nW a : Nat), ())) := by
    have := comes_up (r := Wh.laws_heldWordS_l0) (st := fun i => (((i : Int), markL mkW nW a k, ks nW k a i), ())) (n := a.length) (y := .inr (k + (sumN nW a : Nat), ())) ?_ ?_ 0 (Nat.zero_le _)
    · simpa [ks_zero] using this
    · intro i hi
      have b1 := ks_le nW k a i
      have b2 := ks_lt nW k a i hi
      have b3 : nW a[i] = 7 := rfl
      have e2 := wrapN (i := i) (by omega)
      have e4 := ks_succ nW k a i hi
      have pl := markL_len mkW nW a k
      have pg := markL_get mkW nW k a i ((0 : Int), (0 : Int), (0 : Int), (0 : Int), (0 : Int), [], [], ()) hi
      simp only [mkW] at pg
      rw [b3] at e4
      generalize ks nW k a i = q at *
      have w0 := wrapK (k := q) (by omega) (by omega)
      have w1 := wrapK (k := q + 1) (by omega) (by omega)
      have w2 := wrapK (k := q + 2) (by omega) (by omega)
      have w3 := wrapK (k := q + 3) (by omega) (by omega)
      have w4 := wrapK (k := q + 4) (by omega) (by omega)
      have w5 := wrapK (k := q + 5) (by omega) (by omega)
      have w6 := wrapK (k := q + 6) (by omega) (by omega)
      have a1 : q + 1 + 1 = q + 2 := by omega
      have a2 : q + 2 + 1 = q + 3 := by omega
      have a3 : q + 3 + 1 = q + 4 := by omega
      have a4 : q + 4 + 1 = q + 5 := by omega
      have a5 : q + 5 + 1 = q + 6 := by omega
      have a6 : q + 6 + 1 = ks nW k a (i + 1) := by rw [e4]; omega
      rw [a1] at w1; rw [a2] at w2; rw [a3] at w3; rw [a4] at w4; rw [a5] at w5; rw [a6] at w6
      have t5 := markText_eq (q + 5) (by omega) (by omega)
      have t6 := markText_eq (q + 6) (by omega) (by omega)
      have c1 : decide ((i : Int) < (a.length : Int)) = true := by simpa using hi
      have d5 : (mt (q + 5) == mt (q + 5)) = true := by simp
      have d6 : (mt (q + 6) == mt (q + 6)) = true := by simp
      have bn : ∀ x : Int, (x != x) = false := by intro x; simp
      simp only [mkW, Wh.laws_heldWordS_l0, Int.toNat_natCast, pl, pg, c1, cond_true, cond_false, allB, Bool.and_self, Int.natCast_nonneg, decide_true, isSm, bn,
        w0, a1, w1, a2, w2, a3, w3, a4, w4, a5, w5, a6, w6, Wh.laws_markText_v _ _ t5, t5, Wh.laws_markText_v _ _ t6, t6, e2, d5, d6, Bool.not_true]
    · simp [Wh.laws_heldWordS_l0, markL_len, ks_all]
  simp [Wh.laws_heldWordS, cb hc, cv hc, sumC]

end Pl
