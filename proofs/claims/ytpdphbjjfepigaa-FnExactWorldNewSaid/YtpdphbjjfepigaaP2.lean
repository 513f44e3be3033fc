import Derived.Test.YtpdphbjjfepigaaP1
open Go Go.Ab
namespace Pl

/-! ### marks: a list's elements are written one by one, and read again -/
section
variable {α : Type} (mk1 : α → Int → α) (n1 : α → Nat)

def markL : List α → Int → List α
  | [], _ => []
  | a :: l, k => mk1 a k :: markL l (k + n1 a)

def sumN (l : List α) : Nat := (l.map n1).sum

/-- the number at the i-th element -/
def ks (k : Int) (l : List α) (i : Nat) : Int := k + (sumN n1 (l.take i) : Nat)
/-- the list of which the first i are marked -/
def part (k : Int) (l : List α) (i : Nat) : List α := markL mk1 n1 (l.take i) k ++ l.drop i

theorem markL_len : ∀ (l : List α) (k : Int), (markL mk1 n1 l k).length = l.length
  | [], _ => rfl
  | _ :: l, k => by simp [markL, markL_len l]

theorem markL_app : ∀ (p q : List α) (k : Int), markL mk1 n1 (p ++ q) k = markL mk1 n1 p k ++ markL mk1 n1 q (k + (sumN n1 p : Nat))
  | [], q, k => by simp [markL, sumN]
  | a :: p, q, k => by
    simp only [List.cons_append, markL, markL_app p q, sumN, List.map_cons, List.sum_cons]
    rw [show k + (n1 a : Int) + ((p.map n1).sum : Nat) = k + ((n1 a + (p.map n1).sum : Nat) : Int) by omega]

theorem split_at (l : List α) (i : Nat) (h : i < l.length) : l = l.take i ++ l[i] :: l.drop (i + 1) := by
  rw [List.getElem_cons_drop, List.take_append_drop]

theorem take_succ' (l : List α) (i : Nat) (h : i < l.length) : l.take (i + 1) = l.take i ++ [l[i]] := by
  rw [List.take_add_one, List.getElem?_eq_getElem h]; rfl

theorem ks_zero (k : Int) (l : List α) : ks n1 k l 0 = k := by simp [ks, sumN]
theorem ks_succ (k : Int) (l : List α) (i : Nat) (h : i < l.length) : ks n1 k l (i + 1) = ks n1 k l i + n1 l[i] := by
  simp only [ks, take_succ' l i h, sumN, List.map_append, List.sum_append, List.map_cons, List.map_nil, List.sum_cons, List.sum_nil]
  omega
theorem ks_all (k : Int) (l : List α) : ks n1 k l l.length = k + (sumN n1 l : Nat) := by simp [ks]
theorem ks_le (k : Int) (l : List α) (i : Nat) : k ≤ ks n1 k l i ∧ ks n1 k l i ≤ k + (sumN n1 l : Nat) := by
  have : sumN n1 (l.take i) ≤ sumN n1 l := by
    have e : sumN n1 l = sumN n1 (l.take i) + sumN n1 (l.drop i) := by
      unfold sumN
      rw [← List.sum_append, ← List.map_append, List.take_append_drop]
    omega
  unfold ks
  omega
theorem ks_lt (k : Int) (l : List α) (i : Nat) (h : i < l.length) : ks n1 k l i + n1 l[i] ≤ k + (sumN n1 l : Nat) := by
  rw [← ks_succ n1 k l i h]
  exact (ks_le n1 k l (i + 1)).2

theorem part_zero (k : Int) (l : List α) : part mk1 n1 k l 0 = l := by simp [part, markL]
theorem part_all (k : Int) (l : List α) : part mk1 n1 k l l.length = markL mk1 n1 l k := by simp [part]
theorem part_len (k : Int) (l : List α) (i : Nat) (h : i ≤ l.length) : (part mk1 n1 k l i).length = l.length := by simp [part, markL_len]; omega
theorem part_get (k : Int) (l : List α) (i : Nat) (z : α) (h : i < l.length) : (part mk1 n1 k l i).getD i z = l[i] := by
  have hl : (markL mk1 n1 (l.take i) k).length = i := by rw [markL_len]; simp; omega
  unfold part
  rw [List.getD_eq_getElem?_getD, List.getElem?_append_right (by omega), hl, Nat.sub_self, List.getElem?_drop, List.getElem?_eq_getElem (by omega)]
  simp
theorem part_set (k : Int) (l : List α) (i : Nat) (h : i < l.length) : (part mk1 n1 k l i).set i (mk1 l[i] (ks n1 k l i)) = part mk1 n1 k l (i + 1) := by
  have hl : (markL mk1 n1 (l.take i) k).length = i := by rw [markL_len]; simp; omega
  unfold part
  rw [take_succ' l i h, markL_app, ← List.getElem_cons_drop h, List.set_append_right _ _ (by omega), hl, Nat.sub_self, List.set_cons_zero]
  simp [markL, ks]
theorem markL_get (k : Int) (l : List α) (i : Nat) (z : α) (h : i < l.length) : (markL mk1 n1 l k).getD i z = mk1 l[i] (ks n1 k l i) := by
  rw [← part_all, List.getD_eq_getElem?_getD]
  have hl : (markL mk1 n1 (l.take i) k).length = i := by rw [markL_len]; simp; omega
  have e : markL mk1 n1 l k = markL mk1 n1 (l.take i) k ++ mk1 l[i] (ks n1 k l i) :: markL mk1 n1 (l.drop (i + 1)) (ks n1 k l i + n1 l[i]) := by
    conv => lhs; rw [split_at l i h]
    rw [markL_app]
    rfl
  rw [part_all, e, List.getElem?_append_right (by omega), hl, Nat.sub_self]
  rfl
end

theorem markL_getE {α : Type} (mk1 : α → Int → α) (n1 : α → Nat) (k : Int) (l : List α) (i : Nat) (h : i < l.length) (h' : i < (markL mk1 n1 l k).length) : (markL mk1 n1 l k)[i] = mk1 l[i] (ks n1 k l i) := by
  have := markL_get mk1 n1 k l i l[i] h
  rw [List.getD_eq_getElem?_getD, List.getElem?_eq_getElem h'] at this
  exact this

/-- the marks' text -/
noncomputable def mt (k : Int) : List UInt8 := (Wh.laws_markText' k).1

theorem markText_loop : ∀ (d : Nat) (k : Int) (out : List UInt8), 0 ≤ k → k < (10 : Int) ^ d → d ≤ 18 → out.length + d ≤ 100 → ∃ s : List UInt8, s.length ≤ 100 ∧ Comes Wh.laws_markText_l0 ((k, out), ()) (s, ()) := by
  intro d
  induction d with
  | zero =>
    intro k out h0 h1 _ h2
    have hk : k = 0 := by simp at h1; omega
    subst hk
    exact ⟨out, by omega, .out (by simp [Wh.laws_markText_l0])⟩
  | succ d ih =>
    intro k out h0 h1 hd h2
    by_cases hk : k > 0
    · have hq : k.tdiv 10 < (10 : Int) ^ d := by
        rw [Int.tdiv_eq_ediv_of_nonneg h0]
        rw [Int.pow_succ] at h1
        omega
      have hq0 : 0 ≤ k.tdiv 10 := by rw [Int.tdiv_eq_ediv_of_nonneg h0]; omega
      have hp : (10 : Int) ^ d ≤ (10 : Int) ^ 18 := by
        have : (10 : Nat) ^ d ≤ 10 ^ 18 := Nat.pow_le_pow_right (by decide) (by omega)
        exact_mod_cast this
      have hw : IntKind.wrap .i64 (k.tdiv 10) = k.tdiv 10 := by rw [wrap64] <;> omega
      obtain ⟨s, hs, hc⟩ := ih (k.tdiv 10) (strOf [IntKind.wrap .u8 (IntKind.wrap .i64 (48 + k.tmod 10))] ++ out) hq0 hq (by omega) (by simp [strOf]; omega)
      refine ⟨s, hs, .again (x' := ((k.tdiv 10, strOf [IntKind.wrap .u8 (IntKind.wrap .i64 (48 + k.tmod 10))] ++ out), ())) ?_ hc⟩
      have hl : 1 + out.length ≤ maxRows := by unfold maxRows; omega
      simp [Wh.laws_markText_l0, hk, hl, allB, hw]
    · exact ⟨out, by omega, .out (by simp [Wh.laws_markText_l0, hk])⟩

/-- a number of marks that any machine holds -/
def big : Int := 1000000000000000000

theorem markText_eq (k : Int) (h0 : 0 ≤ k) (h1 : k < big) : Wh.laws_markText k = some (mt k, ()) := by
  have main : ∃ s, Wh.laws_markText k = some (s, ()) := by
    by_cases hk : k ≤ 0
    · exact ⟨[109, 48], by simp [Wh.laws_markText, hk]⟩
    · obtain ⟨s, hs, hc⟩ := markText_loop 18 k [] h0 (by simpa [big] using h1) (by omega) (by simp)
      have hl : 1 + s.length ≤ maxRows := by unfold maxRows; omega
      exact ⟨109 :: s, by simp [Wh.laws_markText, hk, cb hc, cv hc, allB, hl]⟩
  obtain ⟨s, hs⟩ := main
  rw [hs, mt, Wh.laws_markText_v _ _ hs]

theorem wrapK {k : Int} (h0 : 0 ≤ k) (h1 : k ≤ big) : IntKind.wrap .i64 (k + 1) = k + 1 := by unfold big at h1; rw [wrap64] <;> omega

/-! numbers -/
def mkI (_ : Int) (k : Int) : Int := k
def nI (_ : Int) : Nat := 1

theorem markIntS_eq (a : List Int) (k : Int) (h0 : 0 ≤ k) (h1 : k + (sumN nI a : Nat) < big) (hl : a.length ≤ 4611686018427387904) : Wh.laws_markIntS (a, k) = some (k + (sumN nI a : Nat), markL mkI nI a k, ()) := by
  have hc : Comes Wh.laws_markIntS_l0 (((0 : Int), k, ()), a) (k + (sumN nI a : Nat), markL mkI nI a k) := by
    have := comes_up (r := Wh.laws_markIntS_l0) (st := fun i => (((i : Int), ks nI k a i, ()), part mkI nI k a i)) (n := a.length) (y := (k + (sumN nI a : Nat), markL mkI nI a k)) ?_ ?_ 0 (Nat.zero_le _)
    · simpa [ks_zero, part_zero] using this
    · intro i hi
      have b1 := ks_le nI k a i
      have b2 := ks_lt nI k a i hi
      have e1 := wrapK (k := ks nI k a i) (by omega) (by omega)
      have e2 := wrapN (i := i) (by omega)
      have e3 := part_set mkI nI k a i hi
      have e4 := ks_succ nI k a i hi
      simp only [mkI] at e3
      simp only [nI] at e4
      simp [Wh.laws_markIntS_l0, part_len _ _ _ _ _ (Nat.le_of_lt hi), hi, allB, e1, e2, e3, e4]
    · simp [Wh.laws_markIntS_l0, part_len, ks_all, part_all, markL_len]
  simp [Wh.laws_markIntS, cb hc, cv hc]

theorem heldIntS_eq (a : List Int) (k : Int) (h0 : 0 ≤ k) (h1 : k + (sumN nI a : Nat) < big) (hl : a.length ≤ 4611686018427387904) : Wh.laws_heldIntS (markL mkI nI a k, k) = some (k + (sumN nI a : Nat), ()) := by
  have hc : Comes Wh.laws_heldIntS_l0 (((0 : Int), k, markL mkI nI a k), ()) (.inr (k + (sumN nI a : Nat), ())) := by
    have := comes_up (r := Wh.laws_heldIntS_l0) (st := fun i => (((i : Int), ks nI k a i, markL mkI nI a k), ())) (n := a.length) (y := .inr (k + (sumN nI a : Nat), ())) ?_ ?_ 0 (Nat.zero_le _)
    · simpa [ks_zero] using this
    · intro i hi
      have b1 := ks_le nI k a i
      have b2 := ks_lt nI k a i hi
      have e1 := wrapK (k := ks nI k a i) (by omega) (by omega)
      have e2 := wrapN (i := i) (by omega)
      have e3 := markL_getE mkI nI k a i hi (by rw [markL_len]; exact hi)
      have e4 := ks_succ nI k a i hi
      simp only [mkI] at e3
      simp only [nI] at e4
      simp [Wh.laws_heldIntS_l0, markL_len, hi, allB, e1, e2, e3, e4]
    · simp [Wh.laws_heldIntS_l0, markL_len, ks_all]
  simp [Wh.laws_heldIntS, cb hc, cv hc, sumC]

theorem markI_len (a : List Int) (k : Int) : (markL mkI nI a k).length = a.length := markL_len _ _ _ _
theorem sumI (a : List Int) : sumN nI a = a.length := by
  induction a with
  | nil => rfl
  | cons x a ih => simp only [sumN, List.map_cons, List.sum_cons, List.length_cons] at ih ⊢; rw [ih]; simp [nI]; omega

theorem set_set' {α : Type} (l : List α) (i : Nat) (x y : α) : (l.set i x).set i y = l.set i y := by simp

theorem getD_set' {α : Type} (l : List α) (i : Nat) (x z : α) (h : i < l.length) : (l.set i x).getD i z = x := by simp [h]

end Pl
