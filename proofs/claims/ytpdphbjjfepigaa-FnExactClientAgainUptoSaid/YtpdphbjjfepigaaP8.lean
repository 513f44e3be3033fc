import Derived.Test.YtpdphbjjfepigaaP7
open Go Go.Ab
namespace Pl

/-! ### bulk bounds every list -/
theorem sum_mem {α : Type} (f : α → Nat) : ∀ (l : List α) (x : α), x ∈ l → f x ≤ (l.map f).sum
  | a :: l, x, h => by
    rw [List.map_cons, List.sum_cons]
    rcases List.mem_cons.1 h with rfl | h
    · omega
    · have := sum_mem f l x h; omega
theorem len_sum {α : Type} (f : α → Nat) (h : ∀ x, 1 ≤ f x) : ∀ l : List α, l.length ≤ (l.map f).sum
  | [] => by simp
  | a :: l => by
    rw [List.map_cons, List.sum_cons, List.length_cons]
    have := len_sum f h l; have := h a; omega

/-- no list and no text in it is longer than the bound of the statement -/
structure Sml (c : tImplClient.D) : Prop where
  name : c.2.2.2.1.length ≤ 1048576
  p3 : c.2.2.2.2.2.1.1.2.2.1.length ≤ 1048576
  p4 : c.2.2.2.2.2.1.1.2.2.2.1.length ≤ 1048576
  s3 : c.2.2.2.2.2.1.2.1.2.2.1.length ≤ 1048576
  row : ∀ x ∈ c.2.2.2.2.2.1.2.1.2.2.1, x.1.length ≤ 1048576 ∧ x.2.1.length ≤ 1048576

theorem lenI (l : List Int) (n : Nat) (h : (l.map (bulk (.int .i64))).sum + 1 ≤ n) : l.length ≤ n := by
  have := len_sum (bulk (.int .i64)) (fun _ => Nat.le_refl 1) l
  omega

theorem eq_bulk (x : tImplEq.D) : bulk tImplEq x = ((x.1.map (bulk (.int .i64))).sum + 1) + (x.2.1.length + 1 + 0) := rfl

theorem sml_of (c : tImplClient.D) (h : bulk tImplClient c ≤ 1048576) : Sml c := by
  have e : bulk tImplClient c = 1 + (1 + (1 + ((c.2.2.2.1.length + 1) + (1 + (((1 + (1 + (((c.2.2.2.2.2.1.1.2.2.1.map (bulk (.int .i64))).sum + 1) + (((c.2.2.2.2.2.1.1.2.2.2.1.map (bulk (.int .i64))).sum + 1) + 0)))) + ((1 + (1 + (((c.2.2.2.2.2.1.2.1.2.2.1.map (bulk tImplEq)).sum + 1) + 0))) + 0)) + 0))))) := rfl
  rw [e] at h
  refine ⟨by omega, lenI _ _ (by omega), lenI _ _ (by omega), ?_, ?_⟩
  · have := len_sum (bulk tImplEq) (fun x => by rw [eq_bulk]; omega) c.2.2.2.2.2.1.2.1.2.2.1
    omega
  · intro x hx
    have := sum_mem (bulk tImplEq) _ x hx
    rw [eq_bulk] at this
    exact ⟨lenI _ _ (by omega), by omega⟩

theorem Sml.sm {c : tImplClient.D} (h : Sml c) : SmGetting c.2.2.2.2.2.1 :=
  ⟨⟨by have := h.p3; omega, by have := h.p4; omega⟩, by have := h.s3; omega, fun x hx => by have := (h.row x hx).1; omega⟩

/-! ### sizes answer -/
theorem szIntS_ok (a : List Int) (n : Int) : ∃ v, Wh.laws_szIntS (a, n) = some (v, ()) := by
  simp only [Wh.laws_szIntS]
  cases decide (IntKind.wrap .i64 (n - (a.length : Int)) < 0) <;> exact ⟨_, rfl⟩
theorem szPlan_ok (a : tImplPlan.D) (n : Int) : ∃ v, Wh.laws_szPlan (a, n) = some (v, ()) := by
  obtain ⟨v, hv⟩ := szIntS_ok a.2.2.1 n
  obtain ⟨w, hw⟩ := szIntS_ok a.2.2.2.1 v
  simp only [Wh.laws_szPlan, hv, Wh.laws_szIntS_v _ _ hv, hw, Wh.laws_szIntS_v _ _ hw, allB, isSm, cond_true]
  cases decide (v < 0) <;> cases decide (w < 0) <;> exact ⟨_, rfl⟩
theorem szEq_ok (a : tImplEq.D) (n : Int) : ∃ v, Wh.laws_szEq (a, n) = some (v, ()) := by
  obtain ⟨v, hv⟩ := szIntS_ok a.1 n
  simp only [Wh.laws_szEq, hv, Wh.laws_szIntS_v _ _ hv, allB, isSm, cond_true]
  cases decide (v < 0) <;> cases decide (IntKind.wrap .i64 (v - (a.2.1.length : Int)) < 0) <;> exact ⟨_, rfl⟩
theorem szEqS_ok (a : List tImplEq.D) (n : Int) (h : a.length ≤ 1048576) : ∃ v, Wh.laws_szEqS (a, n) = some (v, ()) := by
  have hl : ∀ d k : Nat, k + d = a.length → ∀ m : Int, ∃ y, Comes Wh.laws_szEqS_l0 (((k : Int), m, a), ()) y := by
    intro d
    induction d with
    | zero =>
      intro k hk m
      have hk' : decide ((k : Int) < (a.length : Int)) = false := by simp; omega
      exact ⟨_, .out (by simp only [Wh.laws_szEqS_l0, hk', cond_false]; rfl)⟩
    | succ d ih =>
      intro k hk m
      have hk' : decide ((k : Int) < (a.length : Int)) = true := by simp; omega
      have h0 : decide ((0 : Int) ≤ (k : Int)) = true := by simp
      have w := wrapN (i := k) (by omega)
      obtain ⟨v, hv⟩ := szEq_ok (List.getD a k ([], [], ())) m
      cases hd : decide (v < 0) with
      | true => exact ⟨_, .out (by simp only [Wh.laws_szEqS_l0, hk', h0, Int.toNat_natCast, hv, Wh.laws_szEq_v _ _ hv, hd, allB, isSm, cond_true, Bool.and_self]; rfl)⟩
      | false =>
        obtain ⟨y, hy⟩ := ih (k + 1) (by omega) v
        exact ⟨y, .again (by simp only [Wh.laws_szEqS_l0, hk', h0, w, Int.toNat_natCast, hv, Wh.laws_szEq_v _ _ hv, hd, allB, isSm, cond_true, cond_false, Bool.and_self]) hy⟩
  simp only [Wh.laws_szEqS]
  cases decide (IntKind.wrap .i64 (n - (a.length : Int)) < 0) with
  | true => exact ⟨_, rfl⟩
  | false =>
    obtain ⟨y, hy⟩ := hl a.length 0 (by omega) (IntKind.wrap .i64 (n - (a.length : Int)))
    have e1 := cb hy
    have e2 := cv hy Wh.laws_szEqS_l0_y
    rw [show (((0 : Nat) : Int)) = 0 from rfl] at e1 e2
    simp only [e1, e2, cond_true, cond_false]
    cases y with
    | inl y => exact ⟨_, rfl⟩
    | inr y => exact ⟨_, rfl⟩
theorem szSolver_ok (a : tImplSolver.D) (n : Int) (h : a.2.2.1.length ≤ 1048576) : ∃ v, Wh.laws_szSolver (a, n) = some (v, ()) := by
  obtain ⟨v, hv⟩ := szEqS_ok a.2.2.1 n h
  simp only [Wh.laws_szSolver, hv, Wh.laws_szEqS_v _ _ hv, allB, isSm, cond_true]
  cases decide (v < 0) <;> exact ⟨_, rfl⟩
theorem szGetting_ok (a : tImplGetting.D) (n : Int) (h : a.2.1.2.2.1.length ≤ 1048576) : ∃ v, Wh.laws_szGetting (a, n) = some (v, ()) := by
  obtain ⟨v, hv⟩ := szPlan_ok a.1 n
  obtain ⟨w, hw⟩ := szSolver_ok a.2.1 v h
  simp only [Wh.laws_szGetting, hv, Wh.laws_szPlan_v _ _ hv, hw, Wh.laws_szSolver_v _ _ hw, allB, isSm, cond_true]
  cases decide (v < 0) <;> cases decide (w < 0) <;> exact ⟨_, rfl⟩
theorem szClient_ok (c : tImplClient.D) (n : Int) (h : Sml c) : ∃ v, Wh.laws_szClient (c, n) = some (v, ()) := by
  obtain ⟨v, hv⟩ := szGetting_ok c.2.2.2.2.2.1 (IntKind.wrap .i64 (n - (c.2.2.2.1.length : Int))) h.s3
  simp only [Wh.laws_szClient, hv, Wh.laws_szGetting_v _ _ hv, allB, isSm, cond_true]
  cases decide (IntKind.wrap .i64 (n - (c.2.2.2.1.length : Int)) < 0) <;> cases decide (v < 0) <;> exact ⟨_, rfl⟩

/-! ### copies are the thing itself -/
def copyL {α : Type} (a : List α) (z : α) (i : Nat) : List α := a.take i ++ List.replicate (a.length - i) z

theorem copyL_len {α : Type} (a : List α) (z : α) (i : Nat) (h : i ≤ a.length) : (copyL a z i).length = a.length := by
  rw [copyL, List.length_append, List.length_take, List.length_replicate]; omega
theorem copyL_zero {α : Type} (a : List α) (z : α) : copyL a z 0 = List.replicate a.length z := by simp [copyL]
theorem copyL_all {α : Type} (a : List α) (z : α) : copyL a z a.length = a := by simp [copyL]
theorem copyL_set {α : Type} (a : List α) (z z' : α) (i : Nat) (h : i < a.length) : (copyL a z i).set i (a.getD i z') = copyL a z (i + 1) := by
  have e1 : a.length - i = (a.length - (i + 1)) + 1 := by omega
  have e2 : (a.take i).length = i := by rw [List.length_take]; omega
  rw [copyL, copyL, e1, List.replicate_succ, List.set_append_right _ _ (by omega), e2, Nat.sub_self, List.set_cons_zero, List.take_succ_eq_append_getElem h, List.append_assoc, getD_eq _ _ _ h]
  rfl

theorem toIntS_eq (a : List Int) (h : a.length ≤ 1048576) : Wh.laws_toIntS a = some (a, ()) := by
  have hl : Comes Wh.laws_toIntS_l0 (((0 : Int), a, ()), List.replicate a.length 0) ((), a) := by
    have := comes_up (r := Wh.laws_toIntS_l0) (st := fun i => (((i : Int), a, ()), copyL a 0 i)) (n := a.length) (y := ((), a)) ?_ ?_ 0 (Nat.zero_le _)
    · rw [copyL_zero] at this; exact this
    · intro i hi
      have hi' : decide ((i : Int) < (a.length : Int)) = true := by simpa using hi
      have h0 : decide ((0 : Int) ≤ (i : Int)) = true := by simp
      simp only [Wh.laws_toIntS_l0, hi', h0, Int.toNat_natCast, copyL_len a 0 i (by omega), copyL_set a 0 0 i hi, wrapN (i := i) (by omega), allB, cond_true, Bool.and_self]
    · have hi' : decide (((a.length : Nat) : Int) < (a.length : Int)) = false := by simp
      simp only [Wh.laws_toIntS_l0, hi', cond_false, copyL_all]
  have b0 : decide ((0 : Int) ≤ (a.length : Int)) = true := by simp
  have b1 : decide ((a.length : Int) ≤ (maxRows : Int)) = true := decide_eq_true (by unfold maxRows; omega)
  simp only [Wh.laws_toIntS, Int.toNat_natCast, cb hl, cv hl, b0, b1, Int.le_refl, decide_true, allB, cond_true, Bool.and_self]

theorem toPlan_eq (a : tImplPlan.D) (h1 : a.2.2.1.length ≤ 1048576) (h2 : a.2.2.2.1.length ≤ 1048576) : Wh.laws_toPlan a = some (a, ()) := by
  have e1 := toIntS_eq _ h1
  have e2 := toIntS_eq _ h2
  simp only [Wh.laws_toPlan, e1, e2, Wh.laws_toIntS_v _ _ e1, Wh.laws_toIntS_v _ _ e2, allB, isSm, cond_true]
theorem toEq_eq (a : tImplEq.D) (h1 : a.1.length ≤ 1048576) : Wh.laws_toEq a = some (a, ()) := by
  have e1 := toIntS_eq _ h1
  simp only [Wh.laws_toEq, e1, Wh.laws_toIntS_v _ _ e1, allB, isSm, cond_true]

theorem toEqS_eq (a : List tImplEq.D) (h : a.length ≤ 1048576) (hr : ∀ x ∈ a, x.1.length ≤ 1048576) : Wh.laws_toEqS a = some (a, ()) := by
  have hl : Comes Wh.laws_toEqS_l0 (((0 : Int), a, ()), List.replicate a.length ([], [], ())) ((), a) := by
    have := comes_up (r := Wh.laws_toEqS_l0) (st := fun i => (((i : Int), a, ()), copyL a ([], [], ()) i)) (n := a.length) (y := ((), a)) ?_ ?_ 0 (Nat.zero_le _)
    · rw [copyL_zero] at this; exact this
    · intro i hi
      have hi' : decide ((i : Int) < (a.length : Int)) = true := by simpa using hi
      have h0 : decide ((0 : Int) ≤ (i : Int)) = true := by simp
      have he := toEq_eq (List.getD a i ([], [], ())) (hr _ (by rw [getD_eq _ _ _ hi]; simp))
      have hs : (copyL a ([], [], ()) i).set i ((List.getD a i ([], [], ())).1, (List.getD a i ([], [], ())).2) = copyL a ([], [], ()) (i + 1) := copyL_set a ([], [], ()) ([], [], ()) i hi
      simp only [Wh.laws_toEqS_l0, hi', h0, Int.toNat_natCast, copyL_len a ([], [], ()) i (by omega), he, Wh.laws_toEq_v _ _ he, hs, wrapN (i := i) (by omega), allB, isSm, cond_true, Bool.and_self]
    · have hi' : decide (((a.length : Nat) : Int) < (a.length : Int)) = false := by simp
      simp only [Wh.laws_toEqS_l0, hi', cond_false, copyL_all]
  have b0 : decide ((0 : Int) ≤ (a.length : Int)) = true := by simp
  have b1 : decide ((a.length : Int) ≤ (maxRows : Int)) = true := decide_eq_true (by unfold maxRows; omega)
  simp only [Wh.laws_toEqS, Int.toNat_natCast, cb hl, cv hl, b0, b1, Int.le_refl, decide_true, allB, cond_true, Bool.and_self]

theorem toSolver_eq (a : tImplSolver.D) (h : a.2.2.1.length ≤ 1048576) (hr : ∀ x ∈ a.2.2.1, x.1.length ≤ 1048576) : Wh.laws_toSolver a = some (a, ()) := by
  have e1 := toEqS_eq _ h hr
  simp only [Wh.laws_toSolver, e1, Wh.laws_toEqS_v _ _ e1, allB, isSm, cond_true]
theorem toClient_eq (c : tImplClient.D) (h : Sml c) : Wh.laws_toClient c = some (c, ()) := by
  have e1 := toPlan_eq c.2.2.2.2.2.1.1 h.p3 h.p4
  have e2 := toSolver_eq c.2.2.2.2.2.1.2.1 h.s3 fun x hx => (h.row x hx).1
  have e3 : Wh.laws_toGetting c.2.2.2.2.2.1 = some (c.2.2.2.2.2.1, ()) := by
    simp only [Wh.laws_toGetting, e1, e2, Wh.laws_toPlan_v _ _ e1, Wh.laws_toSolver_v _ _ e2, allB, isSm, cond_true]
  simp only [Wh.laws_toClient, e3, Wh.laws_toGetting_v _ _ e3, allB, isSm, cond_true]

end Pl
