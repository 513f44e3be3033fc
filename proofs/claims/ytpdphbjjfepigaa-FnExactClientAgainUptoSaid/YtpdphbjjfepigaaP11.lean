import Derived.Test.YtpdphbjjfepigaaP10
open Go Go.Ab
namespace Pl

/-! ### copies -/
theorem mr {n : Nat} (h : n ≤ 1048577) : n ≤ maxRows := by unfold maxRows; omega

theorem impl_clonePlan_eq (p : tImplPlan.D) (h1 : p.2.2.1.length ≤ 1048576) (h2 : p.2.2.2.1.length ≤ 1048576) : Wh.impl_clonePlan p = some (p, ()) := by
  have m1 := mr (n := p.2.2.1.length) (by omega)
  have m2 := mr (n := p.2.2.2.1.length) (by omega)
  simp [Wh.impl_clonePlan, allB, m1, m2]
theorem spec_l6Plan_eq (p : tImplPlan.D) (h1 : p.2.2.1.length ≤ 1048576) (h2 : p.2.2.2.1.length ≤ 1048576) : Wh.spec_l6Plan p = some (p, ()) := by
  have m1 := mr (n := p.2.2.1.length) (by omega)
  have m2 := mr (n := p.2.2.2.1.length) (by omega)
  simp [Wh.spec_l6Plan, allB, m1, m2]

theorem take_app {α : Type} (a : List α) (i : Nat) (h : i < a.length) : a.take i ++ [a[i]] = a.take (i + 1) := (take_succ' a i h).symm

theorem impl_cloneSolver_eq (s : tImplSolver.D) (h : s.2.2.1.length ≤ 1048576) (hr : ∀ x ∈ s.2.2.1, x.1.length ≤ 1048576) : Wh.impl_cloneSolver s = some (s, ()) := by
  have hc : Comes Wh.impl_cloneSolver_l0 (((0 : Int), (), s.2.2.1, (), (s.2.2.1.length : Int)), (s.1, s.2.1, (), ()), ((0 : Int), (0 : Int), (), ()), [], []) (((), ()), ((0 : Int), (0 : Int), (), ()), (s.1, s.2.1, (), ()), [], s.2.2.1) := by
    have := comes_up (r := Wh.impl_cloneSolver_l0) (st := fun i => (((i : Int), (), s.2.2.1, (), (s.2.2.1.length : Int)), (s.1, s.2.1, (), ()), ((0 : Int), (0 : Int), (), ()), s.2.2.1.take i, [])) (n := s.2.2.1.length) (y := (((), ()), ((0 : Int), (0 : Int), (), ()), (s.1, s.2.1, (), ()), [], s.2.2.1)) ?_ ?_ 0 (Nat.zero_le _)
    · simpa using this
    · intro i hi
      have e2 := wrapN (i := i) (by omega)
      have hm := mr (n := s.2.2.1[i].1.length) (by have := hr _ (List.getElem_mem hi); omega)
      have hm2 := mr (n := (min i s.2.2.1.length) + 1) (by omega)
      have ht := take_app s.2.2.1 i hi
      simp [Wh.impl_cloneSolver_l0, hi, allB, e2, hm, hm2, ht]
    · simp [Wh.impl_cloneSolver_l0]
  simp only [Wh.impl_cloneSolver, cb hc, cv hc, cond_true]

theorem spec_l3Copy_eq (s : tImplSolver.D) (h : s.2.2.1.length ≤ 1048576) (hr : ∀ x ∈ s.2.2.1, x.1.length ≤ 1048576) : Wh.spec_l3Copy s = some (s, ()) := by
  have hc : Comes Wh.spec_l3Copy_l0 (((0 : Int), (), (), ()), (s.1, s.2.1, (), ()), s, ((0 : Int), (0 : Int), (), ()), [], []) (((), ()), ((0 : Int), (0 : Int), (), ()), (s.1, s.2.1, (), ()), [], s.2.2.1) := by
    have := comes_up (r := Wh.spec_l3Copy_l0) (st := fun i => (((i : Int), (), (), ()), (s.1, s.2.1, (), ()), s, ((0 : Int), (0 : Int), (), ()), s.2.2.1.take i, [])) (n := s.2.2.1.length) (y := (((), ()), ((0 : Int), (0 : Int), (), ()), (s.1, s.2.1, (), ()), [], s.2.2.1)) ?_ ?_ 0 (Nat.zero_le _)
    · simpa using this
    · intro i hi
      have e2 := wrapN (i := i) (by omega)
      have hm := mr (n := s.2.2.1[i].1.length) (by have := hr _ (List.getElem_mem hi); omega)
      have hm2 := mr (n := (min i s.2.2.1.length) + 1) (by omega)
      have ht := take_app s.2.2.1 i hi
      simp [Wh.spec_l3Copy_l0, hi, allB, e2, hm, hm2, ht]
    · simp [Wh.spec_l3Copy_l0]
  simp only [Wh.spec_l3Copy, cb hc, cv hc, cond_true]

theorem impl_cloneGet_eq (c : tImplClient.D) (h : Sml c) : Wh.impl_cloneGet c.2.2.2.2.2.1 = some (c.2.2.2.2.2.1, ()) := by
  have e1 := impl_clonePlan_eq _ h.p3 h.p4
  have e2 := impl_cloneSolver_eq _ h.s3 (fun x hx => (h.row x hx).1)
  simp only [Wh.impl_cloneGet, e1, Wh.impl_clonePlan_v _ _ e1, e2, Wh.impl_cloneSolver_v _ _ e2, allB, isSm, cond_true, Bool.and_self]
theorem spec_l6Copy_eq (c : tImplClient.D) (h : Sml c) : Wh.spec_l6Copy c.2.2.2.2.2.1 = some (c.2.2.2.2.2.1, ()) := by
  have e1 := spec_l6Plan_eq _ h.p3 h.p4
  have e2 := spec_l3Copy_eq _ h.s3 (fun x hx => (h.row x hx).1)
  simp only [Wh.spec_l6Copy, e1, Wh.spec_l6Plan_v _ _ e1, e2, Wh.spec_l3Copy_v _ _ e2, allB, isSm, cond_true, Bool.and_self]

theorem impl_cloneClient_eq (c : tImplClient.D) (h : Sml c) : Wh.impl_cloneClient c = some (c, ()) := by
  have e := impl_cloneGet_eq c h
  simp only [Wh.impl_cloneClient, e, Wh.impl_cloneGet_v _ _ e, allB, isSm, cond_true]

/-- a getting that knows nothing -/
def get0 : tImplGetting.D := ((0, 0, [], [], ()), (0, 0, [], ()), ())
theorem noGet_eq {g : tImplGetting.D} (h : noGet g = true) : g = get0 := by
  obtain ⟨⟨a, b, c, d, _⟩, ⟨e, f, l, _⟩, _⟩ := g
  simp [noGet] at h
  simp [get0, h]

theorem clientOk_get {c : tImplClient.D} (h : clientOk c = true) : 0 ≤ c.2.2.2.2.1 ∧ (c.2.2.2.2.1 = 0 → c.2.2.2.2.2.1 = get0) ∧ 0 ≤ c.2.1 ∧ c.2.1 ≤ 99999 := by
  simp only [clientOk, Bool.and_eq_true, decide_eq_true_eq] at h
  obtain ⟨⟨⟨⟨⟨h1, h2⟩, h3⟩, h4⟩, h5⟩, h6⟩ := h
  refine ⟨h4.1, fun h0 => ?_, h2⟩
  rw [h0] at h5
  exact noGet_eq (by simpa using h5)

theorem spec_l13Copy_eq (c : tImplClient.D) (h : Sml c) (ho : clientOk c = true) : Wh.spec_l13Copy c = some (c, ()) := by
  have e := spec_l6Copy_eq c h
  obtain ⟨h1, h2, _⟩ := clientOk_get ho
  have v := Wh.spec_l6Copy_v _ _ e
  by_cases h0 : c.2.2.2.2.1 > 0
  · simp only [Wh.spec_l13Copy, h0, decide_true, cond_true, e, v, allB, isSm]
  · have h3 : c.2.2.2.2.1 = 0 := by omega
    have h4 := h2 h3
    clear e v h
    obtain ⟨id, a, st, name, n, g, _⟩ := c
    simp only at h3 h4
    subst h3 h4
    simp [Wh.spec_l13Copy, get0]

/-! ### what these functions answer -/
def zeroC : tImplClient.D := (0, 0, 0, [], 0, get0, ())
def doneW (c : tImplClient.D) : List tImplWord.D := bif c.2.2.2.2.1 == 0 then [] else [(5, c.1, c.2.1, c.2.2.2.2.1, 0, [], [], ())]
def stopV (c : tImplClient.D) : tImplClient.D × List tImplWord.D := bif clientOk c then ((c.1, c.2.1, 0, [], 0, get0, ()), doneW c) else (zeroC, [])
def openC (c : tImplClient.D) (name : List UInt8) : tImplClient.D := (c.1, c.2.1 + 1, 1, name, 0, get0, ())
def openV (c : tImplClient.D) (name : List UInt8) : tImplClient.D × List tImplWord.D :=
  bif clientOk c then (bif !nameOk name || c.2.1 == 99999 then (c, []) else (openC c name, [asks (openC c name)])) else (zeroC, [])
def againC (c : tImplClient.D) : tImplClient.D := (c.1, c.2.1 + 1, 1, c.2.2.2.1, c.2.2.2.2.1, c.2.2.2.2.2.1, ())
def againV (c : tImplClient.D) : tImplClient.D × List tImplWord.D :=
  bif clientOk c then (bif c.2.2.2.2.1 == 0 || c.2.2.1 == 3 || c.2.1 == 99999 then (c, []) else (againC c, [asks (againC c)])) else (zeroC, [])

theorem spec_ClientStop_eq (c : tImplClient.D) (h : Sml c) : Wh.spec_ClientStop c = some (stopV c, ()) := by
  have e := spec_ClientOk_eq c h.sm (by have := h.1; omega)
  have e2 : Wh.spec_l13Done c = some (doneW c, ()) := by
    simp only [Wh.spec_l13Done, doneW]
    cases c.2.2.2.2.1 == 0 <;> rfl
  simp only [Wh.spec_ClientStop, Wh.spec_ClientOk_v _ _ e, e, Wh.spec_l13Done_v _ _ e2, e2, allB, isSm, cond_true, stopV]
  cases clientOk c <;> rfl
theorem impl_ClientStop_eq (c : tImplClient.D) (h : Sml c) : Wh.impl_ClientStop c = some (stopV c, ()) := by
  have e := impl_ClientOk_eq c h.sm (by have := h.1; omega)
  simp only [Wh.impl_ClientStop, Wh.impl_ClientOk_v _ _ e, e, allB, isSm, cond_true, stopV, doneW]
  cases ho : clientOk c with
  | false => rfl
  | true =>
    obtain ⟨h1, _⟩ := clientOk_get ho
    by_cases h0 : c.2.2.2.2.1 = 0
    · have : decide (c.2.2.2.2.1 > 0) = false := by simp; omega
      simp [h0, get0]
    · have : decide (c.2.2.2.2.1 > 0) = true := by simp; omega
      have hb : (c.2.2.2.2.1 == 0) = false := by simpa using h0
      simp [this, hb, get0]

theorem spec_ClientOpen_eq (c : tImplClient.D) (h : Sml c) (name : List UInt8) (hn : name.length ≤ 1048576) : Wh.spec_ClientOpen (c, name) = some (openV c name, ()) := by
  have e := spec_ClientOk_eq c h.sm (by have := h.1; omega)
  have e2 := spec_NameOk_eq name (by omega)
  have e5 : Wh.spec_l13Asks (openC c name) = some ([asks (openC c name)], ()) := by simp [Wh.spec_l13Asks, asks]
  have v5 := Wh.spec_l13Asks_v _ _ e5
  cases ho : clientOk c with
  | false => rw [ho] at e; simp only [Wh.spec_ClientOpen, Wh.spec_ClientOk_v _ _ e, e, allB, isSm, cond_true, openV, ho]; rfl
  | true =>
    rw [ho] at e
    have e4 := spec_l13Copy_eq c h ho
    have v4 := Wh.spec_l13Copy_v _ _ e4
    obtain ⟨h1, h2, h3, h4⟩ := clientOk_get ho
    have hw : IntKind.wrap .i64 (c.2.1 + 1) = c.2.1 + 1 := by rw [wrap64] <;> omega
    simp only [openC] at e5 v5
    by_cases hc : c.2.1 = 99999
    · have d1 : decide (c.2.1 ≥ 99999) = true := by simp; omega
      have d2 : (c.2.1 == 99999) = true := by simpa using hc
      simp only [Wh.spec_ClientOpen, Wh.spec_ClientOk_v _ _ e, e, allB, isSm, cond_true, openV, ho, d1, d2, Bool.not_true, Bool.not_false, cond_false, Bool.or_true, Bool.true_or, e4, v4]
    · have d1 : decide (c.2.1 ≥ 99999) = false := by simp; omega
      have d2 : (c.2.1 == 99999) = false := by simpa using hc
      simp only [Wh.spec_ClientOpen, Wh.spec_ClientOk_v _ _ e, e, allB, isSm, cond_true, openV, ho, d1, d2, Bool.not_true, Bool.not_false, cond_false, Bool.or_true, Bool.or_false, Bool.false_or, e4, v4, Wh.spec_NameOk_v _ _ e2, e2, hw]
      cases nameOk name with
      | false => simp only [Bool.not_false, cond_true]
      | true => simp only [Bool.not_true, cond_false, get0] at e5 v5 ⊢; simp only [e5, v5, isSm, cond_true, openC, get0]
theorem impl_ClientOpen_eq (c : tImplClient.D) (h : Sml c) (name : List UInt8) (hn : name.length ≤ 1048576) : Wh.impl_ClientOpen (c, name) = some (openV c name, ()) := by
  have e := impl_ClientOk_eq c h.sm (by have := h.1; omega)
  have e2 := impl_NameOk_eq name (by omega)
  have e5 : Wh.impl_Client_request (openC c name) = some ([asks (openC c name)], ()) := by simp [Wh.impl_Client_request, asks]
  have v5 := Wh.impl_Client_request_v _ _ e5
  cases ho : clientOk c with
  | false => rw [ho] at e; simp only [Wh.impl_ClientOpen, Wh.impl_ClientOk_v _ _ e, e, allB, isSm, cond_true, openV, ho]; rfl
  | true =>
    rw [ho] at e
    have e4 := impl_cloneClient_eq c h
    have v4 := Wh.impl_cloneClient_v _ _ e4
    obtain ⟨h1, h2, h3, h4⟩ := clientOk_get ho
    have hw : IntKind.wrap .i64 (c.2.1 + 1) = c.2.1 + 1 := by rw [wrap64] <;> omega
    simp only [openC] at e5 v5
    simp only [Wh.impl_ClientOpen, Wh.impl_ClientOk_v _ _ e, e, allB, isSm, cond_true, openV, ho, Bool.not_true, cond_false, e4, v4, Wh.impl_NameOk_v _ _ e2, e2, hw]
    cases nameOk name with
    | false => simp only [Bool.not_false, cond_true, Bool.true_or]
    | true =>
      simp only [Bool.not_true, cond_false, Bool.false_or]
      cases c.2.1 == 99999 with
      | true => rfl
      | false => simp only [cond_false, get0] at e5 v5 ⊢; simp only [e5, v5, isSm, cond_true, openC, get0]

theorem spec_ClientAgain_eq (c : tImplClient.D) (h : Sml c) : Wh.spec_ClientAgain c = some (againV c, ()) := by
  have e := spec_ClientOk_eq c h.sm (by have := h.1; omega)
  have e5 : Wh.spec_l13Asks (againC c) = some ([asks (againC c)], ()) := by simp [Wh.spec_l13Asks, asks]
  have v5 := Wh.spec_l13Asks_v _ _ e5
  cases ho : clientOk c with
  | false => rw [ho] at e; simp only [Wh.spec_ClientAgain, Wh.spec_ClientOk_v _ _ e, e, allB, isSm, cond_true, againV, ho]; rfl
  | true =>
    rw [ho] at e
    have e4 := spec_l13Copy_eq c h ho
    have v4 := Wh.spec_l13Copy_v _ _ e4
    obtain ⟨h1, h2, h3, h4⟩ := clientOk_get ho
    have hw : IntKind.wrap .i64 (c.2.1 + 1) = c.2.1 + 1 := by rw [wrap64] <;> omega
    simp only [againC] at e5 v5
    have d1 : decide (c.2.1 ≥ 99999) = (c.2.1 == 99999) := by
      by_cases hc : c.2.1 = 99999
      · simp [hc]
      · have : ¬ c.2.1 ≥ 99999 := by omega
        simp [hc, this]
    simp only [Wh.spec_ClientAgain, Wh.spec_ClientOk_v _ _ e, e, allB, isSm, cond_true, againV, ho, d1, Bool.not_true, cond_false, e4, v4, hw]
    cases c.2.1 == 99999 <;> cases c.2.2.2.2.1 == 0 <;> cases c.2.2.1 == 3 <;> simp only [cond_true, cond_false, Bool.or_true, Bool.or_false, Bool.true_or, Bool.false_or] <;> simp only [e5, v5, isSm, cond_true, againC]
theorem impl_ClientAgain_eq (c : tImplClient.D) (h : Sml c) : Wh.impl_ClientAgain c = some (againV c, ()) := by
  have e := impl_ClientOk_eq c h.sm (by have := h.1; omega)
  have e5 : Wh.impl_Client_request (againC c) = some ([asks (againC c)], ()) := by simp [Wh.impl_Client_request, asks]
  have v5 := Wh.impl_Client_request_v _ _ e5
  cases ho : clientOk c with
  | false => rw [ho] at e; simp only [Wh.impl_ClientAgain, Wh.impl_ClientOk_v _ _ e, e, allB, isSm, cond_true, againV, ho]; rfl
  | true =>
    rw [ho] at e
    have e4 := impl_cloneClient_eq c h
    have v4 := Wh.impl_cloneClient_v _ _ e4
    obtain ⟨h1, h2, h3, h4⟩ := clientOk_get ho
    have hw : IntKind.wrap .i64 (c.2.1 + 1) = c.2.1 + 1 := by rw [wrap64] <;> omega
    simp only [againC] at e5 v5
    simp only [Wh.impl_ClientAgain, Wh.impl_ClientOk_v _ _ e, e, allB, isSm, cond_true, againV, ho, Bool.not_true, cond_false, e4, v4, hw]
    cases c.2.1 == 99999 <;> cases c.2.2.2.2.1 == 0 <;> cases c.2.2.1 == 3 <;> simp only [cond_true, cond_false, Bool.or_true, Bool.or_false, Bool.true_or, Bool.false_or] <;> simp only [e5, v5, isSm, cond_true, againC]

end Pl
