import Derived.Test.YtpdphbjjfepigaaP11
open Go Go.Ab
namespace Pl

/-! ### the three laws -/
structure Ans (r : tImplClient.D × List tImplWord.D) : Prop where
  sm : SmClient r.1
  big : (1 : Int) + (nC r.1 : Nat) < 900000000000000000
  len : r.2.length ≤ 100

theorem zero_ans (id tr st : Int) (name : List UInt8) (ws : List tImplWord.D) (hw : ws.length ≤ 100) : Ans ((id, tr, st, name, 0, get0, ()), ws) :=
  ⟨by simp [SmClient, SmGetting, SmPlan, SmSolver, get0], by simp [nC, nG, nP, nS, get0, sumN], hw⟩
theorem nC_big' (c : tImplClient.D) (h : Sml c) : (1 : Int) + (nC c : Nat) < 900000000000000000 := by
  obtain ⟨h0, h1, h2, h3, h4⟩ := h
  have e1 : sumN nE c.2.2.2.2.2.1.2.1.2.2.1 ≤ c.2.2.2.2.2.1.2.1.2.2.1.length * 1048577 := sumN_le _ _ _ fun x hx => by
    have := h4 x hx
    simp only [nE, sumI]
    omega
  have e2 : c.2.2.2.2.2.1.2.1.2.2.1.length * 1048577 ≤ 1048576 * 1048577 := Nat.mul_le_mul_right _ h3
  simp only [nC, nG, nP, nS, sumI]
  omega

theorem stop_ans (c : tImplClient.D) : Ans (stopV c) := by
  unfold stopV
  cases clientOk c with
  | false => exact zero_ans _ _ _ _ _ (by simp)
  | true => exact zero_ans _ _ _ _ _ (by unfold doneW; cases c.2.2.2.2.1 == 0 <;> simp)
theorem open_ans (c : tImplClient.D) (h : Sml c) (name : List UInt8) : Ans (openV c name) := by
  unfold openV
  cases clientOk c with
  | false => exact zero_ans _ _ _ _ _ (by simp)
  | true =>
    cases !nameOk name || c.2.1 == 99999 with
    | true => exact ⟨h.sm, nC_big' c h, by simp⟩
    | false => exact zero_ans _ _ _ _ _ (by simp)
theorem again_ans (c : tImplClient.D) (h : Sml c) : Ans (againV c) := by
  unfold againV
  cases clientOk c with
  | false => exact zero_ans _ _ _ _ _ (by simp)
  | true =>
    cases c.2.2.2.2.1 == 0 || c.2.2.1 == 3 || c.2.1 == 99999 with
    | true => exact ⟨h.sm, nC_big' c h, by simp⟩
    | false => exact ⟨h.sm, nC_big' c h, by simp⟩

theorem sumW (a : List tImplWord.D) (h : a.length ≤ 100) : sumN nW a ≤ 700 := by
  have := sumN_le nW 7 a (fun _ _ => Nat.le_refl _)
  omega

theorem law_ClientStop (c : tImplClient.D) (hb : bulk tImplClient c ≤ 1048576) : Wh.laws_FnExactClientStop c = some (true, ()) := by
  have hs := sml_of c hb
  obtain ⟨v, hv⟩ := szClient_ok c 1048576 hs
  have hsm : SmClient c := hs.sm
  have e1 := toClient_eq c hs
  have e2 := spec_ClientStop_eq c hs
  have e3 := impl_ClientStop_eq c hs
  have ha := stop_ans c
  have hw := sumW _ ha.len
  have hl := ha.len
  have hg := ha.big
  have e4 := eqWordS_refl (stopV c).2 (by omega)
  have e0 := eqClient_refl (stopV c).1 ha.sm
  have e5 := eqClient_refl c hsm
  have e6 := markClient_eq c 1 (by decide) (nC_big c hs) hsm
  have e9 := markClient_eq (stopV c).1 1 (by decide) (by unfold big; omega) ha.sm
  have e10 := heldClient_eq (stopV c).1 1 (by decide) (by unfold big; omega) ha.sm
  have e7 := markWordS_eq (stopV c).2 (1 + (nC (stopV c).1 : Nat)) (by omega) (by unfold big; omega) (by omega)
  have e8 := heldWordS_eq (stopV c).2 (1 + (nC (stopV c).1 : Nat)) (by omega) (by unfold big; omega) (by omega)
  have n1 : decide ((1 : Int) + (nC c : Nat) < 0) = false := by simp; omega
  have n2 : decide ((1 : Int) + (nC (stopV c).1 : Nat) < 0) = false := by simp; omega
  have n3 : decide ((1 : Int) + (nC (stopV c).1 : Nat) + (sumN nW (stopV c).2 : Nat) < 0) = false := by simp; omega
  have bn : ∀ x : Int, (x != x) = false := by intro x; simp
  clear hb hs hsm ha hw hl hg
  generalize mkC c 1 = mc at e6
  generalize ((1 : Int) + (nC c : Nat)) = nc at e6 n1
  generalize stopV c = r at *
  obtain ⟨⟨xa, xb, xc, xd, xe, ⟨⟨y1, y2, y3, y4, _⟩, ⟨z1, z2, z3, _⟩, _⟩, _⟩, tw⟩ := r
  simp only at e2 e3 e4 e0 e9 e10 e7 e8 n2 n3
  generalize ((1 : Int) + (nC (xa, xb, xc, xd, xe, ((y1, y2, y3, y4, PUnit.unit), (z1, z2, z3, PUnit.unit), PUnit.unit), PUnit.unit) : Nat)) = k1 at *
  generalize k1 + (sumN nW tw : Nat) = k2 at *
  generalize markL mkW nW tw k1 = mw at *
  simp only [mkC, mkG, mkP, mkS] at e9 e10
  have v1 := Wh.laws_szClient_v _ _ hv
  have t1 := Wh.laws_toClient_v _ _ e1
  have t2 := Wh.spec_ClientStop_v _ _ e2
  have t3 := Wh.impl_ClientStop_v _ _ e3
  have t4 := Wh.laws_eqWordS_v _ _ e4
  have t0 := Wh.laws_eqClient_v _ _ e0
  have t5 := Wh.laws_eqClient_v _ _ e5
  have t6 := Wh.laws_markClient_v _ _ e6
  have t9 := Wh.laws_markClient_v _ _ e9
  have t10 := Wh.laws_heldClient_v _ _ e10
  have t7 := Wh.laws_markWordS_v _ _ e7
  have t8 := Wh.laws_heldWordS_v _ _ e8
  obtain ⟨id, a, st, name, n, ⟨⟨p1, p2, p3, p4, _⟩, ⟨s1, s2, s3, _⟩, _⟩, _⟩ := c
  by_cases hneg : v < 0
  · simp only [Wh.laws_FnExactClientStop, v1, hv, isSm, allB, hneg, decide_true, cond_true]
  · have n0 : decide (v < 0) = false := by simpa using hneg
    simp only [Wh.laws_FnExactClientStop, v1, hv, isSm, allB, n0, cond_true, cond_false, t1, e1, t2, e2, t3, e3, Bool.and_self, t4, e4, t0, e0, Bool.not_true,
      t5, e5, t6, e6, n1, Bool.not_false, Bool.true_or, Bool.or_true, t9, e9, t10, e10, t7, e7, t8, e8, n2, n3, bn]

theorem law_ClientOpen (c : tImplClient.D) (name : List UInt8) (hb : bulk tImplClient c + bulk .str name ≤ 1048576) : Wh.laws_FnExactClientOpen (c, name) = some (true, ()) := by
  have hs := sml_of c (by omega)
  have hnm : name.length ≤ 1048576 := by
    have : bulk .str name = name.length + 1 := rfl
    omega
  have nn : decide ((name.length : Int) > 1048576) = false := by simp; omega
  obtain ⟨v, hv⟩ := szClient_ok c 1048576 hs
  have hsm : SmClient c := hs.sm
  have e1 := toClient_eq c hs
  have e2 := spec_ClientOpen_eq c hs name hnm
  have e3 := impl_ClientOpen_eq c hs name hnm
  have ha := open_ans c hs name
  have hw := sumW _ ha.len
  have hl := ha.len
  have hg := ha.big
  have e4 := eqWordS_refl (openV c name).2 (by omega)
  have e0 := eqClient_refl (openV c name).1 ha.sm
  have e5 := eqClient_refl c hsm
  have e6 := markClient_eq c 1 (by decide) (nC_big c hs) hsm
  have e9 := markClient_eq (openV c name).1 1 (by decide) (by unfold big; omega) ha.sm
  have e10 := heldClient_eq (openV c name).1 1 (by decide) (by unfold big; omega) ha.sm
  have e7 := markWordS_eq (openV c name).2 (1 + (nC (openV c name).1 : Nat)) (by omega) (by unfold big; omega) (by omega)
  have e8 := heldWordS_eq (openV c name).2 (1 + (nC (openV c name).1 : Nat)) (by omega) (by unfold big; omega) (by omega)
  have n1 : decide ((1 : Int) + (nC c : Nat) < 0) = false := by simp; omega
  have n2 : decide ((1 : Int) + (nC (openV c name).1 : Nat) < 0) = false := by simp; omega
  have n3 : decide ((1 : Int) + (nC (openV c name).1 : Nat) + (sumN nW (openV c name).2 : Nat) < 0) = false := by simp; omega
  have bn : ∀ x : Int, (x != x) = false := by intro x; simp
  clear hb hnm hs hsm ha hw hl hg
  generalize mkC c 1 = mc at e6
  generalize ((1 : Int) + (nC c : Nat)) = nc at e6 n1
  generalize openV c name = r at *
  obtain ⟨⟨xa, xb, xc, xd, xe, ⟨⟨y1, y2, y3, y4, _⟩, ⟨z1, z2, z3, _⟩, _⟩, _⟩, tw⟩ := r
  simp only at e2 e3 e4 e0 e9 e10 e7 e8 n2 n3
  generalize ((1 : Int) + (nC (xa, xb, xc, xd, xe, ((y1, y2, y3, y4, PUnit.unit), (z1, z2, z3, PUnit.unit), PUnit.unit), PUnit.unit) : Nat)) = k1 at *
  generalize k1 + (sumN nW tw : Nat) = k2 at *
  generalize markL mkW nW tw k1 = mw at *
  simp only [mkC, mkG, mkP, mkS] at e9 e10
  have v1 := Wh.laws_szClient_v _ _ hv
  have t1 := Wh.laws_toClient_v _ _ e1
  have t2 := Wh.spec_ClientOpen_v _ _ e2
  have t3 := Wh.impl_ClientOpen_v _ _ e3
  have t4 := Wh.laws_eqWordS_v _ _ e4
  have t0 := Wh.laws_eqClient_v _ _ e0
  have t5 := Wh.laws_eqClient_v _ _ e5
  have t6 := Wh.laws_markClient_v _ _ e6
  have t9 := Wh.laws_markClient_v _ _ e9
  have t10 := Wh.laws_heldClient_v _ _ e10
  have t7 := Wh.laws_markWordS_v _ _ e7
  have t8 := Wh.laws_heldWordS_v _ _ e8
  obtain ⟨id, a, st, nm, n, ⟨⟨p1, p2, p3, p4, _⟩, ⟨s1, s2, s3, _⟩, _⟩, _⟩ := c
  by_cases hneg : v < 0
  · simp only [Wh.laws_FnExactClientOpen, nn, v1, hv, isSm, allB, hneg, decide_true, cond_true, cond_false]
  · have n0 : decide (v < 0) = false := by simpa using hneg
    simp only [Wh.laws_FnExactClientOpen, nn, v1, hv, isSm, allB, n0, cond_true, cond_false, t1, e1, t2, e2, t3, e3, Bool.and_self, t4, e4, t0, e0, Bool.not_true,
      t5, e5, t6, e6, n1, Bool.not_false, Bool.true_or, Bool.or_true, t9, e9, t10, e10, t7, e7, t8, e8, n2, n3, bn]

theorem law_ClientAgain (c : tImplClient.D) (hb : bulk tImplClient c ≤ 1048576) : Wh.laws_FnExactClientAgain c = some (true, ()) := by
  have hs := sml_of c hb
  obtain ⟨v, hv⟩ := szClient_ok c 1048576 hs
  have hsm : SmClient c := hs.sm
  have e1 := toClient_eq c hs
  have e2 := spec_ClientAgain_eq c hs
  have e3 := impl_ClientAgain_eq c hs
  have ha := again_ans c hs
  have hw := sumW _ ha.len
  have hl := ha.len
  have hg := ha.big
  have e4 := eqWordS_refl (againV c).2 (by omega)
  have e0 := eqClient_refl (againV c).1 ha.sm
  have e5 := eqClient_refl c hsm
  have e6 := markClient_eq c 1 (by decide) (nC_big c hs) hsm
  have e9 := markClient_eq (againV c).1 1 (by decide) (by unfold big; omega) ha.sm
  have e10 := heldClient_eq (againV c).1 1 (by decide) (by unfold big; omega) ha.sm
  have e7 := markWordS_eq (againV c).2 (1 + (nC (againV c).1 : Nat)) (by omega) (by unfold big; omega) (by omega)
  have e8 := heldWordS_eq (againV c).2 (1 + (nC (againV c).1 : Nat)) (by omega) (by unfold big; omega) (by omega)
  have n1 : decide ((1 : Int) + (nC c : Nat) < 0) = false := by simp; omega
  have n2 : decide ((1 : Int) + (nC (againV c).1 : Nat) < 0) = false := by simp; omega
  have n3 : decide ((1 : Int) + (nC (againV c).1 : Nat) + (sumN nW (againV c).2 : Nat) < 0) = false := by simp; omega
  have bn : ∀ x : Int, (x != x) = false := by intro x; simp
  clear hb hs hsm ha hw hl hg
  generalize mkC c 1 = mc at e6
  generalize ((1 : Int) + (nC c : Nat)) = nc at e6 n1
  generalize againV c = r at *
  obtain ⟨⟨xa, xb, xc, xd, xe, ⟨⟨y1, y2, y3, y4, _⟩, ⟨z1, z2, z3, _⟩, _⟩, _⟩, tw⟩ := r
  simp only at e2 e3 e4 e0 e9 e10 e7 e8 n2 n3
  generalize ((1 : Int) + (nC (xa, xb, xc, xd, xe, ((y1, y2, y3, y4, PUnit.unit), (z1, z2, z3, PUnit.unit), PUnit.unit), PUnit.unit) : Nat)) = k1 at *
  generalize k1 + (sumN nW tw : Nat) = k2 at *
  generalize markL mkW nW tw k1 = mw at *
  simp only [mkC, mkG, mkP, mkS] at e9 e10
  have v1 := Wh.laws_szClient_v _ _ hv
  have t1 := Wh.laws_toClient_v _ _ e1
  have t2 := Wh.spec_ClientAgain_v _ _ e2
  have t3 := Wh.impl_ClientAgain_v _ _ e3
  have t4 := Wh.laws_eqWordS_v _ _ e4
  have t0 := Wh.laws_eqClient_v _ _ e0
  have t5 := Wh.laws_eqClient_v _ _ e5
  have t6 := Wh.laws_markClient_v _ _ e6
  have t9 := Wh.laws_markClient_v _ _ e9
  have t10 := Wh.laws_heldClient_v _ _ e10
  have t7 := Wh.laws_markWordS_v _ _ e7
  have t8 := Wh.laws_heldWordS_v _ _ e8
  obtain ⟨id, a, st, name, n, ⟨⟨p1, p2, p3, p4, _⟩, ⟨s1, s2, s3, _⟩, _⟩, _⟩ := c
  by_cases hneg : v < 0
  · simp only [Wh.laws_FnExactClientAgain, v1, hv, isSm, allB, hneg, decide_true, cond_true]
  · have n0 : decide (v < 0) = false := by simpa using hneg
    simp only [Wh.laws_FnExactClientAgain, v1, hv, isSm, allB, n0, cond_true, cond_false, t1, e1, t2, e2, t3, e3, Bool.and_self, t4, e4, t0, e0, Bool.not_true,
      t5, e5, t6, e6, n1, Bool.not_false, Bool.true_or, Bool.or_true, t9, e9, t10, e10, t7, e7, t8, e8, n2, n3, bn]

end Pl
