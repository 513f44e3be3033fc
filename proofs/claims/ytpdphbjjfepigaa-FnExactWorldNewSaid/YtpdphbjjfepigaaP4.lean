import Derived.Test.YtpdphbjjfepigaaP3
open Go Go.Ab
namespace Pl

theorem eqClientS_refl (a : List tImplClient.D) (h : a.length ≤ 4611686018427387904) (hr : ∀ x ∈ a, SmClient x) : Wh.laws_eqClientS (a, a) = some (true, ()) := by
  have hl : Comes Wh.laws_eqClientS_l0 (((0 : Int), a, a), ()) (.inr ((), ())) := by
    refine comes_up (st := fun i => (((i : Int), a, a), ())) (n := a.length) ?_ ?_ 0 (Nat.zero_le _)
    · intro i hi
      have h2 := wrapN (i := i) (by omega)
      have h4 := eqClient_refl (a[i]) (hr _ (by simp))
      simp [Wh.laws_eqClientS_l0, Wh.laws_eqClient', allB, h2, hi, h4, isSm]
    · simp [Wh.laws_eqClientS_l0]
  simp [Wh.laws_eqClientS, cb hl, cv hl, sumC_inr]

/-- the numbers of a client's lists -/
def n3 (c : tImplClient.D) : Nat := sumN nI c.2.2.2.2.2.1.1.2.2.1
def n4 (c : tImplClient.D) : Nat := sumN nI c.2.2.2.2.2.1.1.2.2.2.1
def n5 (c : tImplClient.D) : Nat := sumN nE c.2.2.2.2.2.1.2.1.2.2.1
noncomputable def mkCl (c : tImplClient.D) (k : Int) : tImplClient.D :=
  (k, k + 1, k + 2, mt (k + 3), k + 4,
    ((k + 5, k + 6, markL mkI nI c.2.2.2.2.2.1.1.2.2.1 (k + 7), markL mkI nI c.2.2.2.2.2.1.1.2.2.2.1 (k + 7 + (n3 c : Nat)), ()),
     (k + 7 + (n3 c : Nat) + (n4 c : Nat), k + 7 + (n3 c : Nat) + (n4 c : Nat) + 1, markL mkE nE c.2.2.2.2.2.1.2.1.2.2.1 (k + 7 + (n3 c : Nat) + (n4 c : Nat) + 2), ()), ()), ())
def nCl (c : tImplClient.D) : Nat := 9 + n3 c + n4 c + n5 c

theorem nums (q : Int) (A B : Nat) (h0 : 0 ≤ q) (h1 : q + (9 + A + B : Nat) < big) :
    IntKind.wrap .i64 (q + 1) = q + 1 ∧ IntKind.wrap .i64 (q + 2) = q + 2 ∧ IntKind.wrap .i64 (q + 3) = q + 3 ∧ IntKind.wrap .i64 (q + 4) = q + 4 ∧ IntKind.wrap .i64 (q + 5) = q + 5 ∧
    IntKind.wrap .i64 (q + 6) = q + 6 ∧ IntKind.wrap .i64 (q + 7) = q + 7 ∧ IntKind.wrap .i64 (q + 7 + (A : Nat) + (B : Nat) + 1) = q + 7 + (A : Nat) + (B : Nat) + 1 ∧
    IntKind.wrap .i64 (q + 7 + (A : Nat) + (B : Nat) + 2) = q + 7 + (A : Nat) + (B : Nat) + 2 := by
  unfold big at h1
  refine ⟨?_, ?_, ?_, ?_, ?_, ?_, ?_, ?_, ?_⟩ <;> (rw [wrap64] <;> omega)

theorem adds (q : Int) (A B : Nat) : q + 1 + 1 = q + 2 ∧ q + 2 + 1 = q + 3 ∧ q + 3 + 1 = q + 4 ∧ q + 4 + 1 = q + 5 ∧ q + 5 + 1 = q + 6 ∧ q + 6 + 1 = q + 7 ∧ q + 7 + (A : Nat) + (B : Nat) + 1 + 1 = q + 7 + (A : Nat) + (B : Nat) + 2 := by
  refine ⟨?_, ?_, ?_, ?_, ?_, ?_, ?_⟩ <;> omega

theorem big_sub {q : Int} {A B C : Nat} (h : q + (9 + A + B + C : Nat) < big) : q + (9 + A + B : Nat) < big ∧ q + 7 + (A : Nat) < big ∧ q + 7 + (A : Nat) + (B : Nat) < big ∧ q + 7 + (A : Nat) + (B : Nat) + 2 + (C : Nat) < big ∧ q + 3 < big := by
  refine ⟨?_, ?_, ?_, ?_, ?_⟩ <;> omega

theorem markClient_step (l : List tImplClient.D) (i : Nat) (hi : i < l.length) (hl : l.length ≤ 4611686018427387904) (q : Int) (c : tImplClient.D) (hg : ∀ z, l.getD i z = c) (h0 : 0 ≤ q) (h1 : q + (nCl c : Nat) < big) (hs : SmClient c) :
    Wh.laws_markClientS_l0 (((i : Int), (), q), l) = some (.inl ((((i + 1 : Nat) : Int), (), q + (nCl c : Nat)), l.set i (mkCl c q))) := by
  obtain ⟨g1, g2, g3, g4, g5⟩ := big_sub h1
  have e2 := wrapN (i := i) (by omega)
  have m3 := markIntS_eq c.2.2.2.2.2.1.1.2.2.1 (q + 7) (by omega) g2 hs.1.1
  have m4 := markIntS_eq c.2.2.2.2.2.1.1.2.2.2.1 (q + 7 + (n3 c : Nat)) (by omega) g3 hs.1.2
  have m5 := markEqS_eq c.2.2.2.2.2.1.2.1.2.2.1 (q + 7 + (n3 c : Nat) + (n4 c : Nat) + 2) (by omega) g4 hs.2.1 hs.2.2
  have r5 : q + 7 + (n3 c : Nat) + (n4 c : Nat) + 2 + (n5 c : Nat) = q + (nCl c : Nat) := by unfold nCl; omega
  have t3 := markText_eq (q + 3) (by omega) g5
  obtain ⟨w1, w2, w3, w4, w5, w6, w7, w8, w9⟩ := nums q _ _ h0 g1
  obtain ⟨a1, a2, a3, a4, a5, a6, a8⟩ := adds q (n3 c) (n4 c)
  rw [← n3] at m3
  rw [← n4] at m4
  rw [← n5, r5] at m5
  have v3 := Wh.laws_markIntS_v _ _ m3
  have v4 := Wh.laws_markIntS_v _ _ m4
  have v5 := Wh.laws_markEqS_v _ _ m5
  have vt := Wh.laws_markText_v _ _ t3
  have c1 : decide ((i : Int) < (l.length : Int)) = true := by simpa using hi
  simp only [Wh.laws_markClientS_l0, Int.toNat_natCast, hg, getD_set' _ _ _ _ hi, set_set', List.length_set, c1, cond_true, allB, Bool.and_self, Int.natCast_nonneg, decide_true, isSm,
    w1, a1, w2, a2, w3, a3, w4, a4, w5, a5, w6, a6, w7, a8, w8, w9, t3, vt, m3, v3, m4, v4, m5, v5, e2]
  rfl

theorem heldClient_step (l : List tImplClient.D) (i : Nat) (hi : i < l.length) (hl : l.length ≤ 4611686018427387904) (q : Int) (c : tImplClient.D) (hg : ∀ z, l.getD i z = mkCl c q) (h0 : 0 ≤ q) (h1 : q + (nCl c : Nat) < big) (hs : SmClient c) :
    Wh.laws_heldClientS_l0 (((i : Int), l, q), ()) = some (.inl ((((i + 1 : Nat) : Int), l, q + (nCl c : Nat)), ())) := by
  obtain ⟨g1, g2, g3, g4, g5⟩ := big_sub h1
  have e2 := wrapN (i := i) (by omega)
  have m3 := heldIntS_eq c.2.2.2.2.2.1.1.2.2.1 (q + 7) (by omega) g2 hs.1.1
  have m4 := heldIntS_eq c.2.2.2.2.2.1.1.2.2.2.1 (q + 7 + (n3 c : Nat)) (by omega) g3 hs.1.2
  have m5 := heldEqS_eq c.2.2.2.2.2.1.2.1.2.2.1 (q + 7 + (n3 c : Nat) + (n4 c : Nat) + 2) (by omega) g4 hs.2.1 hs.2.2
  have r5 : q + 7 + (n3 c : Nat) + (n4 c : Nat) + 2 + (n5 c : Nat) = q + (nCl c : Nat) := by unfold nCl; omega
  have t3 := markText_eq (q + 3) (by omega) g5
  obtain ⟨w1, w2, w3, w4, w5, w6, w7, w8, w9⟩ := nums q _ _ h0 g1
  obtain ⟨a1, a2, a3, a4, a5, a6, a8⟩ := adds q (n3 c) (n4 c)
  rw [← n3] at m3
  rw [← n4] at m4
  rw [← n5, r5] at m5
  have v3 := Wh.laws_heldIntS_v _ _ m3
  have v4 := Wh.laws_heldIntS_v _ _ m4
  have v5 := Wh.laws_heldEqS_v _ _ m5
  have vt := Wh.laws_markText_v _ _ t3
  have c1 : decide ((i : Int) < (l.length : Int)) = true := by simpa using hi
  have d3 : (mt (q + 3) == mt (q + 3)) = true := by simp
  have bn : ∀ x : Int, (x != x) = false := by intro x; simp
  have z3 : decide (q + 7 + (n3 c : Nat) < 0) = false := by simp; omega
  have z4 : decide (q + 7 + (n3 c : Nat) + (n4 c : Nat) < 0) = false := by simp; omega
  have z5 : decide (q + (nCl c : Nat) < 0) = false := by simp; omega
  simp only [mkCl, Wh.laws_heldClientS_l0, Int.toNat_natCast, hg, c1, cond_true, cond_false, allB, Bool.and_self, Int.natCast_nonneg, decide_true, isSm, bn, d3, z3, z4, z5, Bool.not_true,
    w1, a1, w2, a2, w3, a3, w4, a4, w5, a5, w6, a6, w7, a8, w8, w9, t3, vt, m3, v3, m4, v4, m5, v5, e2]

theorem markClientS_eq (a : List tImplClient.D) (k : Int) (h0 : 0 ≤ k) (h1 : k + (sumN nCl a : Nat) < big) (hl : a.length ≤ 4611686018427387904) (hr : ∀ x ∈ a, SmClient x) :
    Wh.laws_markClientS (a, k) = some (k + (sumN nCl a : Nat), markL mkCl nCl a k, ()) := by
  have hc : Comes Wh.laws_markClientS_l0 (((0 : Int), (), k), a) (k + (sumN nCl a : Nat), markL mkCl nCl a k) := by
    have := comes_up (r := Wh.laws_markClientS_l0) (st := fun i => (((i : Int), (), ks nCl k a i), part mkCl nCl k a i)) (n := a.length) (y := (k + (sumN nCl a : Nat), markL mkCl nCl a k)) ?_ ?_ 0 (Nat.zero_le _)
    · simpa [ks_zero, part_zero] using this
    · intro i hi
      have b1 := ks_le nCl k a i
      have b2 := ks_lt nCl k a i hi
      have pl := part_len mkCl nCl k a i (Nat.le_of_lt hi)
      have := markClient_step (part mkCl nCl k a i) i (by omega) (by omega) (ks nCl k a i) a[i] (fun z => part_get mkCl nCl k a i z hi) (by omega) (by omega) (hr a[i] (by simp))
      rw [part_set mkCl nCl k a i hi, ← ks_succ nCl k a i hi] at this
      exact this
    · simp [Wh.laws_markClientS_l0, part_len, ks_all, part_all, markL_len]
  simp [Wh.laws_markClientS, cb hc, cv hc]

theorem heldClientS_eq (a : List tImplClient.D) (k : Int) (h0 : 0 ≤ k) (h1 : k + (sumN nCl a : Nat) < big) (hl : a.length ≤ 4611686018427387904) (hr : ∀ x ∈ a, SmClient x) :
    Wh.laws_heldClientS (markL mkCl nCl a k, k) = some (k + (sumN nCl a : Nat), ()) := by
  have hc : Comes Wh.laws_heldClientS_l0 (((0 : Int), markL mkCl nCl a k, k), ()) (.inr (k + (sumN nCl a : Nat), ())) := by
    have := comes_up (r := Wh.laws_heldClientS_l0) (st := fun i => (((i : Int), markL mkCl nCl a k, ks nCl k a i), ())) (n := a.length) (y := .inr (k + (sumN nCl a : Nat), ())) ?_ ?_ 0 (Nat.zero_le _)
    · simpa [ks_zero] using this
    · intro i hi
      have b1 := ks_le nCl k a i
      have b2 := ks_lt nCl k a i hi
      have pl := markL_len mkCl nCl a k
      have := heldClient_step (markL mkCl nCl a k) i (by omega) (by omega) (ks nCl k a i) a[i] (fun z => markL_get mkCl nCl k a i z hi) (by omega) (by omega) (hr a[i] (by simp))
      rw [← ks_succ nCl k a i hi] at this
      exact this
    · simp [Wh.laws_heldClientS_l0, markL_len, ks_all]
  simp [Wh.laws_heldClientS, cb hc, cv hc, sumC]

end Pl
open Go Go.Ab
namespace Pl

/-- no list in it is longer than any machine's -/
def SmWorld (w : tImplWorld.D) : Prop := SmServer w.1 ∧ (w.2.1.length ≤ 4611686018427387904 ∧ ∀ x ∈ w.2.1, SmClient x) ∧ w.2.2.1.length ≤ 4611686018427387904 ∧ w.2.2.2.1.length ≤ 4611686018427387904

theorem eqWorld_refl (w : tImplWorld.D) (h : SmWorld w) : Wh.laws_eqWorld (w, w) = some (true, ()) := by
  have e1 := eqServer_refl _ h.1
  have e2 := eqClientS_refl _ h.2.1.1 h.2.1.2
  have e3 := eqPacketS_refl _ h.2.2.1
  have e4 := eqItemS_refl _ h.2.2.2
  simp [Wh.laws_eqWorld, Wh.laws_eqServer_v _ _ e1, e1, Wh.laws_eqClientS_v _ _ e2, e2, Wh.laws_eqPacketS_v _ _ e3, e3, Wh.laws_eqItemS_v _ _ e4, e4, allB, isSm]

noncomputable def mkWorld (w : tImplWorld.D) (k : Int) : tImplWorld.D :=
  (mkServer w.1 k, markL mkCl nCl w.2.1 (k + (nServer w.1 : Nat)), markL mkPacket nPacket w.2.2.1 (k + (nServer w.1 : Nat) + (sumN nCl w.2.1 : Nat)),
    markL mkItem nItem w.2.2.2.1 (k + (nServer w.1 : Nat) + (sumN nCl w.2.1 : Nat) + (sumN nPacket w.2.2.1 : Nat)), w.2.2.2.2)
def nWorld (w : tImplWorld.D) : Nat := nServer w.1 + sumN nCl w.2.1 + sumN nPacket w.2.2.1 + sumN nItem w.2.2.2.1

theorem big_w {k : Int} {A B C D : Nat} (h0 : 0 ≤ k) (h : k + (A + B + C + D : Nat) < big) : k + (A : Nat) < big ∧ k + (A : Nat) + (B : Nat) < big ∧ k + (A : Nat) + (B : Nat) + (C : Nat) < big ∧ k + (A : Nat) + (B : Nat) + (C : Nat) + (D : Nat) < big ∧
    0 ≤ k + (A : Nat) ∧ 0 ≤ k + (A : Nat) + (B : Nat) ∧ 0 ≤ k + (A : Nat) + (B : Nat) + (C : Nat) ∧ 0 ≤ k + (A : Nat) + (B : Nat) + (C : Nat) + (D : Nat) ∧ k + (A : Nat) + (B : Nat) + (C : Nat) + (D : Nat) = k + (A + B + C + D : Nat) := by
  refine ⟨?_, ?_, ?_, ?_, ?_, ?_, ?_, ?_, ?_⟩ <;> omega
theorem notneg {x : Int} (h : 0 ≤ x) : decide (x < 0) = false := by simp; omega

theorem markWorld_eq (w : tImplWorld.D) (k : Int) (h0 : 0 ≤ k) (h1 : k + (nWorld w : Nat) < big) (hl : SmWorld w) : Wh.laws_markWorld (w, k) = some (k + (nWorld w : Nat), mkWorld w k, ()) := by
  obtain ⟨b1, b2, b3, b4, c1, c2, c3, c4, d⟩ := big_w h0 h1
  have e1 := markServer_eq w.1 k h0 b1 hl.1
  have e2 := markClientS_eq w.2.1 _ c1 b2 hl.2.1.1 hl.2.1.2
  have e3 := markPacketS_eq w.2.2.1 _ c2 b3 hl.2.2.1
  have e4 := markItemS_eq w.2.2.2.1 _ c3 b4 hl.2.2.2
  have v1 := Wh.laws_markServer_v _ _ e1
  have v2 := Wh.laws_markClientS_v _ _ e2
  have v3 := Wh.laws_markPacketS_v _ _ e3
  have v4 := Wh.laws_markItemS_v _ _ e4
  simp only [Wh.laws_markWorld, e1, v1, e2, v2, e3, v3, e4, v4, allB, isSm, cond_true]
  rw [d]
  rfl
theorem heldWorld_eq (w : tImplWorld.D) (k : Int) (h0 : 0 ≤ k) (h1 : k + (nWorld w : Nat) < big) (hl : SmWorld w) : Wh.laws_heldWorld (mkWorld w k, k) = some (k + (nWorld w : Nat), ()) := by
  obtain ⟨b1, b2, b3, b4, c1, c2, c3, c4, d⟩ := big_w h0 h1
  have e1 := heldServer_eq w.1 k h0 b1 hl.1
  have e2 := heldClientS_eq w.2.1 _ c1 b2 hl.2.1.1 hl.2.1.2
  have e3 := heldPacketS_eq w.2.2.1 _ c2 b3 hl.2.2.1
  have e4 := heldItemS_eq w.2.2.2.1 _ c3 b4 hl.2.2.2
  have v1 := Wh.laws_heldServer_v _ _ e1
  have v2 := Wh.laws_heldClientS_v _ _ e2
  have v3 := Wh.laws_heldPacketS_v _ _ e3
  have v4 := Wh.laws_heldItemS_v _ _ e4
  simp only [Wh.laws_heldWorld, mkWorld, e1, v1, e2, v2, e3, v3, e4, v4, allB, isSm, notneg c1, notneg c2, notneg c3, notneg c4, cond_true, cond_false]
  rw [d]
  rfl

end Pl
