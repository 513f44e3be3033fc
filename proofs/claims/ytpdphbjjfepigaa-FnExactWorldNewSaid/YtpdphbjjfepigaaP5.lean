import Derived.Test.YtpdphbjjfepigaaP4
open Go Go.Ab
namespace Pl

/-! ### what a server and a world begin with -/
def bkt (now : Int) : tImplBucket.D := (40, 40, 8, now, ())
def frs : List tImplFrame.D := List.replicate 8 (0, 0, 0, 0, false, ())
/-- a server that rises at an hour with a log and a catalogue -/
def rises (now : Int) (log : List UInt8) (c : tImplCat.D) : tImplServer.D := (true, now, log, c, (frs, 0, ()), List.replicate 2 (bkt now), [], ())

theorem poolNew_eq : Wh.impl_poolNew () = some ((frs, 0, ()), ()) := by simp [Wh.impl_poolNew, frs, List.replicate]
theorem l10New_eq : Wh.spec_l10New () = some ((frs, 0, ()), ()) := by simp [Wh.spec_l10New, frs, List.replicate]

theorem l12Buckets_eq (now : Int) : Wh.spec_l12Buckets now = some (List.replicate 2 (bkt now), ()) := by
  have hc : Comes Wh.spec_l12Buckets_l0 (((0 : Int), now, ()), []) ((), List.replicate 2 (bkt now)) := by
    refine comes_up (r := Wh.spec_l12Buckets_l0) (st := fun i => (((i : Int), now, ()), List.replicate i (bkt now))) (n := 2) ?_ ?_ 0 (Nat.zero_le _)
    · intro i hi
      have h2 := wrapN (i := i) (by omega)
      have h3 : i + 1 ≤ maxRows := by unfold maxRows; omega
      have h4 : (i : Int) < 2 := by omega
      simp [Wh.spec_l12Buckets_l0, h4, h2, h3, allB, List.replicate_succ', bkt]
    · simp [Wh.spec_l12Buckets_l0]
  simp [Wh.spec_l12Buckets, cb hc, cv hc]

theorem risen_eq (now : Int) (log : List UInt8) (c : tImplCat.D) : Wh.impl_risen (now, log, c) = some (rises now log c, ()) := by
  have hc : Comes Wh.impl_risen_l0 (((0 : Int), (), now, ()), (true, now, log, (c.1, (), c.2.2), ((), 0, ()), (), (), ()), (false, 0, [], (0, (), ()), ((), 0, ()), (), (), ()), c.2.1, frs, [], [], [], [], [], [])
      (((), ()), (false, 0, [], (0, (), ()), ((), 0, ()), (), (), ()), (true, now, log, (c.1, (), c.2.2), ((), 0, ()), (), (), ()), [], [], [], [], c.2.1, frs, List.replicate 2 (bkt now), []) := by
    refine comes_up (r := Wh.impl_risen_l0) (st := fun i => (((i : Int), (), now, ()), (true, now, log, (c.1, (), c.2.2), ((), 0, ()), (), (), ()), (false, 0, [], (0, (), ()), ((), 0, ()), (), (), ()), c.2.1, frs, List.replicate i (bkt now), [], [], [], [], [])) (n := 2) ?_ ?_ 0 (Nat.zero_le _)
    · intro i hi
      have h2 := wrapN (i := i) (by omega)
      have h3 : i + 1 ≤ maxRows := by unfold maxRows; omega
      have h4 : (i : Int) < 2 := by omega
      simp [Wh.impl_risen_l0, h4, h2, h3, allB, List.replicate_succ', bkt]
    · simp [Wh.impl_risen_l0]
  have v := Wh.impl_poolNew_v _ _ poolNew_eq
  simp [Wh.impl_risen, v, poolNew_eq, cb hc, cv hc, allB, rises]

def srv0 : tImplServer.D := rises 0 [] (0, [], ())

theorem spec_ServerNew_eq : Wh.spec_ServerNew () = some (srv0, ()) := by
  have v1 := Wh.spec_l12Buckets_v _ _ (l12Buckets_eq 0)
  have v2 := Wh.spec_l10New_v _ _ l10New_eq
  simp [Wh.spec_ServerNew, v1, l12Buckets_eq 0, v2, l10New_eq, allB, srv0, rises]
theorem impl_ServerNew_eq : Wh.impl_ServerNew () = some (srv0, ()) := by
  have e := risen_eq 0 [] (0, [], ())
  have v1 := Wh.impl_risen_v _ _ e
  simp [Wh.impl_ServerNew, v1, e, allB, srv0, rises]

/-- a new client -/
def cl0 (n : Int) : tImplClient.D := (n, 0, 0, [], 0, ((0, 0, [], [], ()), (0, 0, [], ()), ()), ())

theorem spec_ClientNew_at (n : Int) (h0 : 0 ≤ n) (h1 : n ≤ 3) : Wh.spec_ClientNew n = some (cl0 n, ()) := by
  simp [Wh.spec_ClientNew, Wh.spec_l1In', l1In_eq, allB, isSm, h0, h1, cl0]
theorem impl_ClientNew_at (n : Int) (h0 : 0 ≤ n) (h1 : n ≤ 3) : Wh.impl_ClientNew n = some (cl0 n, ()) := by
  simp [Wh.impl_ClientNew, Wh.impl_clientOf', clientOf_eq, allB, isSm, h0, h1, cl0]

def cls (i : Nat) : List tImplClient.D := (List.range i).map fun (j : Nat) => cl0 (j : Int)
theorem cls_succ (i : Nat) : cls (i + 1) = cls i ++ [cl0 i] := by simp [cls, List.range_succ]
theorem cls_len (i : Nat) : (cls i).length = i := by simp [cls]

def w0 : tImplWorld.D := (srv0, cls 4, [], [], ())

theorem spec_WorldNew_eq : Wh.spec_WorldNew () = some (w0, ()) := by
  have v := Wh.spec_ServerNew_v _ _ spec_ServerNew_eq
  have hc := comes_up (r := Wh.spec_WorldNew_l0) (st := fun i => (((i : Int), (), ()), ((true, 0, [], (0, (), ()), ((), 0, ()), (), (), ()), (), (), (), ()), ((false, 0, [], (0, (), ()), ((), 0, ()), (), (), ()), (), (), (), ()), [], frs, List.replicate 2 (bkt 0), [], cls i, [], [], [], [], [], [], [], [], [])) (n := 4)
    (y := (((), ()), ((false, 0, [], (0, (), ()), ((), 0, ()), (), (), ()), (), (), (), ()), ((true, 0, [], (0, (), ()), ((), 0, ()), (), (), ()), (), (), (), ()), [], [], [], [], [], [], [], [], frs, List.replicate 2 (bkt 0), [], cls 4, [], [])) ?_ ?_ 0 (Nat.zero_le _)
  · simp [cls, frs, bkt] at hc
    simp [Wh.spec_WorldNew, v, spec_ServerNew_eq, allB, srv0, rises, frs, bkt, cb hc, cv hc, w0, cls]
  · intro i hi
    have h2 := wrapN (i := i) (by omega)
    have h3 : i + 1 ≤ maxRows := by unfold maxRows; omega
    have h4 : (i : Int) < 4 := by omega
    have e := spec_ClientNew_at i (by omega) (by omega)
    have v := Wh.spec_ClientNew_v _ _ e
    simp [Wh.spec_WorldNew_l0, h4, h2, h3, allB, e, v, isSm, cls_succ, cls_len, cl0]
  · simp [Wh.spec_WorldNew_l0]

theorem impl_WorldNew_eq : Wh.impl_WorldNew () = some (w0, ()) := by
  have v := Wh.impl_ServerNew_v _ _ impl_ServerNew_eq
  have hc := comes_up (r := Wh.impl_WorldNew_l0) (st := fun i => (((i : Int), (), ()), ((true, 0, [], (0, (), ()), ((), 0, ()), (), (), ()), (), (), (), ()), ((false, 0, [], (0, (), ()), ((), 0, ()), (), (), ()), (), (), (), ()), [], frs, List.replicate 2 (bkt 0), [], cls i, [], [], [], [], [], [], [], [], [])) (n := 4)
    (y := (((), ()), ((false, 0, [], (0, (), ()), ((), 0, ()), (), (), ()), (), (), (), ()), ((true, 0, [], (0, (), ()), ((), 0, ()), (), (), ()), (), (), (), ()), [], [], [], [], [], [], [], [], frs, List.replicate 2 (bkt 0), [], cls 4, [], [])) ?_ ?_ 0 (Nat.zero_le _)
  · simp [cls, frs, bkt] at hc
    simp [Wh.impl_WorldNew, v, impl_ServerNew_eq, allB, srv0, rises, frs, bkt, cb hc, cv hc, w0, cls]
  · intro i hi
    have h2 := wrapN (i := i) (by omega)
    have h3 : i + 1 ≤ maxRows := by unfold maxRows; omega
    have h4 : (i : Int) < 4 := by omega
    have e := impl_ClientNew_at i (by omega) (by omega)
    have v := Wh.impl_ClientNew_v _ _ e
    simp [Wh.impl_WorldNew_l0, h4, h2, h3, allB, e, v, isSm, cls_succ, cls_len, cl0]
  · simp [Wh.impl_WorldNew_l0]

/-! ### the law -/
theorem w0_small : SmWorld w0 := by
  refine ⟨⟨?_, ?_, ?_, ?_⟩, ⟨?_, ?_⟩, ?_, ?_⟩
  · simp [w0, srv0, rises, SmCat]
  · simp [w0, srv0, rises, SmPool, frs]
  · simp [w0, srv0, rises]
  · simp [w0, srv0, rises]
  · simp [w0, cls_len]
  · intro x hx
    simp only [w0, cls, List.mem_map] at hx
    obtain ⟨j, _, rfl⟩ := hx
    simp [SmClient, SmGetting, SmPlan, SmSolver, cl0]
  · simp [w0]
  · simp [w0]

theorem w0_n : nWorld w0 = 84 := by
  decide

/-- a marked world is made of the old one's fields and of the marked lists -/
theorem mkWorld_re (w : tImplWorld.D) (k : Int) :
    (((w.1.1, w.1.2.1, w.1.2.2.1, (w.1.2.2.2.1.1, (mkWorld w k).1.2.2.2.1.2.1, w.1.2.2.2.1.2.2), ((mkWorld w k).1.2.2.2.2.1.1, w.1.2.2.2.2.1.2), (mkWorld w k).1.2.2.2.2.2.1, (mkWorld w k).1.2.2.2.2.2.2.1, w.1.2.2.2.2.2.2.2),
      (mkWorld w k).2.1, (mkWorld w k).2.2.1, (mkWorld w k).2.2.2.1, w.2.2.2.2) : tImplWorld.D) = mkWorld w k := rfl

theorem law_WorldNew : Wh.laws_FnExactWorldNew () = some (true, ()) := by
  have a1 := spec_WorldNew_eq
  have a2 := impl_WorldNew_eq
  have a3 := eqWorld_refl w0 w0_small
  have hb : (1 : Int) + (nWorld w0 : Nat) < big := by rw [w0_n]; decide
  have a4 := markWorld_eq w0 1 (by decide) hb w0_small
  have a5 := heldWorld_eq w0 1 (by decide) hb w0_small
  have v1 := Wh.spec_WorldNew_v _ _ a1
  have v2 := Wh.impl_WorldNew_v _ _ a2
  have v3 := Wh.laws_eqWorld_v _ _ a3
  have v4 := Wh.laws_markWorld_v _ _ a4
  have v5 := Wh.laws_heldWorld_v _ _ a5
  have n1 : decide ((1 : Int) + (nWorld w0 : Nat) < 0) = false := notneg (by omega)
  simp only [Wh.laws_FnExactWorldNew, mkWorld_re, a1, v1, a2, v2, a3, v3, a4, v4, a5, v5, allB, isSm, cond_true, cond_false, n1, bne_self_eq_false, Bool.not_true]

end Pl
