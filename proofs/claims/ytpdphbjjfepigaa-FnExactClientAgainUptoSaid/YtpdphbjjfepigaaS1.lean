import Derived.Test.YtpdphbjjfepigaaP12
import Derived.Test.YtpdphbjjfepigaaProg
import Derived.KernelRfl
open Go Go.Ab
namespace Go.Proofs.Walk
noncomputable section
def Tab : List (Nat × TI) := [(2, ⟨(.int .i64), 0⟩), (3, ⟨(.int .i64), 0⟩), (4, ⟨.bool, 0⟩), (5, ⟨(.int .u8), 0⟩), (6, ⟨(.int .u8), 0⟩), (7, ⟨tRuntimeBoundsError, 0⟩), (8, ⟨tRuntimeBoundsError, 0⟩), (9, ⟨.str, 0⟩), (10, ⟨.str, 0⟩), (11, ⟨.str, 0⟩), (12, ⟨(.int .u64), 0⟩), (13, ⟨tRuntimeErrorAddressString, 0⟩), (14, ⟨tRuntimeErrorAddressString, 0⟩), (21, ⟨(.int .i32), 0⟩), (173, ⟨(.int .i32), 0⟩), (172, ⟨(.int .i32), 0⟩), (171, ⟨(.ref (.int .u8)), 0⟩), (169, ⟨(.int .u8), 0⟩), (168, ⟨(.int .u8), 0⟩), (143, ⟨(.int .u32), 0⟩), (22, ⟨(.lst (.int .i64)), 0⟩), (23, ⟨tImplPlan, 0⟩), (24, ⟨tImplPlan, 0⟩), (138, ⟨tImplEq, 0⟩), (139, ⟨tImplEq, 0⟩), (25, ⟨(.lst tImplEq), 0⟩), (26, ⟨tImplSolver, 0⟩), (27, ⟨tImplSolver, 0⟩), (28, ⟨tImplGetting, 0⟩), (29, ⟨tImplGetting, 0⟩), (30, ⟨tImplClient, 0⟩), (31, ⟨tImplClient, 0⟩), (36, ⟨tImplPlan, 0⟩), (157, ⟨tImplEq, 0⟩), (37, ⟨(.lst tImplEq), 0⟩), (38, ⟨tImplSolver, 0⟩), (39, ⟨tImplSolver, 0⟩), (40, ⟨tImplGetting, 0⟩), (41, ⟨tImplGetting, 0⟩), (42, ⟨tImplClient, 0⟩), (43, ⟨tImplClient, 0⟩), (85, ⟨tImplWord, 0⟩), (86, ⟨tImplWord, 0⟩), (49, ⟨(.lst tImplWord), 0⟩), (127, ⟨tImplItem, 0⟩), (128, ⟨tImplItem, 0⟩), (57, ⟨(.lst tImplItem), 0⟩), (58, ⟨tImplCat, 0⟩), (59, ⟨tImplCat, 0⟩), (160, ⟨tImplFrame, 0⟩), (161, ⟨tImplFrame, 0⟩), (60, ⟨(.lst tImplFrame), 0⟩), (61, ⟨tImplPool, 0⟩), (62, ⟨tImplPool, 0⟩), (147, ⟨tImplBucket, 0⟩), (148, ⟨tImplBucket, 0⟩), (63, ⟨(.lst tImplBucket), 0⟩), (152, ⟨tImplServe, 0⟩), (153, ⟨tImplServe, 0⟩), (64, ⟨(.lst tImplServe), 0⟩), (65, ⟨tImplServer, 0⟩), (66, ⟨tImplServer, 0⟩), (67, ⟨(.lst tImplClient), 0⟩), (124, ⟨tImplPacket, 0⟩), (125, ⟨tImplPacket, 0⟩), (68, ⟨(.lst tImplPacket), 0⟩), (69, ⟨tImplWorld, 0⟩), (70, ⟨tImplWorld, 0⟩), (114, ⟨(.lst (.int .u8)), 0⟩)]
theorem tab_ok : allL (fun x => (tyB Go.Proofs.Try.prog x.2.t).1 x.1) Tab = true := by kernel_rfl
theorem cx_ok (fns : List (Nat × List Go.Ab.Mode × (List Arg → Option Res))) (dp : Bool) : CxOk Go.Proofs.Try.prog ⟨Tab, fns, dp⟩ := cxOk_of tab_ok
theorem mixed : Go.Proofs.Try.prog.follows .mixedOrders = true := by kernel_rfl
def noLoop : LoopD := ⟨⟨[], []⟩, [(.ret, ⟨[], []⟩)], fun _ => false, fun _ => ((), ())⟩

def K_laws_szIntS : Con := ⟨122, [.v (.lst (.int .i64)), .v (.int .i64)], [.v (.int .i64)], Wh.laws_szIntS, Wh.laws_szIntS'⟩
def C_laws_szIntS : Cx := ⟨Tab, [], false⟩
def lt_laws_szIntS : List (Nat × LoopD) := []
theorem e_laws_szIntS : ∀ xs, evT C_laws_szIntS lt_laws_szIntS Go.Proofs.Try.f122 [.v (.lst (.int .i64)), .v (.int .i64)] [.v (.int .i64)] xs = Wh.laws_szIntS xs := by intro xs; kernel_rfl
theorem ok_laws_szIntS : ConOk Go.Proofs.Try.prog K_laws_szIntS := con_ok (Ls := []) mixed (cx_ok _ _) (FnOk.nil Tab false) Go.Proofs.Try.func122 (loopsL_nil (by kernel_rfl)) e_laws_szIntS
theorem fk_laws_szIntS (fns : List (Nat × List Go.Ab.Mode × (List Arg → Option Res))) {dp : Bool} (h : FnOk Go.Proofs.Try.prog ⟨Tab, fns, dp⟩) : FnOk Go.Proofs.Try.prog ⟨Tab, K_laws_szIntS.entry :: fns, dp⟩ := h.cons K_laws_szIntS (by kernel_rfl) Wh.laws_szIntS_v ok_laws_szIntS

def K_laws_szPlan : Con := ⟨83, [.v tImplPlan, .v (.int .i64)], [.v (.int .i64)], Wh.laws_szPlan, Wh.laws_szPlan'⟩
def C_laws_szPlan : Cx := ⟨Tab, [K_laws_szIntS.entry], false⟩
def lt_laws_szPlan : List (Nat × LoopD) := []
theorem e_laws_szPlan : ∀ xs, evT C_laws_szPlan lt_laws_szPlan Go.Proofs.Try.f83 [.v tImplPlan, .v (.int .i64)] [.v (.int .i64)] xs = Wh.laws_szPlan xs := by intro xs; kernel_rfl
theorem ok_laws_szPlan : ConOk Go.Proofs.Try.prog K_laws_szPlan := con_ok (Ls := []) mixed (cx_ok _ _) (fk_laws_szIntS _ (FnOk.nil Tab false)) Go.Proofs.Try.func83 (loopsL_nil (by kernel_rfl)) e_laws_szPlan
theorem fk_laws_szPlan (fns : List (Nat × List Go.Ab.Mode × (List Arg → Option Res))) {dp : Bool} (h : FnOk Go.Proofs.Try.prog ⟨Tab, fns, dp⟩) : FnOk Go.Proofs.Try.prog ⟨Tab, K_laws_szPlan.entry :: fns, dp⟩ := h.cons K_laws_szPlan (by kernel_rfl) Wh.laws_szPlan_v ok_laws_szPlan

def K_laws_szEq : Con := ⟨141, [.v tImplEq, .v (.int .i64)], [.v (.int .i64)], Wh.laws_szEq, Wh.laws_szEq'⟩
def C_laws_szEq : Cx := ⟨Tab, [K_laws_szIntS.entry], false⟩
def lt_laws_szEq : List (Nat × LoopD) := []
theorem e_laws_szEq : ∀ xs, evT C_laws_szEq lt_laws_szEq Go.Proofs.Try.f141 [.v tImplEq, .v (.int .i64)] [.v (.int .i64)] xs = Wh.laws_szEq xs := by intro xs; kernel_rfl
theorem ok_laws_szEq : ConOk Go.Proofs.Try.prog K_laws_szEq := con_ok (Ls := []) mixed (cx_ok _ _) (fk_laws_szIntS _ (FnOk.nil Tab false)) Go.Proofs.Try.func141 (loopsL_nil (by kernel_rfl)) e_laws_szEq
theorem fk_laws_szEq (fns : List (Nat × List Go.Ab.Mode × (List Arg → Option Res))) {dp : Bool} (h : FnOk Go.Proofs.Try.prog ⟨Tab, fns, dp⟩) : FnOk Go.Proofs.Try.prog ⟨Tab, K_laws_szEq.entry :: fns, dp⟩ := h.cons K_laws_szEq (by kernel_rfl) Wh.laws_szEq_v ok_laws_szEq

def K_laws_szEqS : Con := ⟨123, [.v (.lst tImplEq), .v (.int .i64)], [.v (.int .i64)], Wh.laws_szEqS, Wh.laws_szEqS'⟩
def C_laws_szEqS : Cx := ⟨Tab, [K_laws_szEq.entry], false⟩
def L_laws_szEqS_0 : LoopD := loopD ⟨[(5, .leaf (.int .i64)), (1, .leaf (.int .i64)), (0, .leaf (.lst tImplEq))], []⟩ [(.ret, ⟨[(4, .leaf (.int .i64))], []⟩), ((.exit 0), ⟨[(1, .leaf (.int .i64))], []⟩)] Wh.laws_szEqS_l0_y Wh.laws_szEqS_l0
def lt_laws_szEqS : List (Nat × LoopD) := [(5, L_laws_szEqS_0)]
theorem r_laws_szEqS_0 : ∀ x, round C_laws_szEqS lt_laws_szEqS (nthLoop Go.Proofs.Try.f123 0) L_laws_szEqS_0 x = Wh.laws_szEqS_l0 x := by intro x; kernel_rfl
theorem e_laws_szEqS : ∀ xs, evT C_laws_szEqS lt_laws_szEqS Go.Proofs.Try.f123 [.v (.lst tImplEq), .v (.int .i64)] [.v (.int .i64)] xs = Wh.laws_szEqS xs := by intro xs; kernel_rfl
theorem ok_laws_szEqS : ConOk Go.Proofs.Try.prog K_laws_szEqS := con_ok (Ls := [L_laws_szEqS_0]) mixed (cx_ok _ _) (fk_laws_szEq _ (FnOk.nil Tab false)) Go.Proofs.Try.func123 (loopsL_cons (by kernel_rfl) (loopD_ok r_laws_szEqS_0) (loopsL_nil (by kernel_rfl))) e_laws_szEqS
theorem fk_laws_szEqS (fns : List (Nat × List Go.Ab.Mode × (List Arg → Option Res))) {dp : Bool} (h : FnOk Go.Proofs.Try.prog ⟨Tab, fns, dp⟩) : FnOk Go.Proofs.Try.prog ⟨Tab, K_laws_szEqS.entry :: fns, dp⟩ := h.cons K_laws_szEqS (by kernel_rfl) Wh.laws_szEqS_v ok_laws_szEqS

def K_laws_szSolver : Con := ⟨84, [.v tImplSolver, .v (.int .i64)], [.v (.int .i64)], Wh.laws_szSolver, Wh.laws_szSolver'⟩
def C_laws_szSolver : Cx := ⟨Tab, [K_laws_szEqS.entry], false⟩
def lt_laws_szSolver : List (Nat × LoopD) := []
theorem e_laws_szSolver : ∀ xs, evT C_laws_szSolver lt_laws_szSolver Go.Proofs.Try.f84 [.v tImplSolver, .v (.int .i64)] [.v (.int .i64)] xs = Wh.laws_szSolver xs := by intro xs; kernel_rfl
theorem ok_laws_szSolver : ConOk Go.Proofs.Try.prog K_laws_szSolver := con_ok (Ls := []) mixed (cx_ok _ _) (fk_laws_szEqS _ (FnOk.nil Tab false)) Go.Proofs.Try.func84 (loopsL_nil (by kernel_rfl)) e_laws_szSolver
theorem fk_laws_szSolver (fns : List (Nat × List Go.Ab.Mode × (List Arg → Option Res))) {dp : Bool} (h : FnOk Go.Proofs.Try.prog ⟨Tab, fns, dp⟩) : FnOk Go.Proofs.Try.prog ⟨Tab, K_laws_szSolver.entry :: fns, dp⟩ := h.cons K_laws_szSolver (by kernel_rfl) Wh.laws_szSolver_v ok_laws_szSolver

def K_laws_szGetting : Con := ⟨43, [.v tImplGetting, .v (.int .i64)], [.v (.int .i64)], Wh.laws_szGetting, Wh.laws_szGetting'⟩
def C_laws_szGetting : Cx := ⟨Tab, [K_laws_szSolver.entry, K_laws_szPlan.entry], false⟩
def lt_laws_szGetting : List (Nat × LoopD) := []
theorem e_laws_szGetting : ∀ xs, evT C_laws_szGetting lt_laws_szGetting Go.Proofs.Try.f43 [.v tImplGetting, .v (.int .i64)] [.v (.int .i64)] xs = Wh.laws_szGetting xs := by intro xs; kernel_rfl
theorem ok_laws_szGetting : ConOk Go.Proofs.Try.prog K_laws_szGetting := con_ok (Ls := []) mixed (cx_ok _ _) (fk_laws_szSolver _ (fk_laws_szPlan _ (FnOk.nil Tab false))) Go.Proofs.Try.func43 (loopsL_nil (by kernel_rfl)) e_laws_szGetting
theorem fk_laws_szGetting (fns : List (Nat × List Go.Ab.Mode × (List Arg → Option Res))) {dp : Bool} (h : FnOk Go.Proofs.Try.prog ⟨Tab, fns, dp⟩) : FnOk Go.Proofs.Try.prog ⟨Tab, K_laws_szGetting.entry :: fns, dp⟩ := h.cons K_laws_szGetting (by kernel_rfl) Wh.laws_szGetting_v ok_laws_szGetting

def K_laws_szClient : Con := ⟨16, [.v tImplClient, .v (.int .i64)], [.v (.int .i64)], Wh.laws_szClient, Wh.laws_szClient'⟩
def C_laws_szClient : Cx := ⟨Tab, [K_laws_szGetting.entry], false⟩
def lt_laws_szClient : List (Nat × LoopD) := []
theorem e_laws_szClient : ∀ xs, evT C_laws_szClient lt_laws_szClient Go.Proofs.Try.f16 [.v tImplClient, .v (.int .i64)] [.v (.int .i64)] xs = Wh.laws_szClient xs := by intro xs; kernel_rfl
theorem ok_laws_szClient : ConOk Go.Proofs.Try.prog K_laws_szClient := con_ok (Ls := []) mixed (cx_ok _ _) (fk_laws_szGetting _ (FnOk.nil Tab false)) Go.Proofs.Try.func16 (loopsL_nil (by kernel_rfl)) e_laws_szClient
theorem fk_laws_szClient (fns : List (Nat × List Go.Ab.Mode × (List Arg → Option Res))) {dp : Bool} (h : FnOk Go.Proofs.Try.prog ⟨Tab, fns, dp⟩) : FnOk Go.Proofs.Try.prog ⟨Tab, K_laws_szClient.entry :: fns, dp⟩ := h.cons K_laws_szClient (by kernel_rfl) Wh.laws_szClient_v ok_laws_szClient

def K_laws_toIntS : Con := ⟨126, [.v (.lst (.int .i64))], [.v (.own (.int .i64))], Wh.laws_toIntS, Wh.laws_toIntS'⟩
def C_laws_toIntS : Cx := ⟨Tab, [], false⟩
def L_laws_toIntS_0 : LoopD := loopD ⟨[(4, .leaf (.int .i64)), (0, .leaf (.lst (.int .i64))), (3, .whole 500000000 (.int .i64))], [(500000000, false, .rows (.int .i64))]⟩ [((.exit 0), ⟨[(3, .whole 500000000 (.int .i64))], [(500000000, false, .rows (.int .i64))]⟩)] Wh.laws_toIntS_l0_y Wh.laws_toIntS_l0
def lt_laws_toIntS : List (Nat × LoopD) := [(3, L_laws_toIntS_0)]
theorem r_laws_toIntS_0 : ∀ x, round C_laws_toIntS lt_laws_toIntS (nthLoop Go.Proofs.Try.f126 0) L_laws_toIntS_0 x = Wh.laws_toIntS_l0 x := by intro x; kernel_rfl
theorem e_laws_toIntS : ∀ xs, evT C_laws_toIntS lt_laws_toIntS Go.Proofs.Try.f126 [.v (.lst (.int .i64))] [.v (.own (.int .i64))] xs = Wh.laws_toIntS xs := by intro xs; kernel_rfl
theorem ok_laws_toIntS : ConOk Go.Proofs.Try.prog K_laws_toIntS := con_ok (Ls := [L_laws_toIntS_0]) mixed (cx_ok _ _) (FnOk.nil Tab false) Go.Proofs.Try.func126 (loopsL_cons (by kernel_rfl) (loopD_ok r_laws_toIntS_0) (loopsL_nil (by kernel_rfl))) e_laws_toIntS
theorem fk_laws_toIntS (fns : List (Nat × List Go.Ab.Mode × (List Arg → Option Res))) {dp : Bool} (h : FnOk Go.Proofs.Try.prog ⟨Tab, fns, dp⟩) : FnOk Go.Proofs.Try.prog ⟨Tab, K_laws_toIntS.entry :: fns, dp⟩ := h.cons K_laws_toIntS (by kernel_rfl) Wh.laws_toIntS_v ok_laws_toIntS

def K_laws_toPlan : Con := ⟨88, [.v tImplPlan], [.v (.pair (.int .i64) (.pair (.int .i64) (.pair (.own (.int .i64)) (.pair (.own (.int .i64)) .unit))))], Wh.laws_toPlan, Wh.laws_toPlan'⟩
def C_laws_toPlan : Cx := ⟨Tab, [K_laws_toIntS.entry], false⟩
def lt_laws_toPlan : List (Nat × LoopD) := []
theorem e_laws_toPlan : ∀ xs, evT C_laws_toPlan lt_laws_toPlan Go.Proofs.Try.f88 [.v tImplPlan] [.v (.pair (.int .i64) (.pair (.int .i64) (.pair (.own (.int .i64)) (.pair (.own (.int .i64)) .unit))))] xs = Wh.laws_toPlan xs := by intro xs; kernel_rfl
theorem ok_laws_toPlan : ConOk Go.Proofs.Try.prog K_laws_toPlan := con_ok (Ls := []) mixed (cx_ok _ _) (fk_laws_toIntS _ (FnOk.nil Tab false)) Go.Proofs.Try.func88 (loopsL_nil (by kernel_rfl)) e_laws_toPlan
theorem fk_laws_toPlan (fns : List (Nat × List Go.Ab.Mode × (List Arg → Option Res))) {dp : Bool} (h : FnOk Go.Proofs.Try.prog ⟨Tab, fns, dp⟩) : FnOk Go.Proofs.Try.prog ⟨Tab, K_laws_toPlan.entry :: fns, dp⟩ := h.cons K_laws_toPlan (by kernel_rfl) Wh.laws_toPlan_v ok_laws_toPlan

def K_laws_toEq : Con := ⟨142, [.v tImplEq], [.v (.pair (.own (.int .i64)) (.pair .str .unit))], Wh.laws_toEq, Wh.laws_toEq'⟩
def C_laws_toEq : Cx := ⟨Tab, [K_laws_toIntS.entry], false⟩
def lt_laws_toEq : List (Nat × LoopD) := []
theorem e_laws_toEq : ∀ xs, evT C_laws_toEq lt_laws_toEq Go.Proofs.Try.f142 [.v tImplEq] [.v (.pair (.own (.int .i64)) (.pair .str .unit))] xs = Wh.laws_toEq xs := by intro xs; kernel_rfl
theorem ok_laws_toEq : ConOk Go.Proofs.Try.prog K_laws_toEq := con_ok (Ls := []) mixed (cx_ok _ _) (fk_laws_toIntS _ (FnOk.nil Tab false)) Go.Proofs.Try.func142 (loopsL_nil (by kernel_rfl)) e_laws_toEq
theorem fk_laws_toEq (fns : List (Nat × List Go.Ab.Mode × (List Arg → Option Res))) {dp : Bool} (h : FnOk Go.Proofs.Try.prog ⟨Tab, fns, dp⟩) : FnOk Go.Proofs.Try.prog ⟨Tab, K_laws_toEq.entry :: fns, dp⟩ := h.cons K_laws_toEq (by kernel_rfl) Wh.laws_toEq_v ok_laws_toEq

def K_laws_toEqS : Con := ⟨127, [.v (.lst tImplEq)], [.d (.lst tImplEq)], Wh.laws_toEqS, Wh.laws_toEqS'⟩
def C_laws_toEqS : Cx := ⟨Tab, [K_laws_toEq.entry], true⟩
def L_laws_toEqS_0 : LoopD := loopD ⟨[(4, .leaf (.int .i64)), (0, .leaf (.lst tImplEq)), (3, .whole 500000000 tImplEq)], [(500000000, false, .deep tImplEq)]⟩ [((.exit 0), ⟨[(3, .whole 500000000 tImplEq)], [(500000000, false, .deep tImplEq)]⟩)] Wh.laws_toEqS_l0_y Wh.laws_toEqS_l0
def lt_laws_toEqS : List (Nat × LoopD) := [(3, L_laws_toEqS_0)]
theorem r_laws_toEqS_0 : ∀ x, round C_laws_toEqS lt_laws_toEqS (nthLoop Go.Proofs.Try.f127 0) L_laws_toEqS_0 x = Wh.laws_toEqS_l0 x := by intro x; kernel_rfl
theorem e_laws_toEqS : ∀ xs, evT C_laws_toEqS lt_laws_toEqS Go.Proofs.Try.f127 [.v (.lst tImplEq)] [.d (.lst tImplEq)] xs = Wh.laws_toEqS xs := by intro xs; kernel_rfl
theorem ok_laws_toEqS : ConOk Go.Proofs.Try.prog K_laws_toEqS := con_ok (Ls := [L_laws_toEqS_0]) mixed (cx_ok _ _) (fk_laws_toEq _ (FnOk.nil Tab true)) Go.Proofs.Try.func127 (loopsL_cons (by kernel_rfl) (loopD_ok r_laws_toEqS_0) (loopsL_nil (by kernel_rfl))) e_laws_toEqS
theorem fk_laws_toEqS (fns : List (Nat × List Go.Ab.Mode × (List Arg → Option Res))) {dp : Bool} (h : FnOk Go.Proofs.Try.prog ⟨Tab, fns, dp⟩) : FnOk Go.Proofs.Try.prog ⟨Tab, K_laws_toEqS.entry :: fns, dp⟩ := h.cons K_laws_toEqS (by kernel_rfl) Wh.laws_toEqS_v ok_laws_toEqS

def K_laws_toSolver : Con := ⟨89, [.v tImplSolver], [.d tImplSolver], Wh.laws_toSolver, Wh.laws_toSolver'⟩
def C_laws_toSolver : Cx := ⟨Tab, [K_laws_toEqS.entry], true⟩
def lt_laws_toSolver : List (Nat × LoopD) := []
theorem e_laws_toSolver : ∀ xs, evT C_laws_toSolver lt_laws_toSolver Go.Proofs.Try.f89 [.v tImplSolver] [.d tImplSolver] xs = Wh.laws_toSolver xs := by intro xs; kernel_rfl
theorem ok_laws_toSolver : ConOk Go.Proofs.Try.prog K_laws_toSolver := con_ok (Ls := []) mixed (cx_ok _ _) (fk_laws_toEqS _ (FnOk.nil Tab true)) Go.Proofs.Try.func89 (loopsL_nil (by kernel_rfl)) e_laws_toSolver
theorem fk_laws_toSolver (fns : List (Nat × List Go.Ab.Mode × (List Arg → Option Res))) {dp : Bool} (h : FnOk Go.Proofs.Try.prog ⟨Tab, fns, dp⟩) : FnOk Go.Proofs.Try.prog ⟨Tab, K_laws_toSolver.entry :: fns, dp⟩ := h.cons K_laws_toSolver (by kernel_rfl) Wh.laws_toSolver_v ok_laws_toSolver

def K_laws_toGetting : Con := ⟨48, [.v tImplGetting], [.d tImplGetting], Wh.laws_toGetting, Wh.laws_toGetting'⟩
def C_laws_toGetting : Cx := ⟨Tab, [K_laws_toSolver.entry, K_laws_toPlan.entry], true⟩
def lt_laws_toGetting : List (Nat × LoopD) := []
theorem e_laws_toGetting : ∀ xs, evT C_laws_toGetting lt_laws_toGetting Go.Proofs.Try.f48 [.v tImplGetting] [.d tImplGetting] xs = Wh.laws_toGetting xs := by intro xs; kernel_rfl
theorem ok_laws_toGetting : ConOk Go.Proofs.Try.prog K_laws_toGetting := con_ok (Ls := []) mixed (cx_ok _ _) (fk_laws_toSolver _ (fk_laws_toPlan _ (FnOk.nil Tab true))) Go.Proofs.Try.func48 (loopsL_nil (by kernel_rfl)) e_laws_toGetting
theorem fk_laws_toGetting (fns : List (Nat × List Go.Ab.Mode × (List Arg → Option Res))) {dp : Bool} (h : FnOk Go.Proofs.Try.prog ⟨Tab, fns, dp⟩) : FnOk Go.Proofs.Try.prog ⟨Tab, K_laws_toGetting.entry :: fns, dp⟩ := h.cons K_laws_toGetting (by kernel_rfl) Wh.laws_toGetting_v ok_laws_toGetting

def K_laws_toClient : Con := ⟨18, [.v tImplClient], [.d tImplClient], Wh.laws_toClient, Wh.laws_toClient'⟩
def C_laws_toClient : Cx := ⟨Tab, [K_laws_toGetting.entry], true⟩
def lt_laws_toClient : List (Nat × LoopD) := []
theorem e_laws_toClient : ∀ xs, evT C_laws_toClient lt_laws_toClient Go.Proofs.Try.f18 [.v tImplClient] [.d tImplClient] xs = Wh.laws_toClient xs := by intro xs; kernel_rfl
theorem ok_laws_toClient : ConOk Go.Proofs.Try.prog K_laws_toClient := con_ok (Ls := []) mixed (cx_ok _ _) (fk_laws_toGetting _ (FnOk.nil Tab true)) Go.Proofs.Try.func18 (loopsL_nil (by kernel_rfl)) e_laws_toClient
theorem fk_laws_toClient (fns : List (Nat × List Go.Ab.Mode × (List Arg → Option Res))) {dp : Bool} (h : FnOk Go.Proofs.Try.prog ⟨Tab, fns, dp⟩) : FnOk Go.Proofs.Try.prog ⟨Tab, K_laws_toClient.entry :: fns, dp⟩ := h.cons K_laws_toClient (by kernel_rfl) Wh.laws_toClient_v ok_laws_toClient

def K_spec_l1In : Con := ⟨38, [.v (.int .i64), .v (.int .i64), .v (.int .i64)], [.v .bool], Wh.spec_l1In, Wh.spec_l1In'⟩
def C_spec_l1In : Cx := ⟨Tab, [], false⟩
def lt_spec_l1In : List (Nat × LoopD) := []
theorem e_spec_l1In : ∀ xs, evT C_spec_l1In lt_spec_l1In Go.Proofs.Try.f38 [.v (.int .i64), .v (.int .i64), .v (.int .i64)] [.v .bool] xs = Wh.spec_l1In xs := by intro xs; kernel_rfl
theorem ok_spec_l1In : ConOk Go.Proofs.Try.prog K_spec_l1In := con_ok (Ls := []) mixed (cx_ok _ _) (FnOk.nil Tab false) Go.Proofs.Try.func38 (loopsL_nil (by kernel_rfl)) e_spec_l1In
theorem fk_spec_l1In (fns : List (Nat × List Go.Ab.Mode × (List Arg → Option Res))) {dp : Bool} (h : FnOk Go.Proofs.Try.prog ⟨Tab, fns, dp⟩) : FnOk Go.Proofs.Try.prog ⟨Tab, K_spec_l1In.entry :: fns, dp⟩ := h.cons K_spec_l1In (by kernel_rfl) Wh.spec_l1In_v ok_spec_l1In

def K_spec_l13None : Con := ⟨44, [.v tImplClient], [.v .bool], Wh.spec_l13None, Wh.spec_l13None'⟩
def C_spec_l13None : Cx := ⟨Tab, [], false⟩
def lt_spec_l13None : List (Nat × LoopD) := []
theorem e_spec_l13None : ∀ xs, evT C_spec_l13None lt_spec_l13None Go.Proofs.Try.f44 [.v tImplClient] [.v .bool] xs = Wh.spec_l13None xs := by intro xs; kernel_rfl
theorem ok_spec_l13None : ConOk Go.Proofs.Try.prog K_spec_l13None := con_ok (Ls := []) mixed (cx_ok _ _) (FnOk.nil Tab false) Go.Proofs.Try.func44 (loopsL_nil (by kernel_rfl)) e_spec_l13None
theorem fk_spec_l13None (fns : List (Nat × List Go.Ab.Mode × (List Arg → Option Res))) {dp : Bool} (h : FnOk Go.Proofs.Try.prog ⟨Tab, fns, dp⟩) : FnOk Go.Proofs.Try.prog ⟨Tab, K_spec_l13None.entry :: fns, dp⟩ := h.cons K_spec_l13None (by kernel_rfl) Wh.spec_l13None_v ok_spec_l13None

def K_spec_l5Count : Con := ⟨87, [.v tImplPlan], [.v (.int .i64)], Wh.spec_l5Count, Wh.spec_l5Count'⟩
def C_spec_l5Count : Cx := ⟨Tab, [], false⟩
def lt_spec_l5Count : List (Nat × LoopD) := []
theorem e_spec_l5Count : ∀ xs, evT C_spec_l5Count lt_spec_l5Count Go.Proofs.Try.f87 [.v tImplPlan] [.v (.int .i64)] xs = Wh.spec_l5Count xs := by intro xs; kernel_rfl
theorem ok_spec_l5Count : ConOk Go.Proofs.Try.prog K_spec_l5Count := con_ok (Ls := []) mixed (cx_ok _ _) (FnOk.nil Tab false) Go.Proofs.Try.func87 (loopsL_nil (by kernel_rfl)) e_spec_l5Count
theorem fk_spec_l5Count (fns : List (Nat × List Go.Ab.Mode × (List Arg → Option Res))) {dp : Bool} (h : FnOk Go.Proofs.Try.prog ⟨Tab, fns, dp⟩) : FnOk Go.Proofs.Try.prog ⟨Tab, K_spec_l5Count.entry :: fns, dp⟩ := h.cons K_spec_l5Count (by kernel_rfl) Wh.spec_l5Count_v ok_spec_l5Count

def K_spec_PlanOk : Con := ⟨85, [.v tImplPlan], [.v .bool], Wh.spec_PlanOk, Wh.spec_PlanOk'⟩
def C_spec_PlanOk : Cx := ⟨Tab, [K_spec_l5Count.entry, K_spec_l1In.entry], false⟩
def L_spec_PlanOk_0 : LoopD := loopD ⟨[(3, .leaf (.int .i64)), (1, .vptr 500000000 [])], [(500000000, false, .var tImplPlan (.leaf tImplPlan))]⟩ [(.ret, ⟨[(2, .leaf .bool)], []⟩), ((.exit 0), ⟨[(1, .vptr 500000000 [])], [(500000000, false, .var tImplPlan (.leaf tImplPlan))]⟩)] Wh.spec_PlanOk_l0_y Wh.spec_PlanOk_l0
def lt_spec_PlanOk : List (Nat × LoopD) := [(4, L_spec_PlanOk_0)]
theorem r_spec_PlanOk_0 : ∀ x, round C_spec_PlanOk lt_spec_PlanOk (nthLoop Go.Proofs.Try.f85 0) L_spec_PlanOk_0 x = Wh.spec_PlanOk_l0 x := by intro x; kernel_rfl
theorem e_spec_PlanOk : ∀ xs, evT C_spec_PlanOk lt_spec_PlanOk Go.Proofs.Try.f85 [.v tImplPlan] [.v .bool] xs = Wh.spec_PlanOk xs := by intro xs; kernel_rfl
theorem ok_spec_PlanOk : ConOk Go.Proofs.Try.prog K_spec_PlanOk := con_ok (Ls := [L_spec_PlanOk_0]) mixed (cx_ok _ _) (fk_spec_l5Count _ (fk_spec_l1In _ (FnOk.nil Tab false))) Go.Proofs.Try.func85 (loopsL_cons (by kernel_rfl) (loopD_ok r_spec_PlanOk_0) (loopsL_nil (by kernel_rfl))) e_spec_PlanOk
theorem fk_spec_PlanOk (fns : List (Nat × List Go.Ab.Mode × (List Arg → Option Res))) {dp : Bool} (h : FnOk Go.Proofs.Try.prog ⟨Tab, fns, dp⟩) : FnOk Go.Proofs.Try.prog ⟨Tab, K_spec_PlanOk.entry :: fns, dp⟩ := h.cons K_spec_PlanOk (by kernel_rfl) Wh.spec_PlanOk_v ok_spec_PlanOk

def K_spec_RowOk : Con := ⟨124, [.v (.lst (.int .i64)), .v (.int .i64)], [.v .bool], Wh.spec_RowOk, Wh.spec_RowOk'⟩
def C_spec_RowOk : Cx := ⟨Tab, [K_spec_l1In.entry], false⟩
def L_spec_RowOk_0 : LoopD := loopD ⟨[(5, .leaf (.int .i64)), (0, .leaf (.lst (.int .i64))), (1, .leaf (.int .i64))], []⟩ [(.ret, ⟨[(4, .leaf .bool)], []⟩), ((.exit 0), ⟨[(1, .leaf (.int .i64))], []⟩)] Wh.spec_RowOk_l0_y Wh.spec_RowOk_l0
def lt_spec_RowOk : List (Nat × LoopD) := [(2, L_spec_RowOk_0)]
theorem r_spec_RowOk_0 : ∀ x, round C_spec_RowOk lt_spec_RowOk (nthLoop Go.Proofs.Try.f124 0) L_spec_RowOk_0 x = Wh.spec_RowOk_l0 x := by intro x; kernel_rfl
theorem e_spec_RowOk : ∀ xs, evT C_spec_RowOk lt_spec_RowOk Go.Proofs.Try.f124 [.v (.lst (.int .i64)), .v (.int .i64)] [.v .bool] xs = Wh.spec_RowOk xs := by intro xs; kernel_rfl
theorem ok_spec_RowOk : ConOk Go.Proofs.Try.prog K_spec_RowOk := con_ok (Ls := [L_spec_RowOk_0]) mixed (cx_ok _ _) (fk_spec_l1In _ (FnOk.nil Tab false)) Go.Proofs.Try.func124 (loopsL_cons (by kernel_rfl) (loopD_ok r_spec_RowOk_0) (loopsL_nil (by kernel_rfl))) e_spec_RowOk
theorem fk_spec_RowOk (fns : List (Nat × List Go.Ab.Mode × (List Arg → Option Res))) {dp : Bool} (h : FnOk Go.Proofs.Try.prog ⟨Tab, fns, dp⟩) : FnOk Go.Proofs.Try.prog ⟨Tab, K_spec_RowOk.entry :: fns, dp⟩ := h.cons K_spec_RowOk (by kernel_rfl) Wh.spec_RowOk_v ok_spec_RowOk

def K_spec_l3Has : Con := ⟨125, [.v (.lst (.int .i64)), .v (.int .i64)], [.v .bool], Wh.spec_l3Has, Wh.spec_l3Has'⟩
def C_spec_l3Has : Cx := ⟨Tab, [], false⟩
def L_spec_l3Has_0 : LoopD := loopD ⟨[(5, .leaf (.int .i64)), (1, .leaf (.int .i64)), (0, .leaf (.lst (.int .i64)))], []⟩ [(.ret, ⟨[(4, .leaf .bool)], []⟩), ((.exit 0), ⟨[], []⟩)] Wh.spec_l3Has_l0_y Wh.spec_l3Has_l0
def lt_spec_l3Has : List (Nat × LoopD) := [(2, L_spec_l3Has_0)]
theorem r_spec_l3Has_0 : ∀ x, round C_spec_l3Has lt_spec_l3Has (nthLoop Go.Proofs.Try.f125 0) L_spec_l3Has_0 x = Wh.spec_l3Has_l0 x := by intro x; kernel_rfl
theorem e_spec_l3Has : ∀ xs, evT C_spec_l3Has lt_spec_l3Has Go.Proofs.Try.f125 [.v (.lst (.int .i64)), .v (.int .i64)] [.v .bool] xs = Wh.spec_l3Has xs := by intro xs; kernel_rfl
theorem ok_spec_l3Has : ConOk Go.Proofs.Try.prog K_spec_l3Has := con_ok (Ls := [L_spec_l3Has_0]) mixed (cx_ok _ _) (FnOk.nil Tab false) Go.Proofs.Try.func125 (loopsL_cons (by kernel_rfl) (loopD_ok r_spec_l3Has_0) (loopsL_nil (by kernel_rfl))) e_spec_l3Has
theorem fk_spec_l3Has (fns : List (Nat × List Go.Ab.Mode × (List Arg → Option Res))) {dp : Bool} (h : FnOk Go.Proofs.Try.prog ⟨Tab, fns, dp⟩) : FnOk Go.Proofs.Try.prog ⟨Tab, K_spec_l3Has.entry :: fns, dp⟩ := h.cons K_spec_l3Has (by kernel_rfl) Wh.spec_l3Has_v ok_spec_l3Has

def K_spec_SolverOk : Con := ⟨86, [.v tImplSolver], [.v .bool], Wh.spec_SolverOk, Wh.spec_SolverOk'⟩
def C_spec_SolverOk : Cx := ⟨Tab, [K_spec_l3Has.entry, K_spec_RowOk.entry, K_spec_l1In.entry], false⟩
def L_spec_SolverOk_0 : LoopD := loopD ⟨[(3, .leaf (.int .i64)), (1, .vptr 500000000 [])], [(500000000, false, .var tImplSolver (.leaf tImplSolver))]⟩ [(.ret, ⟨[(2, .leaf .bool)], []⟩), ((.exit 0), ⟨[(1, .vptr 500000000 [])], [(500000000, false, .var tImplSolver (.leaf tImplSolver))]⟩)] Wh.spec_SolverOk_l0_y Wh.spec_SolverOk_l0
def L_spec_SolverOk_1 : LoopD := loopD ⟨[(5, .leaf (.int .i64)), (1, .vptr 500000000 [])], [(500000000, false, .var tImplSolver (.leaf tImplSolver))]⟩ [(.ret, ⟨[(2, .leaf .bool)], []⟩), ((.exit 2), ⟨[], []⟩)] Wh.spec_SolverOk_l1_y Wh.spec_SolverOk_l1
def L_spec_SolverOk_2 : LoopD := loopD ⟨[(6, .leaf (.int .i64)), (5, .leaf (.int .i64)), (1, .vptr 500000000 [])], [(500000000, false, .var tImplSolver (.leaf tImplSolver))]⟩ [(.ret, ⟨[(2, .leaf .bool)], []⟩), ((.exit 4), ⟨[(1, .vptr 500000000 []), (5, .leaf (.int .i64))], [(500000000, false, .var tImplSolver (.leaf tImplSolver))]⟩)] Wh.spec_SolverOk_l2_y Wh.spec_SolverOk_l2
def lt_spec_SolverOk : List (Nat × LoopD) := [(4, L_spec_SolverOk_0), (10, L_spec_SolverOk_1), (13, L_spec_SolverOk_2)]
theorem r_spec_SolverOk_0 : ∀ x, round C_spec_SolverOk lt_spec_SolverOk (nthLoop Go.Proofs.Try.f86 0) L_spec_SolverOk_0 x = Wh.spec_SolverOk_l0 x := by intro x; kernel_rfl
theorem r_spec_SolverOk_1 : ∀ x, round C_spec_SolverOk lt_spec_SolverOk (nthLoop Go.Proofs.Try.f86 1) L_spec_SolverOk_1 x = Wh.spec_SolverOk_l1 x := by intro x; kernel_rfl
theorem r_spec_SolverOk_2 : ∀ x, round C_spec_SolverOk lt_spec_SolverOk (nthLoop Go.Proofs.Try.f86 2) L_spec_SolverOk_2 x = Wh.spec_SolverOk_l2 x := by intro x; kernel_rfl
theorem e_spec_SolverOk : ∀ xs, evT C_spec_SolverOk lt_spec_SolverOk Go.Proofs.Try.f86 [.v tImplSolver] [.v .bool] xs = Wh.spec_SolverOk xs := by intro xs; kernel_rfl
theorem ok_spec_SolverOk : ConOk Go.Proofs.Try.prog K_spec_SolverOk := con_ok (Ls := [L_spec_SolverOk_0, L_spec_SolverOk_1, L_spec_SolverOk_2]) mixed (cx_ok _ _) (fk_spec_l3Has _ (fk_spec_RowOk _ (fk_spec_l1In _ (FnOk.nil Tab false)))) Go.Proofs.Try.func86 (loopsL_cons (by kernel_rfl) (loopD_ok r_spec_SolverOk_0) (loopsL_cons (by kernel_rfl) (loopD_ok r_spec_SolverOk_1) (loopsL_cons (by kernel_rfl) (loopD_ok r_spec_SolverOk_2) (loopsL_nil (by kernel_rfl))))) e_spec_SolverOk
theorem fk_spec_SolverOk (fns : List (Nat × List Go.Ab.Mode × (List Arg → Option Res))) {dp : Bool} (h : FnOk Go.Proofs.Try.prog ⟨Tab, fns, dp⟩) : FnOk Go.Proofs.Try.prog ⟨Tab, K_spec_SolverOk.entry :: fns, dp⟩ := h.cons K_spec_SolverOk (by kernel_rfl) Wh.spec_SolverOk_v ok_spec_SolverOk

def K_spec_GetOk : Con := ⟨45, [.v tImplGetting], [.v .bool], Wh.spec_GetOk, Wh.spec_GetOk'⟩
def C_spec_GetOk : Cx := ⟨Tab, [K_spec_l5Count.entry, K_spec_SolverOk.entry, K_spec_PlanOk.entry], false⟩
def lt_spec_GetOk : List (Nat × LoopD) := []
theorem e_spec_GetOk : ∀ xs, evT C_spec_GetOk lt_spec_GetOk Go.Proofs.Try.f45 [.v tImplGetting] [.v .bool] xs = Wh.spec_GetOk xs := by intro xs; kernel_rfl
theorem ok_spec_GetOk : ConOk Go.Proofs.Try.prog K_spec_GetOk := con_ok (Ls := []) mixed (cx_ok _ _) (fk_spec_l5Count _ (fk_spec_SolverOk _ (fk_spec_PlanOk _ (FnOk.nil Tab false)))) Go.Proofs.Try.func45 (loopsL_nil (by kernel_rfl)) e_spec_GetOk
theorem fk_spec_GetOk (fns : List (Nat × List Go.Ab.Mode × (List Arg → Option Res))) {dp : Bool} (h : FnOk Go.Proofs.Try.prog ⟨Tab, fns, dp⟩) : FnOk Go.Proofs.Try.prog ⟨Tab, K_spec_GetOk.entry :: fns, dp⟩ := h.cons K_spec_GetOk (by kernel_rfl) Wh.spec_GetOk_v ok_spec_GetOk

def K_spec_NameOk : Con := ⟨46, [.v .str], [.v .bool], Wh.spec_NameOk, Wh.spec_NameOk'⟩
def C_spec_NameOk : Cx := ⟨Tab, [K_spec_l1In.entry], false⟩
def L_spec_NameOk_0 : LoopD := loopD ⟨[(3, .leaf (.int .i64)), (0, .leaf .str)], []⟩ [(.ret, ⟨[(2, .leaf .bool)], []⟩), ((.exit 0), ⟨[(0, .leaf .str)], []⟩)] Wh.spec_NameOk_l0_y Wh.spec_NameOk_l0
def lt_spec_NameOk : List (Nat × LoopD) := [(2, L_spec_NameOk_0)]
theorem r_spec_NameOk_0 : ∀ x, round C_spec_NameOk lt_spec_NameOk (nthLoop Go.Proofs.Try.f46 0) L_spec_NameOk_0 x = Wh.spec_NameOk_l0 x := by intro x; kernel_rfl
theorem e_spec_NameOk : ∀ xs, evT C_spec_NameOk lt_spec_NameOk Go.Proofs.Try.f46 [.v .str] [.v .bool] xs = Wh.spec_NameOk xs := by intro xs; kernel_rfl
theorem ok_spec_NameOk : ConOk Go.Proofs.Try.prog K_spec_NameOk := con_ok (Ls := [L_spec_NameOk_0]) mixed (cx_ok _ _) (fk_spec_l1In _ (FnOk.nil Tab false)) Go.Proofs.Try.func46 (loopsL_cons (by kernel_rfl) (loopD_ok r_spec_NameOk_0) (loopsL_nil (by kernel_rfl))) e_spec_NameOk
theorem fk_spec_NameOk (fns : List (Nat × List Go.Ab.Mode × (List Arg → Option Res))) {dp : Bool} (h : FnOk Go.Proofs.Try.prog ⟨Tab, fns, dp⟩) : FnOk Go.Proofs.Try.prog ⟨Tab, K_spec_NameOk.entry :: fns, dp⟩ := h.cons K_spec_NameOk (by kernel_rfl) Wh.spec_NameOk_v ok_spec_NameOk

def K_spec_GetDone : Con := ⟨47, [.v tImplGetting], [.v .bool], Wh.spec_GetDone, Wh.spec_GetDone'⟩
def C_spec_GetDone : Cx := ⟨Tab, [K_spec_l5Count.entry, K_spec_GetOk.entry], false⟩
def lt_spec_GetDone : List (Nat × LoopD) := []
theorem e_spec_GetDone : ∀ xs, evT C_spec_GetDone lt_spec_GetDone Go.Proofs.Try.f47 [.v tImplGetting] [.v .bool] xs = Wh.spec_GetDone xs := by intro xs; kernel_rfl
theorem ok_spec_GetDone : ConOk Go.Proofs.Try.prog K_spec_GetDone := con_ok (Ls := []) mixed (cx_ok _ _) (fk_spec_l5Count _ (fk_spec_GetOk _ (FnOk.nil Tab false))) Go.Proofs.Try.func47 (loopsL_nil (by kernel_rfl)) e_spec_GetDone
theorem fk_spec_GetDone (fns : List (Nat × List Go.Ab.Mode × (List Arg → Option Res))) {dp : Bool} (h : FnOk Go.Proofs.Try.prog ⟨Tab, fns, dp⟩) : FnOk Go.Proofs.Try.prog ⟨Tab, K_spec_GetDone.entry :: fns, dp⟩ := h.cons K_spec_GetDone (by kernel_rfl) Wh.spec_GetDone_v ok_spec_GetDone

def K_spec_ClientOk : Con := ⟨17, [.v tImplClient], [.v .bool], Wh.spec_ClientOk, Wh.spec_ClientOk'⟩
def C_spec_ClientOk : Cx := ⟨Tab, [K_spec_GetDone.entry, K_spec_NameOk.entry, K_spec_GetOk.entry, K_spec_l13None.entry, K_spec_l1In.entry], false⟩
def lt_spec_ClientOk : List (Nat × LoopD) := []
theorem e_spec_ClientOk : ∀ xs, evT C_spec_ClientOk lt_spec_ClientOk Go.Proofs.Try.f17 [.v tImplClient] [.v .bool] xs = Wh.spec_ClientOk xs := by intro xs; kernel_rfl
theorem ok_spec_ClientOk : ConOk Go.Proofs.Try.prog K_spec_ClientOk := con_ok (Ls := []) mixed (cx_ok _ _) (fk_spec_GetDone _ (fk_spec_NameOk _ (fk_spec_GetOk _ (fk_spec_l13None _ (fk_spec_l1In _ (FnOk.nil Tab false)))))) Go.Proofs.Try.func17 (loopsL_nil (by kernel_rfl)) e_spec_ClientOk
theorem fk_spec_ClientOk (fns : List (Nat × List Go.Ab.Mode × (List Arg → Option Res))) {dp : Bool} (h : FnOk Go.Proofs.Try.prog ⟨Tab, fns, dp⟩) : FnOk Go.Proofs.Try.prog ⟨Tab, K_spec_ClientOk.entry :: fns, dp⟩ := h.cons K_spec_ClientOk (by kernel_rfl) Wh.spec_ClientOk_v ok_spec_ClientOk

def K_spec_l13Asks : Con := ⟨56, [.v tImplClient], [.v (.own tImplWord)], Wh.spec_l13Asks, Wh.spec_l13Asks'⟩
def C_spec_l13Asks : Cx := ⟨Tab, [], false⟩
def lt_spec_l13Asks : List (Nat × LoopD) := []
theorem e_spec_l13Asks : ∀ xs, evT C_spec_l13Asks lt_spec_l13Asks Go.Proofs.Try.f56 [.v tImplClient] [.v (.own tImplWord)] xs = Wh.spec_l13Asks xs := by intro xs; kernel_rfl
theorem ok_spec_l13Asks : ConOk Go.Proofs.Try.prog K_spec_l13Asks := con_ok (Ls := []) mixed (cx_ok _ _) (FnOk.nil Tab false) Go.Proofs.Try.func56 (loopsL_nil (by kernel_rfl)) e_spec_l13Asks
theorem fk_spec_l13Asks (fns : List (Nat × List Go.Ab.Mode × (List Arg → Option Res))) {dp : Bool} (h : FnOk Go.Proofs.Try.prog ⟨Tab, fns, dp⟩) : FnOk Go.Proofs.Try.prog ⟨Tab, K_spec_l13Asks.entry :: fns, dp⟩ := h.cons K_spec_l13Asks (by kernel_rfl) Wh.spec_l13Asks_v ok_spec_l13Asks

def K_impl_within : Con := ⟨49, [.v (.int .i64), .v (.int .i64), .v (.int .i64)], [.v .bool], Wh.impl_within, Wh.impl_within'⟩
def C_impl_within : Cx := ⟨Tab, [], false⟩
def lt_impl_within : List (Nat × LoopD) := []
theorem e_impl_within : ∀ xs, evT C_impl_within lt_impl_within Go.Proofs.Try.f49 [.v (.int .i64), .v (.int .i64), .v (.int .i64)] [.v .bool] xs = Wh.impl_within xs := by intro xs; kernel_rfl
theorem ok_impl_within : ConOk Go.Proofs.Try.prog K_impl_within := con_ok (Ls := []) mixed (cx_ok _ _) (FnOk.nil Tab false) Go.Proofs.Try.func49 (loopsL_nil (by kernel_rfl)) e_impl_within
theorem fk_impl_within (fns : List (Nat × List Go.Ab.Mode × (List Arg → Option Res))) {dp : Bool} (h : FnOk Go.Proofs.Try.prog ⟨Tab, fns, dp⟩) : FnOk Go.Proofs.Try.prog ⟨Tab, K_impl_within.entry :: fns, dp⟩ := h.cons K_impl_within (by kernel_rfl) Wh.impl_within_v ok_impl_within

def K_impl_clientOf : Con := ⟨39, [.v (.int .i64)], [.v .bool], Wh.impl_clientOf, Wh.impl_clientOf'⟩
def C_impl_clientOf : Cx := ⟨Tab, [K_impl_within.entry], false⟩
def lt_impl_clientOf : List (Nat × LoopD) := []
theorem e_impl_clientOf : ∀ xs, evT C_impl_clientOf lt_impl_clientOf Go.Proofs.Try.f39 [.v (.int .i64)] [.v .bool] xs = Wh.impl_clientOf xs := by intro xs; kernel_rfl
theorem ok_impl_clientOf : ConOk Go.Proofs.Try.prog K_impl_clientOf := con_ok (Ls := []) mixed (cx_ok _ _) (fk_impl_within _ (FnOk.nil Tab false)) Go.Proofs.Try.func39 (loopsL_nil (by kernel_rfl)) e_impl_clientOf
theorem fk_impl_clientOf (fns : List (Nat × List Go.Ab.Mode × (List Arg → Option Res))) {dp : Bool} (h : FnOk Go.Proofs.Try.prog ⟨Tab, fns, dp⟩) : FnOk Go.Proofs.Try.prog ⟨Tab, K_impl_clientOf.entry :: fns, dp⟩ := h.cons K_impl_clientOf (by kernel_rfl) Wh.impl_clientOf_v ok_impl_clientOf

def K_impl_noGet : Con := ⟨50, [.v tImplGetting], [.v .bool], Wh.impl_noGet, Wh.impl_noGet'⟩
def C_impl_noGet : Cx := ⟨Tab, [], false⟩
def lt_impl_noGet : List (Nat × LoopD) := []
theorem e_impl_noGet : ∀ xs, evT C_impl_noGet lt_impl_noGet Go.Proofs.Try.f50 [.v tImplGetting] [.v .bool] xs = Wh.impl_noGet xs := by intro xs; kernel_rfl
theorem ok_impl_noGet : ConOk Go.Proofs.Try.prog K_impl_noGet := con_ok (Ls := []) mixed (cx_ok _ _) (FnOk.nil Tab false) Go.Proofs.Try.func50 (loopsL_nil (by kernel_rfl)) e_impl_noGet
theorem fk_impl_noGet (fns : List (Nat × List Go.Ab.Mode × (List Arg → Option Res))) {dp : Bool} (h : FnOk Go.Proofs.Try.prog ⟨Tab, fns, dp⟩) : FnOk Go.Proofs.Try.prog ⟨Tab, K_impl_noGet.entry :: fns, dp⟩ := h.cons K_impl_noGet (by kernel_rfl) Wh.impl_noGet_v ok_impl_noGet

def K_impl_Plan_count : Con := ⟨92, [.v tImplPlan], [.v (.int .i64)], Wh.impl_Plan_count, Wh.impl_Plan_count'⟩
def C_impl_Plan_count : Cx := ⟨Tab, [], false⟩
def lt_impl_Plan_count : List (Nat × LoopD) := []
theorem e_impl_Plan_count : ∀ xs, evT C_impl_Plan_count lt_impl_Plan_count Go.Proofs.Try.f92 [.v tImplPlan] [.v (.int .i64)] xs = Wh.impl_Plan_count xs := by intro xs; kernel_rfl
theorem ok_impl_Plan_count : ConOk Go.Proofs.Try.prog K_impl_Plan_count := con_ok (Ls := []) mixed (cx_ok _ _) (FnOk.nil Tab false) Go.Proofs.Try.func92 (loopsL_nil (by kernel_rfl)) e_impl_Plan_count
theorem fk_impl_Plan_count (fns : List (Nat × List Go.Ab.Mode × (List Arg → Option Res))) {dp : Bool} (h : FnOk Go.Proofs.Try.prog ⟨Tab, fns, dp⟩) : FnOk Go.Proofs.Try.prog ⟨Tab, K_impl_Plan_count.entry :: fns, dp⟩ := h.cons K_impl_Plan_count (by kernel_rfl) Wh.impl_Plan_count_v ok_impl_Plan_count

def K_impl_PlanOk : Con := ⟨90, [.v tImplPlan], [.v .bool], Wh.impl_PlanOk, Wh.impl_PlanOk'⟩
def C_impl_PlanOk : Cx := ⟨Tab, [K_impl_Plan_count.entry, K_impl_within.entry], false⟩
def L_impl_PlanOk_0 : LoopD := loopD ⟨[(50, .leaf (.int .i64)), (1, .vptr 500000000 []), (48, .leaf (.lst (.int .i64))), (49, .leaf (.int .i64))], [(500000000, false, .var tImplPlan (.leaf tImplPlan))]⟩ [(.ret, ⟨[(2, .leaf .bool)], []⟩), ((.exit 0), ⟨[], []⟩)] Wh.impl_PlanOk_l0_y Wh.impl_PlanOk_l0
def lt_impl_PlanOk : List (Nat × LoopD) := [(6, L_impl_PlanOk_0)]
theorem r_impl_PlanOk_0 : ∀ x, round C_impl_PlanOk lt_impl_PlanOk (nthLoop Go.Proofs.Try.f90 0) L_impl_PlanOk_0 x = Wh.impl_PlanOk_l0 x := by intro x; kernel_rfl
theorem e_impl_PlanOk : ∀ xs, evT C_impl_PlanOk lt_impl_PlanOk Go.Proofs.Try.f90 [.v tImplPlan] [.v .bool] xs = Wh.impl_PlanOk xs := by intro xs; kernel_rfl
theorem ok_impl_PlanOk : ConOk Go.Proofs.Try.prog K_impl_PlanOk := con_ok (Ls := [L_impl_PlanOk_0]) mixed (cx_ok _ _) (fk_impl_Plan_count _ (fk_impl_within _ (FnOk.nil Tab false))) Go.Proofs.Try.func90 (loopsL_cons (by kernel_rfl) (loopD_ok r_impl_PlanOk_0) (loopsL_nil (by kernel_rfl))) e_impl_PlanOk
theorem fk_impl_PlanOk (fns : List (Nat × List Go.Ab.Mode × (List Arg → Option Res))) {dp : Bool} (h : FnOk Go.Proofs.Try.prog ⟨Tab, fns, dp⟩) : FnOk Go.Proofs.Try.prog ⟨Tab, K_impl_PlanOk.entry :: fns, dp⟩ := h.cons K_impl_PlanOk (by kernel_rfl) Wh.impl_PlanOk_v ok_impl_PlanOk

def K_impl_RowOk : Con := ⟨128, [.v (.lst (.int .i64)), .v (.int .i64)], [.v .bool], Wh.impl_RowOk, Wh.impl_RowOk'⟩
def C_impl_RowOk : Cx := ⟨Tab, [K_impl_within.entry], false⟩
def L_impl_RowOk_0 : LoopD := loopD ⟨[(9, .leaf (.int .i64)), (0, .leaf (.lst (.int .i64))), (1, .leaf (.int .i64)), (7, .leaf (.lst (.int .i64))), (8, .leaf (.int .i64))], []⟩ [(.ret, ⟨[(4, .leaf .bool)], []⟩), ((.exit 0), ⟨[(1, .leaf (.int .i64))], []⟩)] Wh.impl_RowOk_l0_y Wh.impl_RowOk_l0
def lt_impl_RowOk : List (Nat × LoopD) := [(2, L_impl_RowOk_0)]
theorem r_impl_RowOk_0 : ∀ x, round C_impl_RowOk lt_impl_RowOk (nthLoop Go.Proofs.Try.f128 0) L_impl_RowOk_0 x = Wh.impl_RowOk_l0 x := by intro x; kernel_rfl
theorem e_impl_RowOk : ∀ xs, evT C_impl_RowOk lt_impl_RowOk Go.Proofs.Try.f128 [.v (.lst (.int .i64)), .v (.int .i64)] [.v .bool] xs = Wh.impl_RowOk xs := by intro xs; kernel_rfl
theorem ok_impl_RowOk : ConOk Go.Proofs.Try.prog K_impl_RowOk := con_ok (Ls := [L_impl_RowOk_0]) mixed (cx_ok _ _) (fk_impl_within _ (FnOk.nil Tab false)) Go.Proofs.Try.func128 (loopsL_cons (by kernel_rfl) (loopD_ok r_impl_RowOk_0) (loopsL_nil (by kernel_rfl))) e_impl_RowOk
theorem fk_impl_RowOk (fns : List (Nat × List Go.Ab.Mode × (List Arg → Option Res))) {dp : Bool} (h : FnOk Go.Proofs.Try.prog ⟨Tab, fns, dp⟩) : FnOk Go.Proofs.Try.prog ⟨Tab, K_impl_RowOk.entry :: fns, dp⟩ := h.cons K_impl_RowOk (by kernel_rfl) Wh.impl_RowOk_v ok_impl_RowOk

def K_impl_mask : Con := ⟨129, [.v (.lst (.int .i64))], [.v (.int .u32)], Wh.impl_mask, Wh.impl_mask'⟩
def C_impl_mask : Cx := ⟨Tab, [], false⟩
def L_impl_mask_0 : LoopD := loopD ⟨[(8, .leaf (.int .i64)), (3, .leaf (.int .u32)), (6, .leaf (.lst (.int .i64))), (7, .leaf (.int .i64))], []⟩ [((.exit 0), ⟨[(3, .leaf (.int .u32))], []⟩)] Wh.impl_mask_l0_y Wh.impl_mask_l0
def lt_impl_mask : List (Nat × LoopD) := [(3, L_impl_mask_0)]
theorem r_impl_mask_0 : ∀ x, round C_impl_mask lt_impl_mask (nthLoop Go.Proofs.Try.f129 0) L_impl_mask_0 x = Wh.impl_mask_l0 x := by intro x; kernel_rfl
theorem e_impl_mask : ∀ xs, evT C_impl_mask lt_impl_mask Go.Proofs.Try.f129 [.v (.lst (.int .i64))] [.v (.int .u32)] xs = Wh.impl_mask xs := by intro xs; kernel_rfl
theorem ok_impl_mask : ConOk Go.Proofs.Try.prog K_impl_mask := con_ok (Ls := [L_impl_mask_0]) mixed (cx_ok _ _) (FnOk.nil Tab false) Go.Proofs.Try.func129 (loopsL_cons (by kernel_rfl) (loopD_ok r_impl_mask_0) (loopsL_nil (by kernel_rfl))) e_impl_mask
theorem fk_impl_mask (fns : List (Nat × List Go.Ab.Mode × (List Arg → Option Res))) {dp : Bool} (h : FnOk Go.Proofs.Try.prog ⟨Tab, fns, dp⟩) : FnOk Go.Proofs.Try.prog ⟨Tab, K_impl_mask.entry :: fns, dp⟩ := h.cons K_impl_mask (by kernel_rfl) Wh.impl_mask_v ok_impl_mask

def K_impl_SolverOk : Con := ⟨91, [.v tImplSolver], [.v .bool], Wh.impl_SolverOk, Wh.impl_SolverOk'⟩
def C_impl_SolverOk : Cx := ⟨Tab, [K_impl_mask.entry, K_impl_RowOk.entry, K_impl_within.entry], false⟩
def L_impl_SolverOk_0 : LoopD := loopD ⟨[(21, .leaf (.int .i64)), (3, .leaf (.int .u32)), (1, .vptr 500000000 []), (19, .leaf (.lst tImplEq)), (20, .leaf (.int .i64))], [(500000000, false, .var tImplSolver (.leaf tImplSolver))]⟩ [(.ret, ⟨[(2, .leaf .bool)], []⟩), ((.exit 0), ⟨[(3, .leaf (.int .u32)), (1, .vptr 500000000 [])], [(500000000, false, .var tImplSolver (.leaf tImplSolver))]⟩)] Wh.impl_SolverOk_l0_y Wh.impl_SolverOk_l0
def L_impl_SolverOk_1 : LoopD := loopD ⟨[(77, .leaf (.int .i64)), (3, .leaf (.int .u32)), (75, .leaf (.lst tImplEq)), (76, .leaf (.int .i64))], []⟩ [(.ret, ⟨[(2, .leaf .bool)], []⟩), ((.exit 2), ⟨[], []⟩)] Wh.impl_SolverOk_l1_y Wh.impl_SolverOk_l1
def lt_impl_SolverOk : List (Nat × LoopD) := [(5, L_impl_SolverOk_0), (12, L_impl_SolverOk_1)]
theorem r_impl_SolverOk_0 : ∀ x, round C_impl_SolverOk lt_impl_SolverOk (nthLoop Go.Proofs.Try.f91 0) L_impl_SolverOk_0 x = Wh.impl_SolverOk_l0 x := by intro x; kernel_rfl
theorem r_impl_SolverOk_1 : ∀ x, round C_impl_SolverOk lt_impl_SolverOk (nthLoop Go.Proofs.Try.f91 1) L_impl_SolverOk_1 x = Wh.impl_SolverOk_l1 x := by intro x; kernel_rfl
theorem e_impl_SolverOk : ∀ xs, evT C_impl_SolverOk lt_impl_SolverOk Go.Proofs.Try.f91 [.v tImplSolver] [.v .bool] xs = Wh.impl_SolverOk xs := by intro xs; kernel_rfl
theorem ok_impl_SolverOk : ConOk Go.Proofs.Try.prog K_impl_SolverOk := con_ok (Ls := [L_impl_SolverOk_0, L_impl_SolverOk_1]) mixed (cx_ok _ _) (fk_impl_mask _ (fk_impl_RowOk _ (fk_impl_within _ (FnOk.nil Tab false)))) Go.Proofs.Try.func91 (loopsL_cons (by kernel_rfl) (loopD_ok r_impl_SolverOk_0) (loopsL_cons (by kernel_rfl) (loopD_ok r_impl_SolverOk_1) (loopsL_nil (by kernel_rfl)))) e_impl_SolverOk
theorem fk_impl_SolverOk (fns : List (Nat × List Go.Ab.Mode × (List Arg → Option Res))) {dp : Bool} (h : FnOk Go.Proofs.Try.prog ⟨Tab, fns, dp⟩) : FnOk Go.Proofs.Try.prog ⟨Tab, K_impl_SolverOk.entry :: fns, dp⟩ := h.cons K_impl_SolverOk (by kernel_rfl) Wh.impl_SolverOk_v ok_impl_SolverOk

def K_impl_GetOk : Con := ⟨51, [.v tImplGetting], [.v .bool], Wh.impl_GetOk, Wh.impl_GetOk'⟩
def C_impl_GetOk : Cx := ⟨Tab, [K_impl_Plan_count.entry, K_impl_SolverOk.entry, K_impl_PlanOk.entry], false⟩
def lt_impl_GetOk : List (Nat × LoopD) := []
theorem e_impl_GetOk : ∀ xs, evT C_impl_GetOk lt_impl_GetOk Go.Proofs.Try.f51 [.v tImplGetting] [.v .bool] xs = Wh.impl_GetOk xs := by intro xs; kernel_rfl
theorem ok_impl_GetOk : ConOk Go.Proofs.Try.prog K_impl_GetOk := con_ok (Ls := []) mixed (cx_ok _ _) (fk_impl_Plan_count _ (fk_impl_SolverOk _ (fk_impl_PlanOk _ (FnOk.nil Tab false)))) Go.Proofs.Try.func51 (loopsL_nil (by kernel_rfl)) e_impl_GetOk
theorem fk_impl_GetOk (fns : List (Nat × List Go.Ab.Mode × (List Arg → Option Res))) {dp : Bool} (h : FnOk Go.Proofs.Try.prog ⟨Tab, fns, dp⟩) : FnOk Go.Proofs.Try.prog ⟨Tab, K_impl_GetOk.entry :: fns, dp⟩ := h.cons K_impl_GetOk (by kernel_rfl) Wh.impl_GetOk_v ok_impl_GetOk

def K_impl_NameOk : Con := ⟨52, [.v .str], [.v .bool], Wh.impl_NameOk, Wh.impl_NameOk'⟩
def C_impl_NameOk : Cx := ⟨Tab, [K_impl_within.entry], false⟩
def L_impl_NameOk_0 : LoopD := loopD ⟨[(6, .leaf (.int .i64)), (0, .leaf .str), (5, .leaf (.int .i64))], []⟩ [(.ret, ⟨[(2, .leaf .bool)], []⟩), ((.exit 0), ⟨[(0, .leaf .str)], []⟩)] Wh.impl_NameOk_l0_y Wh.impl_NameOk_l0
def lt_impl_NameOk : List (Nat × LoopD) := [(2, L_impl_NameOk_0)]
theorem r_impl_NameOk_0 : ∀ x, round C_impl_NameOk lt_impl_NameOk (nthLoop Go.Proofs.Try.f52 0) L_impl_NameOk_0 x = Wh.impl_NameOk_l0 x := by intro x; kernel_rfl
theorem e_impl_NameOk : ∀ xs, evT C_impl_NameOk lt_impl_NameOk Go.Proofs.Try.f52 [.v .str] [.v .bool] xs = Wh.impl_NameOk xs := by intro xs; kernel_rfl
theorem ok_impl_NameOk : ConOk Go.Proofs.Try.prog K_impl_NameOk := con_ok (Ls := [L_impl_NameOk_0]) mixed (cx_ok _ _) (fk_impl_within _ (FnOk.nil Tab false)) Go.Proofs.Try.func52 (loopsL_cons (by kernel_rfl) (loopD_ok r_impl_NameOk_0) (loopsL_nil (by kernel_rfl))) e_impl_NameOk
theorem fk_impl_NameOk (fns : List (Nat × List Go.Ab.Mode × (List Arg → Option Res))) {dp : Bool} (h : FnOk Go.Proofs.Try.prog ⟨Tab, fns, dp⟩) : FnOk Go.Proofs.Try.prog ⟨Tab, K_impl_NameOk.entry :: fns, dp⟩ := h.cons K_impl_NameOk (by kernel_rfl) Wh.impl_NameOk_v ok_impl_NameOk

def K_impl_Solver_get : Con := ⟨96, [.v tImplSolver, .v (.int .i64)], [.v .str, .v .bool], Wh.impl_Solver_get, Wh.impl_Solver_get'⟩
def C_impl_Solver_get : Cx := ⟨Tab, [], false⟩
def L_impl_Solver_get_0 : LoopD := loopD ⟨[(11, .leaf (.int .i64)), (1, .leaf (.int .i64)), (9, .leaf (.lst tImplEq)), (10, .leaf (.int .i64))], []⟩ [(.ret, ⟨[(4, .leaf .str), (5, .leaf .bool)], []⟩), ((.exit 0), ⟨[], []⟩)] Wh.impl_Solver_get_l0_y Wh.impl_Solver_get_l0
def lt_impl_Solver_get : List (Nat × LoopD) := [(2, L_impl_Solver_get_0)]
theorem r_impl_Solver_get_0 : ∀ x, round C_impl_Solver_get lt_impl_Solver_get (nthLoop Go.Proofs.Try.f96 0) L_impl_Solver_get_0 x = Wh.impl_Solver_get_l0 x := by intro x; kernel_rfl
theorem e_impl_Solver_get : ∀ xs, evT C_impl_Solver_get lt_impl_Solver_get Go.Proofs.Try.f96 [.v tImplSolver, .v (.int .i64)] [.v .str, .v .bool] xs = Wh.impl_Solver_get xs := by intro xs; kernel_rfl
theorem ok_impl_Solver_get : ConOk Go.Proofs.Try.prog K_impl_Solver_get := con_ok (Ls := [L_impl_Solver_get_0]) mixed (cx_ok _ _) (FnOk.nil Tab false) Go.Proofs.Try.func96 (loopsL_cons (by kernel_rfl) (loopD_ok r_impl_Solver_get_0) (loopsL_nil (by kernel_rfl))) e_impl_Solver_get
theorem fk_impl_Solver_get (fns : List (Nat × List Go.Ab.Mode × (List Arg → Option Res))) {dp : Bool} (h : FnOk Go.Proofs.Try.prog ⟨Tab, fns, dp⟩) : FnOk Go.Proofs.Try.prog ⟨Tab, K_impl_Solver_get.entry :: fns, dp⟩ := h.cons K_impl_Solver_get (by kernel_rfl) Wh.impl_Solver_get_v ok_impl_Solver_get

def K_impl_Solver_prefix : Con := ⟨93, [.v tImplSolver], [.v (.int .i64)], Wh.impl_Solver_prefix, Wh.impl_Solver_prefix'⟩
def C_impl_Solver_prefix : Cx := ⟨Tab, [K_impl_Solver_get.entry], false⟩
def L_impl_Solver_prefix_0 : LoopD := loopD ⟨[(3, .leaf (.int .i64)), (1, .vptr 500000000 [])], [(500000000, false, .var tImplSolver (.leaf tImplSolver))]⟩ [((.exit 0), ⟨[(3, .leaf (.int .i64))], []⟩)] Wh.impl_Solver_prefix_l0_y Wh.impl_Solver_prefix_l0
def lt_impl_Solver_prefix : List (Nat × LoopD) := [(2, L_impl_Solver_prefix_0)]
theorem r_impl_Solver_prefix_0 : ∀ x, round C_impl_Solver_prefix lt_impl_Solver_prefix (nthLoop Go.Proofs.Try.f93 0) L_impl_Solver_prefix_0 x = Wh.impl_Solver_prefix_l0 x := by intro x; kernel_rfl
theorem e_impl_Solver_prefix : ∀ xs, evT C_impl_Solver_prefix lt_impl_Solver_prefix Go.Proofs.Try.f93 [.v tImplSolver] [.v (.int .i64)] xs = Wh.impl_Solver_prefix xs := by intro xs; kernel_rfl
theorem ok_impl_Solver_prefix : ConOk Go.Proofs.Try.prog K_impl_Solver_prefix := con_ok (Ls := [L_impl_Solver_prefix_0]) mixed (cx_ok _ _) (fk_impl_Solver_get _ (FnOk.nil Tab false)) Go.Proofs.Try.func93 (loopsL_cons (by kernel_rfl) (loopD_ok r_impl_Solver_prefix_0) (loopsL_nil (by kernel_rfl))) e_impl_Solver_prefix
theorem fk_impl_Solver_prefix (fns : List (Nat × List Go.Ab.Mode × (List Arg → Option Res))) {dp : Bool} (h : FnOk Go.Proofs.Try.prog ⟨Tab, fns, dp⟩) : FnOk Go.Proofs.Try.prog ⟨Tab, K_impl_Solver_prefix.entry :: fns, dp⟩ := h.cons K_impl_Solver_prefix (by kernel_rfl) Wh.impl_Solver_prefix_v ok_impl_Solver_prefix

def K_impl_Getting_done : Con := ⟨53, [.v tImplGetting], [.v .bool], Wh.impl_Getting_done, Wh.impl_Getting_done'⟩
def C_impl_Getting_done : Cx := ⟨Tab, [K_impl_Solver_prefix.entry], false⟩
def lt_impl_Getting_done : List (Nat × LoopD) := []
theorem e_impl_Getting_done : ∀ xs, evT C_impl_Getting_done lt_impl_Getting_done Go.Proofs.Try.f53 [.v tImplGetting] [.v .bool] xs = Wh.impl_Getting_done xs := by intro xs; kernel_rfl
theorem ok_impl_Getting_done : ConOk Go.Proofs.Try.prog K_impl_Getting_done := con_ok (Ls := []) mixed (cx_ok _ _) (fk_impl_Solver_prefix _ (FnOk.nil Tab false)) Go.Proofs.Try.func53 (loopsL_nil (by kernel_rfl)) e_impl_Getting_done
theorem fk_impl_Getting_done (fns : List (Nat × List Go.Ab.Mode × (List Arg → Option Res))) {dp : Bool} (h : FnOk Go.Proofs.Try.prog ⟨Tab, fns, dp⟩) : FnOk Go.Proofs.Try.prog ⟨Tab, K_impl_Getting_done.entry :: fns, dp⟩ := h.cons K_impl_Getting_done (by kernel_rfl) Wh.impl_Getting_done_v ok_impl_Getting_done

def K_impl_ClientOk : Con := ⟨19, [.v tImplClient], [.v .bool], Wh.impl_ClientOk, Wh.impl_ClientOk'⟩
def C_impl_ClientOk : Cx := ⟨Tab, [K_impl_Getting_done.entry, K_impl_NameOk.entry, K_impl_GetOk.entry, K_impl_noGet.entry, K_impl_within.entry, K_impl_clientOf.entry], false⟩
def lt_impl_ClientOk : List (Nat × LoopD) := []
theorem e_impl_ClientOk : ∀ xs, evT C_impl_ClientOk lt_impl_ClientOk Go.Proofs.Try.f19 [.v tImplClient] [.v .bool] xs = Wh.impl_ClientOk xs := by intro xs; kernel_rfl
theorem ok_impl_ClientOk : ConOk Go.Proofs.Try.prog K_impl_ClientOk := con_ok (Ls := []) mixed (cx_ok _ _) (fk_impl_Getting_done _ (fk_impl_NameOk _ (fk_impl_GetOk _ (fk_impl_noGet _ (fk_impl_within _ (fk_impl_clientOf _ (FnOk.nil Tab false))))))) Go.Proofs.Try.func19 (loopsL_nil (by kernel_rfl)) e_impl_ClientOk
theorem fk_impl_ClientOk (fns : List (Nat × List Go.Ab.Mode × (List Arg → Option Res))) {dp : Bool} (h : FnOk Go.Proofs.Try.prog ⟨Tab, fns, dp⟩) : FnOk Go.Proofs.Try.prog ⟨Tab, K_impl_ClientOk.entry :: fns, dp⟩ := h.cons K_impl_ClientOk (by kernel_rfl) Wh.impl_ClientOk_v ok_impl_ClientOk

def K_impl_Client_request : Con := ⟨57, [.v tImplClient], [.v (.own tImplWord)], Wh.impl_Client_request, Wh.impl_Client_request'⟩
def C_impl_Client_request : Cx := ⟨Tab, [], false⟩
def lt_impl_Client_request : List (Nat × LoopD) := []
theorem e_impl_Client_request : ∀ xs, evT C_impl_Client_request lt_impl_Client_request Go.Proofs.Try.f57 [.v tImplClient] [.v (.own tImplWord)] xs = Wh.impl_Client_request xs := by intro xs; kernel_rfl
theorem ok_impl_Client_request : ConOk Go.Proofs.Try.prog K_impl_Client_request := con_ok (Ls := []) mixed (cx_ok _ _) (FnOk.nil Tab false) Go.Proofs.Try.func57 (loopsL_nil (by kernel_rfl)) e_impl_Client_request
theorem fk_impl_Client_request (fns : List (Nat × List Go.Ab.Mode × (List Arg → Option Res))) {dp : Bool} (h : FnOk Go.Proofs.Try.prog ⟨Tab, fns, dp⟩) : FnOk Go.Proofs.Try.prog ⟨Tab, K_impl_Client_request.entry :: fns, dp⟩ := h.cons K_impl_Client_request (by kernel_rfl) Wh.impl_Client_request_v ok_impl_Client_request

def K_laws_eqWord : Con := ⟨58, [.v tImplWord, .v tImplWord], [.v .bool], Wh.laws_eqWord, Wh.laws_eqWord'⟩
def C_laws_eqWord : Cx := ⟨Tab, [], false⟩
def lt_laws_eqWord : List (Nat × LoopD) := []
theorem e_laws_eqWord : ∀ xs, evT C_laws_eqWord lt_laws_eqWord Go.Proofs.Try.f58 [.v tImplWord, .v tImplWord] [.v .bool] xs = Wh.laws_eqWord xs := by intro xs; kernel_rfl
theorem ok_laws_eqWord : ConOk Go.Proofs.Try.prog K_laws_eqWord := con_ok (Ls := []) mixed (cx_ok _ _) (FnOk.nil Tab false) Go.Proofs.Try.func58 (loopsL_nil (by kernel_rfl)) e_laws_eqWord
theorem fk_laws_eqWord (fns : List (Nat × List Go.Ab.Mode × (List Arg → Option Res))) {dp : Bool} (h : FnOk Go.Proofs.Try.prog ⟨Tab, fns, dp⟩) : FnOk Go.Proofs.Try.prog ⟨Tab, K_laws_eqWord.entry :: fns, dp⟩ := h.cons K_laws_eqWord (by kernel_rfl) Wh.laws_eqWord_v ok_laws_eqWord

def K_laws_eqWordS : Con := ⟨24, [.v (.lst tImplWord), .v (.lst tImplWord)], [.v .bool], Wh.laws_eqWordS, Wh.laws_eqWordS'⟩
def C_laws_eqWordS : Cx := ⟨Tab, [K_laws_eqWord.entry], false⟩
def L_laws_eqWordS_0 : LoopD := loopD ⟨[(5, .leaf (.int .i64)), (1, .leaf (.lst tImplWord)), (0, .leaf (.lst tImplWord))], []⟩ [(.ret, ⟨[(4, .leaf .bool)], []⟩), ((.exit 0), ⟨[], []⟩)] Wh.laws_eqWordS_l0_y Wh.laws_eqWordS_l0
def lt_laws_eqWordS : List (Nat × LoopD) := [(4, L_laws_eqWordS_0)]
theorem r_laws_eqWordS_0 : ∀ x, round C_laws_eqWordS lt_laws_eqWordS (nthLoop Go.Proofs.Try.f24 0) L_laws_eqWordS_0 x = Wh.laws_eqWordS_l0 x := by intro x; kernel_rfl
theorem e_laws_eqWordS : ∀ xs, evT C_laws_eqWordS lt_laws_eqWordS Go.Proofs.Try.f24 [.v (.lst tImplWord), .v (.lst tImplWord)] [.v .bool] xs = Wh.laws_eqWordS xs := by intro xs; kernel_rfl
theorem ok_laws_eqWordS : ConOk Go.Proofs.Try.prog K_laws_eqWordS := con_ok (Ls := [L_laws_eqWordS_0]) mixed (cx_ok _ _) (fk_laws_eqWord _ (FnOk.nil Tab false)) Go.Proofs.Try.func24 (loopsL_cons (by kernel_rfl) (loopD_ok r_laws_eqWordS_0) (loopsL_nil (by kernel_rfl))) e_laws_eqWordS
theorem fk_laws_eqWordS (fns : List (Nat × List Go.Ab.Mode × (List Arg → Option Res))) {dp : Bool} (h : FnOk Go.Proofs.Try.prog ⟨Tab, fns, dp⟩) : FnOk Go.Proofs.Try.prog ⟨Tab, K_laws_eqWordS.entry :: fns, dp⟩ := h.cons K_laws_eqWordS (by kernel_rfl) Wh.laws_eqWordS_v ok_laws_eqWordS

def K_laws_eqIntS : Con := ⟨120, [.v (.lst (.int .i64)), .v (.lst (.int .i64))], [.v .bool], Wh.laws_eqIntS, Wh.laws_eqIntS'⟩
def C_laws_eqIntS : Cx := ⟨Tab, [], false⟩
def L_laws_eqIntS_0 : LoopD := loopD ⟨[(5, .leaf (.int .i64)), (1, .leaf (.lst (.int .i64))), (0, .leaf (.lst (.int .i64)))], []⟩ [(.ret, ⟨[(4, .leaf .bool)], []⟩), ((.exit 0), ⟨[], []⟩)] Wh.laws_eqIntS_l0_y Wh.laws_eqIntS_l0
def lt_laws_eqIntS : List (Nat × LoopD) := [(4, L_laws_eqIntS_0)]
theorem r_laws_eqIntS_0 : ∀ x, round C_laws_eqIntS lt_laws_eqIntS (nthLoop Go.Proofs.Try.f120 0) L_laws_eqIntS_0 x = Wh.laws_eqIntS_l0 x := by intro x; kernel_rfl
theorem e_laws_eqIntS : ∀ xs, evT C_laws_eqIntS lt_laws_eqIntS Go.Proofs.Try.f120 [.v (.lst (.int .i64)), .v (.lst (.int .i64))] [.v .bool] xs = Wh.laws_eqIntS xs := by intro xs; kernel_rfl
theorem ok_laws_eqIntS : ConOk Go.Proofs.Try.prog K_laws_eqIntS := con_ok (Ls := [L_laws_eqIntS_0]) mixed (cx_ok _ _) (FnOk.nil Tab false) Go.Proofs.Try.func120 (loopsL_cons (by kernel_rfl) (loopD_ok r_laws_eqIntS_0) (loopsL_nil (by kernel_rfl))) e_laws_eqIntS
theorem fk_laws_eqIntS (fns : List (Nat × List Go.Ab.Mode × (List Arg → Option Res))) {dp : Bool} (h : FnOk Go.Proofs.Try.prog ⟨Tab, fns, dp⟩) : FnOk Go.Proofs.Try.prog ⟨Tab, K_laws_eqIntS.entry :: fns, dp⟩ := h.cons K_laws_eqIntS (by kernel_rfl) Wh.laws_eqIntS_v ok_laws_eqIntS

def K_laws_eqPlan : Con := ⟨77, [.v tImplPlan, .v tImplPlan], [.v .bool], Wh.laws_eqPlan, Wh.laws_eqPlan'⟩
def C_laws_eqPlan : Cx := ⟨Tab, [K_laws_eqIntS.entry], false⟩
def lt_laws_eqPlan : List (Nat × LoopD) := []
theorem e_laws_eqPlan : ∀ xs, evT C_laws_eqPlan lt_laws_eqPlan Go.Proofs.Try.f77 [.v tImplPlan, .v tImplPlan] [.v .bool] xs = Wh.laws_eqPlan xs := by intro xs; kernel_rfl
theorem ok_laws_eqPlan : ConOk Go.Proofs.Try.prog K_laws_eqPlan := con_ok (Ls := []) mixed (cx_ok _ _) (fk_laws_eqIntS _ (FnOk.nil Tab false)) Go.Proofs.Try.func77 (loopsL_nil (by kernel_rfl)) e_laws_eqPlan
theorem fk_laws_eqPlan (fns : List (Nat × List Go.Ab.Mode × (List Arg → Option Res))) {dp : Bool} (h : FnOk Go.Proofs.Try.prog ⟨Tab, fns, dp⟩) : FnOk Go.Proofs.Try.prog ⟨Tab, K_laws_eqPlan.entry :: fns, dp⟩ := h.cons K_laws_eqPlan (by kernel_rfl) Wh.laws_eqPlan_v ok_laws_eqPlan

def K_laws_eqEq : Con := ⟨140, [.v tImplEq, .v tImplEq], [.v .bool], Wh.laws_eqEq, Wh.laws_eqEq'⟩
def C_laws_eqEq : Cx := ⟨Tab, [K_laws_eqIntS.entry], false⟩
def lt_laws_eqEq : List (Nat × LoopD) := []
theorem e_laws_eqEq : ∀ xs, evT C_laws_eqEq lt_laws_eqEq Go.Proofs.Try.f140 [.v tImplEq, .v tImplEq] [.v .bool] xs = Wh.laws_eqEq xs := by intro xs; kernel_rfl
theorem ok_laws_eqEq : ConOk Go.Proofs.Try.prog K_laws_eqEq := con_ok (Ls := []) mixed (cx_ok _ _) (fk_laws_eqIntS _ (FnOk.nil Tab false)) Go.Proofs.Try.func140 (loopsL_nil (by kernel_rfl)) e_laws_eqEq
theorem fk_laws_eqEq (fns : List (Nat × List Go.Ab.Mode × (List Arg → Option Res))) {dp : Bool} (h : FnOk Go.Proofs.Try.prog ⟨Tab, fns, dp⟩) : FnOk Go.Proofs.Try.prog ⟨Tab, K_laws_eqEq.entry :: fns, dp⟩ := h.cons K_laws_eqEq (by kernel_rfl) Wh.laws_eqEq_v ok_laws_eqEq

def K_laws_eqEqS : Con := ⟨121, [.v (.lst tImplEq), .v (.lst tImplEq)], [.v .bool], Wh.laws_eqEqS, Wh.laws_eqEqS'⟩
def C_laws_eqEqS : Cx := ⟨Tab, [K_laws_eqEq.entry], false⟩
def L_laws_eqEqS_0 : LoopD := loopD ⟨[(5, .leaf (.int .i64)), (1, .leaf (.lst tImplEq)), (0, .leaf (.lst tImplEq))], []⟩ [(.ret, ⟨[(4, .leaf .bool)], []⟩), ((.exit 0), ⟨[], []⟩)] Wh.laws_eqEqS_l0_y Wh.laws_eqEqS_l0
def lt_laws_eqEqS : List (Nat × LoopD) := [(4, L_laws_eqEqS_0)]
theorem r_laws_eqEqS_0 : ∀ x, round C_laws_eqEqS lt_laws_eqEqS (nthLoop Go.Proofs.Try.f121 0) L_laws_eqEqS_0 x = Wh.laws_eqEqS_l0 x := by intro x; kernel_rfl
theorem e_laws_eqEqS : ∀ xs, evT C_laws_eqEqS lt_laws_eqEqS Go.Proofs.Try.f121 [.v (.lst tImplEq), .v (.lst tImplEq)] [.v .bool] xs = Wh.laws_eqEqS xs := by intro xs; kernel_rfl
theorem ok_laws_eqEqS : ConOk Go.Proofs.Try.prog K_laws_eqEqS := con_ok (Ls := [L_laws_eqEqS_0]) mixed (cx_ok _ _) (fk_laws_eqEq _ (FnOk.nil Tab false)) Go.Proofs.Try.func121 (loopsL_cons (by kernel_rfl) (loopD_ok r_laws_eqEqS_0) (loopsL_nil (by kernel_rfl))) e_laws_eqEqS
theorem fk_laws_eqEqS (fns : List (Nat × List Go.Ab.Mode × (List Arg → Option Res))) {dp : Bool} (h : FnOk Go.Proofs.Try.prog ⟨Tab, fns, dp⟩) : FnOk Go.Proofs.Try.prog ⟨Tab, K_laws_eqEqS.entry :: fns, dp⟩ := h.cons K_laws_eqEqS (by kernel_rfl) Wh.laws_eqEqS_v ok_laws_eqEqS

def K_laws_eqSolver : Con := ⟨78, [.v tImplSolver, .v tImplSolver], [.v .bool], Wh.laws_eqSolver, Wh.laws_eqSolver'⟩
def C_laws_eqSolver : Cx := ⟨Tab, [K_laws_eqEqS.entry], false⟩
def lt_laws_eqSolver : List (Nat × LoopD) := []
theorem e_laws_eqSolver : ∀ xs, evT C_laws_eqSolver lt_laws_eqSolver Go.Proofs.Try.f78 [.v tImplSolver, .v tImplSolver] [.v .bool] xs = Wh.laws_eqSolver xs := by intro xs; kernel_rfl
theorem ok_laws_eqSolver : ConOk Go.Proofs.Try.prog K_laws_eqSolver := con_ok (Ls := []) mixed (cx_ok _ _) (fk_laws_eqEqS _ (FnOk.nil Tab false)) Go.Proofs.Try.func78 (loopsL_nil (by kernel_rfl)) e_laws_eqSolver
theorem fk_laws_eqSolver (fns : List (Nat × List Go.Ab.Mode × (List Arg → Option Res))) {dp : Bool} (h : FnOk Go.Proofs.Try.prog ⟨Tab, fns, dp⟩) : FnOk Go.Proofs.Try.prog ⟨Tab, K_laws_eqSolver.entry :: fns, dp⟩ := h.cons K_laws_eqSolver (by kernel_rfl) Wh.laws_eqSolver_v ok_laws_eqSolver

def K_laws_eqGetting : Con := ⟨40, [.v tImplGetting, .v tImplGetting], [.v .bool], Wh.laws_eqGetting, Wh.laws_eqGetting'⟩
def C_laws_eqGetting : Cx := ⟨Tab, [K_laws_eqSolver.entry, K_laws_eqPlan.entry], false⟩
def lt_laws_eqGetting : List (Nat × LoopD) := []
theorem e_laws_eqGetting : ∀ xs, evT C_laws_eqGetting lt_laws_eqGetting Go.Proofs.Try.f40 [.v tImplGetting, .v tImplGetting] [.v .bool] xs = Wh.laws_eqGetting xs := by intro xs; kernel_rfl
theorem ok_laws_eqGetting : ConOk Go.Proofs.Try.prog K_laws_eqGetting := con_ok (Ls := []) mixed (cx_ok _ _) (fk_laws_eqSolver _ (fk_laws_eqPlan _ (FnOk.nil Tab false))) Go.Proofs.Try.func40 (loopsL_nil (by kernel_rfl)) e_laws_eqGetting
theorem fk_laws_eqGetting (fns : List (Nat × List Go.Ab.Mode × (List Arg → Option Res))) {dp : Bool} (h : FnOk Go.Proofs.Try.prog ⟨Tab, fns, dp⟩) : FnOk Go.Proofs.Try.prog ⟨Tab, K_laws_eqGetting.entry :: fns, dp⟩ := h.cons K_laws_eqGetting (by kernel_rfl) Wh.laws_eqGetting_v ok_laws_eqGetting

def K_laws_eqClient : Con := ⟨13, [.v tImplClient, .v tImplClient], [.v .bool], Wh.laws_eqClient, Wh.laws_eqClient'⟩
def C_laws_eqClient : Cx := ⟨Tab, [K_laws_eqGetting.entry], false⟩
def lt_laws_eqClient : List (Nat × LoopD) := []
theorem e_laws_eqClient : ∀ xs, evT C_laws_eqClient lt_laws_eqClient Go.Proofs.Try.f13 [.v tImplClient, .v tImplClient] [.v .bool] xs = Wh.laws_eqClient xs := by intro xs; kernel_rfl
theorem ok_laws_eqClient : ConOk Go.Proofs.Try.prog K_laws_eqClient := con_ok (Ls := []) mixed (cx_ok _ _) (fk_laws_eqGetting _ (FnOk.nil Tab false)) Go.Proofs.Try.func13 (loopsL_nil (by kernel_rfl)) e_laws_eqClient
theorem fk_laws_eqClient (fns : List (Nat × List Go.Ab.Mode × (List Arg → Option Res))) {dp : Bool} (h : FnOk Go.Proofs.Try.prog ⟨Tab, fns, dp⟩) : FnOk Go.Proofs.Try.prog ⟨Tab, K_laws_eqClient.entry :: fns, dp⟩ := h.cons K_laws_eqClient (by kernel_rfl) Wh.laws_eqClient_v ok_laws_eqClient

def K_laws_markIntS : Con := ⟨112, [.d (.lst (.int .i64)), .v (.int .i64)], [.v (.int .i64)], Wh.laws_markIntS, Wh.laws_markIntS'⟩
def C_laws_markIntS : Cx := ⟨Tab, [], true⟩
def L_laws_markIntS_0 : LoopD := loopD ⟨[(5, .leaf (.int .i64)), (1, .leaf (.int .i64)), (0, .whole 950 (.int .i64))], [(950, false, .rows (.int .i64))]⟩ [((.exit 0), ⟨[(1, .leaf (.int .i64))], [(950, false, .rows (.int .i64))]⟩)] Wh.laws_markIntS_l0_y Wh.laws_markIntS_l0
def lt_laws_markIntS : List (Nat × LoopD) := [(2, L_laws_markIntS_0)]
theorem r_laws_markIntS_0 : ∀ x, round C_laws_markIntS lt_laws_markIntS (nthLoop Go.Proofs.Try.f112 0) L_laws_markIntS_0 x = Wh.laws_markIntS_l0 x := by intro x; kernel_rfl
theorem e_laws_markIntS : ∀ xs, evT C_laws_markIntS lt_laws_markIntS Go.Proofs.Try.f112 [.d (.lst (.int .i64)), .v (.int .i64)] [.v (.int .i64)] xs = Wh.laws_markIntS xs := by intro xs; kernel_rfl
theorem ok_laws_markIntS : ConOk Go.Proofs.Try.prog K_laws_markIntS := con_ok (Ls := [L_laws_markIntS_0]) mixed (cx_ok _ _) (FnOk.nil Tab true) Go.Proofs.Try.func112 (loopsL_cons (by kernel_rfl) (loopD_ok r_laws_markIntS_0) (loopsL_nil (by kernel_rfl))) e_laws_markIntS
theorem fk_laws_markIntS (fns : List (Nat × List Go.Ab.Mode × (List Arg → Option Res))) {dp : Bool} (h : FnOk Go.Proofs.Try.prog ⟨Tab, fns, dp⟩) : FnOk Go.Proofs.Try.prog ⟨Tab, K_laws_markIntS.entry :: fns, dp⟩ := h.cons K_laws_markIntS (by kernel_rfl) Wh.laws_markIntS_v ok_laws_markIntS

def K_laws_markPlan : Con := ⟨79, [.d tImplPlan, .v (.int .i64)], [.v (.int .i64)], Wh.laws_markPlan, Wh.laws_markPlan'⟩
def C_laws_markPlan : Cx := ⟨Tab, [K_laws_markIntS.entry], true⟩
def lt_laws_markPlan : List (Nat × LoopD) := []
theorem e_laws_markPlan : ∀ xs, evT C_laws_markPlan lt_laws_markPlan Go.Proofs.Try.f79 [.d tImplPlan, .v (.int .i64)] [.v (.int .i64)] xs = Wh.laws_markPlan xs := by intro xs; kernel_rfl
theorem ok_laws_markPlan : ConOk Go.Proofs.Try.prog K_laws_markPlan := con_ok (Ls := []) mixed (cx_ok _ _) (fk_laws_markIntS _ (FnOk.nil Tab true)) Go.Proofs.Try.func79 (loopsL_nil (by kernel_rfl)) e_laws_markPlan
theorem fk_laws_markPlan (fns : List (Nat × List Go.Ab.Mode × (List Arg → Option Res))) {dp : Bool} (h : FnOk Go.Proofs.Try.prog ⟨Tab, fns, dp⟩) : FnOk Go.Proofs.Try.prog ⟨Tab, K_laws_markPlan.entry :: fns, dp⟩ := h.cons K_laws_markPlan (by kernel_rfl) Wh.laws_markPlan_v ok_laws_markPlan

def K_laws_markText : Con := ⟨59, [.v (.int .i64)], [.v .str], Wh.laws_markText, Wh.laws_markText'⟩
def C_laws_markText : Cx := ⟨Tab, [], false⟩
def L_laws_markText_0 : LoopD := loopD ⟨[(0, .leaf (.int .i64)), (3, .leaf .str)], []⟩ [((.exit 0), ⟨[(3, .leaf .str)], []⟩)] Wh.laws_markText_l0_y Wh.laws_markText_l0
def lt_laws_markText : List (Nat × LoopD) := [(4, L_laws_markText_0)]
theorem r_laws_markText_0 : ∀ x, round C_laws_markText lt_laws_markText (nthLoop Go.Proofs.Try.f59 0) L_laws_markText_0 x = Wh.laws_markText_l0 x := by intro x; kernel_rfl
theorem e_laws_markText : ∀ xs, evT C_laws_markText lt_laws_markText Go.Proofs.Try.f59 [.v (.int .i64)] [.v .str] xs = Wh.laws_markText xs := by intro xs; kernel_rfl
theorem ok_laws_markText : ConOk Go.Proofs.Try.prog K_laws_markText := con_ok (Ls := [L_laws_markText_0]) mixed (cx_ok _ _) (FnOk.nil Tab false) Go.Proofs.Try.func59 (loopsL_cons (by kernel_rfl) (loopD_ok r_laws_markText_0) (loopsL_nil (by kernel_rfl))) e_laws_markText
theorem fk_laws_markText (fns : List (Nat × List Go.Ab.Mode × (List Arg → Option Res))) {dp : Bool} (h : FnOk Go.Proofs.Try.prog ⟨Tab, fns, dp⟩) : FnOk Go.Proofs.Try.prog ⟨Tab, K_laws_markText.entry :: fns, dp⟩ := h.cons K_laws_markText (by kernel_rfl) Wh.laws_markText_v ok_laws_markText

def K_laws_markEqS : Con := ⟨113, [.d (.lst tImplEq), .v (.int .i64)], [.v (.int .i64)], Wh.laws_markEqS, Wh.laws_markEqS'⟩
def C_laws_markEqS : Cx := ⟨Tab, [K_laws_markText.entry, K_laws_markIntS.entry], true⟩
def L_laws_markEqS_0 : LoopD := loopD ⟨[(5, .leaf (.int .i64)), (0, .whole 950 tImplEq), (1, .leaf (.int .i64))], [(950, false, .deep tImplEq)]⟩ [((.exit 0), ⟨[(1, .leaf (.int .i64))], [(950, false, .deep tImplEq)]⟩)] Wh.laws_markEqS_l0_y Wh.laws_markEqS_l0
def lt_laws_markEqS : List (Nat × LoopD) := [(2, L_laws_markEqS_0)]
theorem r_laws_markEqS_0 : ∀ x, round C_laws_markEqS lt_laws_markEqS (nthLoop Go.Proofs.Try.f113 0) L_laws_markEqS_0 x = Wh.laws_markEqS_l0 x := by intro x; kernel_rfl
theorem e_laws_markEqS : ∀ xs, evT C_laws_markEqS lt_laws_markEqS Go.Proofs.Try.f113 [.d (.lst tImplEq), .v (.int .i64)] [.v (.int .i64)] xs = Wh.laws_markEqS xs := by intro xs; kernel_rfl
theorem ok_laws_markEqS : ConOk Go.Proofs.Try.prog K_laws_markEqS := con_ok (Ls := [L_laws_markEqS_0]) mixed (cx_ok _ _) (fk_laws_markText _ (fk_laws_markIntS _ (FnOk.nil Tab true))) Go.Proofs.Try.func113 (loopsL_cons (by kernel_rfl) (loopD_ok r_laws_markEqS_0) (loopsL_nil (by kernel_rfl))) e_laws_markEqS
theorem fk_laws_markEqS (fns : List (Nat × List Go.Ab.Mode × (List Arg → Option Res))) {dp : Bool} (h : FnOk Go.Proofs.Try.prog ⟨Tab, fns, dp⟩) : FnOk Go.Proofs.Try.prog ⟨Tab, K_laws_markEqS.entry :: fns, dp⟩ := h.cons K_laws_markEqS (by kernel_rfl) Wh.laws_markEqS_v ok_laws_markEqS

def K_laws_markSolver : Con := ⟨80, [.d tImplSolver, .v (.int .i64)], [.v (.int .i64)], Wh.laws_markSolver, Wh.laws_markSolver'⟩
def C_laws_markSolver : Cx := ⟨Tab, [K_laws_markEqS.entry], true⟩
def lt_laws_markSolver : List (Nat × LoopD) := []
theorem e_laws_markSolver : ∀ xs, evT C_laws_markSolver lt_laws_markSolver Go.Proofs.Try.f80 [.d tImplSolver, .v (.int .i64)] [.v (.int .i64)] xs = Wh.laws_markSolver xs := by intro xs; kernel_rfl
theorem ok_laws_markSolver : ConOk Go.Proofs.Try.prog K_laws_markSolver := con_ok (Ls := []) mixed (cx_ok _ _) (fk_laws_markEqS _ (FnOk.nil Tab true)) Go.Proofs.Try.func80 (loopsL_nil (by kernel_rfl)) e_laws_markSolver
theorem fk_laws_markSolver (fns : List (Nat × List Go.Ab.Mode × (List Arg → Option Res))) {dp : Bool} (h : FnOk Go.Proofs.Try.prog ⟨Tab, fns, dp⟩) : FnOk Go.Proofs.Try.prog ⟨Tab, K_laws_markSolver.entry :: fns, dp⟩ := h.cons K_laws_markSolver (by kernel_rfl) Wh.laws_markSolver_v ok_laws_markSolver

def K_laws_markGetting : Con := ⟨41, [.d tImplGetting, .v (.int .i64)], [.v (.int .i64)], Wh.laws_markGetting, Wh.laws_markGetting'⟩
def C_laws_markGetting : Cx := ⟨Tab, [K_laws_markSolver.entry, K_laws_markPlan.entry], true⟩
def lt_laws_markGetting : List (Nat × LoopD) := []
theorem e_laws_markGetting : ∀ xs, evT C_laws_markGetting lt_laws_markGetting Go.Proofs.Try.f41 [.d tImplGetting, .v (.int .i64)] [.v (.int .i64)] xs = Wh.laws_markGetting xs := by intro xs; kernel_rfl
theorem ok_laws_markGetting : ConOk Go.Proofs.Try.prog K_laws_markGetting := con_ok (Ls := []) mixed (cx_ok _ _) (fk_laws_markSolver _ (fk_laws_markPlan _ (FnOk.nil Tab true))) Go.Proofs.Try.func41 (loopsL_nil (by kernel_rfl)) e_laws_markGetting
theorem fk_laws_markGetting (fns : List (Nat × List Go.Ab.Mode × (List Arg → Option Res))) {dp : Bool} (h : FnOk Go.Proofs.Try.prog ⟨Tab, fns, dp⟩) : FnOk Go.Proofs.Try.prog ⟨Tab, K_laws_markGetting.entry :: fns, dp⟩ := h.cons K_laws_markGetting (by kernel_rfl) Wh.laws_markGetting_v ok_laws_markGetting

def K_laws_markClient : Con := ⟨14, [.d tImplClient, .v (.int .i64)], [.v (.int .i64)], Wh.laws_markClient, Wh.laws_markClient'⟩
def C_laws_markClient : Cx := ⟨Tab, [K_laws_markGetting.entry], true⟩
def lt_laws_markClient : List (Nat × LoopD) := []
theorem e_laws_markClient : ∀ xs, evT C_laws_markClient lt_laws_markClient Go.Proofs.Try.f14 [.d tImplClient, .v (.int .i64)] [.v (.int .i64)] xs = Wh.laws_markClient xs := by intro xs; kernel_rfl
theorem ok_laws_markClient : ConOk Go.Proofs.Try.prog K_laws_markClient := con_ok (Ls := []) mixed (cx_ok _ _) (fk_laws_markGetting _ (FnOk.nil Tab true)) Go.Proofs.Try.func14 (loopsL_nil (by kernel_rfl)) e_laws_markClient
theorem fk_laws_markClient (fns : List (Nat × List Go.Ab.Mode × (List Arg → Option Res))) {dp : Bool} (h : FnOk Go.Proofs.Try.prog ⟨Tab, fns, dp⟩) : FnOk Go.Proofs.Try.prog ⟨Tab, K_laws_markClient.entry :: fns, dp⟩ := h.cons K_laws_markClient (by kernel_rfl) Wh.laws_markClient_v ok_laws_markClient

def K_laws_markWordS : Con := ⟨25, [.m tImplWord, .v (.int .i64)], [.v (.int .i64)], Wh.laws_markWordS, Wh.laws_markWordS'⟩
def C_laws_markWordS : Cx := ⟨Tab, [K_laws_markText.entry], false⟩
def L_laws_markWordS_0 : LoopD := loopD ⟨[(5, .leaf (.int .i64)), (0, .whole 900 tImplWord), (1, .leaf (.int .i64))], [(900, false, .rows tImplWord)]⟩ [((.exit 0), ⟨[(1, .leaf (.int .i64))], [(900, false, .rows tImplWord)]⟩)] Wh.laws_markWordS_l0_y Wh.laws_markWordS_l0
def lt_laws_markWordS : List (Nat × LoopD) := [(2, L_laws_markWordS_0)]
theorem r_laws_markWordS_0 : ∀ x, round C_laws_markWordS lt_laws_markWordS (nthLoop Go.Proofs.Try.f25 0) L_laws_markWordS_0 x = Wh.laws_markWordS_l0 x := by intro x; kernel_rfl
theorem e_laws_markWordS : ∀ xs, evT C_laws_markWordS lt_laws_markWordS Go.Proofs.Try.f25 [.m tImplWord, .v (.int .i64)] [.v (.int .i64)] xs = Wh.laws_markWordS xs := by intro xs; kernel_rfl
theorem ok_laws_markWordS : ConOk Go.Proofs.Try.prog K_laws_markWordS := con_ok (Ls := [L_laws_markWordS_0]) mixed (cx_ok _ _) (fk_laws_markText _ (FnOk.nil Tab false)) Go.Proofs.Try.func25 (loopsL_cons (by kernel_rfl) (loopD_ok r_laws_markWordS_0) (loopsL_nil (by kernel_rfl))) e_laws_markWordS
theorem fk_laws_markWordS (fns : List (Nat × List Go.Ab.Mode × (List Arg → Option Res))) {dp : Bool} (h : FnOk Go.Proofs.Try.prog ⟨Tab, fns, dp⟩) : FnOk Go.Proofs.Try.prog ⟨Tab, K_laws_markWordS.entry :: fns, dp⟩ := h.cons K_laws_markWordS (by kernel_rfl) Wh.laws_markWordS_v ok_laws_markWordS

def K_laws_heldWordS : Con := ⟨26, [.v (.lst tImplWord), .v (.int .i64)], [.v (.int .i64)], Wh.laws_heldWordS, Wh.laws_heldWordS'⟩
def C_laws_heldWordS : Cx := ⟨Tab, [K_laws_markText.entry], false⟩
def L_laws_heldWordS_0 : LoopD := loopD ⟨[(5, .leaf (.int .i64)), (0, .leaf (.lst tImplWord)), (1, .leaf (.int .i64))], []⟩ [(.ret, ⟨[(4, .leaf (.int .i64))], []⟩), ((.exit 0), ⟨[(1, .leaf (.int .i64))], []⟩)] Wh.laws_heldWordS_l0_y Wh.laws_heldWordS_l0
def lt_laws_heldWordS : List (Nat × LoopD) := [(2, L_laws_heldWordS_0)]
theorem r_laws_heldWordS_0 : ∀ x, round C_laws_heldWordS lt_laws_heldWordS (nthLoop Go.Proofs.Try.f26 0) L_laws_heldWordS_0 x = Wh.laws_heldWordS_l0 x := by intro x; kernel_rfl
theorem e_laws_heldWordS : ∀ xs, evT C_laws_heldWordS lt_laws_heldWordS Go.Proofs.Try.f26 [.v (.lst tImplWord), .v (.int .i64)] [.v (.int .i64)] xs = Wh.laws_heldWordS xs := by intro xs; kernel_rfl
theorem ok_laws_heldWordS : ConOk Go.Proofs.Try.prog K_laws_heldWordS := con_ok (Ls := [L_laws_heldWordS_0]) mixed (cx_ok _ _) (fk_laws_markText _ (FnOk.nil Tab false)) Go.Proofs.Try.func26 (loopsL_cons (by kernel_rfl) (loopD_ok r_laws_heldWordS_0) (loopsL_nil (by kernel_rfl))) e_laws_heldWordS
theorem fk_laws_heldWordS (fns : List (Nat × List Go.Ab.Mode × (List Arg → Option Res))) {dp : Bool} (h : FnOk Go.Proofs.Try.prog ⟨Tab, fns, dp⟩) : FnOk Go.Proofs.Try.prog ⟨Tab, K_laws_heldWordS.entry :: fns, dp⟩ := h.cons K_laws_heldWordS (by kernel_rfl) Wh.laws_heldWordS_v ok_laws_heldWordS

def K_spec_l13Done : Con := ⟨60, [.v tImplClient], [.v (.own tImplWord)], Wh.spec_l13Done, Wh.spec_l13Done'⟩
def C_spec_l13Done : Cx := ⟨Tab, [], false⟩
def lt_spec_l13Done : List (Nat × LoopD) := []
theorem e_spec_l13Done : ∀ xs, evT C_spec_l13Done lt_spec_l13Done Go.Proofs.Try.f60 [.v tImplClient] [.v (.own tImplWord)] xs = Wh.spec_l13Done xs := by intro xs; kernel_rfl
theorem ok_spec_l13Done : ConOk Go.Proofs.Try.prog K_spec_l13Done := con_ok (Ls := []) mixed (cx_ok _ _) (FnOk.nil Tab false) Go.Proofs.Try.func60 (loopsL_nil (by kernel_rfl)) e_spec_l13Done
theorem fk_spec_l13Done (fns : List (Nat × List Go.Ab.Mode × (List Arg → Option Res))) {dp : Bool} (h : FnOk Go.Proofs.Try.prog ⟨Tab, fns, dp⟩) : FnOk Go.Proofs.Try.prog ⟨Tab, K_spec_l13Done.entry :: fns, dp⟩ := h.cons K_spec_l13Done (by kernel_rfl) Wh.spec_l13Done_v ok_spec_l13Done

def K_spec_ClientStop : Con := ⟨27, [.v tImplClient], [.v (.pair (.int .i64) (.pair (.int .i64) (.pair (.int .i64) (.pair .str (.pair (.int .i64) (.pair (.pair (.pair (.int .i64) (.pair (.int .i64) (.pair (.own (.int .i64)) (.pair (.own (.int .i64)) .unit)))) (.pair (.pair (.int .i64) (.pair (.int .i64) (.pair (.own tImplEq) .unit))) .unit)) .unit)))))), .v (.own tImplWord)], Wh.spec_ClientStop, Wh.spec_ClientStop'⟩
def C_spec_ClientStop : Cx := ⟨Tab, [K_spec_l13Done.entry, K_spec_ClientOk.entry], false⟩
def lt_spec_ClientStop : List (Nat × LoopD) := []
theorem e_spec_ClientStop : ∀ xs, evT C_spec_ClientStop lt_spec_ClientStop Go.Proofs.Try.f27 [.v tImplClient] [.v (.pair (.int .i64) (.pair (.int .i64) (.pair (.int .i64) (.pair .str (.pair (.int .i64) (.pair (.pair (.pair (.int .i64) (.pair (.int .i64) (.pair (.own (.int .i64)) (.pair (.own (.int .i64)) .unit)))) (.pair (.pair (.int .i64) (.pair (.int .i64) (.pair (.own tImplEq) .unit))) .unit)) .unit)))))), .v (.own tImplWord)] xs = Wh.spec_ClientStop xs := by intro xs; kernel_rfl
theorem ok_spec_ClientStop : ConOk Go.Proofs.Try.prog K_spec_ClientStop := con_ok (Ls := []) mixed (cx_ok _ _) (fk_spec_l13Done _ (fk_spec_ClientOk _ (FnOk.nil Tab false))) Go.Proofs.Try.func27 (loopsL_nil (by kernel_rfl)) e_spec_ClientStop
theorem fk_spec_ClientStop (fns : List (Nat × List Go.Ab.Mode × (List Arg → Option Res))) {dp : Bool} (h : FnOk Go.Proofs.Try.prog ⟨Tab, fns, dp⟩) : FnOk Go.Proofs.Try.prog ⟨Tab, K_spec_ClientStop.entry :: fns, dp⟩ := h.cons K_spec_ClientStop (by kernel_rfl) Wh.spec_ClientStop_v ok_spec_ClientStop

def K_impl_ClientStop : Con := ⟨28, [.v tImplClient], [.d tImplClient, .v (.own tImplWord)], Wh.impl_ClientStop, Wh.impl_ClientStop'⟩
def C_impl_ClientStop : Cx := ⟨Tab, [K_impl_ClientOk.entry], true⟩
def lt_impl_ClientStop : List (Nat × LoopD) := []
theorem e_impl_ClientStop : ∀ xs, evT C_impl_ClientStop lt_impl_ClientStop Go.Proofs.Try.f28 [.v tImplClient] [.d tImplClient, .v (.own tImplWord)] xs = Wh.impl_ClientStop xs := by intro xs; kernel_rfl
theorem ok_impl_ClientStop : ConOk Go.Proofs.Try.prog K_impl_ClientStop := con_ok (Ls := []) mixed (cx_ok _ _) (fk_impl_ClientOk _ (FnOk.nil Tab true)) Go.Proofs.Try.func28 (loopsL_nil (by kernel_rfl)) e_impl_ClientStop
theorem fk_impl_ClientStop (fns : List (Nat × List Go.Ab.Mode × (List Arg → Option Res))) {dp : Bool} (h : FnOk Go.Proofs.Try.prog ⟨Tab, fns, dp⟩) : FnOk Go.Proofs.Try.prog ⟨Tab, K_impl_ClientStop.entry :: fns, dp⟩ := h.cons K_impl_ClientStop (by kernel_rfl) Wh.impl_ClientStop_v ok_impl_ClientStop

def K_laws_heldIntS : Con := ⟨118, [.v (.lst (.int .i64)), .v (.int .i64)], [.v (.int .i64)], Wh.laws_heldIntS, Wh.laws_heldIntS'⟩
def C_laws_heldIntS : Cx := ⟨Tab, [], false⟩
def L_laws_heldIntS_0 : LoopD := loopD ⟨[(5, .leaf (.int .i64)), (1, .leaf (.int .i64)), (0, .leaf (.lst (.int .i64)))], []⟩ [(.ret, ⟨[(4, .leaf (.int .i64))], []⟩), ((.exit 0), ⟨[(1, .leaf (.int .i64))], []⟩)] Wh.laws_heldIntS_l0_y Wh.laws_heldIntS_l0
def lt_laws_heldIntS : List (Nat × LoopD) := [(2, L_laws_heldIntS_0)]
theorem r_laws_heldIntS_0 : ∀ x, round C_laws_heldIntS lt_laws_heldIntS (nthLoop Go.Proofs.Try.f118 0) L_laws_heldIntS_0 x = Wh.laws_heldIntS_l0 x := by intro x; kernel_rfl
theorem e_laws_heldIntS : ∀ xs, evT C_laws_heldIntS lt_laws_heldIntS Go.Proofs.Try.f118 [.v (.lst (.int .i64)), .v (.int .i64)] [.v (.int .i64)] xs = Wh.laws_heldIntS xs := by intro xs; kernel_rfl
theorem ok_laws_heldIntS : ConOk Go.Proofs.Try.prog K_laws_heldIntS := con_ok (Ls := [L_laws_heldIntS_0]) mixed (cx_ok _ _) (FnOk.nil Tab false) Go.Proofs.Try.func118 (loopsL_cons (by kernel_rfl) (loopD_ok r_laws_heldIntS_0) (loopsL_nil (by kernel_rfl))) e_laws_heldIntS
theorem fk_laws_heldIntS (fns : List (Nat × List Go.Ab.Mode × (List Arg → Option Res))) {dp : Bool} (h : FnOk Go.Proofs.Try.prog ⟨Tab, fns, dp⟩) : FnOk Go.Proofs.Try.prog ⟨Tab, K_laws_heldIntS.entry :: fns, dp⟩ := h.cons K_laws_heldIntS (by kernel_rfl) Wh.laws_heldIntS_v ok_laws_heldIntS

def K_laws_heldPlan : Con := ⟨81, [.v tImplPlan, .v (.int .i64)], [.v (.int .i64)], Wh.laws_heldPlan, Wh.laws_heldPlan'⟩
def C_laws_heldPlan : Cx := ⟨Tab, [K_laws_heldIntS.entry], false⟩
def lt_laws_heldPlan : List (Nat × LoopD) := []
theorem e_laws_heldPlan : ∀ xs, evT C_laws_heldPlan lt_laws_heldPlan Go.Proofs.Try.f81 [.v tImplPlan, .v (.int .i64)] [.v (.int .i64)] xs = Wh.laws_heldPlan xs := by intro xs; kernel_rfl
theorem ok_laws_heldPlan : ConOk Go.Proofs.Try.prog K_laws_heldPlan := con_ok (Ls := []) mixed (cx_ok _ _) (fk_laws_heldIntS _ (FnOk.nil Tab false)) Go.Proofs.Try.func81 (loopsL_nil (by kernel_rfl)) e_laws_heldPlan
theorem fk_laws_heldPlan (fns : List (Nat × List Go.Ab.Mode × (List Arg → Option Res))) {dp : Bool} (h : FnOk Go.Proofs.Try.prog ⟨Tab, fns, dp⟩) : FnOk Go.Proofs.Try.prog ⟨Tab, K_laws_heldPlan.entry :: fns, dp⟩ := h.cons K_laws_heldPlan (by kernel_rfl) Wh.laws_heldPlan_v ok_laws_heldPlan

def K_laws_heldEqS : Con := ⟨119, [.v (.lst tImplEq), .v (.int .i64)], [.v (.int .i64)], Wh.laws_heldEqS, Wh.laws_heldEqS'⟩
def C_laws_heldEqS : Cx := ⟨Tab, [K_laws_markText.entry, K_laws_heldIntS.entry], false⟩
def L_laws_heldEqS_0 : LoopD := loopD ⟨[(5, .leaf (.int .i64)), (0, .leaf (.lst tImplEq)), (1, .leaf (.int .i64))], []⟩ [(.ret, ⟨[(4, .leaf (.int .i64))], []⟩), ((.exit 0), ⟨[(1, .leaf (.int .i64))], []⟩)] Wh.laws_heldEqS_l0_y Wh.laws_heldEqS_l0
def lt_laws_heldEqS : List (Nat × LoopD) := [(2, L_laws_heldEqS_0)]
theorem r_laws_heldEqS_0 : ∀ x, round C_laws_heldEqS lt_laws_heldEqS (nthLoop Go.Proofs.Try.f119 0) L_laws_heldEqS_0 x = Wh.laws_heldEqS_l0 x := by intro x; kernel_rfl
theorem e_laws_heldEqS : ∀ xs, evT C_laws_heldEqS lt_laws_heldEqS Go.Proofs.Try.f119 [.v (.lst tImplEq), .v (.int .i64)] [.v (.int .i64)] xs = Wh.laws_heldEqS xs := by intro xs; kernel_rfl
theorem ok_laws_heldEqS : ConOk Go.Proofs.Try.prog K_laws_heldEqS := con_ok (Ls := [L_laws_heldEqS_0]) mixed (cx_ok _ _) (fk_laws_markText _ (fk_laws_heldIntS _ (FnOk.nil Tab false))) Go.Proofs.Try.func119 (loopsL_cons (by kernel_rfl) (loopD_ok r_laws_heldEqS_0) (loopsL_nil (by kernel_rfl))) e_laws_heldEqS
theorem fk_laws_heldEqS (fns : List (Nat × List Go.Ab.Mode × (List Arg → Option Res))) {dp : Bool} (h : FnOk Go.Proofs.Try.prog ⟨Tab, fns, dp⟩) : FnOk Go.Proofs.Try.prog ⟨Tab, K_laws_heldEqS.entry :: fns, dp⟩ := h.cons K_laws_heldEqS (by kernel_rfl) Wh.laws_heldEqS_v ok_laws_heldEqS

def K_laws_heldSolver : Con := ⟨82, [.v tImplSolver, .v (.int .i64)], [.v (.int .i64)], Wh.laws_heldSolver, Wh.laws_heldSolver'⟩
def C_laws_heldSolver : Cx := ⟨Tab, [K_laws_heldEqS.entry], false⟩
def lt_laws_heldSolver : List (Nat × LoopD) := []
theorem e_laws_heldSolver : ∀ xs, evT C_laws_heldSolver lt_laws_heldSolver Go.Proofs.Try.f82 [.v tImplSolver, .v (.int .i64)] [.v (.int .i64)] xs = Wh.laws_heldSolver xs := by intro xs; kernel_rfl
theorem ok_laws_heldSolver : ConOk Go.Proofs.Try.prog K_laws_heldSolver := con_ok (Ls := []) mixed (cx_ok _ _) (fk_laws_heldEqS _ (FnOk.nil Tab false)) Go.Proofs.Try.func82 (loopsL_nil (by kernel_rfl)) e_laws_heldSolver
theorem fk_laws_heldSolver (fns : List (Nat × List Go.Ab.Mode × (List Arg → Option Res))) {dp : Bool} (h : FnOk Go.Proofs.Try.prog ⟨Tab, fns, dp⟩) : FnOk Go.Proofs.Try.prog ⟨Tab, K_laws_heldSolver.entry :: fns, dp⟩ := h.cons K_laws_heldSolver (by kernel_rfl) Wh.laws_heldSolver_v ok_laws_heldSolver

def K_laws_heldGetting : Con := ⟨42, [.v tImplGetting, .v (.int .i64)], [.v (.int .i64)], Wh.laws_heldGetting, Wh.laws_heldGetting'⟩
def C_laws_heldGetting : Cx := ⟨Tab, [K_laws_heldSolver.entry, K_laws_heldPlan.entry], false⟩
def lt_laws_heldGetting : List (Nat × LoopD) := []
theorem e_laws_heldGetting : ∀ xs, evT C_laws_heldGetting lt_laws_heldGetting Go.Proofs.Try.f42 [.v tImplGetting, .v (.int .i64)] [.v (.int .i64)] xs = Wh.laws_heldGetting xs := by intro xs; kernel_rfl
theorem ok_laws_heldGetting : ConOk Go.Proofs.Try.prog K_laws_heldGetting := con_ok (Ls := []) mixed (cx_ok _ _) (fk_laws_heldSolver _ (fk_laws_heldPlan _ (FnOk.nil Tab false))) Go.Proofs.Try.func42 (loopsL_nil (by kernel_rfl)) e_laws_heldGetting
theorem fk_laws_heldGetting (fns : List (Nat × List Go.Ab.Mode × (List Arg → Option Res))) {dp : Bool} (h : FnOk Go.Proofs.Try.prog ⟨Tab, fns, dp⟩) : FnOk Go.Proofs.Try.prog ⟨Tab, K_laws_heldGetting.entry :: fns, dp⟩ := h.cons K_laws_heldGetting (by kernel_rfl) Wh.laws_heldGetting_v ok_laws_heldGetting

def K_laws_heldClient : Con := ⟨15, [.v tImplClient, .v (.int .i64)], [.v (.int .i64)], Wh.laws_heldClient, Wh.laws_heldClient'⟩
def C_laws_heldClient : Cx := ⟨Tab, [K_laws_heldGetting.entry], false⟩
def lt_laws_heldClient : List (Nat × LoopD) := []
theorem e_laws_heldClient : ∀ xs, evT C_laws_heldClient lt_laws_heldClient Go.Proofs.Try.f15 [.v tImplClient, .v (.int .i64)] [.v (.int .i64)] xs = Wh.laws_heldClient xs := by intro xs; kernel_rfl
theorem ok_laws_heldClient : ConOk Go.Proofs.Try.prog K_laws_heldClient := con_ok (Ls := []) mixed (cx_ok _ _) (fk_laws_heldGetting _ (FnOk.nil Tab false)) Go.Proofs.Try.func15 (loopsL_nil (by kernel_rfl)) e_laws_heldClient
theorem fk_laws_heldClient (fns : List (Nat × List Go.Ab.Mode × (List Arg → Option Res))) {dp : Bool} (h : FnOk Go.Proofs.Try.prog ⟨Tab, fns, dp⟩) : FnOk Go.Proofs.Try.prog ⟨Tab, K_laws_heldClient.entry :: fns, dp⟩ := h.cons K_laws_heldClient (by kernel_rfl) Wh.laws_heldClient_v ok_laws_heldClient

def K_laws_FnExactClientStop : Con := ⟨7, [.v tImplClient], [.v .bool], Wh.laws_FnExactClientStop, Wh.laws_FnExactClientStop'⟩
def C_laws_FnExactClientStop : Cx := ⟨Tab, [K_laws_heldWordS.entry, K_laws_heldClient.entry, K_laws_markWordS.entry, K_laws_markClient.entry, K_laws_eqWordS.entry, K_laws_eqClient.entry, K_impl_ClientStop.entry, K_spec_ClientStop.entry, K_laws_toClient.entry, K_laws_szClient.entry], false⟩
def lt_laws_FnExactClientStop : List (Nat × LoopD) := []
theorem e_laws_FnExactClientStop : ∀ xs, evT C_laws_FnExactClientStop lt_laws_FnExactClientStop Go.Proofs.Try.f7 [.v tImplClient] [.v .bool] xs = Wh.laws_FnExactClientStop xs := by intro xs; kernel_rfl
theorem ok_laws_FnExactClientStop : ConOk Go.Proofs.Try.prog K_laws_FnExactClientStop := con_ok (Ls := []) mixed (cx_ok _ _) (fk_laws_heldWordS _ (fk_laws_heldClient _ (fk_laws_markWordS _ (fk_laws_markClient _ (fk_laws_eqWordS _ (fk_laws_eqClient _ (fk_impl_ClientStop _ (fk_spec_ClientStop _ (fk_laws_toClient _ (fk_laws_szClient _ (FnOk.nil Tab false))))))))))) Go.Proofs.Try.func7 (loopsL_nil (by kernel_rfl)) e_laws_FnExactClientStop
theorem fk_laws_FnExactClientStop (fns : List (Nat × List Go.Ab.Mode × (List Arg → Option Res))) {dp : Bool} (h : FnOk Go.Proofs.Try.prog ⟨Tab, fns, dp⟩) : FnOk Go.Proofs.Try.prog ⟨Tab, K_laws_FnExactClientStop.entry :: fns, dp⟩ := h.cons K_laws_FnExactClientStop (by kernel_rfl) Wh.laws_FnExactClientStop_v ok_laws_FnExactClientStop

def K_spec_l6Plan : Con := ⟨130, [.v tImplPlan], [.v (.pair (.int .i64) (.pair (.int .i64) (.pair (.own (.int .i64)) (.pair (.own (.int .i64)) .unit))))], Wh.spec_l6Plan, Wh.spec_l6Plan'⟩
def C_spec_l6Plan : Cx := ⟨Tab, [], false⟩
def lt_spec_l6Plan : List (Nat × LoopD) := []
theorem e_spec_l6Plan : ∀ xs, evT C_spec_l6Plan lt_spec_l6Plan Go.Proofs.Try.f130 [.v tImplPlan] [.v (.pair (.int .i64) (.pair (.int .i64) (.pair (.own (.int .i64)) (.pair (.own (.int .i64)) .unit))))] xs = Wh.spec_l6Plan xs := by intro xs; kernel_rfl
theorem ok_spec_l6Plan : ConOk Go.Proofs.Try.prog K_spec_l6Plan := con_ok (Ls := []) mixed (cx_ok _ _) (FnOk.nil Tab false) Go.Proofs.Try.func130 (loopsL_nil (by kernel_rfl)) e_spec_l6Plan
theorem fk_spec_l6Plan (fns : List (Nat × List Go.Ab.Mode × (List Arg → Option Res))) {dp : Bool} (h : FnOk Go.Proofs.Try.prog ⟨Tab, fns, dp⟩) : FnOk Go.Proofs.Try.prog ⟨Tab, K_spec_l6Plan.entry :: fns, dp⟩ := h.cons K_spec_l6Plan (by kernel_rfl) Wh.spec_l6Plan_v ok_spec_l6Plan

def K_spec_l3Copy : Con := ⟨131, [.v tImplSolver], [.v (.pair (.int .i64) (.pair (.int .i64) (.pair (.own tImplEq) .unit)))], Wh.spec_l3Copy, Wh.spec_l3Copy'⟩
def C_spec_l3Copy : Cx := ⟨Tab, [], false⟩
def L_spec_l3Copy_0 : LoopD := loopD ⟨[(4, .leaf (.int .i64)), (3, .vptr 500000000 []), (1, .vptr 500000001 []), (2, .vptr 500000002 [])], [(500000000, false, .var tImplSolver (.pair (.leaf (.int .i64)) (.pair (.leaf (.int .i64)) (.pair (.whole 500000003 tImplEq) (.leaf .unit))))), (500000001, false, .var tImplSolver (.leaf tImplSolver)), (500000002, false, .var tImplSolver (.pair (.leaf (.int .i64)) (.pair (.leaf (.int .i64)) (.pair (.whole 500000004 tImplEq) (.leaf .unit))))), (500000003, false, .rows tImplEq), (500000004, false, .rows tImplEq)]⟩ [((.exit 0), ⟨[(2, .vptr 500000000 []), (3, .vptr 500000001 [])], [(500000000, false, .var tImplSolver (.pair (.leaf (.int .i64)) (.pair (.leaf (.int .i64)) (.pair (.whole 500000002 tImplEq) (.leaf .unit))))), (500000001, false, .var tImplSolver (.pair (.leaf (.int .i64)) (.pair (.leaf (.int .i64)) (.pair (.whole 500000003 tImplEq) (.leaf .unit))))), (500000002, false, .rows tImplEq), (500000003, false, .rows tImplEq)]⟩)] Wh.spec_l3Copy_l0_y Wh.spec_l3Copy_l0
def lt_spec_l3Copy : List (Nat × LoopD) := [(3, L_spec_l3Copy_0)]
theorem r_spec_l3Copy_0 : ∀ x, round C_spec_l3Copy lt_spec_l3Copy (nthLoop Go.Proofs.Try.f131 0) L_spec_l3Copy_0 x = Wh.spec_l3Copy_l0 x := by intro x; kernel_rfl
theorem e_spec_l3Copy : ∀ xs, evT C_spec_l3Copy lt_spec_l3Copy Go.Proofs.Try.f131 [.v tImplSolver] [.v (.pair (.int .i64) (.pair (.int .i64) (.pair (.own tImplEq) .unit)))] xs = Wh.spec_l3Copy xs := by intro xs; kernel_rfl
theorem ok_spec_l3Copy : ConOk Go.Proofs.Try.prog K_spec_l3Copy := con_ok (Ls := [L_spec_l3Copy_0]) mixed (cx_ok _ _) (FnOk.nil Tab false) Go.Proofs.Try.func131 (loopsL_cons (by kernel_rfl) (loopD_ok r_spec_l3Copy_0) (loopsL_nil (by kernel_rfl))) e_spec_l3Copy
theorem fk_spec_l3Copy (fns : List (Nat × List Go.Ab.Mode × (List Arg → Option Res))) {dp : Bool} (h : FnOk Go.Proofs.Try.prog ⟨Tab, fns, dp⟩) : FnOk Go.Proofs.Try.prog ⟨Tab, K_spec_l3Copy.entry :: fns, dp⟩ := h.cons K_spec_l3Copy (by kernel_rfl) Wh.spec_l3Copy_v ok_spec_l3Copy

def K_spec_l6Copy : Con := ⟨97, [.v tImplGetting], [.v (.pair (.pair (.int .i64) (.pair (.int .i64) (.pair (.own (.int .i64)) (.pair (.own (.int .i64)) .unit)))) (.pair (.pair (.int .i64) (.pair (.int .i64) (.pair (.own tImplEq) .unit))) .unit))], Wh.spec_l6Copy, Wh.spec_l6Copy'⟩
def C_spec_l6Copy : Cx := ⟨Tab, [K_spec_l3Copy.entry, K_spec_l6Plan.entry], false⟩
def lt_spec_l6Copy : List (Nat × LoopD) := []
theorem e_spec_l6Copy : ∀ xs, evT C_spec_l6Copy lt_spec_l6Copy Go.Proofs.Try.f97 [.v tImplGetting] [.v (.pair (.pair (.int .i64) (.pair (.int .i64) (.pair (.own (.int .i64)) (.pair (.own (.int .i64)) .unit)))) (.pair (.pair (.int .i64) (.pair (.int .i64) (.pair (.own tImplEq) .unit))) .unit))] xs = Wh.spec_l6Copy xs := by intro xs; kernel_rfl
theorem ok_spec_l6Copy : ConOk Go.Proofs.Try.prog K_spec_l6Copy := con_ok (Ls := []) mixed (cx_ok _ _) (fk_spec_l3Copy _ (fk_spec_l6Plan _ (FnOk.nil Tab false))) Go.Proofs.Try.func97 (loopsL_nil (by kernel_rfl)) e_spec_l6Copy
theorem fk_spec_l6Copy (fns : List (Nat × List Go.Ab.Mode × (List Arg → Option Res))) {dp : Bool} (h : FnOk Go.Proofs.Try.prog ⟨Tab, fns, dp⟩) : FnOk Go.Proofs.Try.prog ⟨Tab, K_spec_l6Copy.entry :: fns, dp⟩ := h.cons K_spec_l6Copy (by kernel_rfl) Wh.spec_l6Copy_v ok_spec_l6Copy

def K_spec_l13Copy : Con := ⟨61, [.v tImplClient], [.v (.pair (.int .i64) (.pair (.int .i64) (.pair (.int .i64) (.pair .str (.pair (.int .i64) (.pair (.pair (.pair (.int .i64) (.pair (.int .i64) (.pair (.own (.int .i64)) (.pair (.own (.int .i64)) .unit)))) (.pair (.pair (.int .i64) (.pair (.int .i64) (.pair (.own tImplEq) .unit))) .unit)) .unit))))))], Wh.spec_l13Copy, Wh.spec_l13Copy'⟩
def C_spec_l13Copy : Cx := ⟨Tab, [K_spec_l6Copy.entry], false⟩
def lt_spec_l13Copy : List (Nat × LoopD) := []
theorem e_spec_l13Copy : ∀ xs, evT C_spec_l13Copy lt_spec_l13Copy Go.Proofs.Try.f61 [.v tImplClient] [.v (.pair (.int .i64) (.pair (.int .i64) (.pair (.int .i64) (.pair .str (.pair (.int .i64) (.pair (.pair (.pair (.int .i64) (.pair (.int .i64) (.pair (.own (.int .i64)) (.pair (.own (.int .i64)) .unit)))) (.pair (.pair (.int .i64) (.pair (.int .i64) (.pair (.own tImplEq) .unit))) .unit)) .unit))))))] xs = Wh.spec_l13Copy xs := by intro xs; kernel_rfl
theorem ok_spec_l13Copy : ConOk Go.Proofs.Try.prog K_spec_l13Copy := con_ok (Ls := []) mixed (cx_ok _ _) (fk_spec_l6Copy _ (FnOk.nil Tab false)) Go.Proofs.Try.func61 (loopsL_nil (by kernel_rfl)) e_spec_l13Copy
theorem fk_spec_l13Copy (fns : List (Nat × List Go.Ab.Mode × (List Arg → Option Res))) {dp : Bool} (h : FnOk Go.Proofs.Try.prog ⟨Tab, fns, dp⟩) : FnOk Go.Proofs.Try.prog ⟨Tab, K_spec_l13Copy.entry :: fns, dp⟩ := h.cons K_spec_l13Copy (by kernel_rfl) Wh.spec_l13Copy_v ok_spec_l13Copy

def K_spec_ClientOpen : Con := ⟨29, [.v tImplClient, .v .str], [.v (.pair (.int .i64) (.pair (.int .i64) (.pair (.int .i64) (.pair .str (.pair (.int .i64) (.pair (.pair (.pair (.int .i64) (.pair (.int .i64) (.pair (.own (.int .i64)) (.pair (.own (.int .i64)) .unit)))) (.pair (.pair (.int .i64) (.pair (.int .i64) (.pair (.own tImplEq) .unit))) .unit)) .unit)))))), .v (.own tImplWord)], Wh.spec_ClientOpen, Wh.spec_ClientOpen'⟩
def C_spec_ClientOpen : Cx := ⟨Tab, [K_spec_l13Asks.entry, K_spec_l13Copy.entry, K_spec_NameOk.entry, K_spec_ClientOk.entry], false⟩
def lt_spec_ClientOpen : List (Nat × LoopD) := []
theorem e_spec_ClientOpen : ∀ xs, evT C_spec_ClientOpen lt_spec_ClientOpen Go.Proofs.Try.f29 [.v tImplClient, .v .str] [.v (.pair (.int .i64) (.pair (.int .i64) (.pair (.int .i64) (.pair .str (.pair (.int .i64) (.pair (.pair (.pair (.int .i64) (.pair (.int .i64) (.pair (.own (.int .i64)) (.pair (.own (.int .i64)) .unit)))) (.pair (.pair (.int .i64) (.pair (.int .i64) (.pair (.own tImplEq) .unit))) .unit)) .unit)))))), .v (.own tImplWord)] xs = Wh.spec_ClientOpen xs := by intro xs; kernel_rfl
theorem ok_spec_ClientOpen : ConOk Go.Proofs.Try.prog K_spec_ClientOpen := con_ok (Ls := []) mixed (cx_ok _ _) (fk_spec_l13Asks _ (fk_spec_l13Copy _ (fk_spec_NameOk _ (fk_spec_ClientOk _ (FnOk.nil Tab false))))) Go.Proofs.Try.func29 (loopsL_nil (by kernel_rfl)) e_spec_ClientOpen
theorem fk_spec_ClientOpen (fns : List (Nat × List Go.Ab.Mode × (List Arg → Option Res))) {dp : Bool} (h : FnOk Go.Proofs.Try.prog ⟨Tab, fns, dp⟩) : FnOk Go.Proofs.Try.prog ⟨Tab, K_spec_ClientOpen.entry :: fns, dp⟩ := h.cons K_spec_ClientOpen (by kernel_rfl) Wh.spec_ClientOpen_v ok_spec_ClientOpen

def K_impl_clonePlan : Con := ⟨132, [.v tImplPlan], [.v (.pair (.int .i64) (.pair (.int .i64) (.pair (.own (.int .i64)) (.pair (.own (.int .i64)) .unit))))], Wh.impl_clonePlan, Wh.impl_clonePlan'⟩
def C_impl_clonePlan : Cx := ⟨Tab, [], false⟩
def lt_impl_clonePlan : List (Nat × LoopD) := []
theorem e_impl_clonePlan : ∀ xs, evT C_impl_clonePlan lt_impl_clonePlan Go.Proofs.Try.f132 [.v tImplPlan] [.v (.pair (.int .i64) (.pair (.int .i64) (.pair (.own (.int .i64)) (.pair (.own (.int .i64)) .unit))))] xs = Wh.impl_clonePlan xs := by intro xs; kernel_rfl
theorem ok_impl_clonePlan : ConOk Go.Proofs.Try.prog K_impl_clonePlan := con_ok (Ls := []) mixed (cx_ok _ _) (FnOk.nil Tab false) Go.Proofs.Try.func132 (loopsL_nil (by kernel_rfl)) e_impl_clonePlan
theorem fk_impl_clonePlan (fns : List (Nat × List Go.Ab.Mode × (List Arg → Option Res))) {dp : Bool} (h : FnOk Go.Proofs.Try.prog ⟨Tab, fns, dp⟩) : FnOk Go.Proofs.Try.prog ⟨Tab, K_impl_clonePlan.entry :: fns, dp⟩ := h.cons K_impl_clonePlan (by kernel_rfl) Wh.impl_clonePlan_v ok_impl_clonePlan

def K_impl_cloneSolver : Con := ⟨133, [.v tImplSolver], [.d tImplSolver], Wh.impl_cloneSolver, Wh.impl_cloneSolver'⟩
def C_impl_cloneSolver : Cx := ⟨Tab, [], true⟩
def L_impl_cloneSolver_0 : LoopD := loopD ⟨[(15, .leaf (.int .i64)), (3, .vptr 500000000 []), (13, .leaf (.lst tImplEq)), (2, .vptr 500000001 []), (14, .leaf (.int .i64))], [(500000000, false, .var tImplSolver (.pair (.leaf (.int .i64)) (.pair (.leaf (.int .i64)) (.pair (.whole 500000002 tImplEq) (.leaf .unit))))), (500000001, false, .var tImplSolver (.pair (.leaf (.int .i64)) (.pair (.leaf (.int .i64)) (.pair (.whole 500000003 tImplEq) (.leaf .unit))))), (500000002, false, .deep tImplEq), (500000003, false, .rows tImplEq)]⟩ [((.exit 0), ⟨[(2, .vptr 500000000 []), (3, .vptr 500000001 [])], [(500000000, false, .var tImplSolver (.pair (.leaf (.int .i64)) (.pair (.leaf (.int .i64)) (.pair (.whole 500000002 tImplEq) (.leaf .unit))))), (500000001, false, .var tImplSolver (.pair (.leaf (.int .i64)) (.pair (.leaf (.int .i64)) (.pair (.whole 500000003 tImplEq) (.leaf .unit))))), (500000002, false, .rows tImplEq), (500000003, false, .deep tImplEq)]⟩)] Wh.impl_cloneSolver_l0_y Wh.impl_cloneSolver_l0
def lt_impl_cloneSolver : List (Nat × LoopD) := [(3, L_impl_cloneSolver_0)]
theorem r_impl_cloneSolver_0 : ∀ x, round C_impl_cloneSolver lt_impl_cloneSolver (nthLoop Go.Proofs.Try.f133 0) L_impl_cloneSolver_0 x = Wh.impl_cloneSolver_l0 x := by intro x; kernel_rfl
theorem e_impl_cloneSolver : ∀ xs, evT C_impl_cloneSolver lt_impl_cloneSolver Go.Proofs.Try.f133 [.v tImplSolver] [.d tImplSolver] xs = Wh.impl_cloneSolver xs := by intro xs; kernel_rfl
theorem ok_impl_cloneSolver : ConOk Go.Proofs.Try.prog K_impl_cloneSolver := con_ok (Ls := [L_impl_cloneSolver_0]) mixed (cx_ok _ _) (FnOk.nil Tab true) Go.Proofs.Try.func133 (loopsL_cons (by kernel_rfl) (loopD_ok r_impl_cloneSolver_0) (loopsL_nil (by kernel_rfl))) e_impl_cloneSolver
theorem fk_impl_cloneSolver (fns : List (Nat × List Go.Ab.Mode × (List Arg → Option Res))) {dp : Bool} (h : FnOk Go.Proofs.Try.prog ⟨Tab, fns, dp⟩) : FnOk Go.Proofs.Try.prog ⟨Tab, K_impl_cloneSolver.entry :: fns, dp⟩ := h.cons K_impl_cloneSolver (by kernel_rfl) Wh.impl_cloneSolver_v ok_impl_cloneSolver

def K_impl_cloneGet : Con := ⟨98, [.v tImplGetting], [.d tImplGetting], Wh.impl_cloneGet, Wh.impl_cloneGet'⟩
def C_impl_cloneGet : Cx := ⟨Tab, [K_impl_cloneSolver.entry, K_impl_clonePlan.entry], true⟩
def lt_impl_cloneGet : List (Nat × LoopD) := []
theorem e_impl_cloneGet : ∀ xs, evT C_impl_cloneGet lt_impl_cloneGet Go.Proofs.Try.f98 [.v tImplGetting] [.d tImplGetting] xs = Wh.impl_cloneGet xs := by intro xs; kernel_rfl
theorem ok_impl_cloneGet : ConOk Go.Proofs.Try.prog K_impl_cloneGet := con_ok (Ls := []) mixed (cx_ok _ _) (fk_impl_cloneSolver _ (fk_impl_clonePlan _ (FnOk.nil Tab true))) Go.Proofs.Try.func98 (loopsL_nil (by kernel_rfl)) e_impl_cloneGet
theorem fk_impl_cloneGet (fns : List (Nat × List Go.Ab.Mode × (List Arg → Option Res))) {dp : Bool} (h : FnOk Go.Proofs.Try.prog ⟨Tab, fns, dp⟩) : FnOk Go.Proofs.Try.prog ⟨Tab, K_impl_cloneGet.entry :: fns, dp⟩ := h.cons K_impl_cloneGet (by kernel_rfl) Wh.impl_cloneGet_v ok_impl_cloneGet

def K_impl_cloneClient : Con := ⟨62, [.v tImplClient], [.d tImplClient], Wh.impl_cloneClient, Wh.impl_cloneClient'⟩
def C_impl_cloneClient : Cx := ⟨Tab, [K_impl_cloneGet.entry], true⟩
def lt_impl_cloneClient : List (Nat × LoopD) := []
theorem e_impl_cloneClient : ∀ xs, evT C_impl_cloneClient lt_impl_cloneClient Go.Proofs.Try.f62 [.v tImplClient] [.d tImplClient] xs = Wh.impl_cloneClient xs := by intro xs; kernel_rfl
theorem ok_impl_cloneClient : ConOk Go.Proofs.Try.prog K_impl_cloneClient := con_ok (Ls := []) mixed (cx_ok _ _) (fk_impl_cloneGet _ (FnOk.nil Tab true)) Go.Proofs.Try.func62 (loopsL_nil (by kernel_rfl)) e_impl_cloneClient
theorem fk_impl_cloneClient (fns : List (Nat × List Go.Ab.Mode × (List Arg → Option Res))) {dp : Bool} (h : FnOk Go.Proofs.Try.prog ⟨Tab, fns, dp⟩) : FnOk Go.Proofs.Try.prog ⟨Tab, K_impl_cloneClient.entry :: fns, dp⟩ := h.cons K_impl_cloneClient (by kernel_rfl) Wh.impl_cloneClient_v ok_impl_cloneClient

def K_impl_ClientOpen : Con := ⟨30, [.v tImplClient, .v .str], [.d tImplClient, .v (.own tImplWord)], Wh.impl_ClientOpen, Wh.impl_ClientOpen'⟩
def C_impl_ClientOpen : Cx := ⟨Tab, [K_impl_Client_request.entry, K_impl_cloneClient.entry, K_impl_NameOk.entry, K_impl_ClientOk.entry], true⟩
def lt_impl_ClientOpen : List (Nat × LoopD) := []
theorem e_impl_ClientOpen : ∀ xs, evT C_impl_ClientOpen lt_impl_ClientOpen Go.Proofs.Try.f30 [.v tImplClient, .v .str] [.d tImplClient, .v (.own tImplWord)] xs = Wh.impl_ClientOpen xs := by intro xs; kernel_rfl
theorem ok_impl_ClientOpen : ConOk Go.Proofs.Try.prog K_impl_ClientOpen := con_ok (Ls := []) mixed (cx_ok _ _) (fk_impl_Client_request _ (fk_impl_cloneClient _ (fk_impl_NameOk _ (fk_impl_ClientOk _ (FnOk.nil Tab true))))) Go.Proofs.Try.func30 (loopsL_nil (by kernel_rfl)) e_impl_ClientOpen
theorem fk_impl_ClientOpen (fns : List (Nat × List Go.Ab.Mode × (List Arg → Option Res))) {dp : Bool} (h : FnOk Go.Proofs.Try.prog ⟨Tab, fns, dp⟩) : FnOk Go.Proofs.Try.prog ⟨Tab, K_impl_ClientOpen.entry :: fns, dp⟩ := h.cons K_impl_ClientOpen (by kernel_rfl) Wh.impl_ClientOpen_v ok_impl_ClientOpen

def K_laws_FnExactClientOpen : Con := ⟨8, [.v tImplClient, .v .str], [.v .bool], Wh.laws_FnExactClientOpen, Wh.laws_FnExactClientOpen'⟩
def C_laws_FnExactClientOpen : Cx := ⟨Tab, [K_laws_heldWordS.entry, K_laws_heldClient.entry, K_laws_markWordS.entry, K_laws_markClient.entry, K_laws_eqWordS.entry, K_laws_eqClient.entry, K_impl_ClientOpen.entry, K_spec_ClientOpen.entry, K_laws_toClient.entry, K_laws_szClient.entry], false⟩
def lt_laws_FnExactClientOpen : List (Nat × LoopD) := []
theorem e_laws_FnExactClientOpen : ∀ xs, evT C_laws_FnExactClientOpen lt_laws_FnExactClientOpen Go.Proofs.Try.f8 [.v tImplClient, .v .str] [.v .bool] xs = Wh.laws_FnExactClientOpen xs := by intro xs; kernel_rfl
theorem ok_laws_FnExactClientOpen : ConOk Go.Proofs.Try.prog K_laws_FnExactClientOpen := con_ok (Ls := []) mixed (cx_ok _ _) (fk_laws_heldWordS _ (fk_laws_heldClient _ (fk_laws_markWordS _ (fk_laws_markClient _ (fk_laws_eqWordS _ (fk_laws_eqClient _ (fk_impl_ClientOpen _ (fk_spec_ClientOpen _ (fk_laws_toClient _ (fk_laws_szClient _ (FnOk.nil Tab false))))))))))) Go.Proofs.Try.func8 (loopsL_nil (by kernel_rfl)) e_laws_FnExactClientOpen
theorem fk_laws_FnExactClientOpen (fns : List (Nat × List Go.Ab.Mode × (List Arg → Option Res))) {dp : Bool} (h : FnOk Go.Proofs.Try.prog ⟨Tab, fns, dp⟩) : FnOk Go.Proofs.Try.prog ⟨Tab, K_laws_FnExactClientOpen.entry :: fns, dp⟩ := h.cons K_laws_FnExactClientOpen (by kernel_rfl) Wh.laws_FnExactClientOpen_v ok_laws_FnExactClientOpen

def K_spec_ClientAgain : Con := ⟨31, [.v tImplClient], [.v (.pair (.int .i64) (.pair (.int .i64) (.pair (.int .i64) (.pair .str (.pair (.int .i64) (.pair (.pair (.pair (.int .i64) (.pair (.int .i64) (.pair (.own (.int .i64)) (.pair (.own (.int .i64)) .unit)))) (.pair (.pair (.int .i64) (.pair (.int .i64) (.pair (.own tImplEq) .unit))) .unit)) .unit)))))), .v (.own tImplWord)], Wh.spec_ClientAgain, Wh.spec_ClientAgain'⟩
def C_spec_ClientAgain : Cx := ⟨Tab, [K_spec_l13Asks.entry, K_spec_l13Copy.entry, K_spec_ClientOk.entry], false⟩
def lt_spec_ClientAgain : List (Nat × LoopD) := []
theorem e_spec_ClientAgain : ∀ xs, evT C_spec_ClientAgain lt_spec_ClientAgain Go.Proofs.Try.f31 [.v tImplClient] [.v (.pair (.int .i64) (.pair (.int .i64) (.pair (.int .i64) (.pair .str (.pair (.int .i64) (.pair (.pair (.pair (.int .i64) (.pair (.int .i64) (.pair (.own (.int .i64)) (.pair (.own (.int .i64)) .unit)))) (.pair (.pair (.int .i64) (.pair (.int .i64) (.pair (.own tImplEq) .unit))) .unit)) .unit)))))), .v (.own tImplWord)] xs = Wh.spec_ClientAgain xs := by intro xs; kernel_rfl
theorem ok_spec_ClientAgain : ConOk Go.Proofs.Try.prog K_spec_ClientAgain := con_ok (Ls := []) mixed (cx_ok _ _) (fk_spec_l13Asks _ (fk_spec_l13Copy _ (fk_spec_ClientOk _ (FnOk.nil Tab false)))) Go.Proofs.Try.func31 (loopsL_nil (by kernel_rfl)) e_spec_ClientAgain
theorem fk_spec_ClientAgain (fns : List (Nat × List Go.Ab.Mode × (List Arg → Option Res))) {dp : Bool} (h : FnOk Go.Proofs.Try.prog ⟨Tab, fns, dp⟩) : FnOk Go.Proofs.Try.prog ⟨Tab, K_spec_ClientAgain.entry :: fns, dp⟩ := h.cons K_spec_ClientAgain (by kernel_rfl) Wh.spec_ClientAgain_v ok_spec_ClientAgain

def K_impl_ClientAgain : Con := ⟨32, [.v tImplClient], [.d tImplClient, .v (.own tImplWord)], Wh.impl_ClientAgain, Wh.impl_ClientAgain'⟩
def C_impl_ClientAgain : Cx := ⟨Tab, [K_impl_Client_request.entry, K_impl_cloneClient.entry, K_impl_ClientOk.entry], true⟩
def lt_impl_ClientAgain : List (Nat × LoopD) := []
theorem e_impl_ClientAgain : ∀ xs, evT C_impl_ClientAgain lt_impl_ClientAgain Go.Proofs.Try.f32 [.v tImplClient] [.d tImplClient, .v (.own tImplWord)] xs = Wh.impl_ClientAgain xs := by intro xs; kernel_rfl
theorem ok_impl_ClientAgain : ConOk Go.Proofs.Try.prog K_impl_ClientAgain := con_ok (Ls := []) mixed (cx_ok _ _) (fk_impl_Client_request _ (fk_impl_cloneClient _ (fk_impl_ClientOk _ (FnOk.nil Tab true)))) Go.Proofs.Try.func32 (loopsL_nil (by kernel_rfl)) e_impl_ClientAgain
theorem fk_impl_ClientAgain (fns : List (Nat × List Go.Ab.Mode × (List Arg → Option Res))) {dp : Bool} (h : FnOk Go.Proofs.Try.prog ⟨Tab, fns, dp⟩) : FnOk Go.Proofs.Try.prog ⟨Tab, K_impl_ClientAgain.entry :: fns, dp⟩ := h.cons K_impl_ClientAgain (by kernel_rfl) Wh.impl_ClientAgain_v ok_impl_ClientAgain

def K_laws_FnExactClientAgain : Con := ⟨9, [.v tImplClient], [.v .bool], Wh.laws_FnExactClientAgain, Wh.laws_FnExactClientAgain'⟩
def C_laws_FnExactClientAgain : Cx := ⟨Tab, [K_laws_heldWordS.entry, K_laws_heldClient.entry, K_laws_markWordS.entry, K_laws_markClient.entry, K_laws_eqWordS.entry, K_laws_eqClient.entry, K_impl_ClientAgain.entry, K_spec_ClientAgain.entry, K_laws_toClient.entry, K_laws_szClient.entry], false⟩
def lt_laws_FnExactClientAgain : List (Nat × LoopD) := []
theorem e_laws_FnExactClientAgain : ∀ xs, evT C_laws_FnExactClientAgain lt_laws_FnExactClientAgain Go.Proofs.Try.f9 [.v tImplClient] [.v .bool] xs = Wh.laws_FnExactClientAgain xs := by intro xs; kernel_rfl
theorem ok_laws_FnExactClientAgain : ConOk Go.Proofs.Try.prog K_laws_FnExactClientAgain := con_ok (Ls := []) mixed (cx_ok _ _) (fk_laws_heldWordS _ (fk_laws_heldClient _ (fk_laws_markWordS _ (fk_laws_markClient _ (fk_laws_eqWordS _ (fk_laws_eqClient _ (fk_impl_ClientAgain _ (fk_spec_ClientAgain _ (fk_laws_toClient _ (fk_laws_szClient _ (FnOk.nil Tab false))))))))))) Go.Proofs.Try.func9 (loopsL_nil (by kernel_rfl)) e_laws_FnExactClientAgain
theorem fk_laws_FnExactClientAgain (fns : List (Nat × List Go.Ab.Mode × (List Arg → Option Res))) {dp : Bool} (h : FnOk Go.Proofs.Try.prog ⟨Tab, fns, dp⟩) : FnOk Go.Proofs.Try.prog ⟨Tab, K_laws_FnExactClientAgain.entry :: fns, dp⟩ := h.cons K_laws_FnExactClientAgain (by kernel_rfl) Wh.laws_FnExactClientAgain_v ok_laws_FnExactClientAgain

end
end Go.Proofs.Walk
