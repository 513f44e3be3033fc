import Derived.Test.YtpdphbjjfepigaaP2
import Derived.Test.YtpdphbjjfepigaaProg
import Derived.KernelRfl
open Go Go.Ab
namespace Go.Proofs.Walk
noncomputable section
def Tab : List (Nat × TI) := [(2, ⟨(.int .i64), 0⟩), (3, ⟨(.int .i64), 0⟩), (4, ⟨.bool, 0⟩), (5, ⟨(.int .u8), 0⟩), (6, ⟨(.int .u8), 0⟩), (7, ⟨tRuntimeBoundsError, 0⟩), (8, ⟨tRuntimeBoundsError, 0⟩), (9, ⟨.str, 0⟩), (10, ⟨.str, 0⟩), (11, ⟨.str, 0⟩), (12, ⟨(.int .u64), 0⟩), (13, ⟨tRuntimeErrorAddressString, 0⟩), (14, ⟨tRuntimeErrorAddressString, 0⟩), (21, ⟨(.int .i32), 0⟩), (173, ⟨(.int .i32), 0⟩), (172, ⟨(.int .i32), 0⟩), (171, ⟨(.ref (.int .u8)), 0⟩), (169, ⟨(.int .u8), 0⟩), (168, ⟨(.int .u8), 0⟩), (143, ⟨(.int .u32), 0⟩), (22, ⟨(.lst (.int .i64)), 0⟩), (23, ⟨tImplPlan, 0⟩), (24, ⟨tImplPlan, 0⟩), (138, ⟨tImplEq, 0⟩), (139, ⟨tImplEq, 0⟩), (25, ⟨(.lst tImplEq), 0⟩), (26, ⟨tImplSolver, 0⟩), (27, ⟨tImplSolver, 0⟩), (28, ⟨tImplGetting, 0⟩), (29, ⟨tImplGetting, 0⟩), (30, ⟨tImplClient, 0⟩), (31, ⟨tImplClient, 0⟩), (36, ⟨tImplPlan, 0⟩), (157, ⟨tImplEq, 0⟩), (37, ⟨(.lst tImplEq), 0⟩), (38, ⟨tImplSolver, 0⟩), (39, ⟨tImplSolver, 0⟩), (40, ⟨tImplGetting, 0⟩), (41, ⟨tImplGetting, 0⟩), (42, ⟨tImplClient, 0⟩), (43, ⟨tImplClient, 0⟩), (85, ⟨tImplWord, 0⟩), (86, ⟨tImplWord, 0⟩), (49, ⟨(.lst tImplWord), 0⟩), (127, ⟨tImplItem, 0⟩), (128, ⟨tImplItem, 0⟩), (57, ⟨(.lst tImplItem), 0⟩), (58, ⟨tImplCat, 0⟩), (59, ⟨tImplCat, 0⟩), (160, ⟨tImplFrame, 0⟩), (161, ⟨tImplFrame, 0⟩), (60, ⟨(.lst tImplFrame), 0⟩), (61, ⟨tImplPool, 0⟩), (62, ⟨tImplPool, 0⟩), (147, ⟨tImplBucket, 0⟩), (148, ⟨tImplBucket, 0⟩), (63, ⟨(.lst tImplBucket), 0⟩), (152, ⟨tImplServe, 0⟩), (153, ⟨tImplServe, 0⟩), (64, ⟨(.lst tImplServe), 0⟩), (65, ⟨tImplServer, 0⟩), (66, ⟨tImplServer, 0⟩), (67, ⟨(.lst tImplClient), 0⟩), (124, ⟨tImplPacket, 0⟩), (125, ⟨tImplPacket, 0⟩), (68, ⟨(.lst tImplPacket), 0⟩), (69, ⟨tImplWorld, 0⟩), (70, ⟨tImplWorld, 0⟩), (114, ⟨(.lst (.int .u8)), 0⟩)]
theorem tab_ok : allL (fun x => (tyB Go.Proofs.Try.prog x.2.t).1 x.1) Tab = true := by kernel_rfl
theorem cx_ok (fns : List (Nat × List Go.Ab.Mode × (List Arg → Option Res))) : CxOk Go.Proofs.Try.prog ⟨Tab, fns⟩ := cxOk_of tab_ok
theorem mixed : Go.Proofs.Try.prog.follows .mixedOrders = true := by kernel_rfl
def noLoop : LoopD := ⟨⟨[], []⟩, [(.ret, ⟨[], []⟩)], fun _ => false, fun _ => ((), ())⟩

def K_spec_l1In : Con := ⟨38, [.v (.int .i64), .v (.int .i64), .v (.int .i64)], [.v .bool], Wh.spec_l1In, Wh.spec_l1In'⟩
def C_spec_l1In : Cx := ⟨Tab, []⟩
def lt_spec_l1In : List (Nat × LoopD) := []
theorem e_spec_l1In : ∀ xs, evT C_spec_l1In lt_spec_l1In Go.Proofs.Try.f38 [.v (.int .i64), .v (.int .i64), .v (.int .i64)] [.v .bool] xs = Wh.spec_l1In xs := by intro xs; kernel_rfl
theorem ok_spec_l1In : ConOk Go.Proofs.Try.prog K_spec_l1In := con_ok (Ls := []) mixed (cx_ok _) (FnOk.nil Tab) Go.Proofs.Try.func38 (loopsL_nil (by kernel_rfl)) e_spec_l1In
theorem fk_spec_l1In (fns : List (Nat × List Go.Ab.Mode × (List Arg → Option Res))) (h : FnOk Go.Proofs.Try.prog ⟨Tab, fns⟩) : FnOk Go.Proofs.Try.prog ⟨Tab, K_spec_l1In.entry :: fns⟩ := h.cons K_spec_l1In (by kernel_rfl) Wh.spec_l1In_v ok_spec_l1In

def K_spec_ClientNew : Con := ⟨11, [.v (.int .i64)], [.v (.pair (.int .i64) (.pair (.int .i64) (.pair (.int .i64) (.pair .str (.pair (.int .i64) (.pair (.pair (.pair (.int .i64) (.pair (.int .i64) (.pair (.own (.int .i64)) (.pair (.own (.int .i64)) .unit)))) (.pair (.pair (.int .i64) (.pair (.int .i64) (.pair (.own tImplEq) .unit))) .unit)) .unit))))))], Wh.spec_ClientNew, Wh.spec_ClientNew'⟩
def C_spec_ClientNew : Cx := ⟨Tab, [K_spec_l1In.entry]⟩
def lt_spec_ClientNew : List (Nat × LoopD) := []
theorem e_spec_ClientNew : ∀ xs, evT C_spec_ClientNew lt_spec_ClientNew Go.Proofs.Try.f11 [.v (.int .i64)] [.v (.pair (.int .i64) (.pair (.int .i64) (.pair (.int .i64) (.pair .str (.pair (.int .i64) (.pair (.pair (.pair (.int .i64) (.pair (.int .i64) (.pair (.own (.int .i64)) (.pair (.own (.int .i64)) .unit)))) (.pair (.pair (.int .i64) (.pair (.int .i64) (.pair (.own tImplEq) .unit))) .unit)) .unit))))))] xs = Wh.spec_ClientNew xs := by intro xs; kernel_rfl
theorem ok_spec_ClientNew : ConOk Go.Proofs.Try.prog K_spec_ClientNew := con_ok (Ls := []) mixed (cx_ok _) (fk_spec_l1In _ (FnOk.nil Tab)) Go.Proofs.Try.func11 (loopsL_nil (by kernel_rfl)) e_spec_ClientNew
theorem fk_spec_ClientNew (fns : List (Nat × List Go.Ab.Mode × (List Arg → Option Res))) (h : FnOk Go.Proofs.Try.prog ⟨Tab, fns⟩) : FnOk Go.Proofs.Try.prog ⟨Tab, K_spec_ClientNew.entry :: fns⟩ := h.cons K_spec_ClientNew (by kernel_rfl) Wh.spec_ClientNew_v ok_spec_ClientNew

def K_impl_within : Con := ⟨49, [.v (.int .i64), .v (.int .i64), .v (.int .i64)], [.v .bool], Wh.impl_within, Wh.impl_within'⟩
def C_impl_within : Cx := ⟨Tab, []⟩
def lt_impl_within : List (Nat × LoopD) := []
theorem e_impl_within : ∀ xs, evT C_impl_within lt_impl_within Go.Proofs.Try.f49 [.v (.int .i64), .v (.int .i64), .v (.int .i64)] [.v .bool] xs = Wh.impl_within xs := by intro xs; kernel_rfl
theorem ok_impl_within : ConOk Go.Proofs.Try.prog K_impl_within := con_ok (Ls := []) mixed (cx_ok _) (FnOk.nil Tab) Go.Proofs.Try.func49 (loopsL_nil (by kernel_rfl)) e_impl_within
theorem fk_impl_within (fns : List (Nat × List Go.Ab.Mode × (List Arg → Option Res))) (h : FnOk Go.Proofs.Try.prog ⟨Tab, fns⟩) : FnOk Go.Proofs.Try.prog ⟨Tab, K_impl_within.entry :: fns⟩ := h.cons K_impl_within (by kernel_rfl) Wh.impl_within_v ok_impl_within

def K_impl_clientOf : Con := ⟨39, [.v (.int .i64)], [.v .bool], Wh.impl_clientOf, Wh.impl_clientOf'⟩
def C_impl_clientOf : Cx := ⟨Tab, [K_impl_within.entry]⟩
def lt_impl_clientOf : List (Nat × LoopD) := []
theorem e_impl_clientOf : ∀ xs, evT C_impl_clientOf lt_impl_clientOf Go.Proofs.Try.f39 [.v (.int .i64)] [.v .bool] xs = Wh.impl_clientOf xs := by intro xs; kernel_rfl
theorem ok_impl_clientOf : ConOk Go.Proofs.Try.prog K_impl_clientOf := con_ok (Ls := []) mixed (cx_ok _) (fk_impl_within _ (FnOk.nil Tab)) Go.Proofs.Try.func39 (loopsL_nil (by kernel_rfl)) e_impl_clientOf
theorem fk_impl_clientOf (fns : List (Nat × List Go.Ab.Mode × (List Arg → Option Res))) (h : FnOk Go.Proofs.Try.prog ⟨Tab, fns⟩) : FnOk Go.Proofs.Try.prog ⟨Tab, K_impl_clientOf.entry :: fns⟩ := h.cons K_impl_clientOf (by kernel_rfl) Wh.impl_clientOf_v ok_impl_clientOf

def K_impl_ClientNew : Con := ⟨12, [.v (.int .i64)], [.v (.pair (.int .i64) (.pair (.int .i64) (.pair (.int .i64) (.pair .str (.pair (.int .i64) (.pair (.pair (.pair (.int .i64) (.pair (.int .i64) (.pair (.own (.int .i64)) (.pair (.own (.int .i64)) .unit)))) (.pair (.pair (.int .i64) (.pair (.int .i64) (.pair (.own tImplEq) .unit))) .unit)) .unit))))))], Wh.impl_ClientNew, Wh.impl_ClientNew'⟩
def C_impl_ClientNew : Cx := ⟨Tab, [K_impl_clientOf.entry]⟩
def lt_impl_ClientNew : List (Nat × LoopD) := []
theorem e_impl_ClientNew : ∀ xs, evT C_impl_ClientNew lt_impl_ClientNew Go.Proofs.Try.f12 [.v (.int .i64)] [.v (.pair (.int .i64) (.pair (.int .i64) (.pair (.int .i64) (.pair .str (.pair (.int .i64) (.pair (.pair (.pair (.int .i64) (.pair (.int .i64) (.pair (.own (.int .i64)) (.pair (.own (.int .i64)) .unit)))) (.pair (.pair (.int .i64) (.pair (.int .i64) (.pair (.own tImplEq) .unit))) .unit)) .unit))))))] xs = Wh.impl_ClientNew xs := by intro xs; kernel_rfl
theorem ok_impl_ClientNew : ConOk Go.Proofs.Try.prog K_impl_ClientNew := con_ok (Ls := []) mixed (cx_ok _) (fk_impl_clientOf _ (FnOk.nil Tab)) Go.Proofs.Try.func12 (loopsL_nil (by kernel_rfl)) e_impl_ClientNew
theorem fk_impl_ClientNew (fns : List (Nat × List Go.Ab.Mode × (List Arg → Option Res))) (h : FnOk Go.Proofs.Try.prog ⟨Tab, fns⟩) : FnOk Go.Proofs.Try.prog ⟨Tab, K_impl_ClientNew.entry :: fns⟩ := h.cons K_impl_ClientNew (by kernel_rfl) Wh.impl_ClientNew_v ok_impl_ClientNew

def K_laws_eqIntS : Con := ⟨120, [.v (.lst (.int .i64)), .v (.lst (.int .i64))], [.v .bool], Wh.laws_eqIntS, Wh.laws_eqIntS'⟩
def C_laws_eqIntS : Cx := ⟨Tab, []⟩
def L_laws_eqIntS_0 : LoopD := loopD ⟨[(5, .leaf (.int .i64)), (1, .leaf (.lst (.int .i64))), (0, .leaf (.lst (.int .i64)))], []⟩ [(.ret, ⟨[(4, .leaf .bool)], []⟩), ((.exit 0), ⟨[], []⟩)] Wh.laws_eqIntS_l0_y Wh.laws_eqIntS_l0
def lt_laws_eqIntS : List (Nat × LoopD) := [(4, L_laws_eqIntS_0)]
theorem r_laws_eqIntS_0 : ∀ x, round C_laws_eqIntS lt_laws_eqIntS (nthLoop Go.Proofs.Try.f120 0) L_laws_eqIntS_0 x = Wh.laws_eqIntS_l0 x := by intro x; kernel_rfl
theorem e_laws_eqIntS : ∀ xs, evT C_laws_eqIntS lt_laws_eqIntS Go.Proofs.Try.f120 [.v (.lst (.int .i64)), .v (.lst (.int .i64))] [.v .bool] xs = Wh.laws_eqIntS xs := by intro xs; kernel_rfl
theorem ok_laws_eqIntS : ConOk Go.Proofs.Try.prog K_laws_eqIntS := con_ok (Ls := [L_laws_eqIntS_0]) mixed (cx_ok _) (FnOk.nil Tab) Go.Proofs.Try.func120 (loopsL_cons (by kernel_rfl) (loopD_ok r_laws_eqIntS_0) (loopsL_nil (by kernel_rfl))) e_laws_eqIntS
theorem fk_laws_eqIntS (fns : List (Nat × List Go.Ab.Mode × (List Arg → Option Res))) (h : FnOk Go.Proofs.Try.prog ⟨Tab, fns⟩) : FnOk Go.Proofs.Try.prog ⟨Tab, K_laws_eqIntS.entry :: fns⟩ := h.cons K_laws_eqIntS (by kernel_rfl) Wh.laws_eqIntS_v ok_laws_eqIntS

def K_laws_eqPlan : Con := ⟨77, [.v tImplPlan, .v tImplPlan], [.v .bool], Wh.laws_eqPlan, Wh.laws_eqPlan'⟩
def C_laws_eqPlan : Cx := ⟨Tab, [K_laws_eqIntS.entry]⟩
def lt_laws_eqPlan : List (Nat × LoopD) := []
theorem e_laws_eqPlan : ∀ xs, evT C_laws_eqPlan lt_laws_eqPlan Go.Proofs.Try.f77 [.v tImplPlan, .v tImplPlan] [.v .bool] xs = Wh.laws_eqPlan xs := by intro xs; kernel_rfl
theorem ok_laws_eqPlan : ConOk Go.Proofs.Try.prog K_laws_eqPlan := con_ok (Ls := []) mixed (cx_ok _) (fk_laws_eqIntS _ (FnOk.nil Tab)) Go.Proofs.Try.func77 (loopsL_nil (by kernel_rfl)) e_laws_eqPlan
theorem fk_laws_eqPlan (fns : List (Nat × List Go.Ab.Mode × (List Arg → Option Res))) (h : FnOk Go.Proofs.Try.prog ⟨Tab, fns⟩) : FnOk Go.Proofs.Try.prog ⟨Tab, K_laws_eqPlan.entry :: fns⟩ := h.cons K_laws_eqPlan (by kernel_rfl) Wh.laws_eqPlan_v ok_laws_eqPlan

def K_laws_eqEq : Con := ⟨140, [.v tImplEq, .v tImplEq], [.v .bool], Wh.laws_eqEq, Wh.laws_eqEq'⟩
def C_laws_eqEq : Cx := ⟨Tab, [K_laws_eqIntS.entry]⟩
def lt_laws_eqEq : List (Nat × LoopD) := []
theorem e_laws_eqEq : ∀ xs, evT C_laws_eqEq lt_laws_eqEq Go.Proofs.Try.f140 [.v tImplEq, .v tImplEq] [.v .bool] xs = Wh.laws_eqEq xs := by intro xs; kernel_rfl
theorem ok_laws_eqEq : ConOk Go.Proofs.Try.prog K_laws_eqEq := con_ok (Ls := []) mixed (cx_ok _) (fk_laws_eqIntS _ (FnOk.nil Tab)) Go.Proofs.Try.func140 (loopsL_nil (by kernel_rfl)) e_laws_eqEq
theorem fk_laws_eqEq (fns : List (Nat × List Go.Ab.Mode × (List Arg → Option Res))) (h : FnOk Go.Proofs.Try.prog ⟨Tab, fns⟩) : FnOk Go.Proofs.Try.prog ⟨Tab, K_laws_eqEq.entry :: fns⟩ := h.cons K_laws_eqEq (by kernel_rfl) Wh.laws_eqEq_v ok_laws_eqEq

def K_laws_eqEqS : Con := ⟨121, [.v (.lst tImplEq), .v (.lst tImplEq)], [.v .bool], Wh.laws_eqEqS, Wh.laws_eqEqS'⟩
def C_laws_eqEqS : Cx := ⟨Tab, [K_laws_eqEq.entry]⟩
def L_laws_eqEqS_0 : LoopD := loopD ⟨[(5, .leaf (.int .i64)), (1, .leaf (.lst tImplEq)), (0, .leaf (.lst tImplEq))], []⟩ [(.ret, ⟨[(4, .leaf .bool)], []⟩), ((.exit 0), ⟨[], []⟩)] Wh.laws_eqEqS_l0_y Wh.laws_eqEqS_l0
def lt_laws_eqEqS : List (Nat × LoopD) := [(4, L_laws_eqEqS_0)]
theorem r_laws_eqEqS_0 : ∀ x, round C_laws_eqEqS lt_laws_eqEqS (nthLoop Go.Proofs.Try.f121 0) L_laws_eqEqS_0 x = Wh.laws_eqEqS_l0 x := by intro x; kernel_rfl
theorem e_laws_eqEqS : ∀ xs, evT C_laws_eqEqS lt_laws_eqEqS Go.Proofs.Try.f121 [.v (.lst tImplEq), .v (.lst tImplEq)] [.v .bool] xs = Wh.laws_eqEqS xs := by intro xs; kernel_rfl
theorem ok_laws_eqEqS : ConOk Go.Proofs.Try.prog K_laws_eqEqS := con_ok (Ls := [L_laws_eqEqS_0]) mixed (cx_ok _) (fk_laws_eqEq _ (FnOk.nil Tab)) Go.Proofs.Try.func121 (loopsL_cons (by kernel_rfl) (loopD_ok r_laws_eqEqS_0) (loopsL_nil (by kernel_rfl))) e_laws_eqEqS
theorem fk_laws_eqEqS (fns : List (Nat × List Go.Ab.Mode × (List Arg → Option Res))) (h : FnOk Go.Proofs.Try.prog ⟨Tab, fns⟩) : FnOk Go.Proofs.Try.prog ⟨Tab, K_laws_eqEqS.entry :: fns⟩ := h.cons K_laws_eqEqS (by kernel_rfl) Wh.laws_eqEqS_v ok_laws_eqEqS

def K_laws_eqSolver : Con := ⟨78, [.v tImplSolver, .v tImplSolver], [.v .bool], Wh.laws_eqSolver, Wh.laws_eqSolver'⟩
def C_laws_eqSolver : Cx := ⟨Tab, [K_laws_eqEqS.entry]⟩
def lt_laws_eqSolver : List (Nat × LoopD) := []
theorem e_laws_eqSolver : ∀ xs, evT C_laws_eqSolver lt_laws_eqSolver Go.Proofs.Try.f78 [.v tImplSolver, .v tImplSolver] [.v .bool] xs = Wh.laws_eqSolver xs := by intro xs; kernel_rfl
theorem ok_laws_eqSolver : ConOk Go.Proofs.Try.prog K_laws_eqSolver := con_ok (Ls := []) mixed (cx_ok _) (fk_laws_eqEqS _ (FnOk.nil Tab)) Go.Proofs.Try.func78 (loopsL_nil (by kernel_rfl)) e_laws_eqSolver
theorem fk_laws_eqSolver (fns : List (Nat × List Go.Ab.Mode × (List Arg → Option Res))) (h : FnOk Go.Proofs.Try.prog ⟨Tab, fns⟩) : FnOk Go.Proofs.Try.prog ⟨Tab, K_laws_eqSolver.entry :: fns⟩ := h.cons K_laws_eqSolver (by kernel_rfl) Wh.laws_eqSolver_v ok_laws_eqSolver

def K_laws_eqGetting : Con := ⟨40, [.v tImplGetting, .v tImplGetting], [.v .bool], Wh.laws_eqGetting, Wh.laws_eqGetting'⟩
def C_laws_eqGetting : Cx := ⟨Tab, [K_laws_eqSolver.entry, K_laws_eqPlan.entry]⟩
def lt_laws_eqGetting : List (Nat × LoopD) := []
theorem e_laws_eqGetting : ∀ xs, evT C_laws_eqGetting lt_laws_eqGetting Go.Proofs.Try.f40 [.v tImplGetting, .v tImplGetting] [.v .bool] xs = Wh.laws_eqGetting xs := by intro xs; kernel_rfl
theorem ok_laws_eqGetting : ConOk Go.Proofs.Try.prog K_laws_eqGetting := con_ok (Ls := []) mixed (cx_ok _) (fk_laws_eqSolver _ (fk_laws_eqPlan _ (FnOk.nil Tab))) Go.Proofs.Try.func40 (loopsL_nil (by kernel_rfl)) e_laws_eqGetting
theorem fk_laws_eqGetting (fns : List (Nat × List Go.Ab.Mode × (List Arg → Option Res))) (h : FnOk Go.Proofs.Try.prog ⟨Tab, fns⟩) : FnOk Go.Proofs.Try.prog ⟨Tab, K_laws_eqGetting.entry :: fns⟩ := h.cons K_laws_eqGetting (by kernel_rfl) Wh.laws_eqGetting_v ok_laws_eqGetting

def K_laws_eqClient : Con := ⟨13, [.v tImplClient, .v tImplClient], [.v .bool], Wh.laws_eqClient, Wh.laws_eqClient'⟩
def C_laws_eqClient : Cx := ⟨Tab, [K_laws_eqGetting.entry]⟩
def lt_laws_eqClient : List (Nat × LoopD) := []
theorem e_laws_eqClient : ∀ xs, evT C_laws_eqClient lt_laws_eqClient Go.Proofs.Try.f13 [.v tImplClient, .v tImplClient] [.v .bool] xs = Wh.laws_eqClient xs := by intro xs; kernel_rfl
theorem ok_laws_eqClient : ConOk Go.Proofs.Try.prog K_laws_eqClient := con_ok (Ls := []) mixed (cx_ok _) (fk_laws_eqGetting _ (FnOk.nil Tab)) Go.Proofs.Try.func13 (loopsL_nil (by kernel_rfl)) e_laws_eqClient
theorem fk_laws_eqClient (fns : List (Nat × List Go.Ab.Mode × (List Arg → Option Res))) (h : FnOk Go.Proofs.Try.prog ⟨Tab, fns⟩) : FnOk Go.Proofs.Try.prog ⟨Tab, K_laws_eqClient.entry :: fns⟩ := h.cons K_laws_eqClient (by kernel_rfl) Wh.laws_eqClient_v ok_laws_eqClient

def K_laws_markIntS : Con := ⟨112, [.v (.lst (.int .i64)), .v (.int .i64)], [.v (.int .i64)], Wh.laws_markIntS, Wh.laws_markIntS'⟩
def C_laws_markIntS : Cx := ⟨Tab, []⟩
def L_laws_markIntS_0 : LoopD := loopD ⟨[(5, .leaf (.int .i64)), (1, .leaf (.int .i64)), (0, .leaf (.lst (.int .i64)))], []⟩ [((.exit 0), ⟨[(1, .leaf (.int .i64))], []⟩)] Wh.laws_markIntS_l0_y Wh.laws_markIntS_l0
def lt_laws_markIntS : List (Nat × LoopD) := [(2, L_laws_markIntS_0)]
theorem r_laws_markIntS_0 : ∀ x, round C_laws_markIntS lt_laws_markIntS (nthLoop Go.Proofs.Try.f112 0) L_laws_markIntS_0 x = Wh.laws_markIntS_l0 x := by intro x; kernel_rfl
theorem e_laws_markIntS : ∀ xs, evT C_laws_markIntS lt_laws_markIntS Go.Proofs.Try.f112 [.v (.lst (.int .i64)), .v (.int .i64)] [.v (.int .i64)] xs = Wh.laws_markIntS xs := by intro xs; kernel_rfl
theorem ok_laws_markIntS : ConOk Go.Proofs.Try.prog K_laws_markIntS := con_ok (Ls := [L_laws_markIntS_0]) mixed (cx_ok _) (FnOk.nil Tab) Go.Proofs.Try.func112 (loopsL_cons (by kernel_rfl) (loopD_ok r_laws_markIntS_0) (loopsL_nil (by kernel_rfl))) e_laws_markIntS
theorem fk_laws_markIntS (fns : List (Nat × List Go.Ab.Mode × (List Arg → Option Res))) (h : FnOk Go.Proofs.Try.prog ⟨Tab, fns⟩) : FnOk Go.Proofs.Try.prog ⟨Tab, K_laws_markIntS.entry :: fns⟩ := h.cons K_laws_markIntS (by kernel_rfl) Wh.laws_markIntS_v ok_laws_markIntS

def K_laws_markPlan : Con := ⟨79, [.v tImplPlan, .v (.int .i64)], [.v (.int .i64)], Wh.laws_markPlan, Wh.laws_markPlan'⟩
def C_laws_markPlan : Cx := ⟨Tab, [K_laws_markIntS.entry]⟩
def lt_laws_markPlan : List (Nat × LoopD) := []
theorem e_laws_markPlan : ∀ xs, evT C_laws_markPlan lt_laws_markPlan Go.Proofs.Try.f79 [.v tImplPlan, .v (.int .i64)] [.v (.int .i64)] xs = Wh.laws_markPlan xs := by intro xs; kernel_rfl
theorem ok_laws_markPlan : ConOk Go.Proofs.Try.prog K_laws_markPlan := con_ok (Ls := []) mixed (cx_ok _) (fk_laws_markIntS _ (FnOk.nil Tab)) Go.Proofs.Try.func79 (loopsL_nil (by kernel_rfl)) e_laws_markPlan
theorem fk_laws_markPlan (fns : List (Nat × List Go.Ab.Mode × (List Arg → Option Res))) (h : FnOk Go.Proofs.Try.prog ⟨Tab, fns⟩) : FnOk Go.Proofs.Try.prog ⟨Tab, K_laws_markPlan.entry :: fns⟩ := h.cons K_laws_markPlan (by kernel_rfl) Wh.laws_markPlan_v ok_laws_markPlan

def K_laws_markText : Con := ⟨59, [.v (.int .i64)], [.v .str], Wh.laws_markText, Wh.laws_markText'⟩
def C_laws_markText : Cx := ⟨Tab, []⟩
def L_laws_markText_0 : LoopD := loopD ⟨[(0, .leaf (.int .i64)), (3, .leaf .str)], []⟩ [((.exit 0), ⟨[(3, .leaf .str)], []⟩)] Wh.laws_markText_l0_y Wh.laws_markText_l0
def lt_laws_markText : List (Nat × LoopD) := [(4, L_laws_markText_0)]
theorem r_laws_markText_0 : ∀ x, round C_laws_markText lt_laws_markText (nthLoop Go.Proofs.Try.f59 0) L_laws_markText_0 x = Wh.laws_markText_l0 x := by intro x; kernel_rfl
theorem e_laws_markText : ∀ xs, evT C_laws_markText lt_laws_markText Go.Proofs.Try.f59 [.v (.int .i64)] [.v .str] xs = Wh.laws_markText xs := by intro xs; kernel_rfl
theorem ok_laws_markText : ConOk Go.Proofs.Try.prog K_laws_markText := con_ok (Ls := [L_laws_markText_0]) mixed (cx_ok _) (FnOk.nil Tab) Go.Proofs.Try.func59 (loopsL_cons (by kernel_rfl) (loopD_ok r_laws_markText_0) (loopsL_nil (by kernel_rfl))) e_laws_markText
theorem fk_laws_markText (fns : List (Nat × List Go.Ab.Mode × (List Arg → Option Res))) (h : FnOk Go.Proofs.Try.prog ⟨Tab, fns⟩) : FnOk Go.Proofs.Try.prog ⟨Tab, K_laws_markText.entry :: fns⟩ := h.cons K_laws_markText (by kernel_rfl) Wh.laws_markText_v ok_laws_markText

def K_laws_markEqS : Con := ⟨113, [.v (.lst tImplEq), .v (.int .i64)], [.v (.int .i64)], Wh.laws_markEqS, Wh.laws_markEqS'⟩
def C_laws_markEqS : Cx := ⟨Tab, [K_laws_markText.entry, K_laws_markIntS.entry]⟩
def L_laws_markEqS_0 : LoopD := loopD ⟨[(5, .leaf (.int .i64)), (0, .leaf (.lst tImplEq)), (1, .leaf (.int .i64))], []⟩ [((.exit 0), ⟨[(1, .leaf (.int .i64))], []⟩)] Wh.laws_markEqS_l0_y Wh.laws_markEqS_l0
def lt_laws_markEqS : List (Nat × LoopD) := [(2, L_laws_markEqS_0)]
theorem r_laws_markEqS_0 : ∀ x, round C_laws_markEqS lt_laws_markEqS (nthLoop Go.Proofs.Try.f113 0) L_laws_markEqS_0 x = Wh.laws_markEqS_l0 x := by intro x; kernel_rfl
theorem e_laws_markEqS : ∀ xs, evT C_laws_markEqS lt_laws_markEqS Go.Proofs.Try.f113 [.v (.lst tImplEq), .v (.int .i64)] [.v (.int .i64)] xs = Wh.laws_markEqS xs := by intro xs; kernel_rfl
theorem ok_laws_markEqS : ConOk Go.Proofs.Try.prog K_laws_markEqS := con_ok (Ls := [L_laws_markEqS_0]) mixed (cx_ok _) (fk_laws_markText _ (fk_laws_markIntS _ (FnOk.nil Tab))) Go.Proofs.Try.func113 (loopsL_cons (by kernel_rfl) (loopD_ok r_laws_markEqS_0) (loopsL_nil (by kernel_rfl))) e_laws_markEqS
theorem fk_laws_markEqS (fns : List (Nat × List Go.Ab.Mode × (List Arg → Option Res))) (h : FnOk Go.Proofs.Try.prog ⟨Tab, fns⟩) : FnOk Go.Proofs.Try.prog ⟨Tab, K_laws_markEqS.entry :: fns⟩ := h.cons K_laws_markEqS (by kernel_rfl) Wh.laws_markEqS_v ok_laws_markEqS

def K_laws_markSolver : Con := ⟨80, [.v tImplSolver, .v (.int .i64)], [.v (.int .i64)], Wh.laws_markSolver, Wh.laws_markSolver'⟩
def C_laws_markSolver : Cx := ⟨Tab, [K_laws_markEqS.entry]⟩
def lt_laws_markSolver : List (Nat × LoopD) := []
theorem e_laws_markSolver : ∀ xs, evT C_laws_markSolver lt_laws_markSolver Go.Proofs.Try.f80 [.v tImplSolver, .v (.int .i64)] [.v (.int .i64)] xs = Wh.laws_markSolver xs := by intro xs; kernel_rfl
theorem ok_laws_markSolver : ConOk Go.Proofs.Try.prog K_laws_markSolver := con_ok (Ls := []) mixed (cx_ok _) (fk_laws_markEqS _ (FnOk.nil Tab)) Go.Proofs.Try.func80 (loopsL_nil (by kernel_rfl)) e_laws_markSolver
theorem fk_laws_markSolver (fns : List (Nat × List Go.Ab.Mode × (List Arg → Option Res))) (h : FnOk Go.Proofs.Try.prog ⟨Tab, fns⟩) : FnOk Go.Proofs.Try.prog ⟨Tab, K_laws_markSolver.entry :: fns⟩ := h.cons K_laws_markSolver (by kernel_rfl) Wh.laws_markSolver_v ok_laws_markSolver

def K_laws_markGetting : Con := ⟨41, [.v tImplGetting, .v (.int .i64)], [.v (.int .i64)], Wh.laws_markGetting, Wh.laws_markGetting'⟩
def C_laws_markGetting : Cx := ⟨Tab, [K_laws_markSolver.entry, K_laws_markPlan.entry]⟩
def lt_laws_markGetting : List (Nat × LoopD) := []
theorem e_laws_markGetting : ∀ xs, evT C_laws_markGetting lt_laws_markGetting Go.Proofs.Try.f41 [.v tImplGetting, .v (.int .i64)] [.v (.int .i64)] xs = Wh.laws_markGetting xs := by intro xs; kernel_rfl
theorem ok_laws_markGetting : ConOk Go.Proofs.Try.prog K_laws_markGetting := con_ok (Ls := []) mixed (cx_ok _) (fk_laws_markSolver _ (fk_laws_markPlan _ (FnOk.nil Tab))) Go.Proofs.Try.func41 (loopsL_nil (by kernel_rfl)) e_laws_markGetting
theorem fk_laws_markGetting (fns : List (Nat × List Go.Ab.Mode × (List Arg → Option Res))) (h : FnOk Go.Proofs.Try.prog ⟨Tab, fns⟩) : FnOk Go.Proofs.Try.prog ⟨Tab, K_laws_markGetting.entry :: fns⟩ := h.cons K_laws_markGetting (by kernel_rfl) Wh.laws_markGetting_v ok_laws_markGetting

def K_laws_markClient : Con := ⟨14, [.v tImplClient, .v (.int .i64)], [.v (.int .i64)], Wh.laws_markClient, Wh.laws_markClient'⟩
def C_laws_markClient : Cx := ⟨Tab, [K_laws_markGetting.entry]⟩
def lt_laws_markClient : List (Nat × LoopD) := []
theorem e_laws_markClient : ∀ xs, evT C_laws_markClient lt_laws_markClient Go.Proofs.Try.f14 [.v tImplClient, .v (.int .i64)] [.v (.int .i64)] xs = Wh.laws_markClient xs := by intro xs; kernel_rfl
theorem ok_laws_markClient : ConOk Go.Proofs.Try.prog K_laws_markClient := con_ok (Ls := []) mixed (cx_ok _) (fk_laws_markGetting _ (FnOk.nil Tab)) Go.Proofs.Try.func14 (loopsL_nil (by kernel_rfl)) e_laws_markClient
theorem fk_laws_markClient (fns : List (Nat × List Go.Ab.Mode × (List Arg → Option Res))) (h : FnOk Go.Proofs.Try.prog ⟨Tab, fns⟩) : FnOk Go.Proofs.Try.prog ⟨Tab, K_laws_markClient.entry :: fns⟩ := h.cons K_laws_markClient (by kernel_rfl) Wh.laws_markClient_v ok_laws_markClient

def K_laws_heldIntS : Con := ⟨118, [.v (.lst (.int .i64)), .v (.int .i64)], [.v (.int .i64)], Wh.laws_heldIntS, Wh.laws_heldIntS'⟩
def C_laws_heldIntS : Cx := ⟨Tab, []⟩
def L_laws_heldIntS_0 : LoopD := loopD ⟨[(5, .leaf (.int .i64)), (1, .leaf (.int .i64)), (0, .leaf (.lst (.int .i64)))], []⟩ [(.ret, ⟨[(4, .leaf (.int .i64))], []⟩), ((.exit 0), ⟨[(1, .leaf (.int .i64))], []⟩)] Wh.laws_heldIntS_l0_y Wh.laws_heldIntS_l0
def lt_laws_heldIntS : List (Nat × LoopD) := [(2, L_laws_heldIntS_0)]
theorem r_laws_heldIntS_0 : ∀ x, round C_laws_heldIntS lt_laws_heldIntS (nthLoop Go.Proofs.Try.f118 0) L_laws_heldIntS_0 x = Wh.laws_heldIntS_l0 x := by intro x; kernel_rfl
theorem e_laws_heldIntS : ∀ xs, evT C_laws_heldIntS lt_laws_heldIntS Go.Proofs.Try.f118 [.v (.lst (.int .i64)), .v (.int .i64)] [.v (.int .i64)] xs = Wh.laws_heldIntS xs := by intro xs; kernel_rfl
theorem ok_laws_heldIntS : ConOk Go.Proofs.Try.prog K_laws_heldIntS := con_ok (Ls := [L_laws_heldIntS_0]) mixed (cx_ok _) (FnOk.nil Tab) Go.Proofs.Try.func118 (loopsL_cons (by kernel_rfl) (loopD_ok r_laws_heldIntS_0) (loopsL_nil (by kernel_rfl))) e_laws_heldIntS
theorem fk_laws_heldIntS (fns : List (Nat × List Go.Ab.Mode × (List Arg → Option Res))) (h : FnOk Go.Proofs.Try.prog ⟨Tab, fns⟩) : FnOk Go.Proofs.Try.prog ⟨Tab, K_laws_heldIntS.entry :: fns⟩ := h.cons K_laws_heldIntS (by kernel_rfl) Wh.laws_heldIntS_v ok_laws_heldIntS

def K_laws_heldPlan : Con := ⟨81, [.v tImplPlan, .v (.int .i64)], [.v (.int .i64)], Wh.laws_heldPlan, Wh.laws_heldPlan'⟩
def C_laws_heldPlan : Cx := ⟨Tab, [K_laws_heldIntS.entry]⟩
def lt_laws_heldPlan : List (Nat × LoopD) := []
theorem e_laws_heldPlan : ∀ xs, evT C_laws_heldPlan lt_laws_heldPlan Go.Proofs.Try.f81 [.v tImplPlan, .v (.int .i64)] [.v (.int .i64)] xs = Wh.laws_heldPlan xs := by intro xs; kernel_rfl
theorem ok_laws_heldPlan : ConOk Go.Proofs.Try.prog K_laws_heldPlan := con_ok (Ls := []) mixed (cx_ok _) (fk_laws_heldIntS _ (FnOk.nil Tab)) Go.Proofs.Try.func81 (loopsL_nil (by kernel_rfl)) e_laws_heldPlan
theorem fk_laws_heldPlan (fns : List (Nat × List Go.Ab.Mode × (List Arg → Option Res))) (h : FnOk Go.Proofs.Try.prog ⟨Tab, fns⟩) : FnOk Go.Proofs.Try.prog ⟨Tab, K_laws_heldPlan.entry :: fns⟩ := h.cons K_laws_heldPlan (by kernel_rfl) Wh.laws_heldPlan_v ok_laws_heldPlan

def K_laws_heldEqS : Con := ⟨119, [.v (.lst tImplEq), .v (.int .i64)], [.v (.int .i64)], Wh.laws_heldEqS, Wh.laws_heldEqS'⟩
def C_laws_heldEqS : Cx := ⟨Tab, [K_laws_markText.entry, K_laws_heldIntS.entry]⟩
def L_laws_heldEqS_0 : LoopD := loopD ⟨[(5, .leaf (.int .i64)), (0, .leaf (.lst tImplEq)), (1, .leaf (.int .i64))], []⟩ [(.ret, ⟨[(4, .leaf (.int .i64))], []⟩), ((.exit 0), ⟨[(1, .leaf (.int .i64))], []⟩)] Wh.laws_heldEqS_l0_y Wh.laws_heldEqS_l0
def lt_laws_heldEqS : List (Nat × LoopD) := [(2, L_laws_heldEqS_0)]
theorem r_laws_heldEqS_0 : ∀ x, round C_laws_heldEqS lt_laws_heldEqS (nthLoop Go.Proofs.Try.f119 0) L_laws_heldEqS_0 x = Wh.laws_heldEqS_l0 x := by intro x; kernel_rfl
theorem e_laws_heldEqS : ∀ xs, evT C_laws_heldEqS lt_laws_heldEqS Go.Proofs.Try.f119 [.v (.lst tImplEq), .v (.int .i64)] [.v (.int .i64)] xs = Wh.laws_heldEqS xs := by intro xs; kernel_rfl
theorem ok_laws_heldEqS : ConOk Go.Proofs.Try.prog K_laws_heldEqS := con_ok (Ls := [L_laws_heldEqS_0]) mixed (cx_ok _) (fk_laws_markText _ (fk_laws_heldIntS _ (FnOk.nil Tab))) Go.Proofs.Try.func119 (loopsL_cons (by kernel_rfl) (loopD_ok r_laws_heldEqS_0) (loopsL_nil (by kernel_rfl))) e_laws_heldEqS
theorem fk_laws_heldEqS (fns : List (Nat × List Go.Ab.Mode × (List Arg → Option Res))) (h : FnOk Go.Proofs.Try.prog ⟨Tab, fns⟩) : FnOk Go.Proofs.Try.prog ⟨Tab, K_laws_heldEqS.entry :: fns⟩ := h.cons K_laws_heldEqS (by kernel_rfl) Wh.laws_heldEqS_v ok_laws_heldEqS

def K_laws_heldSolver : Con := ⟨82, [.v tImplSolver, .v (.int .i64)], [.v (.int .i64)], Wh.laws_heldSolver, Wh.laws_heldSolver'⟩
def C_laws_heldSolver : Cx := ⟨Tab, [K_laws_heldEqS.entry]⟩
def lt_laws_heldSolver : List (Nat × LoopD) := []
theorem e_laws_heldSolver : ∀ xs, evT C_laws_heldSolver lt_laws_heldSolver Go.Proofs.Try.f82 [.v tImplSolver, .v (.int .i64)] [.v (.int .i64)] xs = Wh.laws_heldSolver xs := by intro xs; kernel_rfl
theorem ok_laws_heldSolver : ConOk Go.Proofs.Try.prog K_laws_heldSolver := con_ok (Ls := []) mixed (cx_ok _) (fk_laws_heldEqS _ (FnOk.nil Tab)) Go.Proofs.Try.func82 (loopsL_nil (by kernel_rfl)) e_laws_heldSolver
theorem fk_laws_heldSolver (fns : List (Nat × List Go.Ab.Mode × (List Arg → Option Res))) (h : FnOk Go.Proofs.Try.prog ⟨Tab, fns⟩) : FnOk Go.Proofs.Try.prog ⟨Tab, K_laws_heldSolver.entry :: fns⟩ := h.cons K_laws_heldSolver (by kernel_rfl) Wh.laws_heldSolver_v ok_laws_heldSolver

def K_laws_heldGetting : Con := ⟨42, [.v tImplGetting, .v (.int .i64)], [.v (.int .i64)], Wh.laws_heldGetting, Wh.laws_heldGetting'⟩
def C_laws_heldGetting : Cx := ⟨Tab, [K_laws_heldSolver.entry, K_laws_heldPlan.entry]⟩
def lt_laws_heldGetting : List (Nat × LoopD) := []
theorem e_laws_heldGetting : ∀ xs, evT C_laws_heldGetting lt_laws_heldGetting Go.Proofs.Try.f42 [.v tImplGetting, .v (.int .i64)] [.v (.int .i64)] xs = Wh.laws_heldGetting xs := by intro xs; kernel_rfl
theorem ok_laws_heldGetting : ConOk Go.Proofs.Try.prog K_laws_heldGetting := con_ok (Ls := []) mixed (cx_ok _) (fk_laws_heldSolver _ (fk_laws_heldPlan _ (FnOk.nil Tab))) Go.Proofs.Try.func42 (loopsL_nil (by kernel_rfl)) e_laws_heldGetting
theorem fk_laws_heldGetting (fns : List (Nat × List Go.Ab.Mode × (List Arg → Option Res))) (h : FnOk Go.Proofs.Try.prog ⟨Tab, fns⟩) : FnOk Go.Proofs.Try.prog ⟨Tab, K_laws_heldGetting.entry :: fns⟩ := h.cons K_laws_heldGetting (by kernel_rfl) Wh.laws_heldGetting_v ok_laws_heldGetting

def K_laws_heldClient : Con := ⟨15, [.v tImplClient, .v (.int .i64)], [.v (.int .i64)], Wh.laws_heldClient, Wh.laws_heldClient'⟩
def C_laws_heldClient : Cx := ⟨Tab, [K_laws_heldGetting.entry]⟩
def lt_laws_heldClient : List (Nat × LoopD) := []
theorem e_laws_heldClient : ∀ xs, evT C_laws_heldClient lt_laws_heldClient Go.Proofs.Try.f15 [.v tImplClient, .v (.int .i64)] [.v (.int .i64)] xs = Wh.laws_heldClient xs := by intro xs; kernel_rfl
theorem ok_laws_heldClient : ConOk Go.Proofs.Try.prog K_laws_heldClient := con_ok (Ls := []) mixed (cx_ok _) (fk_laws_heldGetting _ (FnOk.nil Tab)) Go.Proofs.Try.func15 (loopsL_nil (by kernel_rfl)) e_laws_heldClient
theorem fk_laws_heldClient (fns : List (Nat × List Go.Ab.Mode × (List Arg → Option Res))) (h : FnOk Go.Proofs.Try.prog ⟨Tab, fns⟩) : FnOk Go.Proofs.Try.prog ⟨Tab, K_laws_heldClient.entry :: fns⟩ := h.cons K_laws_heldClient (by kernel_rfl) Wh.laws_heldClient_v ok_laws_heldClient

def K_laws_FnExactClientNew : Con := ⟨3, [.v (.int .i64)], [.v .bool], Wh.laws_FnExactClientNew, Wh.laws_FnExactClientNew'⟩
def C_laws_FnExactClientNew : Cx := ⟨Tab, [K_laws_heldClient.entry, K_laws_markClient.entry, K_laws_eqClient.entry, K_impl_ClientNew.entry, K_spec_ClientNew.entry]⟩
def lt_laws_FnExactClientNew : List (Nat × LoopD) := []
theorem e_laws_FnExactClientNew : ∀ xs, evT C_laws_FnExactClientNew lt_laws_FnExactClientNew Go.Proofs.Try.f3 [.v (.int .i64)] [.v .bool] xs = Wh.laws_FnExactClientNew xs := by intro xs; kernel_rfl
theorem ok_laws_FnExactClientNew : ConOk Go.Proofs.Try.prog K_laws_FnExactClientNew := con_ok (Ls := []) mixed (cx_ok _) (fk_laws_heldClient _ (fk_laws_markClient _ (fk_laws_eqClient _ (fk_impl_ClientNew _ (fk_spec_ClientNew _ (FnOk.nil Tab)))))) Go.Proofs.Try.func3 (loopsL_nil (by kernel_rfl)) e_laws_FnExactClientNew
theorem fk_laws_FnExactClientNew (fns : List (Nat × List Go.Ab.Mode × (List Arg → Option Res))) (h : FnOk Go.Proofs.Try.prog ⟨Tab, fns⟩) : FnOk Go.Proofs.Try.prog ⟨Tab, K_laws_FnExactClientNew.entry :: fns⟩ := h.cons K_laws_FnExactClientNew (by kernel_rfl) Wh.laws_FnExactClientNew_v ok_laws_FnExactClientNew

end
end Go.Proofs.Walk
