import Derived.Test.YtpdphbjjfepigaaP5
import Derived.Test.YtpdphbjjfepigaaProg
import Derived.KernelRfl
open Go Go.Ab
namespace Go.Proofs.Walk
noncomputable section
def Tab : List (Nat × TI) := [(2, ⟨(.int .i64), 0⟩), (3, ⟨(.int .i64), 0⟩), (4, ⟨.bool, 0⟩), (5, ⟨(.int .u8), 0⟩), (6, ⟨(.int .u8), 0⟩), (7, ⟨tRuntimeBoundsError, 0⟩), (8, ⟨tRuntimeBoundsError, 0⟩), (9, ⟨.str, 0⟩), (10, ⟨.str, 0⟩), (11, ⟨.str, 0⟩), (12, ⟨(.int .u64), 0⟩), (13, ⟨tRuntimeErrorAddressString, 0⟩), (14, ⟨tRuntimeErrorAddressString, 0⟩), (21, ⟨(.int .i32), 0⟩), (173, ⟨(.int .i32), 0⟩), (172, ⟨(.int .i32), 0⟩), (171, ⟨(.ref (.int .u8)), 0⟩), (169, ⟨(.int .u8), 0⟩), (168, ⟨(.int .u8), 0⟩), (143, ⟨(.int .u32), 0⟩), (22, ⟨(.lst (.int .i64)), 0⟩), (23, ⟨tImplPlan, 0⟩), (24, ⟨tImplPlan, 0⟩), (138, ⟨tImplEq, 0⟩), (139, ⟨tImplEq, 0⟩), (25, ⟨(.lst tImplEq), 0⟩), (26, ⟨tImplSolver, 0⟩), (27, ⟨tImplSolver, 0⟩), (28, ⟨tImplGetting, 0⟩), (29, ⟨tImplGetting, 0⟩), (30, ⟨tImplClient, 0⟩), (31, ⟨tImplClient, 0⟩), (36, ⟨tImplPlan, 0⟩), (157, ⟨tImplEq, 0⟩), (37, ⟨(.lst tImplEq), 0⟩), (38, ⟨tImplSolver, 0⟩), (39, ⟨tImplSolver, 0⟩), (40, ⟨tImplGetting, 0⟩), (41, ⟨tImplGetting, 0⟩), (42, ⟨tImplClient, 0⟩), (43, ⟨tImplClient, 0⟩), (85, ⟨tImplWord, 0⟩), (86, ⟨tImplWord, 0⟩), (49, ⟨(.lst tImplWord), 0⟩), (127, ⟨tImplItem, 0⟩), (128, ⟨tImplItem, 0⟩), (57, ⟨(.lst tImplItem), 0⟩), (58, ⟨tImplCat, 0⟩), (59, ⟨tImplCat, 0⟩), (160, ⟨tImplFrame, 0⟩), (161, ⟨tImplFrame, 0⟩), (60, ⟨(.lst tImplFrame), 0⟩), (61, ⟨tImplPool, 0⟩), (62, ⟨tImplPool, 0⟩), (147, ⟨tImplBucket, 0⟩), (148, ⟨tImplBucket, 0⟩), (63, ⟨(.lst tImplBucket), 0⟩), (152, ⟨tImplServe, 0⟩), (153, ⟨tImplServe, 0⟩), (64, ⟨(.lst tImplServe), 0⟩), (65, ⟨tImplServer, 0⟩), (66, ⟨tImplServer, 0⟩), (67, ⟨(.lst tImplClient), 0⟩), (124, ⟨tImplPacket, 0⟩), (125, ⟨tImplPacket, 0⟩), (68, ⟨(.lst tImplPacket), 0⟩), (69, ⟨tImplWorld, 0⟩), (70, ⟨tImplWorld, 0⟩), (114, ⟨(.lst (.int .u8)), 0⟩)]
theorem tab_ok : allL (fun x => (tyB Go.Proofs.Try.prog x.2.t).1 x.1) Tab = true := by kernel_rfl
theorem cx_ok (fns : List (Nat × List Go.Ab.Mode × (List Arg → Option Res))) (dp : Bool) : CxOk Go.Proofs.Try.prog ⟨Tab, fns, dp⟩ := cxOk_of tab_ok
theorem mixed : Go.Proofs.Try.prog.follows .mixedOrders = true := by kernel_rfl
def noLoop : LoopD := ⟨⟨[], []⟩, [(.ret, ⟨[], []⟩)], fun _ => false, fun _ => ((), ())⟩

def K_spec_l10New : Con := ⟨99, [], [.v (.pair (.own tImplFrame) (.pair (.int .i64) .unit))], Wh.spec_l10New, Wh.spec_l10New'⟩
def C_spec_l10New : Cx := ⟨Tab, [], false⟩
def lt_spec_l10New : List (Nat × LoopD) := []
theorem e_spec_l10New : ∀ xs, evT C_spec_l10New lt_spec_l10New Go.Proofs.Try.f99 [] [.v (.pair (.own tImplFrame) (.pair (.int .i64) .unit))] xs = Wh.spec_l10New xs := by intro xs; kernel_rfl
theorem ok_spec_l10New : ConOk Go.Proofs.Try.prog K_spec_l10New := con_ok (Ls := []) mixed (cx_ok _ _) (FnOk.nil Tab false) Go.Proofs.Try.func99 (loopsL_nil (by kernel_rfl)) e_spec_l10New
theorem fk_spec_l10New (fns : List (Nat × List Go.Ab.Mode × (List Arg → Option Res))) {dp : Bool} (h : FnOk Go.Proofs.Try.prog ⟨Tab, fns, dp⟩) : FnOk Go.Proofs.Try.prog ⟨Tab, K_spec_l10New.entry :: fns, dp⟩ := h.cons K_spec_l10New (by kernel_rfl) Wh.spec_l10New_v ok_spec_l10New

def K_spec_l12Buckets : Con := ⟨100, [.v (.int .i64)], [.v (.own tImplBucket)], Wh.spec_l12Buckets, Wh.spec_l12Buckets'⟩
def C_spec_l12Buckets : Cx := ⟨Tab, [], false⟩
def L_spec_l12Buckets_0 : LoopD := loopD ⟨[(4, .leaf (.int .i64)), (0, .leaf (.int .i64)), (3, .whole 500000000 tImplBucket)], [(500000000, false, .rows tImplBucket)]⟩ [((.exit 0), ⟨[(3, .whole 500000000 tImplBucket)], [(500000000, false, .rows tImplBucket)]⟩)] Wh.spec_l12Buckets_l0_y Wh.spec_l12Buckets_l0
def lt_spec_l12Buckets : List (Nat × LoopD) := [(3, L_spec_l12Buckets_0)]
theorem r_spec_l12Buckets_0 : ∀ x, round C_spec_l12Buckets lt_spec_l12Buckets (nthLoop Go.Proofs.Try.f100 0) L_spec_l12Buckets_0 x = Wh.spec_l12Buckets_l0 x := by intro x; kernel_rfl
theorem e_spec_l12Buckets : ∀ xs, evT C_spec_l12Buckets lt_spec_l12Buckets Go.Proofs.Try.f100 [.v (.int .i64)] [.v (.own tImplBucket)] xs = Wh.spec_l12Buckets xs := by intro xs; kernel_rfl
theorem ok_spec_l12Buckets : ConOk Go.Proofs.Try.prog K_spec_l12Buckets := con_ok (Ls := [L_spec_l12Buckets_0]) mixed (cx_ok _ _) (FnOk.nil Tab false) Go.Proofs.Try.func100 (loopsL_cons (by kernel_rfl) (loopD_ok r_spec_l12Buckets_0) (loopsL_nil (by kernel_rfl))) e_spec_l12Buckets
theorem fk_spec_l12Buckets (fns : List (Nat × List Go.Ab.Mode × (List Arg → Option Res))) {dp : Bool} (h : FnOk Go.Proofs.Try.prog ⟨Tab, fns, dp⟩) : FnOk Go.Proofs.Try.prog ⟨Tab, K_spec_l12Buckets.entry :: fns, dp⟩ := h.cons K_spec_l12Buckets (by kernel_rfl) Wh.spec_l12Buckets_v ok_spec_l12Buckets

def K_spec_ServerNew : Con := ⟨63, [], [.v (.pair .bool (.pair (.int .i64) (.pair .str (.pair (.pair (.int .i64) (.pair (.own tImplItem) .unit)) (.pair (.pair (.own tImplFrame) (.pair (.int .i64) .unit)) (.pair (.own tImplBucket) (.pair (.own tImplServe) .unit)))))))], Wh.spec_ServerNew, Wh.spec_ServerNew'⟩
def C_spec_ServerNew : Cx := ⟨Tab, [K_spec_l12Buckets.entry, K_spec_l10New.entry], false⟩
def lt_spec_ServerNew : List (Nat × LoopD) := []
theorem e_spec_ServerNew : ∀ xs, evT C_spec_ServerNew lt_spec_ServerNew Go.Proofs.Try.f63 [] [.v (.pair .bool (.pair (.int .i64) (.pair .str (.pair (.pair (.int .i64) (.pair (.own tImplItem) .unit)) (.pair (.pair (.own tImplFrame) (.pair (.int .i64) .unit)) (.pair (.own tImplBucket) (.pair (.own tImplServe) .unit)))))))] xs = Wh.spec_ServerNew xs := by intro xs; kernel_rfl
theorem ok_spec_ServerNew : ConOk Go.Proofs.Try.prog K_spec_ServerNew := con_ok (Ls := []) mixed (cx_ok _ _) (fk_spec_l12Buckets _ (fk_spec_l10New _ (FnOk.nil Tab false))) Go.Proofs.Try.func63 (loopsL_nil (by kernel_rfl)) e_spec_ServerNew
theorem fk_spec_ServerNew (fns : List (Nat × List Go.Ab.Mode × (List Arg → Option Res))) {dp : Bool} (h : FnOk Go.Proofs.Try.prog ⟨Tab, fns, dp⟩) : FnOk Go.Proofs.Try.prog ⟨Tab, K_spec_ServerNew.entry :: fns, dp⟩ := h.cons K_spec_ServerNew (by kernel_rfl) Wh.spec_ServerNew_v ok_spec_ServerNew

def K_spec_l1In : Con := ⟨38, [.v (.int .i64), .v (.int .i64), .v (.int .i64)], [.v .bool], Wh.spec_l1In, Wh.spec_l1In'⟩
def C_spec_l1In : Cx := ⟨Tab, [], false⟩
def lt_spec_l1In : List (Nat × LoopD) := []
theorem e_spec_l1In : ∀ xs, evT C_spec_l1In lt_spec_l1In Go.Proofs.Try.f38 [.v (.int .i64), .v (.int .i64), .v (.int .i64)] [.v .bool] xs = Wh.spec_l1In xs := by intro xs; kernel_rfl
theorem ok_spec_l1In : ConOk Go.Proofs.Try.prog K_spec_l1In := con_ok (Ls := []) mixed (cx_ok _ _) (FnOk.nil Tab false) Go.Proofs.Try.func38 (loopsL_nil (by kernel_rfl)) e_spec_l1In
theorem fk_spec_l1In (fns : List (Nat × List Go.Ab.Mode × (List Arg → Option Res))) {dp : Bool} (h : FnOk Go.Proofs.Try.prog ⟨Tab, fns, dp⟩) : FnOk Go.Proofs.Try.prog ⟨Tab, K_spec_l1In.entry :: fns, dp⟩ := h.cons K_spec_l1In (by kernel_rfl) Wh.spec_l1In_v ok_spec_l1In

def K_spec_ClientNew : Con := ⟨11, [.v (.int .i64)], [.v (.pair (.int .i64) (.pair (.int .i64) (.pair (.int .i64) (.pair .str (.pair (.int .i64) (.pair (.pair (.pair (.int .i64) (.pair (.int .i64) (.pair (.own (.int .i64)) (.pair (.own (.int .i64)) .unit)))) (.pair (.pair (.int .i64) (.pair (.int .i64) (.pair (.own tImplEq) .unit))) .unit)) .unit))))))], Wh.spec_ClientNew, Wh.spec_ClientNew'⟩
def C_spec_ClientNew : Cx := ⟨Tab, [K_spec_l1In.entry], false⟩
def lt_spec_ClientNew : List (Nat × LoopD) := []
theorem e_spec_ClientNew : ∀ xs, evT C_spec_ClientNew lt_spec_ClientNew Go.Proofs.Try.f11 [.v (.int .i64)] [.v (.pair (.int .i64) (.pair (.int .i64) (.pair (.int .i64) (.pair .str (.pair (.int .i64) (.pair (.pair (.pair (.int .i64) (.pair (.int .i64) (.pair (.own (.int .i64)) (.pair (.own (.int .i64)) .unit)))) (.pair (.pair (.int .i64) (.pair (.int .i64) (.pair (.own tImplEq) .unit))) .unit)) .unit))))))] xs = Wh.spec_ClientNew xs := by intro xs; kernel_rfl
theorem ok_spec_ClientNew : ConOk Go.Proofs.Try.prog K_spec_ClientNew := con_ok (Ls := []) mixed (cx_ok _ _) (fk_spec_l1In _ (FnOk.nil Tab false)) Go.Proofs.Try.func11 (loopsL_nil (by kernel_rfl)) e_spec_ClientNew
theorem fk_spec_ClientNew (fns : List (Nat × List Go.Ab.Mode × (List Arg → Option Res))) {dp : Bool} (h : FnOk Go.Proofs.Try.prog ⟨Tab, fns, dp⟩) : FnOk Go.Proofs.Try.prog ⟨Tab, K_spec_ClientNew.entry :: fns, dp⟩ := h.cons K_spec_ClientNew (by kernel_rfl) Wh.spec_ClientNew_v ok_spec_ClientNew

def K_spec_WorldNew : Con := ⟨33, [], [.v (.pair (.pair .bool (.pair (.int .i64) (.pair .str (.pair (.pair (.int .i64) (.pair (.own tImplItem) .unit)) (.pair (.pair (.own tImplFrame) (.pair (.int .i64) .unit)) (.pair (.own tImplBucket) (.pair (.own tImplServe) .unit))))))) (.pair (.own tImplClient) (.pair (.own tImplPacket) (.pair (.own tImplItem) .unit))))], Wh.spec_WorldNew, Wh.spec_WorldNew'⟩
def C_spec_WorldNew : Cx := ⟨Tab, [K_spec_ClientNew.entry, K_spec_ServerNew.entry], false⟩
def L_spec_WorldNew_0 : LoopD := loopD ⟨[(2, .leaf (.int .i64)), (1, .vptr 500000000 []), (0, .vptr 500000001 [])], [(500000000, false, .var tImplWorld (.pair (.pair (.leaf .bool) (.pair (.leaf (.int .i64)) (.pair (.leaf .str) (.pair (.pair (.leaf (.int .i64)) (.pair (.whole 500000002 tImplItem) (.leaf .unit))) (.pair (.pair (.whole 500000003 tImplFrame) (.leaf (.pair (.int .i64) .unit))) (.pair (.whole 500000004 tImplBucket) (.pair (.whole 500000005 tImplServe) (.leaf .unit)))))))) (.pair (.whole 500000006 tImplClient) (.pair (.whole 500000007 tImplPacket) (.pair (.whole 500000008 tImplItem) (.leaf .unit)))))), (500000001, false, .var tImplWorld (.pair (.pair (.leaf .bool) (.pair (.leaf (.int .i64)) (.pair (.leaf .str) (.pair (.pair (.leaf (.int .i64)) (.pair (.whole 500000009 tImplItem) (.leaf .unit))) (.pair (.pair (.whole 500000010 tImplFrame) (.pair (.leaf (.int .i64)) (.leaf .unit))) (.pair (.whole 500000011 tImplBucket) (.pair (.whole 500000012 tImplServe) (.leaf .unit)))))))) (.pair (.whole 500000013 tImplClient) (.pair (.whole 500000014 tImplPacket) (.pair (.whole 500000015 tImplItem) (.leaf .unit)))))), (500000002, false, .rows tImplItem), (500000003, false, .rows tImplFrame), (500000004, false, .rows tImplBucket), (500000005, false, .rows tImplServe), (500000006, false, .rows tImplClient), (500000007, false, .rows tImplPacket), (500000008, false, .rows tImplItem), (500000009, false, .rows tImplItem), (500000010, false, .rows tImplFrame), (500000011, false, .rows tImplBucket), (500000012, false, .rows tImplServe), (500000013, false, .rows tImplClient), (500000014, false, .rows tImplPacket), (500000015, false, .rows tImplItem)]⟩ [((.exit 0), ⟨[(0, .vptr 500000000 []), (1, .vptr 500000001 [])], [(500000000, false, .var tImplWorld (.pair (.pair (.leaf .bool) (.pair (.leaf (.int .i64)) (.pair (.leaf .str) (.pair (.pair (.leaf (.int .i64)) (.pair (.whole 500000002 tImplItem) (.leaf .unit))) (.pair (.pair (.whole 500000003 tImplFrame) (.pair (.leaf (.int .i64)) (.leaf .unit))) (.pair (.whole 500000004 tImplBucket) (.pair (.whole 500000005 tImplServe) (.leaf .unit)))))))) (.pair (.whole 500000006 tImplClient) (.pair (.whole 500000007 tImplPacket) (.pair (.whole 500000008 tImplItem) (.leaf .unit)))))), (500000001, false, .var tImplWorld (.pair (.pair (.leaf .bool) (.pair (.leaf (.int .i64)) (.pair (.leaf .str) (.pair (.pair (.leaf (.int .i64)) (.pair (.whole 500000009 tImplItem) (.leaf .unit))) (.pair (.pair (.whole 500000010 tImplFrame) (.leaf (.pair (.int .i64) .unit))) (.pair (.whole 500000011 tImplBucket) (.pair (.whole 500000012 tImplServe) (.leaf .unit)))))))) (.pair (.whole 500000013 tImplClient) (.pair (.whole 500000014 tImplPacket) (.pair (.whole 500000015 tImplItem) (.leaf .unit)))))), (500000002, false, .rows tImplItem), (500000003, false, .rows tImplFrame), (500000004, false, .rows tImplBucket), (500000005, false, .rows tImplServe), (500000006, false, .rows tImplClient), (500000007, false, .rows tImplPacket), (500000008, false, .rows tImplItem), (500000009, false, .rows tImplItem), (500000010, false, .rows tImplFrame), (500000011, false, .rows tImplBucket), (500000012, false, .rows tImplServe), (500000013, false, .rows tImplClient), (500000014, false, .rows tImplPacket), (500000015, false, .rows tImplItem)]⟩)] Wh.spec_WorldNew_l0_y Wh.spec_WorldNew_l0
def lt_spec_WorldNew : List (Nat × LoopD) := [(3, L_spec_WorldNew_0)]
theorem r_spec_WorldNew_0 : ∀ x, round C_spec_WorldNew lt_spec_WorldNew (nthLoop Go.Proofs.Try.f33 0) L_spec_WorldNew_0 x = Wh.spec_WorldNew_l0 x := by intro x; kernel_rfl
theorem e_spec_WorldNew : ∀ xs, evT C_spec_WorldNew lt_spec_WorldNew Go.Proofs.Try.f33 [] [.v (.pair (.pair .bool (.pair (.int .i64) (.pair .str (.pair (.pair (.int .i64) (.pair (.own tImplItem) .unit)) (.pair (.pair (.own tImplFrame) (.pair (.int .i64) .unit)) (.pair (.own tImplBucket) (.pair (.own tImplServe) .unit))))))) (.pair (.own tImplClient) (.pair (.own tImplPacket) (.pair (.own tImplItem) .unit))))] xs = Wh.spec_WorldNew xs := by intro xs; kernel_rfl
theorem ok_spec_WorldNew : ConOk Go.Proofs.Try.prog K_spec_WorldNew := con_ok (Ls := [L_spec_WorldNew_0]) mixed (cx_ok _ _) (fk_spec_ClientNew _ (fk_spec_ServerNew _ (FnOk.nil Tab false))) Go.Proofs.Try.func33 (loopsL_cons (by kernel_rfl) (loopD_ok r_spec_WorldNew_0) (loopsL_nil (by kernel_rfl))) e_spec_WorldNew
theorem fk_spec_WorldNew (fns : List (Nat × List Go.Ab.Mode × (List Arg → Option Res))) {dp : Bool} (h : FnOk Go.Proofs.Try.prog ⟨Tab, fns, dp⟩) : FnOk Go.Proofs.Try.prog ⟨Tab, K_spec_WorldNew.entry :: fns, dp⟩ := h.cons K_spec_WorldNew (by kernel_rfl) Wh.spec_WorldNew_v ok_spec_WorldNew

def K_impl_poolNew : Con := ⟨134, [], [.v (.pair (.own tImplFrame) (.pair (.int .i64) .unit))], Wh.impl_poolNew, Wh.impl_poolNew'⟩
def C_impl_poolNew : Cx := ⟨Tab, [], false⟩
def lt_impl_poolNew : List (Nat × LoopD) := []
theorem e_impl_poolNew : ∀ xs, evT C_impl_poolNew lt_impl_poolNew Go.Proofs.Try.f134 [] [.v (.pair (.own tImplFrame) (.pair (.int .i64) .unit))] xs = Wh.impl_poolNew xs := by intro xs; kernel_rfl
theorem ok_impl_poolNew : ConOk Go.Proofs.Try.prog K_impl_poolNew := con_ok (Ls := []) mixed (cx_ok _ _) (FnOk.nil Tab false) Go.Proofs.Try.func134 (loopsL_nil (by kernel_rfl)) e_impl_poolNew
theorem fk_impl_poolNew (fns : List (Nat × List Go.Ab.Mode × (List Arg → Option Res))) {dp : Bool} (h : FnOk Go.Proofs.Try.prog ⟨Tab, fns, dp⟩) : FnOk Go.Proofs.Try.prog ⟨Tab, K_impl_poolNew.entry :: fns, dp⟩ := h.cons K_impl_poolNew (by kernel_rfl) Wh.impl_poolNew_v ok_impl_poolNew

def K_impl_risen : Con := ⟨101, [.v (.int .i64), .v .str, .k (.pair (.int .i64) (.pair (.own tImplItem) .unit))], [.v (.pair .bool (.pair (.int .i64) (.pair .str (.pair (.pair (.int .i64) (.pair (.own tImplItem) .unit)) (.pair (.pair (.own tImplFrame) (.pair (.int .i64) .unit)) (.pair (.own tImplBucket) (.pair (.own tImplServe) .unit)))))))], Wh.impl_risen, Wh.impl_risen'⟩
def C_impl_risen : Cx := ⟨Tab, [K_impl_poolNew.entry], false⟩
def L_impl_risen_0 : LoopD := loopD ⟨[(15, .leaf (.int .i64)), (7, .vptr 500000000 []), (0, .leaf (.int .i64)), (6, .vptr 500000001 [])], [(500000000, false, .var tImplServer (.pair (.leaf .bool) (.pair (.leaf (.int .i64)) (.pair (.leaf .str) (.pair (.pair (.leaf (.int .i64)) (.pair (.whole 500000002 tImplItem) (.leaf .unit))) (.pair (.pair (.whole 500000003 tImplFrame) (.leaf (.pair (.int .i64) .unit))) (.pair (.whole 500000004 tImplBucket) (.pair (.whole 500000005 tImplServe) (.leaf .unit))))))))), (500000001, false, .var tImplServer (.pair (.leaf .bool) (.pair (.leaf (.int .i64)) (.pair (.leaf .str) (.pair (.pair (.leaf (.int .i64)) (.pair (.whole 500000006 tImplItem) (.leaf .unit))) (.pair (.pair (.whole 500000007 tImplFrame) (.pair (.leaf (.int .i64)) (.leaf .unit))) (.pair (.whole 500000008 tImplBucket) (.pair (.whole 500000009 tImplServe) (.leaf .unit))))))))), (500000002, false, .rows tImplItem), (500000003, false, .rows tImplFrame), (500000004, false, .rows tImplBucket), (500000005, false, .rows tImplServe), (500000006, false, .rows tImplItem), (500000007, false, .rows tImplFrame), (500000008, false, .rows tImplBucket), (500000009, false, .rows tImplServe)]⟩ [((.exit 0), ⟨[(6, .vptr 500000000 []), (7, .vptr 500000001 [])], [(500000000, false, .var tImplServer (.pair (.leaf .bool) (.pair (.leaf (.int .i64)) (.pair (.leaf .str) (.pair (.pair (.leaf (.int .i64)) (.pair (.whole 500000002 tImplItem) (.leaf .unit))) (.pair (.pair (.whole 500000003 tImplFrame) (.pair (.leaf (.int .i64)) (.leaf .unit))) (.pair (.whole 500000004 tImplBucket) (.pair (.whole 500000005 tImplServe) (.leaf .unit))))))))), (500000001, false, .var tImplServer (.pair (.leaf .bool) (.pair (.leaf (.int .i64)) (.pair (.leaf .str) (.pair (.pair (.leaf (.int .i64)) (.pair (.whole 500000006 tImplItem) (.leaf .unit))) (.pair (.pair (.whole 500000007 tImplFrame) (.leaf (.pair (.int .i64) .unit))) (.pair (.whole 500000008 tImplBucket) (.pair (.whole 500000009 tImplServe) (.leaf .unit))))))))), (500000002, false, .rows tImplItem), (500000003, false, .rows tImplFrame), (500000004, false, .rows tImplBucket), (500000005, false, .rows tImplServe), (500000006, false, .rows tImplItem), (500000007, false, .rows tImplFrame), (500000008, false, .rows tImplBucket), (500000009, false, .rows tImplServe)]⟩)] Wh.impl_risen_l0_y Wh.impl_risen_l0
def lt_impl_risen : List (Nat × LoopD) := [(3, L_impl_risen_0)]
theorem r_impl_risen_0 : ∀ x, round C_impl_risen lt_impl_risen (nthLoop Go.Proofs.Try.f101 0) L_impl_risen_0 x = Wh.impl_risen_l0 x := by intro x; kernel_rfl
theorem e_impl_risen : ∀ xs, evT C_impl_risen lt_impl_risen Go.Proofs.Try.f101 [.v (.int .i64), .v .str, .k (.pair (.int .i64) (.pair (.own tImplItem) .unit))] [.v (.pair .bool (.pair (.int .i64) (.pair .str (.pair (.pair (.int .i64) (.pair (.own tImplItem) .unit)) (.pair (.pair (.own tImplFrame) (.pair (.int .i64) .unit)) (.pair (.own tImplBucket) (.pair (.own tImplServe) .unit)))))))] xs = Wh.impl_risen xs := by intro xs; kernel_rfl
theorem ok_impl_risen : ConOk Go.Proofs.Try.prog K_impl_risen := con_ok (Ls := [L_impl_risen_0]) mixed (cx_ok _ _) (fk_impl_poolNew _ (FnOk.nil Tab false)) Go.Proofs.Try.func101 (loopsL_cons (by kernel_rfl) (loopD_ok r_impl_risen_0) (loopsL_nil (by kernel_rfl))) e_impl_risen
theorem fk_impl_risen (fns : List (Nat × List Go.Ab.Mode × (List Arg → Option Res))) {dp : Bool} (h : FnOk Go.Proofs.Try.prog ⟨Tab, fns, dp⟩) : FnOk Go.Proofs.Try.prog ⟨Tab, K_impl_risen.entry :: fns, dp⟩ := h.cons K_impl_risen (by kernel_rfl) Wh.impl_risen_v ok_impl_risen

def K_impl_ServerNew : Con := ⟨64, [], [.v (.pair .bool (.pair (.int .i64) (.pair .str (.pair (.pair (.int .i64) (.pair (.own tImplItem) .unit)) (.pair (.pair (.own tImplFrame) (.pair (.int .i64) .unit)) (.pair (.own tImplBucket) (.pair (.own tImplServe) .unit)))))))], Wh.impl_ServerNew, Wh.impl_ServerNew'⟩
def C_impl_ServerNew : Cx := ⟨Tab, [K_impl_risen.entry], false⟩
def lt_impl_ServerNew : List (Nat × LoopD) := []
theorem e_impl_ServerNew : ∀ xs, evT C_impl_ServerNew lt_impl_ServerNew Go.Proofs.Try.f64 [] [.v (.pair .bool (.pair (.int .i64) (.pair .str (.pair (.pair (.int .i64) (.pair (.own tImplItem) .unit)) (.pair (.pair (.own tImplFrame) (.pair (.int .i64) .unit)) (.pair (.own tImplBucket) (.pair (.own tImplServe) .unit)))))))] xs = Wh.impl_ServerNew xs := by intro xs; kernel_rfl
theorem ok_impl_ServerNew : ConOk Go.Proofs.Try.prog K_impl_ServerNew := con_ok (Ls := []) mixed (cx_ok _ _) (fk_impl_risen _ (FnOk.nil Tab false)) Go.Proofs.Try.func64 (loopsL_nil (by kernel_rfl)) e_impl_ServerNew
theorem fk_impl_ServerNew (fns : List (Nat × List Go.Ab.Mode × (List Arg → Option Res))) {dp : Bool} (h : FnOk Go.Proofs.Try.prog ⟨Tab, fns, dp⟩) : FnOk Go.Proofs.Try.prog ⟨Tab, K_impl_ServerNew.entry :: fns, dp⟩ := h.cons K_impl_ServerNew (by kernel_rfl) Wh.impl_ServerNew_v ok_impl_ServerNew

def K_impl_within : Con := ⟨49, [.v (.int .i64), .v (.int .i64), .v (.int .i64)], [.v .bool], Wh.impl_within, Wh.impl_within'⟩
def C_impl_within : Cx := ⟨Tab, [], false⟩
def lt_impl_within : List (Nat × LoopD) := []
theorem e_impl_within : ∀ xs, evT C_impl_within lt_impl_within Go.Proofs.Try.f49 [.v (.int .i64), .v (.int .i64), .v (.int .i64)] [.v .bool] xs = Wh.impl_within xs := by intro xs; kernel_rfl
theorem ok_impl_within : ConOk Go.Proofs.Try.prog K_impl_within := con_ok (Ls := []) mixed (cx_ok _ _) (FnOk.nil Tab false) Go.Proofs.Try.func49 (loopsL_nil (by kernel_rfl)) e_impl_within
theorem fk_impl_within (fns : List (Nat × List Go.Ab.Mode × (List Arg → Option Res))) {dp : Bool} (h : FnOk Go.Proofs.Try.prog ⟨Tab, fns, dp⟩) : FnOk Go.Proofs.Try.prog ⟨Tab, K_impl_within.entry :: fns, dp⟩ := h.cons K_impl_within (by kernel_rfl) Wh.impl_within_v ok_impl_within

def K_impl_clientOf : Con := ⟨39, [.v (.int .i64)], [.v .bool], Wh.impl_clientOf, Wh.impl_clientOf'⟩
def C_impl_clientOf : Cx := ⟨Tab, [K_impl_within.entry], false⟩
def lt_impl_clientOf : List (Nat × LoopD) := []
theorem e_impl_clientOf : ∀ xs, evT C_impl_clientOf lt_impl_clientOf Go.Proofs.Try.f39 [.v (.int .i64)] [.v .bool] xs = Wh.impl_clientOf xs := by intro xs; kernel_rfl
theorem ok_impl_clientOf : ConOk Go.Proofs.Try.prog K_impl_clientOf := con_ok (Ls := []) mixed (cx_ok _ _) (fk_impl_within _ (FnOk.nil Tab false)) Go.Proofs.Try.func39 (loopsL_nil (by kernel_rfl)) e_impl_clientOf
theorem fk_impl_clientOf (fns : List (Nat × List Go.Ab.Mode × (List Arg → Option Res))) {dp : Bool} (h : FnOk Go.Proofs.Try.prog ⟨Tab, fns, dp⟩) : FnOk Go.Proofs.Try.prog ⟨Tab, K_impl_clientOf.entry :: fns, dp⟩ := h.cons K_impl_clientOf (by kernel_rfl) Wh.impl_clientOf_v ok_impl_clientOf

def K_impl_ClientNew : Con := ⟨12, [.v (.int .i64)], [.d tImplClient], Wh.impl_ClientNew, Wh.impl_ClientNew'⟩
def C_impl_ClientNew : Cx := ⟨Tab, [K_impl_clientOf.entry], true⟩
def lt_impl_ClientNew : List (Nat × LoopD) := []
theorem e_impl_ClientNew : ∀ xs, evT C_impl_ClientNew lt_impl_ClientNew Go.Proofs.Try.f12 [.v (.int .i64)] [.d tImplClient] xs = Wh.impl_ClientNew xs := by intro xs; kernel_rfl
theorem ok_impl_ClientNew : ConOk Go.Proofs.Try.prog K_impl_ClientNew := con_ok (Ls := []) mixed (cx_ok _ _) (fk_impl_clientOf _ (FnOk.nil Tab true)) Go.Proofs.Try.func12 (loopsL_nil (by kernel_rfl)) e_impl_ClientNew
theorem fk_impl_ClientNew (fns : List (Nat × List Go.Ab.Mode × (List Arg → Option Res))) {dp : Bool} (h : FnOk Go.Proofs.Try.prog ⟨Tab, fns, dp⟩) : FnOk Go.Proofs.Try.prog ⟨Tab, K_impl_ClientNew.entry :: fns, dp⟩ := h.cons K_impl_ClientNew (by kernel_rfl) Wh.impl_ClientNew_v ok_impl_ClientNew

def K_impl_WorldNew : Con := ⟨34, [], [.d tImplWorld], Wh.impl_WorldNew, Wh.impl_WorldNew'⟩
def C_impl_WorldNew : Cx := ⟨Tab, [K_impl_ClientNew.entry, K_impl_ServerNew.entry], true⟩
def L_impl_WorldNew_0 : LoopD := loopD ⟨[(8, .leaf (.int .i64)), (1, .vptr 500000000 []), (0, .vptr 500000001 [])], [(500000000, false, .var tImplWorld (.pair (.pair (.leaf .bool) (.pair (.leaf (.int .i64)) (.pair (.leaf .str) (.pair (.pair (.leaf (.int .i64)) (.pair (.whole 500000002 tImplItem) (.leaf .unit))) (.pair (.pair (.whole 500000003 tImplFrame) (.leaf (.pair (.int .i64) .unit))) (.pair (.whole 500000004 tImplBucket) (.pair (.whole 500000005 tImplServe) (.leaf .unit)))))))) (.pair (.whole 500000006 tImplClient) (.pair (.whole 500000007 tImplPacket) (.pair (.whole 500000008 tImplItem) (.leaf .unit)))))), (500000001, false, .var tImplWorld (.pair (.pair (.leaf .bool) (.pair (.leaf (.int .i64)) (.pair (.leaf .str) (.pair (.pair (.leaf (.int .i64)) (.pair (.whole 500000009 tImplItem) (.leaf .unit))) (.pair (.pair (.whole 500000010 tImplFrame) (.pair (.leaf (.int .i64)) (.leaf .unit))) (.pair (.whole 500000011 tImplBucket) (.pair (.whole 500000012 tImplServe) (.leaf .unit)))))))) (.pair (.whole 500000013 tImplClient) (.pair (.whole 500000014 tImplPacket) (.pair (.whole 500000015 tImplItem) (.leaf .unit)))))), (500000002, false, .rows tImplItem), (500000003, false, .rows tImplFrame), (500000004, false, .rows tImplBucket), (500000005, false, .rows tImplServe), (500000006, false, .deep tImplClient), (500000007, false, .rows tImplPacket), (500000008, false, .rows tImplItem), (500000009, false, .rows tImplItem), (500000010, false, .rows tImplFrame), (500000011, false, .rows tImplBucket), (500000012, false, .rows tImplServe), (500000013, false, .rows tImplClient), (500000014, false, .rows tImplPacket), (500000015, false, .rows tImplItem)]⟩ [((.exit 0), ⟨[(0, .vptr 500000000 []), (1, .vptr 500000001 [])], [(500000000, false, .var tImplWorld (.pair (.pair (.leaf .bool) (.pair (.leaf (.int .i64)) (.pair (.leaf .str) (.pair (.pair (.leaf (.int .i64)) (.pair (.whole 500000002 tImplItem) (.leaf .unit))) (.pair (.pair (.whole 500000003 tImplFrame) (.pair (.leaf (.int .i64)) (.leaf .unit))) (.pair (.whole 500000004 tImplBucket) (.pair (.whole 500000005 tImplServe) (.leaf .unit)))))))) (.pair (.whole 500000006 tImplClient) (.pair (.whole 500000007 tImplPacket) (.pair (.whole 500000008 tImplItem) (.leaf .unit)))))), (500000001, false, .var tImplWorld (.pair (.pair (.leaf .bool) (.pair (.leaf (.int .i64)) (.pair (.leaf .str) (.pair (.pair (.leaf (.int .i64)) (.pair (.whole 500000009 tImplItem) (.leaf .unit))) (.pair (.pair (.whole 500000010 tImplFrame) (.leaf (.pair (.int .i64) .unit))) (.pair (.whole 500000011 tImplBucket) (.pair (.whole 500000012 tImplServe) (.leaf .unit)))))))) (.pair (.whole 500000013 tImplClient) (.pair (.whole 500000014 tImplPacket) (.pair (.whole 500000015 tImplItem) (.leaf .unit)))))), (500000002, false, .rows tImplItem), (500000003, false, .rows tImplFrame), (500000004, false, .rows tImplBucket), (500000005, false, .rows tImplServe), (500000006, false, .rows tImplClient), (500000007, false, .rows tImplPacket), (500000008, false, .rows tImplItem), (500000009, false, .rows tImplItem), (500000010, false, .rows tImplFrame), (500000011, false, .rows tImplBucket), (500000012, false, .rows tImplServe), (500000013, false, .deep tImplClient), (500000014, false, .rows tImplPacket), (500000015, false, .rows tImplItem)]⟩)] Wh.impl_WorldNew_l0_y Wh.impl_WorldNew_l0
def lt_impl_WorldNew : List (Nat × LoopD) := [(3, L_impl_WorldNew_0)]
theorem r_impl_WorldNew_0 : ∀ x, round C_impl_WorldNew lt_impl_WorldNew (nthLoop Go.Proofs.Try.f34 0) L_impl_WorldNew_0 x = Wh.impl_WorldNew_l0 x := by intro x; kernel_rfl
theorem e_impl_WorldNew : ∀ xs, evT C_impl_WorldNew lt_impl_WorldNew Go.Proofs.Try.f34 [] [.d tImplWorld] xs = Wh.impl_WorldNew xs := by intro xs; kernel_rfl
theorem ok_impl_WorldNew : ConOk Go.Proofs.Try.prog K_impl_WorldNew := con_ok (Ls := [L_impl_WorldNew_0]) mixed (cx_ok _ _) (fk_impl_ClientNew _ (fk_impl_ServerNew _ (FnOk.nil Tab true))) Go.Proofs.Try.func34 (loopsL_cons (by kernel_rfl) (loopD_ok r_impl_WorldNew_0) (loopsL_nil (by kernel_rfl))) e_impl_WorldNew
theorem fk_impl_WorldNew (fns : List (Nat × List Go.Ab.Mode × (List Arg → Option Res))) {dp : Bool} (h : FnOk Go.Proofs.Try.prog ⟨Tab, fns, dp⟩) : FnOk Go.Proofs.Try.prog ⟨Tab, K_impl_WorldNew.entry :: fns, dp⟩ := h.cons K_impl_WorldNew (by kernel_rfl) Wh.impl_WorldNew_v ok_impl_WorldNew

def K_laws_eqItem : Con := ⟨107, [.v tImplItem, .v tImplItem], [.v .bool], Wh.laws_eqItem, Wh.laws_eqItem'⟩
def C_laws_eqItem : Cx := ⟨Tab, [], false⟩
def lt_laws_eqItem : List (Nat × LoopD) := []
theorem e_laws_eqItem : ∀ xs, evT C_laws_eqItem lt_laws_eqItem Go.Proofs.Try.f107 [.v tImplItem, .v tImplItem] [.v .bool] xs = Wh.laws_eqItem xs := by intro xs; kernel_rfl
theorem ok_laws_eqItem : ConOk Go.Proofs.Try.prog K_laws_eqItem := con_ok (Ls := []) mixed (cx_ok _ _) (FnOk.nil Tab false) Go.Proofs.Try.func107 (loopsL_nil (by kernel_rfl)) e_laws_eqItem
theorem fk_laws_eqItem (fns : List (Nat × List Go.Ab.Mode × (List Arg → Option Res))) {dp : Bool} (h : FnOk Go.Proofs.Try.prog ⟨Tab, fns, dp⟩) : FnOk Go.Proofs.Try.prog ⟨Tab, K_laws_eqItem.entry :: fns, dp⟩ := h.cons K_laws_eqItem (by kernel_rfl) Wh.laws_eqItem_v ok_laws_eqItem

def K_laws_eqItemS : Con := ⟨68, [.v (.lst tImplItem), .v (.lst tImplItem)], [.v .bool], Wh.laws_eqItemS, Wh.laws_eqItemS'⟩
def C_laws_eqItemS : Cx := ⟨Tab, [K_laws_eqItem.entry], false⟩
def L_laws_eqItemS_0 : LoopD := loopD ⟨[(5, .leaf (.int .i64)), (1, .leaf (.lst tImplItem)), (0, .leaf (.lst tImplItem))], []⟩ [(.ret, ⟨[(4, .leaf .bool)], []⟩), ((.exit 0), ⟨[], []⟩)] Wh.laws_eqItemS_l0_y Wh.laws_eqItemS_l0
def lt_laws_eqItemS : List (Nat × LoopD) := [(4, L_laws_eqItemS_0)]
theorem r_laws_eqItemS_0 : ∀ x, round C_laws_eqItemS lt_laws_eqItemS (nthLoop Go.Proofs.Try.f68 0) L_laws_eqItemS_0 x = Wh.laws_eqItemS_l0 x := by intro x; kernel_rfl
theorem e_laws_eqItemS : ∀ xs, evT C_laws_eqItemS lt_laws_eqItemS Go.Proofs.Try.f68 [.v (.lst tImplItem), .v (.lst tImplItem)] [.v .bool] xs = Wh.laws_eqItemS xs := by intro xs; kernel_rfl
theorem ok_laws_eqItemS : ConOk Go.Proofs.Try.prog K_laws_eqItemS := con_ok (Ls := [L_laws_eqItemS_0]) mixed (cx_ok _ _) (fk_laws_eqItem _ (FnOk.nil Tab false)) Go.Proofs.Try.func68 (loopsL_cons (by kernel_rfl) (loopD_ok r_laws_eqItemS_0) (loopsL_nil (by kernel_rfl))) e_laws_eqItemS
theorem fk_laws_eqItemS (fns : List (Nat × List Go.Ab.Mode × (List Arg → Option Res))) {dp : Bool} (h : FnOk Go.Proofs.Try.prog ⟨Tab, fns, dp⟩) : FnOk Go.Proofs.Try.prog ⟨Tab, K_laws_eqItemS.entry :: fns, dp⟩ := h.cons K_laws_eqItemS (by kernel_rfl) Wh.laws_eqItemS_v ok_laws_eqItemS

def K_laws_eqCat : Con := ⟨102, [.v tImplCat, .v tImplCat], [.v .bool], Wh.laws_eqCat, Wh.laws_eqCat'⟩
def C_laws_eqCat : Cx := ⟨Tab, [K_laws_eqItemS.entry], false⟩
def lt_laws_eqCat : List (Nat × LoopD) := []
theorem e_laws_eqCat : ∀ xs, evT C_laws_eqCat lt_laws_eqCat Go.Proofs.Try.f102 [.v tImplCat, .v tImplCat] [.v .bool] xs = Wh.laws_eqCat xs := by intro xs; kernel_rfl
theorem ok_laws_eqCat : ConOk Go.Proofs.Try.prog K_laws_eqCat := con_ok (Ls := []) mixed (cx_ok _ _) (fk_laws_eqItemS _ (FnOk.nil Tab false)) Go.Proofs.Try.func102 (loopsL_nil (by kernel_rfl)) e_laws_eqCat
theorem fk_laws_eqCat (fns : List (Nat × List Go.Ab.Mode × (List Arg → Option Res))) {dp : Bool} (h : FnOk Go.Proofs.Try.prog ⟨Tab, fns, dp⟩) : FnOk Go.Proofs.Try.prog ⟨Tab, K_laws_eqCat.entry :: fns, dp⟩ := h.cons K_laws_eqCat (by kernel_rfl) Wh.laws_eqCat_v ok_laws_eqCat

def K_laws_eqFrame : Con := ⟨143, [.v tImplFrame, .v tImplFrame], [.v .bool], Wh.laws_eqFrame, Wh.laws_eqFrame'⟩
def C_laws_eqFrame : Cx := ⟨Tab, [], false⟩
def lt_laws_eqFrame : List (Nat × LoopD) := []
theorem e_laws_eqFrame : ∀ xs, evT C_laws_eqFrame lt_laws_eqFrame Go.Proofs.Try.f143 [.v tImplFrame, .v tImplFrame] [.v .bool] xs = Wh.laws_eqFrame xs := by intro xs; kernel_rfl
theorem ok_laws_eqFrame : ConOk Go.Proofs.Try.prog K_laws_eqFrame := con_ok (Ls := []) mixed (cx_ok _ _) (FnOk.nil Tab false) Go.Proofs.Try.func143 (loopsL_nil (by kernel_rfl)) e_laws_eqFrame
theorem fk_laws_eqFrame (fns : List (Nat × List Go.Ab.Mode × (List Arg → Option Res))) {dp : Bool} (h : FnOk Go.Proofs.Try.prog ⟨Tab, fns, dp⟩) : FnOk Go.Proofs.Try.prog ⟨Tab, K_laws_eqFrame.entry :: fns, dp⟩ := h.cons K_laws_eqFrame (by kernel_rfl) Wh.laws_eqFrame_v ok_laws_eqFrame

def K_laws_eqFrameS : Con := ⟨135, [.v (.lst tImplFrame), .v (.lst tImplFrame)], [.v .bool], Wh.laws_eqFrameS, Wh.laws_eqFrameS'⟩
def C_laws_eqFrameS : Cx := ⟨Tab, [K_laws_eqFrame.entry], false⟩
def L_laws_eqFrameS_0 : LoopD := loopD ⟨[(5, .leaf (.int .i64)), (1, .leaf (.lst tImplFrame)), (0, .leaf (.lst tImplFrame))], []⟩ [(.ret, ⟨[(4, .leaf .bool)], []⟩), ((.exit 0), ⟨[], []⟩)] Wh.laws_eqFrameS_l0_y Wh.laws_eqFrameS_l0
def lt_laws_eqFrameS : List (Nat × LoopD) := [(4, L_laws_eqFrameS_0)]
theorem r_laws_eqFrameS_0 : ∀ x, round C_laws_eqFrameS lt_laws_eqFrameS (nthLoop Go.Proofs.Try.f135 0) L_laws_eqFrameS_0 x = Wh.laws_eqFrameS_l0 x := by intro x; kernel_rfl
theorem e_laws_eqFrameS : ∀ xs, evT C_laws_eqFrameS lt_laws_eqFrameS Go.Proofs.Try.f135 [.v (.lst tImplFrame), .v (.lst tImplFrame)] [.v .bool] xs = Wh.laws_eqFrameS xs := by intro xs; kernel_rfl
theorem ok_laws_eqFrameS : ConOk Go.Proofs.Try.prog K_laws_eqFrameS := con_ok (Ls := [L_laws_eqFrameS_0]) mixed (cx_ok _ _) (fk_laws_eqFrame _ (FnOk.nil Tab false)) Go.Proofs.Try.func135 (loopsL_cons (by kernel_rfl) (loopD_ok r_laws_eqFrameS_0) (loopsL_nil (by kernel_rfl))) e_laws_eqFrameS
theorem fk_laws_eqFrameS (fns : List (Nat × List Go.Ab.Mode × (List Arg → Option Res))) {dp : Bool} (h : FnOk Go.Proofs.Try.prog ⟨Tab, fns, dp⟩) : FnOk Go.Proofs.Try.prog ⟨Tab, K_laws_eqFrameS.entry :: fns, dp⟩ := h.cons K_laws_eqFrameS (by kernel_rfl) Wh.laws_eqFrameS_v ok_laws_eqFrameS

def K_laws_eqPool : Con := ⟨103, [.v tImplPool, .v tImplPool], [.v .bool], Wh.laws_eqPool, Wh.laws_eqPool'⟩
def C_laws_eqPool : Cx := ⟨Tab, [K_laws_eqFrameS.entry], false⟩
def lt_laws_eqPool : List (Nat × LoopD) := []
theorem e_laws_eqPool : ∀ xs, evT C_laws_eqPool lt_laws_eqPool Go.Proofs.Try.f103 [.v tImplPool, .v tImplPool] [.v .bool] xs = Wh.laws_eqPool xs := by intro xs; kernel_rfl
theorem ok_laws_eqPool : ConOk Go.Proofs.Try.prog K_laws_eqPool := con_ok (Ls := []) mixed (cx_ok _ _) (fk_laws_eqFrameS _ (FnOk.nil Tab false)) Go.Proofs.Try.func103 (loopsL_nil (by kernel_rfl)) e_laws_eqPool
theorem fk_laws_eqPool (fns : List (Nat × List Go.Ab.Mode × (List Arg → Option Res))) {dp : Bool} (h : FnOk Go.Proofs.Try.prog ⟨Tab, fns, dp⟩) : FnOk Go.Proofs.Try.prog ⟨Tab, K_laws_eqPool.entry :: fns, dp⟩ := h.cons K_laws_eqPool (by kernel_rfl) Wh.laws_eqPool_v ok_laws_eqPool

def K_laws_eqBucket : Con := ⟨136, [.v tImplBucket, .v tImplBucket], [.v .bool], Wh.laws_eqBucket, Wh.laws_eqBucket'⟩
def C_laws_eqBucket : Cx := ⟨Tab, [], false⟩
def lt_laws_eqBucket : List (Nat × LoopD) := []
theorem e_laws_eqBucket : ∀ xs, evT C_laws_eqBucket lt_laws_eqBucket Go.Proofs.Try.f136 [.v tImplBucket, .v tImplBucket] [.v .bool] xs = Wh.laws_eqBucket xs := by intro xs; kernel_rfl
theorem ok_laws_eqBucket : ConOk Go.Proofs.Try.prog K_laws_eqBucket := con_ok (Ls := []) mixed (cx_ok _ _) (FnOk.nil Tab false) Go.Proofs.Try.func136 (loopsL_nil (by kernel_rfl)) e_laws_eqBucket
theorem fk_laws_eqBucket (fns : List (Nat × List Go.Ab.Mode × (List Arg → Option Res))) {dp : Bool} (h : FnOk Go.Proofs.Try.prog ⟨Tab, fns, dp⟩) : FnOk Go.Proofs.Try.prog ⟨Tab, K_laws_eqBucket.entry :: fns, dp⟩ := h.cons K_laws_eqBucket (by kernel_rfl) Wh.laws_eqBucket_v ok_laws_eqBucket

def K_laws_eqBucketS : Con := ⟨104, [.v (.lst tImplBucket), .v (.lst tImplBucket)], [.v .bool], Wh.laws_eqBucketS, Wh.laws_eqBucketS'⟩
def C_laws_eqBucketS : Cx := ⟨Tab, [K_laws_eqBucket.entry], false⟩
def L_laws_eqBucketS_0 : LoopD := loopD ⟨[(5, .leaf (.int .i64)), (1, .leaf (.lst tImplBucket)), (0, .leaf (.lst tImplBucket))], []⟩ [(.ret, ⟨[(4, .leaf .bool)], []⟩), ((.exit 0), ⟨[], []⟩)] Wh.laws_eqBucketS_l0_y Wh.laws_eqBucketS_l0
def lt_laws_eqBucketS : List (Nat × LoopD) := [(4, L_laws_eqBucketS_0)]
theorem r_laws_eqBucketS_0 : ∀ x, round C_laws_eqBucketS lt_laws_eqBucketS (nthLoop Go.Proofs.Try.f104 0) L_laws_eqBucketS_0 x = Wh.laws_eqBucketS_l0 x := by intro x; kernel_rfl
theorem e_laws_eqBucketS : ∀ xs, evT C_laws_eqBucketS lt_laws_eqBucketS Go.Proofs.Try.f104 [.v (.lst tImplBucket), .v (.lst tImplBucket)] [.v .bool] xs = Wh.laws_eqBucketS xs := by intro xs; kernel_rfl
theorem ok_laws_eqBucketS : ConOk Go.Proofs.Try.prog K_laws_eqBucketS := con_ok (Ls := [L_laws_eqBucketS_0]) mixed (cx_ok _ _) (fk_laws_eqBucket _ (FnOk.nil Tab false)) Go.Proofs.Try.func104 (loopsL_cons (by kernel_rfl) (loopD_ok r_laws_eqBucketS_0) (loopsL_nil (by kernel_rfl))) e_laws_eqBucketS
theorem fk_laws_eqBucketS (fns : List (Nat × List Go.Ab.Mode × (List Arg → Option Res))) {dp : Bool} (h : FnOk Go.Proofs.Try.prog ⟨Tab, fns, dp⟩) : FnOk Go.Proofs.Try.prog ⟨Tab, K_laws_eqBucketS.entry :: fns, dp⟩ := h.cons K_laws_eqBucketS (by kernel_rfl) Wh.laws_eqBucketS_v ok_laws_eqBucketS

def K_laws_eqServe : Con := ⟨137, [.v tImplServe, .v tImplServe], [.v .bool], Wh.laws_eqServe, Wh.laws_eqServe'⟩
def C_laws_eqServe : Cx := ⟨Tab, [], false⟩
def lt_laws_eqServe : List (Nat × LoopD) := []
theorem e_laws_eqServe : ∀ xs, evT C_laws_eqServe lt_laws_eqServe Go.Proofs.Try.f137 [.v tImplServe, .v tImplServe] [.v .bool] xs = Wh.laws_eqServe xs := by intro xs; kernel_rfl
theorem ok_laws_eqServe : ConOk Go.Proofs.Try.prog K_laws_eqServe := con_ok (Ls := []) mixed (cx_ok _ _) (FnOk.nil Tab false) Go.Proofs.Try.func137 (loopsL_nil (by kernel_rfl)) e_laws_eqServe
theorem fk_laws_eqServe (fns : List (Nat × List Go.Ab.Mode × (List Arg → Option Res))) {dp : Bool} (h : FnOk Go.Proofs.Try.prog ⟨Tab, fns, dp⟩) : FnOk Go.Proofs.Try.prog ⟨Tab, K_laws_eqServe.entry :: fns, dp⟩ := h.cons K_laws_eqServe (by kernel_rfl) Wh.laws_eqServe_v ok_laws_eqServe

def K_laws_eqServeS : Con := ⟨105, [.v (.lst tImplServe), .v (.lst tImplServe)], [.v .bool], Wh.laws_eqServeS, Wh.laws_eqServeS'⟩
def C_laws_eqServeS : Cx := ⟨Tab, [K_laws_eqServe.entry], false⟩
def L_laws_eqServeS_0 : LoopD := loopD ⟨[(5, .leaf (.int .i64)), (1, .leaf (.lst tImplServe)), (0, .leaf (.lst tImplServe))], []⟩ [(.ret, ⟨[(4, .leaf .bool)], []⟩), ((.exit 0), ⟨[], []⟩)] Wh.laws_eqServeS_l0_y Wh.laws_eqServeS_l0
def lt_laws_eqServeS : List (Nat × LoopD) := [(4, L_laws_eqServeS_0)]
theorem r_laws_eqServeS_0 : ∀ x, round C_laws_eqServeS lt_laws_eqServeS (nthLoop Go.Proofs.Try.f105 0) L_laws_eqServeS_0 x = Wh.laws_eqServeS_l0 x := by intro x; kernel_rfl
theorem e_laws_eqServeS : ∀ xs, evT C_laws_eqServeS lt_laws_eqServeS Go.Proofs.Try.f105 [.v (.lst tImplServe), .v (.lst tImplServe)] [.v .bool] xs = Wh.laws_eqServeS xs := by intro xs; kernel_rfl
theorem ok_laws_eqServeS : ConOk Go.Proofs.Try.prog K_laws_eqServeS := con_ok (Ls := [L_laws_eqServeS_0]) mixed (cx_ok _ _) (fk_laws_eqServe _ (FnOk.nil Tab false)) Go.Proofs.Try.func105 (loopsL_cons (by kernel_rfl) (loopD_ok r_laws_eqServeS_0) (loopsL_nil (by kernel_rfl))) e_laws_eqServeS
theorem fk_laws_eqServeS (fns : List (Nat × List Go.Ab.Mode × (List Arg → Option Res))) {dp : Bool} (h : FnOk Go.Proofs.Try.prog ⟨Tab, fns, dp⟩) : FnOk Go.Proofs.Try.prog ⟨Tab, K_laws_eqServeS.entry :: fns, dp⟩ := h.cons K_laws_eqServeS (by kernel_rfl) Wh.laws_eqServeS_v ok_laws_eqServeS

def K_laws_eqServer : Con := ⟨65, [.v tImplServer, .v tImplServer], [.v .bool], Wh.laws_eqServer, Wh.laws_eqServer'⟩
def C_laws_eqServer : Cx := ⟨Tab, [K_laws_eqServeS.entry, K_laws_eqBucketS.entry, K_laws_eqPool.entry, K_laws_eqCat.entry], false⟩
def lt_laws_eqServer : List (Nat × LoopD) := []
theorem e_laws_eqServer : ∀ xs, evT C_laws_eqServer lt_laws_eqServer Go.Proofs.Try.f65 [.v tImplServer, .v tImplServer] [.v .bool] xs = Wh.laws_eqServer xs := by intro xs; kernel_rfl
theorem ok_laws_eqServer : ConOk Go.Proofs.Try.prog K_laws_eqServer := con_ok (Ls := []) mixed (cx_ok _ _) (fk_laws_eqServeS _ (fk_laws_eqBucketS _ (fk_laws_eqPool _ (fk_laws_eqCat _ (FnOk.nil Tab false))))) Go.Proofs.Try.func65 (loopsL_nil (by kernel_rfl)) e_laws_eqServer
theorem fk_laws_eqServer (fns : List (Nat × List Go.Ab.Mode × (List Arg → Option Res))) {dp : Bool} (h : FnOk Go.Proofs.Try.prog ⟨Tab, fns, dp⟩) : FnOk Go.Proofs.Try.prog ⟨Tab, K_laws_eqServer.entry :: fns, dp⟩ := h.cons K_laws_eqServer (by kernel_rfl) Wh.laws_eqServer_v ok_laws_eqServer

def K_laws_eqIntS : Con := ⟨120, [.v (.lst (.int .i64)), .v (.lst (.int .i64))], [.v .bool], Wh.laws_eqIntS, Wh.laws_eqIntS'⟩
def C_laws_eqIntS : Cx := ⟨Tab, [], false⟩
def L_laws_eqIntS_0 : LoopD := loopD ⟨[(5, .leaf (.int .i64)), (1, .leaf (.lst (.int .i64))), (0, .leaf (.lst (.int .i64)))], []⟩ [(.ret, ⟨[(4, .leaf .bool)], []⟩), ((.exit 0), ⟨[], []⟩)] Wh.laws_eqIntS_l0_y Wh.laws_eqIntS_l0
def lt_laws_eqIntS : List (Nat × LoopD) := [(4, L_laws_eqIntS_0)]
theorem r_laws_eqIntS_0 : ∀ x, round C_laws_eqIntS lt_laws_eqIntS (nthLoop Go.Proofs.Try.f120 0) L_laws_eqIntS_0 x = Wh.laws_eqIntS_l0 x := by intro x; kernel_rfl
theorem e_laws_eqIntS : ∀ xs, evT C_laws_eqIntS lt_laws_eqIntS Go.Proofs.Try.f120 [.v (.lst (.int .i64)), .v (.lst (.int .i64))] [.v .bool] xs = Wh.laws_eqIntS xs := by intro xs; kernel_rfl
theorem ok_laws_eqIntS : ConOk Go.Proofs.Try.prog K_laws_eqIntS := con_ok (Ls := [L_laws_eqIntS_0]) mixed (cx_ok _ _) (FnOk.nil Tab false) Go.Proofs.Try.func120 (loopsL_cons (by kernel_rfl) (loopD_ok r_laws_eqIntS_0) (loopsL_nil (by kernel_rfl))) e_laws_eqIntS
theorem fk_laws_eqIntS (fns : List (Nat × List Go.Ab.Mode × (List Arg → Option Res))) {dp : Bool} (h : FnOk Go.Proofs.Try.prog ⟨Tab, fns, dp⟩) : FnOk Go.Proofs.Try.prog ⟨Tab, K_laws_eqIntS.entry :: fns, dp⟩ := h.cons K_laws_eqIntS (by kernel_rfl) Wh.laws_eqIntS_v ok_laws_eqIntS

def K_laws_eqPlan : Con := ⟨77, [.v tImplPlan, .v tImplPlan], [.v .bool], Wh.laws_eqPlan, Wh.laws_eqPlan'⟩
def C_laws_eqPlan : Cx := ⟨Tab, [K_laws_eqIntS.entry], false⟩
def lt_laws_eqPlan : List (Nat × LoopD) := []
theorem e_laws_eqPlan : ∀ xs, evT C_laws_eqPlan lt_laws_eqPlan Go.Proofs.Try.f77 [.v tImplPlan, .v tImplPlan] [.v .bool] xs = Wh.laws_eqPlan xs := by intro xs; kernel_rfl
theorem ok_laws_eqPlan : ConOk Go.Proofs.Try.prog K_laws_eqPlan := con_ok (Ls := []) mixed (cx_ok _ _) (fk_laws_eqIntS _ (FnOk.nil Tab false)) Go.Proofs.Try.func77 (loopsL_nil (by kernel_rfl)) e_laws_eqPlan
theorem fk_laws_eqPlan (fns : List (Nat × List Go.Ab.Mode × (List Arg → Option Res))) {dp : Bool} (h : FnOk Go.Proofs.Try.prog ⟨Tab, fns, dp⟩) : FnOk Go.Proofs.Try.prog ⟨Tab, K_laws_eqPlan.entry :: fns, dp⟩ := h.cons K_laws_eqPlan (by kernel_rfl) Wh.laws_eqPlan_v ok_laws_eqPlan

def K_laws_eqEq : Con := ⟨140, [.v tImplEq, .v tImplEq], [.v .bool], Wh.laws_eqEq, Wh.laws_eqEq'⟩
def C_laws_eqEq : Cx := ⟨Tab, [K_laws_eqIntS.entry], false⟩
def lt_laws_eqEq : List (Nat × LoopD) := []
theorem e_laws_eqEq : ∀ xs, evT C_laws_eqEq lt_laws_eqEq Go.Proofs.Try.f140 [.v tImplEq, .v tImplEq] [.v .bool] xs = Wh.laws_eqEq xs := by intro xs; kernel_rfl
theorem ok_laws_eqEq : ConOk Go.Proofs.Try.prog K_laws_eqEq := con_ok (Ls := []) mixed (cx_ok _ _) (fk_laws_eqIntS _ (FnOk.nil Tab false)) Go.Proofs.Try.func140 (loopsL_nil (by kernel_rfl)) e_laws_eqEq
theorem fk_laws_eqEq (fns : List (Nat × List Go.Ab.Mode × (List Arg → Option Res))) {dp : Bool} (h : FnOk Go.Proofs.Try.prog ⟨Tab, fns, dp⟩) : FnOk Go.Proofs.Try.prog ⟨Tab, K_laws_eqEq.entry :: fns, dp⟩ := h.cons K_laws_eqEq (by kernel_rfl) Wh.laws_eqEq_v ok_laws_eqEq

def K_laws_eqEqS : Con := ⟨121, [.v (.lst tImplEq), .v (.lst tImplEq)], [.v .bool], Wh.laws_eqEqS, Wh.laws_eqEqS'⟩
def C_laws_eqEqS : Cx := ⟨Tab, [K_laws_eqEq.entry], false⟩
def L_laws_eqEqS_0 : LoopD := loopD ⟨[(5, .leaf (.int .i64)), (1, .leaf (.lst tImplEq)), (0, .leaf (.lst tImplEq))], []⟩ [(.ret, ⟨[(4, .leaf .bool)], []⟩), ((.exit 0), ⟨[], []⟩)] Wh.laws_eqEqS_l0_y Wh.laws_eqEqS_l0
def lt_laws_eqEqS : List (Nat × LoopD) := [(4, L_laws_eqEqS_0)]
theorem r_laws_eqEqS_0 : ∀ x, round C_laws_eqEqS lt_laws_eqEqS (nthLoop Go.Proofs.Try.f121 0) L_laws_eqEqS_0 x = Wh.laws_eqEqS_l0 x := by intro x; kernel_rfl
theorem e_laws_eqEqS : ∀ xs, evT C_laws_eqEqS lt_laws_eqEqS Go.Proofs.Try.f121 [.v (.lst tImplEq), .v (.lst tImplEq)] [.v .bool] xs = Wh.laws_eqEqS xs := by intro xs; kernel_rfl
theorem ok_laws_eqEqS : ConOk Go.Proofs.Try.prog K_laws_eqEqS := con_ok (Ls := [L_laws_eqEqS_0]) mixed (cx_ok _ _) (fk_laws_eqEq _ (FnOk.nil Tab false)) Go.Proofs.Try.func121 (loopsL_cons (by kernel_rfl) (loopD_ok r_laws_eqEqS_0) (loopsL_nil (by kernel_rfl))) e_laws_eqEqS
theorem fk_laws_eqEqS (fns : List (Nat × List Go.Ab.Mode × (List Arg → Option Res))) {dp : Bool} (h : FnOk Go.Proofs.Try.prog ⟨Tab, fns, dp⟩) : FnOk Go.Proofs.Try.prog ⟨Tab, K_laws_eqEqS.entry :: fns, dp⟩ := h.cons K_laws_eqEqS (by kernel_rfl) Wh.laws_eqEqS_v ok_laws_eqEqS

def K_laws_eqSolver : Con := ⟨78, [.v tImplSolver, .v tImplSolver], [.v .bool], Wh.laws_eqSolver, Wh.laws_eqSolver'⟩
def C_laws_eqSolver : Cx := ⟨Tab, [K_laws_eqEqS.entry], false⟩
def lt_laws_eqSolver : List (Nat × LoopD) := []
theorem e_laws_eqSolver : ∀ xs, evT C_laws_eqSolver lt_laws_eqSolver Go.Proofs.Try.f78 [.v tImplSolver, .v tImplSolver] [.v .bool] xs = Wh.laws_eqSolver xs := by intro xs; kernel_rfl
theorem ok_laws_eqSolver : ConOk Go.Proofs.Try.prog K_laws_eqSolver := con_ok (Ls := []) mixed (cx_ok _ _) (fk_laws_eqEqS _ (FnOk.nil Tab false)) Go.Proofs.Try.func78 (loopsL_nil (by kernel_rfl)) e_laws_eqSolver
theorem fk_laws_eqSolver (fns : List (Nat × List Go.Ab.Mode × (List Arg → Option Res))) {dp : Bool} (h : FnOk Go.Proofs.Try.prog ⟨Tab, fns, dp⟩) : FnOk Go.Proofs.Try.prog ⟨Tab, K_laws_eqSolver.entry :: fns, dp⟩ := h.cons K_laws_eqSolver (by kernel_rfl) Wh.laws_eqSolver_v ok_laws_eqSolver

def K_laws_eqGetting : Con := ⟨40, [.v tImplGetting, .v tImplGetting], [.v .bool], Wh.laws_eqGetting, Wh.laws_eqGetting'⟩
def C_laws_eqGetting : Cx := ⟨Tab, [K_laws_eqSolver.entry, K_laws_eqPlan.entry], false⟩
def lt_laws_eqGetting : List (Nat × LoopD) := []
theorem e_laws_eqGetting : ∀ xs, evT C_laws_eqGetting lt_laws_eqGetting Go.Proofs.Try.f40 [.v tImplGetting, .v tImplGetting] [.v .bool] xs = Wh.laws_eqGetting xs := by intro xs; kernel_rfl
theorem ok_laws_eqGetting : ConOk Go.Proofs.Try.prog K_laws_eqGetting := con_ok (Ls := []) mixed (cx_ok _ _) (fk_laws_eqSolver _ (fk_laws_eqPlan _ (FnOk.nil Tab false))) Go.Proofs.Try.func40 (loopsL_nil (by kernel_rfl)) e_laws_eqGetting
theorem fk_laws_eqGetting (fns : List (Nat × List Go.Ab.Mode × (List Arg → Option Res))) {dp : Bool} (h : FnOk Go.Proofs.Try.prog ⟨Tab, fns, dp⟩) : FnOk Go.Proofs.Try.prog ⟨Tab, K_laws_eqGetting.entry :: fns, dp⟩ := h.cons K_laws_eqGetting (by kernel_rfl) Wh.laws_eqGetting_v ok_laws_eqGetting

def K_laws_eqClient : Con := ⟨13, [.v tImplClient, .v tImplClient], [.v .bool], Wh.laws_eqClient, Wh.laws_eqClient'⟩
def C_laws_eqClient : Cx := ⟨Tab, [K_laws_eqGetting.entry], false⟩
def lt_laws_eqClient : List (Nat × LoopD) := []
theorem e_laws_eqClient : ∀ xs, evT C_laws_eqClient lt_laws_eqClient Go.Proofs.Try.f13 [.v tImplClient, .v tImplClient] [.v .bool] xs = Wh.laws_eqClient xs := by intro xs; kernel_rfl
theorem ok_laws_eqClient : ConOk Go.Proofs.Try.prog K_laws_eqClient := con_ok (Ls := []) mixed (cx_ok _ _) (fk_laws_eqGetting _ (FnOk.nil Tab false)) Go.Proofs.Try.func13 (loopsL_nil (by kernel_rfl)) e_laws_eqClient
theorem fk_laws_eqClient (fns : List (Nat × List Go.Ab.Mode × (List Arg → Option Res))) {dp : Bool} (h : FnOk Go.Proofs.Try.prog ⟨Tab, fns, dp⟩) : FnOk Go.Proofs.Try.prog ⟨Tab, K_laws_eqClient.entry :: fns, dp⟩ := h.cons K_laws_eqClient (by kernel_rfl) Wh.laws_eqClient_v ok_laws_eqClient

def K_laws_eqClientS : Con := ⟨66, [.v (.lst tImplClient), .v (.lst tImplClient)], [.v .bool], Wh.laws_eqClientS, Wh.laws_eqClientS'⟩
def C_laws_eqClientS : Cx := ⟨Tab, [K_laws_eqClient.entry], false⟩
def L_laws_eqClientS_0 : LoopD := loopD ⟨[(5, .leaf (.int .i64)), (1, .leaf (.lst tImplClient)), (0, .leaf (.lst tImplClient))], []⟩ [(.ret, ⟨[(4, .leaf .bool)], []⟩), ((.exit 0), ⟨[], []⟩)] Wh.laws_eqClientS_l0_y Wh.laws_eqClientS_l0
def lt_laws_eqClientS : List (Nat × LoopD) := [(4, L_laws_eqClientS_0)]
theorem r_laws_eqClientS_0 : ∀ x, round C_laws_eqClientS lt_laws_eqClientS (nthLoop Go.Proofs.Try.f66 0) L_laws_eqClientS_0 x = Wh.laws_eqClientS_l0 x := by intro x; kernel_rfl
theorem e_laws_eqClientS : ∀ xs, evT C_laws_eqClientS lt_laws_eqClientS Go.Proofs.Try.f66 [.v (.lst tImplClient), .v (.lst tImplClient)] [.v .bool] xs = Wh.laws_eqClientS xs := by intro xs; kernel_rfl
theorem ok_laws_eqClientS : ConOk Go.Proofs.Try.prog K_laws_eqClientS := con_ok (Ls := [L_laws_eqClientS_0]) mixed (cx_ok _ _) (fk_laws_eqClient _ (FnOk.nil Tab false)) Go.Proofs.Try.func66 (loopsL_cons (by kernel_rfl) (loopD_ok r_laws_eqClientS_0) (loopsL_nil (by kernel_rfl))) e_laws_eqClientS
theorem fk_laws_eqClientS (fns : List (Nat × List Go.Ab.Mode × (List Arg → Option Res))) {dp : Bool} (h : FnOk Go.Proofs.Try.prog ⟨Tab, fns, dp⟩) : FnOk Go.Proofs.Try.prog ⟨Tab, K_laws_eqClientS.entry :: fns, dp⟩ := h.cons K_laws_eqClientS (by kernel_rfl) Wh.laws_eqClientS_v ok_laws_eqClientS

def K_laws_eqPacket : Con := ⟨106, [.v tImplPacket, .v tImplPacket], [.v .bool], Wh.laws_eqPacket, Wh.laws_eqPacket'⟩
def C_laws_eqPacket : Cx := ⟨Tab, [], false⟩
def lt_laws_eqPacket : List (Nat × LoopD) := []
theorem e_laws_eqPacket : ∀ xs, evT C_laws_eqPacket lt_laws_eqPacket Go.Proofs.Try.f106 [.v tImplPacket, .v tImplPacket] [.v .bool] xs = Wh.laws_eqPacket xs := by intro xs; kernel_rfl
theorem ok_laws_eqPacket : ConOk Go.Proofs.Try.prog K_laws_eqPacket := con_ok (Ls := []) mixed (cx_ok _ _) (FnOk.nil Tab false) Go.Proofs.Try.func106 (loopsL_nil (by kernel_rfl)) e_laws_eqPacket
theorem fk_laws_eqPacket (fns : List (Nat × List Go.Ab.Mode × (List Arg → Option Res))) {dp : Bool} (h : FnOk Go.Proofs.Try.prog ⟨Tab, fns, dp⟩) : FnOk Go.Proofs.Try.prog ⟨Tab, K_laws_eqPacket.entry :: fns, dp⟩ := h.cons K_laws_eqPacket (by kernel_rfl) Wh.laws_eqPacket_v ok_laws_eqPacket

def K_laws_eqPacketS : Con := ⟨67, [.v (.lst tImplPacket), .v (.lst tImplPacket)], [.v .bool], Wh.laws_eqPacketS, Wh.laws_eqPacketS'⟩
def C_laws_eqPacketS : Cx := ⟨Tab, [K_laws_eqPacket.entry], false⟩
def L_laws_eqPacketS_0 : LoopD := loopD ⟨[(5, .leaf (.int .i64)), (1, .leaf (.lst tImplPacket)), (0, .leaf (.lst tImplPacket))], []⟩ [(.ret, ⟨[(4, .leaf .bool)], []⟩), ((.exit 0), ⟨[], []⟩)] Wh.laws_eqPacketS_l0_y Wh.laws_eqPacketS_l0
def lt_laws_eqPacketS : List (Nat × LoopD) := [(4, L_laws_eqPacketS_0)]
theorem r_laws_eqPacketS_0 : ∀ x, round C_laws_eqPacketS lt_laws_eqPacketS (nthLoop Go.Proofs.Try.f67 0) L_laws_eqPacketS_0 x = Wh.laws_eqPacketS_l0 x := by intro x; kernel_rfl
theorem e_laws_eqPacketS : ∀ xs, evT C_laws_eqPacketS lt_laws_eqPacketS Go.Proofs.Try.f67 [.v (.lst tImplPacket), .v (.lst tImplPacket)] [.v .bool] xs = Wh.laws_eqPacketS xs := by intro xs; kernel_rfl
theorem ok_laws_eqPacketS : ConOk Go.Proofs.Try.prog K_laws_eqPacketS := con_ok (Ls := [L_laws_eqPacketS_0]) mixed (cx_ok _ _) (fk_laws_eqPacket _ (FnOk.nil Tab false)) Go.Proofs.Try.func67 (loopsL_cons (by kernel_rfl) (loopD_ok r_laws_eqPacketS_0) (loopsL_nil (by kernel_rfl))) e_laws_eqPacketS
theorem fk_laws_eqPacketS (fns : List (Nat × List Go.Ab.Mode × (List Arg → Option Res))) {dp : Bool} (h : FnOk Go.Proofs.Try.prog ⟨Tab, fns, dp⟩) : FnOk Go.Proofs.Try.prog ⟨Tab, K_laws_eqPacketS.entry :: fns, dp⟩ := h.cons K_laws_eqPacketS (by kernel_rfl) Wh.laws_eqPacketS_v ok_laws_eqPacketS

def K_laws_eqWorld : Con := ⟨35, [.v tImplWorld, .v tImplWorld], [.v .bool], Wh.laws_eqWorld, Wh.laws_eqWorld'⟩
def C_laws_eqWorld : Cx := ⟨Tab, [K_laws_eqItemS.entry, K_laws_eqPacketS.entry, K_laws_eqClientS.entry, K_laws_eqServer.entry], false⟩
def lt_laws_eqWorld : List (Nat × LoopD) := []
theorem e_laws_eqWorld : ∀ xs, evT C_laws_eqWorld lt_laws_eqWorld Go.Proofs.Try.f35 [.v tImplWorld, .v tImplWorld] [.v .bool] xs = Wh.laws_eqWorld xs := by intro xs; kernel_rfl
theorem ok_laws_eqWorld : ConOk Go.Proofs.Try.prog K_laws_eqWorld := con_ok (Ls := []) mixed (cx_ok _ _) (fk_laws_eqItemS _ (fk_laws_eqPacketS _ (fk_laws_eqClientS _ (fk_laws_eqServer _ (FnOk.nil Tab false))))) Go.Proofs.Try.func35 (loopsL_nil (by kernel_rfl)) e_laws_eqWorld
theorem fk_laws_eqWorld (fns : List (Nat × List Go.Ab.Mode × (List Arg → Option Res))) {dp : Bool} (h : FnOk Go.Proofs.Try.prog ⟨Tab, fns, dp⟩) : FnOk Go.Proofs.Try.prog ⟨Tab, K_laws_eqWorld.entry :: fns, dp⟩ := h.cons K_laws_eqWorld (by kernel_rfl) Wh.laws_eqWorld_v ok_laws_eqWorld

def K_laws_markText : Con := ⟨59, [.v (.int .i64)], [.v .str], Wh.laws_markText, Wh.laws_markText'⟩
def C_laws_markText : Cx := ⟨Tab, [], false⟩
def L_laws_markText_0 : LoopD := loopD ⟨[(0, .leaf (.int .i64)), (3, .leaf .str)], []⟩ [((.exit 0), ⟨[(3, .leaf .str)], []⟩)] Wh.laws_markText_l0_y Wh.laws_markText_l0
def lt_laws_markText : List (Nat × LoopD) := [(4, L_laws_markText_0)]
theorem r_laws_markText_0 : ∀ x, round C_laws_markText lt_laws_markText (nthLoop Go.Proofs.Try.f59 0) L_laws_markText_0 x = Wh.laws_markText_l0 x := by intro x; kernel_rfl
theorem e_laws_markText : ∀ xs, evT C_laws_markText lt_laws_markText Go.Proofs.Try.f59 [.v (.int .i64)] [.v .str] xs = Wh.laws_markText xs := by intro xs; kernel_rfl
theorem ok_laws_markText : ConOk Go.Proofs.Try.prog K_laws_markText := con_ok (Ls := [L_laws_markText_0]) mixed (cx_ok _ _) (FnOk.nil Tab false) Go.Proofs.Try.func59 (loopsL_cons (by kernel_rfl) (loopD_ok r_laws_markText_0) (loopsL_nil (by kernel_rfl))) e_laws_markText
theorem fk_laws_markText (fns : List (Nat × List Go.Ab.Mode × (List Arg → Option Res))) {dp : Bool} (h : FnOk Go.Proofs.Try.prog ⟨Tab, fns, dp⟩) : FnOk Go.Proofs.Try.prog ⟨Tab, K_laws_markText.entry :: fns, dp⟩ := h.cons K_laws_markText (by kernel_rfl) Wh.laws_markText_v ok_laws_markText

def K_laws_markItemS : Con := ⟨72, [.d (.lst tImplItem), .v (.int .i64)], [.v (.int .i64)], Wh.laws_markItemS, Wh.laws_markItemS'⟩
def C_laws_markItemS : Cx := ⟨Tab, [K_laws_markText.entry], true⟩
def L_laws_markItemS_0 : LoopD := loopD ⟨[(5, .leaf (.int .i64)), (0, .whole 950 tImplItem), (1, .leaf (.int .i64))], [(950, false, .rows tImplItem)]⟩ [((.exit 0), ⟨[(1, .leaf (.int .i64))], [(950, false, .rows tImplItem)]⟩)] Wh.laws_markItemS_l0_y Wh.laws_markItemS_l0
def lt_laws_markItemS : List (Nat × LoopD) := [(2, L_laws_markItemS_0)]
theorem r_laws_markItemS_0 : ∀ x, round C_laws_markItemS lt_laws_markItemS (nthLoop Go.Proofs.Try.f72 0) L_laws_markItemS_0 x = Wh.laws_markItemS_l0 x := by intro x; kernel_rfl
theorem e_laws_markItemS : ∀ xs, evT C_laws_markItemS lt_laws_markItemS Go.Proofs.Try.f72 [.d (.lst tImplItem), .v (.int .i64)] [.v (.int .i64)] xs = Wh.laws_markItemS xs := by intro xs; kernel_rfl
theorem ok_laws_markItemS : ConOk Go.Proofs.Try.prog K_laws_markItemS := con_ok (Ls := [L_laws_markItemS_0]) mixed (cx_ok _ _) (fk_laws_markText _ (FnOk.nil Tab true)) Go.Proofs.Try.func72 (loopsL_cons (by kernel_rfl) (loopD_ok r_laws_markItemS_0) (loopsL_nil (by kernel_rfl))) e_laws_markItemS
theorem fk_laws_markItemS (fns : List (Nat × List Go.Ab.Mode × (List Arg → Option Res))) {dp : Bool} (h : FnOk Go.Proofs.Try.prog ⟨Tab, fns, dp⟩) : FnOk Go.Proofs.Try.prog ⟨Tab, K_laws_markItemS.entry :: fns, dp⟩ := h.cons K_laws_markItemS (by kernel_rfl) Wh.laws_markItemS_v ok_laws_markItemS

def K_laws_markCat : Con := ⟨108, [.d tImplCat, .v (.int .i64)], [.v (.int .i64)], Wh.laws_markCat, Wh.laws_markCat'⟩
def C_laws_markCat : Cx := ⟨Tab, [K_laws_markItemS.entry], true⟩
def lt_laws_markCat : List (Nat × LoopD) := []
theorem e_laws_markCat : ∀ xs, evT C_laws_markCat lt_laws_markCat Go.Proofs.Try.f108 [.d tImplCat, .v (.int .i64)] [.v (.int .i64)] xs = Wh.laws_markCat xs := by intro xs; kernel_rfl
theorem ok_laws_markCat : ConOk Go.Proofs.Try.prog K_laws_markCat := con_ok (Ls := []) mixed (cx_ok _ _) (fk_laws_markItemS _ (FnOk.nil Tab true)) Go.Proofs.Try.func108 (loopsL_nil (by kernel_rfl)) e_laws_markCat
theorem fk_laws_markCat (fns : List (Nat × List Go.Ab.Mode × (List Arg → Option Res))) {dp : Bool} (h : FnOk Go.Proofs.Try.prog ⟨Tab, fns, dp⟩) : FnOk Go.Proofs.Try.prog ⟨Tab, K_laws_markCat.entry :: fns, dp⟩ := h.cons K_laws_markCat (by kernel_rfl) Wh.laws_markCat_v ok_laws_markCat

def K_laws_markFrameS : Con := ⟨138, [.d (.lst tImplFrame), .v (.int .i64)], [.v (.int .i64)], Wh.laws_markFrameS, Wh.laws_markFrameS'⟩
def C_laws_markFrameS : Cx := ⟨Tab, [], true⟩
def L_laws_markFrameS_0 : LoopD := loopD ⟨[(5, .leaf (.int .i64)), (0, .whole 950 tImplFrame), (1, .leaf (.int .i64))], [(950, false, .rows tImplFrame)]⟩ [((.exit 0), ⟨[(1, .leaf (.int .i64))], [(950, false, .rows tImplFrame)]⟩)] Wh.laws_markFrameS_l0_y Wh.laws_markFrameS_l0
def lt_laws_markFrameS : List (Nat × LoopD) := [(2, L_laws_markFrameS_0)]
theorem r_laws_markFrameS_0 : ∀ x, round C_laws_markFrameS lt_laws_markFrameS (nthLoop Go.Proofs.Try.f138 0) L_laws_markFrameS_0 x = Wh.laws_markFrameS_l0 x := by intro x; kernel_rfl
theorem e_laws_markFrameS : ∀ xs, evT C_laws_markFrameS lt_laws_markFrameS Go.Proofs.Try.f138 [.d (.lst tImplFrame), .v (.int .i64)] [.v (.int .i64)] xs = Wh.laws_markFrameS xs := by intro xs; kernel_rfl
theorem ok_laws_markFrameS : ConOk Go.Proofs.Try.prog K_laws_markFrameS := con_ok (Ls := [L_laws_markFrameS_0]) mixed (cx_ok _ _) (FnOk.nil Tab true) Go.Proofs.Try.func138 (loopsL_cons (by kernel_rfl) (loopD_ok r_laws_markFrameS_0) (loopsL_nil (by kernel_rfl))) e_laws_markFrameS
theorem fk_laws_markFrameS (fns : List (Nat × List Go.Ab.Mode × (List Arg → Option Res))) {dp : Bool} (h : FnOk Go.Proofs.Try.prog ⟨Tab, fns, dp⟩) : FnOk Go.Proofs.Try.prog ⟨Tab, K_laws_markFrameS.entry :: fns, dp⟩ := h.cons K_laws_markFrameS (by kernel_rfl) Wh.laws_markFrameS_v ok_laws_markFrameS

def K_laws_markPool : Con := ⟨109, [.d tImplPool, .v (.int .i64)], [.v (.int .i64)], Wh.laws_markPool, Wh.laws_markPool'⟩
def C_laws_markPool : Cx := ⟨Tab, [K_laws_markFrameS.entry], true⟩
def lt_laws_markPool : List (Nat × LoopD) := []
theorem e_laws_markPool : ∀ xs, evT C_laws_markPool lt_laws_markPool Go.Proofs.Try.f109 [.d tImplPool, .v (.int .i64)] [.v (.int .i64)] xs = Wh.laws_markPool xs := by intro xs; kernel_rfl
theorem ok_laws_markPool : ConOk Go.Proofs.Try.prog K_laws_markPool := con_ok (Ls := []) mixed (cx_ok _ _) (fk_laws_markFrameS _ (FnOk.nil Tab true)) Go.Proofs.Try.func109 (loopsL_nil (by kernel_rfl)) e_laws_markPool
theorem fk_laws_markPool (fns : List (Nat × List Go.Ab.Mode × (List Arg → Option Res))) {dp : Bool} (h : FnOk Go.Proofs.Try.prog ⟨Tab, fns, dp⟩) : FnOk Go.Proofs.Try.prog ⟨Tab, K_laws_markPool.entry :: fns, dp⟩ := h.cons K_laws_markPool (by kernel_rfl) Wh.laws_markPool_v ok_laws_markPool

def K_laws_markBucketS : Con := ⟨110, [.d (.lst tImplBucket), .v (.int .i64)], [.v (.int .i64)], Wh.laws_markBucketS, Wh.laws_markBucketS'⟩
def C_laws_markBucketS : Cx := ⟨Tab, [], true⟩
def L_laws_markBucketS_0 : LoopD := loopD ⟨[(5, .leaf (.int .i64)), (0, .whole 950 tImplBucket), (1, .leaf (.int .i64))], [(950, false, .rows tImplBucket)]⟩ [((.exit 0), ⟨[(1, .leaf (.int .i64))], [(950, false, .rows tImplBucket)]⟩)] Wh.laws_markBucketS_l0_y Wh.laws_markBucketS_l0
def lt_laws_markBucketS : List (Nat × LoopD) := [(2, L_laws_markBucketS_0)]
theorem r_laws_markBucketS_0 : ∀ x, round C_laws_markBucketS lt_laws_markBucketS (nthLoop Go.Proofs.Try.f110 0) L_laws_markBucketS_0 x = Wh.laws_markBucketS_l0 x := by intro x; kernel_rfl
theorem e_laws_markBucketS : ∀ xs, evT C_laws_markBucketS lt_laws_markBucketS Go.Proofs.Try.f110 [.d (.lst tImplBucket), .v (.int .i64)] [.v (.int .i64)] xs = Wh.laws_markBucketS xs := by intro xs; kernel_rfl
theorem ok_laws_markBucketS : ConOk Go.Proofs.Try.prog K_laws_markBucketS := con_ok (Ls := [L_laws_markBucketS_0]) mixed (cx_ok _ _) (FnOk.nil Tab true) Go.Proofs.Try.func110 (loopsL_cons (by kernel_rfl) (loopD_ok r_laws_markBucketS_0) (loopsL_nil (by kernel_rfl))) e_laws_markBucketS
theorem fk_laws_markBucketS (fns : List (Nat × List Go.Ab.Mode × (List Arg → Option Res))) {dp : Bool} (h : FnOk Go.Proofs.Try.prog ⟨Tab, fns, dp⟩) : FnOk Go.Proofs.Try.prog ⟨Tab, K_laws_markBucketS.entry :: fns, dp⟩ := h.cons K_laws_markBucketS (by kernel_rfl) Wh.laws_markBucketS_v ok_laws_markBucketS

def K_laws_markServeS : Con := ⟨111, [.d (.lst tImplServe), .v (.int .i64)], [.v (.int .i64)], Wh.laws_markServeS, Wh.laws_markServeS'⟩
def C_laws_markServeS : Cx := ⟨Tab, [], true⟩
def L_laws_markServeS_0 : LoopD := loopD ⟨[(5, .leaf (.int .i64)), (0, .whole 950 tImplServe), (1, .leaf (.int .i64))], [(950, false, .rows tImplServe)]⟩ [((.exit 0), ⟨[(1, .leaf (.int .i64))], [(950, false, .rows tImplServe)]⟩)] Wh.laws_markServeS_l0_y Wh.laws_markServeS_l0
def lt_laws_markServeS : List (Nat × LoopD) := [(2, L_laws_markServeS_0)]
theorem r_laws_markServeS_0 : ∀ x, round C_laws_markServeS lt_laws_markServeS (nthLoop Go.Proofs.Try.f111 0) L_laws_markServeS_0 x = Wh.laws_markServeS_l0 x := by intro x; kernel_rfl
theorem e_laws_markServeS : ∀ xs, evT C_laws_markServeS lt_laws_markServeS Go.Proofs.Try.f111 [.d (.lst tImplServe), .v (.int .i64)] [.v (.int .i64)] xs = Wh.laws_markServeS xs := by intro xs; kernel_rfl
theorem ok_laws_markServeS : ConOk Go.Proofs.Try.prog K_laws_markServeS := con_ok (Ls := [L_laws_markServeS_0]) mixed (cx_ok _ _) (FnOk.nil Tab true) Go.Proofs.Try.func111 (loopsL_cons (by kernel_rfl) (loopD_ok r_laws_markServeS_0) (loopsL_nil (by kernel_rfl))) e_laws_markServeS
theorem fk_laws_markServeS (fns : List (Nat × List Go.Ab.Mode × (List Arg → Option Res))) {dp : Bool} (h : FnOk Go.Proofs.Try.prog ⟨Tab, fns, dp⟩) : FnOk Go.Proofs.Try.prog ⟨Tab, K_laws_markServeS.entry :: fns, dp⟩ := h.cons K_laws_markServeS (by kernel_rfl) Wh.laws_markServeS_v ok_laws_markServeS

def K_laws_markServer : Con := ⟨69, [.d tImplServer, .v (.int .i64)], [.v (.int .i64)], Wh.laws_markServer, Wh.laws_markServer'⟩
def C_laws_markServer : Cx := ⟨Tab, [K_laws_markServeS.entry, K_laws_markBucketS.entry, K_laws_markPool.entry, K_laws_markCat.entry], true⟩
def lt_laws_markServer : List (Nat × LoopD) := []
theorem e_laws_markServer : ∀ xs, evT C_laws_markServer lt_laws_markServer Go.Proofs.Try.f69 [.d tImplServer, .v (.int .i64)] [.v (.int .i64)] xs = Wh.laws_markServer xs := by intro xs; kernel_rfl
theorem ok_laws_markServer : ConOk Go.Proofs.Try.prog K_laws_markServer := con_ok (Ls := []) mixed (cx_ok _ _) (fk_laws_markServeS _ (fk_laws_markBucketS _ (fk_laws_markPool _ (fk_laws_markCat _ (FnOk.nil Tab true))))) Go.Proofs.Try.func69 (loopsL_nil (by kernel_rfl)) e_laws_markServer
theorem fk_laws_markServer (fns : List (Nat × List Go.Ab.Mode × (List Arg → Option Res))) {dp : Bool} (h : FnOk Go.Proofs.Try.prog ⟨Tab, fns, dp⟩) : FnOk Go.Proofs.Try.prog ⟨Tab, K_laws_markServer.entry :: fns, dp⟩ := h.cons K_laws_markServer (by kernel_rfl) Wh.laws_markServer_v ok_laws_markServer

def K_laws_markIntS : Con := ⟨112, [.d (.lst (.int .i64)), .v (.int .i64)], [.v (.int .i64)], Wh.laws_markIntS, Wh.laws_markIntS'⟩
def C_laws_markIntS : Cx := ⟨Tab, [], true⟩
def L_laws_markIntS_0 : LoopD := loopD ⟨[(5, .leaf (.int .i64)), (1, .leaf (.int .i64)), (0, .whole 950 (.int .i64))], [(950, false, .rows (.int .i64))]⟩ [((.exit 0), ⟨[(1, .leaf (.int .i64))], [(950, false, .rows (.int .i64))]⟩)] Wh.laws_markIntS_l0_y Wh.laws_markIntS_l0
def lt_laws_markIntS : List (Nat × LoopD) := [(2, L_laws_markIntS_0)]
theorem r_laws_markIntS_0 : ∀ x, round C_laws_markIntS lt_laws_markIntS (nthLoop Go.Proofs.Try.f112 0) L_laws_markIntS_0 x = Wh.laws_markIntS_l0 x := by intro x; kernel_rfl
theorem e_laws_markIntS : ∀ xs, evT C_laws_markIntS lt_laws_markIntS Go.Proofs.Try.f112 [.d (.lst (.int .i64)), .v (.int .i64)] [.v (.int .i64)] xs = Wh.laws_markIntS xs := by intro xs; kernel_rfl
theorem ok_laws_markIntS : ConOk Go.Proofs.Try.prog K_laws_markIntS := con_ok (Ls := [L_laws_markIntS_0]) mixed (cx_ok _ _) (FnOk.nil Tab true) Go.Proofs.Try.func112 (loopsL_cons (by kernel_rfl) (loopD_ok r_laws_markIntS_0) (loopsL_nil (by kernel_rfl))) e_laws_markIntS
theorem fk_laws_markIntS (fns : List (Nat × List Go.Ab.Mode × (List Arg → Option Res))) {dp : Bool} (h : FnOk Go.Proofs.Try.prog ⟨Tab, fns, dp⟩) : FnOk Go.Proofs.Try.prog ⟨Tab, K_laws_markIntS.entry :: fns, dp⟩ := h.cons K_laws_markIntS (by kernel_rfl) Wh.laws_markIntS_v ok_laws_markIntS

def K_laws_markEqS : Con := ⟨113, [.d (.lst tImplEq), .v (.int .i64)], [.v (.int .i64)], Wh.laws_markEqS, Wh.laws_markEqS'⟩
def C_laws_markEqS : Cx := ⟨Tab, [K_laws_markText.entry, K_laws_markIntS.entry], true⟩
def L_laws_markEqS_0 : LoopD := loopD ⟨[(5, .leaf (.int .i64)), (0, .whole 950 tImplEq), (1, .leaf (.int .i64))], [(950, false, .deep tImplEq)]⟩ [((.exit 0), ⟨[(1, .leaf (.int .i64))], [(950, false, .deep tImplEq)]⟩)] Wh.laws_markEqS_l0_y Wh.laws_markEqS_l0
def lt_laws_markEqS : List (Nat × LoopD) := [(2, L_laws_markEqS_0)]
theorem r_laws_markEqS_0 : ∀ x, round C_laws_markEqS lt_laws_markEqS (nthLoop Go.Proofs.Try.f113 0) L_laws_markEqS_0 x = Wh.laws_markEqS_l0 x := by intro x; kernel_rfl
theorem e_laws_markEqS : ∀ xs, evT C_laws_markEqS lt_laws_markEqS Go.Proofs.Try.f113 [.d (.lst tImplEq), .v (.int .i64)] [.v (.int .i64)] xs = Wh.laws_markEqS xs := by intro xs; kernel_rfl
theorem ok_laws_markEqS : ConOk Go.Proofs.Try.prog K_laws_markEqS := con_ok (Ls := [L_laws_markEqS_0]) mixed (cx_ok _ _) (fk_laws_markText _ (fk_laws_markIntS _ (FnOk.nil Tab true))) Go.Proofs.Try.func113 (loopsL_cons (by kernel_rfl) (loopD_ok r_laws_markEqS_0) (loopsL_nil (by kernel_rfl))) e_laws_markEqS
theorem fk_laws_markEqS (fns : List (Nat × List Go.Ab.Mode × (List Arg → Option Res))) {dp : Bool} (h : FnOk Go.Proofs.Try.prog ⟨Tab, fns, dp⟩) : FnOk Go.Proofs.Try.prog ⟨Tab, K_laws_markEqS.entry :: fns, dp⟩ := h.cons K_laws_markEqS (by kernel_rfl) Wh.laws_markEqS_v ok_laws_markEqS

def K_laws_markClientS : Con := ⟨70, [.d (.lst tImplClient), .v (.int .i64)], [.v (.int .i64)], Wh.laws_markClientS, Wh.laws_markClientS'⟩
def C_laws_markClientS : Cx := ⟨Tab, [K_laws_markEqS.entry, K_laws_markIntS.entry, K_laws_markText.entry], true⟩
def L_laws_markClientS_0 : LoopD := loopD ⟨[(5, .leaf (.int .i64)), (0, .whole 950 tImplClient), (1, .leaf (.int .i64))], [(950, false, .deep tImplClient)]⟩ [((.exit 0), ⟨[(1, .leaf (.int .i64))], [(950, false, .deep tImplClient)]⟩)] Wh.laws_markClientS_l0_y Wh.laws_markClientS_l0
def lt_laws_markClientS : List (Nat × LoopD) := [(2, L_laws_markClientS_0)]
theorem r_laws_markClientS_0 : ∀ x, round C_laws_markClientS lt_laws_markClientS (nthLoop Go.Proofs.Try.f70 0) L_laws_markClientS_0 x = Wh.laws_markClientS_l0 x := by intro x; kernel_rfl
theorem e_laws_markClientS : ∀ xs, evT C_laws_markClientS lt_laws_markClientS Go.Proofs.Try.f70 [.d (.lst tImplClient), .v (.int .i64)] [.v (.int .i64)] xs = Wh.laws_markClientS xs := by intro xs; kernel_rfl
theorem ok_laws_markClientS : ConOk Go.Proofs.Try.prog K_laws_markClientS := con_ok (Ls := [L_laws_markClientS_0]) mixed (cx_ok _ _) (fk_laws_markEqS _ (fk_laws_markIntS _ (fk_laws_markText _ (FnOk.nil Tab true)))) Go.Proofs.Try.func70 (loopsL_cons (by kernel_rfl) (loopD_ok r_laws_markClientS_0) (loopsL_nil (by kernel_rfl))) e_laws_markClientS
theorem fk_laws_markClientS (fns : List (Nat × List Go.Ab.Mode × (List Arg → Option Res))) {dp : Bool} (h : FnOk Go.Proofs.Try.prog ⟨Tab, fns, dp⟩) : FnOk Go.Proofs.Try.prog ⟨Tab, K_laws_markClientS.entry :: fns, dp⟩ := h.cons K_laws_markClientS (by kernel_rfl) Wh.laws_markClientS_v ok_laws_markClientS

def K_laws_markPacketS : Con := ⟨71, [.d (.lst tImplPacket), .v (.int .i64)], [.v (.int .i64)], Wh.laws_markPacketS, Wh.laws_markPacketS'⟩
def C_laws_markPacketS : Cx := ⟨Tab, [K_laws_markText.entry], true⟩
def L_laws_markPacketS_0 : LoopD := loopD ⟨[(5, .leaf (.int .i64)), (0, .whole 950 tImplPacket), (1, .leaf (.int .i64))], [(950, false, .rows tImplPacket)]⟩ [((.exit 0), ⟨[(1, .leaf (.int .i64))], [(950, false, .rows tImplPacket)]⟩)] Wh.laws_markPacketS_l0_y Wh.laws_markPacketS_l0
def lt_laws_markPacketS : List (Nat × LoopD) := [(2, L_laws_markPacketS_0)]
theorem r_laws_markPacketS_0 : ∀ x, round C_laws_markPacketS lt_laws_markPacketS (nthLoop Go.Proofs.Try.f71 0) L_laws_markPacketS_0 x = Wh.laws_markPacketS_l0 x := by intro x; kernel_rfl
theorem e_laws_markPacketS : ∀ xs, evT C_laws_markPacketS lt_laws_markPacketS Go.Proofs.Try.f71 [.d (.lst tImplPacket), .v (.int .i64)] [.v (.int .i64)] xs = Wh.laws_markPacketS xs := by intro xs; kernel_rfl
theorem ok_laws_markPacketS : ConOk Go.Proofs.Try.prog K_laws_markPacketS := con_ok (Ls := [L_laws_markPacketS_0]) mixed (cx_ok _ _) (fk_laws_markText _ (FnOk.nil Tab true)) Go.Proofs.Try.func71 (loopsL_cons (by kernel_rfl) (loopD_ok r_laws_markPacketS_0) (loopsL_nil (by kernel_rfl))) e_laws_markPacketS
theorem fk_laws_markPacketS (fns : List (Nat × List Go.Ab.Mode × (List Arg → Option Res))) {dp : Bool} (h : FnOk Go.Proofs.Try.prog ⟨Tab, fns, dp⟩) : FnOk Go.Proofs.Try.prog ⟨Tab, K_laws_markPacketS.entry :: fns, dp⟩ := h.cons K_laws_markPacketS (by kernel_rfl) Wh.laws_markPacketS_v ok_laws_markPacketS

def K_laws_markWorld : Con := ⟨36, [.d tImplWorld, .v (.int .i64)], [.v (.int .i64)], Wh.laws_markWorld, Wh.laws_markWorld'⟩
def C_laws_markWorld : Cx := ⟨Tab, [K_laws_markItemS.entry, K_laws_markPacketS.entry, K_laws_markClientS.entry, K_laws_markServer.entry], true⟩
def lt_laws_markWorld : List (Nat × LoopD) := []
theorem e_laws_markWorld : ∀ xs, evT C_laws_markWorld lt_laws_markWorld Go.Proofs.Try.f36 [.d tImplWorld, .v (.int .i64)] [.v (.int .i64)] xs = Wh.laws_markWorld xs := by intro xs; kernel_rfl
theorem ok_laws_markWorld : ConOk Go.Proofs.Try.prog K_laws_markWorld := con_ok (Ls := []) mixed (cx_ok _ _) (fk_laws_markItemS _ (fk_laws_markPacketS _ (fk_laws_markClientS _ (fk_laws_markServer _ (FnOk.nil Tab true))))) Go.Proofs.Try.func36 (loopsL_nil (by kernel_rfl)) e_laws_markWorld
theorem fk_laws_markWorld (fns : List (Nat × List Go.Ab.Mode × (List Arg → Option Res))) {dp : Bool} (h : FnOk Go.Proofs.Try.prog ⟨Tab, fns, dp⟩) : FnOk Go.Proofs.Try.prog ⟨Tab, K_laws_markWorld.entry :: fns, dp⟩ := h.cons K_laws_markWorld (by kernel_rfl) Wh.laws_markWorld_v ok_laws_markWorld

def K_laws_heldItemS : Con := ⟨76, [.v (.lst tImplItem), .v (.int .i64)], [.v (.int .i64)], Wh.laws_heldItemS, Wh.laws_heldItemS'⟩
def C_laws_heldItemS : Cx := ⟨Tab, [K_laws_markText.entry], false⟩
def L_laws_heldItemS_0 : LoopD := loopD ⟨[(5, .leaf (.int .i64)), (0, .leaf (.lst tImplItem)), (1, .leaf (.int .i64))], []⟩ [(.ret, ⟨[(4, .leaf (.int .i64))], []⟩), ((.exit 0), ⟨[(1, .leaf (.int .i64))], []⟩)] Wh.laws_heldItemS_l0_y Wh.laws_heldItemS_l0
def lt_laws_heldItemS : List (Nat × LoopD) := [(2, L_laws_heldItemS_0)]
theorem r_laws_heldItemS_0 : ∀ x, round C_laws_heldItemS lt_laws_heldItemS (nthLoop Go.Proofs.Try.f76 0) L_laws_heldItemS_0 x = Wh.laws_heldItemS_l0 x := by intro x; kernel_rfl
theorem e_laws_heldItemS : ∀ xs, evT C_laws_heldItemS lt_laws_heldItemS Go.Proofs.Try.f76 [.v (.lst tImplItem), .v (.int .i64)] [.v (.int .i64)] xs = Wh.laws_heldItemS xs := by intro xs; kernel_rfl
theorem ok_laws_heldItemS : ConOk Go.Proofs.Try.prog K_laws_heldItemS := con_ok (Ls := [L_laws_heldItemS_0]) mixed (cx_ok _ _) (fk_laws_markText _ (FnOk.nil Tab false)) Go.Proofs.Try.func76 (loopsL_cons (by kernel_rfl) (loopD_ok r_laws_heldItemS_0) (loopsL_nil (by kernel_rfl))) e_laws_heldItemS
theorem fk_laws_heldItemS (fns : List (Nat × List Go.Ab.Mode × (List Arg → Option Res))) {dp : Bool} (h : FnOk Go.Proofs.Try.prog ⟨Tab, fns, dp⟩) : FnOk Go.Proofs.Try.prog ⟨Tab, K_laws_heldItemS.entry :: fns, dp⟩ := h.cons K_laws_heldItemS (by kernel_rfl) Wh.laws_heldItemS_v ok_laws_heldItemS

def K_laws_heldCat : Con := ⟨114, [.v tImplCat, .v (.int .i64)], [.v (.int .i64)], Wh.laws_heldCat, Wh.laws_heldCat'⟩
def C_laws_heldCat : Cx := ⟨Tab, [K_laws_heldItemS.entry], false⟩
def lt_laws_heldCat : List (Nat × LoopD) := []
theorem e_laws_heldCat : ∀ xs, evT C_laws_heldCat lt_laws_heldCat Go.Proofs.Try.f114 [.v tImplCat, .v (.int .i64)] [.v (.int .i64)] xs = Wh.laws_heldCat xs := by intro xs; kernel_rfl
theorem ok_laws_heldCat : ConOk Go.Proofs.Try.prog K_laws_heldCat := con_ok (Ls := []) mixed (cx_ok _ _) (fk_laws_heldItemS _ (FnOk.nil Tab false)) Go.Proofs.Try.func114 (loopsL_nil (by kernel_rfl)) e_laws_heldCat
theorem fk_laws_heldCat (fns : List (Nat × List Go.Ab.Mode × (List Arg → Option Res))) {dp : Bool} (h : FnOk Go.Proofs.Try.prog ⟨Tab, fns, dp⟩) : FnOk Go.Proofs.Try.prog ⟨Tab, K_laws_heldCat.entry :: fns, dp⟩ := h.cons K_laws_heldCat (by kernel_rfl) Wh.laws_heldCat_v ok_laws_heldCat

def K_laws_heldFrameS : Con := ⟨139, [.v (.lst tImplFrame), .v (.int .i64)], [.v (.int .i64)], Wh.laws_heldFrameS, Wh.laws_heldFrameS'⟩
def C_laws_heldFrameS : Cx := ⟨Tab, [], false⟩
def L_laws_heldFrameS_0 : LoopD := loopD ⟨[(5, .leaf (.int .i64)), (0, .leaf (.lst tImplFrame)), (1, .leaf (.int .i64))], []⟩ [(.ret, ⟨[(4, .leaf (.int .i64))], []⟩), ((.exit 0), ⟨[(1, .leaf (.int .i64))], []⟩)] Wh.laws_heldFrameS_l0_y Wh.laws_heldFrameS_l0
def lt_laws_heldFrameS : List (Nat × LoopD) := [(2, L_laws_heldFrameS_0)]
theorem r_laws_heldFrameS_0 : ∀ x, round C_laws_heldFrameS lt_laws_heldFrameS (nthLoop Go.Proofs.Try.f139 0) L_laws_heldFrameS_0 x = Wh.laws_heldFrameS_l0 x := by intro x; kernel_rfl
theorem e_laws_heldFrameS : ∀ xs, evT C_laws_heldFrameS lt_laws_heldFrameS Go.Proofs.Try.f139 [.v (.lst tImplFrame), .v (.int .i64)] [.v (.int .i64)] xs = Wh.laws_heldFrameS xs := by intro xs; kernel_rfl
theorem ok_laws_heldFrameS : ConOk Go.Proofs.Try.prog K_laws_heldFrameS := con_ok (Ls := [L_laws_heldFrameS_0]) mixed (cx_ok _ _) (FnOk.nil Tab false) Go.Proofs.Try.func139 (loopsL_cons (by kernel_rfl) (loopD_ok r_laws_heldFrameS_0) (loopsL_nil (by kernel_rfl))) e_laws_heldFrameS
theorem fk_laws_heldFrameS (fns : List (Nat × List Go.Ab.Mode × (List Arg → Option Res))) {dp : Bool} (h : FnOk Go.Proofs.Try.prog ⟨Tab, fns, dp⟩) : FnOk Go.Proofs.Try.prog ⟨Tab, K_laws_heldFrameS.entry :: fns, dp⟩ := h.cons K_laws_heldFrameS (by kernel_rfl) Wh.laws_heldFrameS_v ok_laws_heldFrameS

def K_laws_heldPool : Con := ⟨115, [.v tImplPool, .v (.int .i64)], [.v (.int .i64)], Wh.laws_heldPool, Wh.laws_heldPool'⟩
def C_laws_heldPool : Cx := ⟨Tab, [K_laws_heldFrameS.entry], false⟩
def lt_laws_heldPool : List (Nat × LoopD) := []
theorem e_laws_heldPool : ∀ xs, evT C_laws_heldPool lt_laws_heldPool Go.Proofs.Try.f115 [.v tImplPool, .v (.int .i64)] [.v (.int .i64)] xs = Wh.laws_heldPool xs := by intro xs; kernel_rfl
theorem ok_laws_heldPool : ConOk Go.Proofs.Try.prog K_laws_heldPool := con_ok (Ls := []) mixed (cx_ok _ _) (fk_laws_heldFrameS _ (FnOk.nil Tab false)) Go.Proofs.Try.func115 (loopsL_nil (by kernel_rfl)) e_laws_heldPool
theorem fk_laws_heldPool (fns : List (Nat × List Go.Ab.Mode × (List Arg → Option Res))) {dp : Bool} (h : FnOk Go.Proofs.Try.prog ⟨Tab, fns, dp⟩) : FnOk Go.Proofs.Try.prog ⟨Tab, K_laws_heldPool.entry :: fns, dp⟩ := h.cons K_laws_heldPool (by kernel_rfl) Wh.laws_heldPool_v ok_laws_heldPool

def K_laws_heldBucketS : Con := ⟨116, [.v (.lst tImplBucket), .v (.int .i64)], [.v (.int .i64)], Wh.laws_heldBucketS, Wh.laws_heldBucketS'⟩
def C_laws_heldBucketS : Cx := ⟨Tab, [], false⟩
def L_laws_heldBucketS_0 : LoopD := loopD ⟨[(5, .leaf (.int .i64)), (0, .leaf (.lst tImplBucket)), (1, .leaf (.int .i64))], []⟩ [(.ret, ⟨[(4, .leaf (.int .i64))], []⟩), ((.exit 0), ⟨[(1, .leaf (.int .i64))], []⟩)] Wh.laws_heldBucketS_l0_y Wh.laws_heldBucketS_l0
def lt_laws_heldBucketS : List (Nat × LoopD) := [(2, L_laws_heldBucketS_0)]
theorem r_laws_heldBucketS_0 : ∀ x, round C_laws_heldBucketS lt_laws_heldBucketS (nthLoop Go.Proofs.Try.f116 0) L_laws_heldBucketS_0 x = Wh.laws_heldBucketS_l0 x := by intro x; kernel_rfl
theorem e_laws_heldBucketS : ∀ xs, evT C_laws_heldBucketS lt_laws_heldBucketS Go.Proofs.Try.f116 [.v (.lst tImplBucket), .v (.int .i64)] [.v (.int .i64)] xs = Wh.laws_heldBucketS xs := by intro xs; kernel_rfl
theorem ok_laws_heldBucketS : ConOk Go.Proofs.Try.prog K_laws_heldBucketS := con_ok (Ls := [L_laws_heldBucketS_0]) mixed (cx_ok _ _) (FnOk.nil Tab false) Go.Proofs.Try.func116 (loopsL_cons (by kernel_rfl) (loopD_ok r_laws_heldBucketS_0) (loopsL_nil (by kernel_rfl))) e_laws_heldBucketS
theorem fk_laws_heldBucketS (fns : List (Nat × List Go.Ab.Mode × (List Arg → Option Res))) {dp : Bool} (h : FnOk Go.Proofs.Try.prog ⟨Tab, fns, dp⟩) : FnOk Go.Proofs.Try.prog ⟨Tab, K_laws_heldBucketS.entry :: fns, dp⟩ := h.cons K_laws_heldBucketS (by kernel_rfl) Wh.laws_heldBucketS_v ok_laws_heldBucketS

def K_laws_heldServeS : Con := ⟨117, [.v (.lst tImplServe), .v (.int .i64)], [.v (.int .i64)], Wh.laws_heldServeS, Wh.laws_heldServeS'⟩
def C_laws_heldServeS : Cx := ⟨Tab, [], false⟩
def L_laws_heldServeS_0 : LoopD := loopD ⟨[(5, .leaf (.int .i64)), (0, .leaf (.lst tImplServe)), (1, .leaf (.int .i64))], []⟩ [(.ret, ⟨[(4, .leaf (.int .i64))], []⟩), ((.exit 0), ⟨[(1, .leaf (.int .i64))], []⟩)] Wh.laws_heldServeS_l0_y Wh.laws_heldServeS_l0
def lt_laws_heldServeS : List (Nat × LoopD) := [(2, L_laws_heldServeS_0)]
theorem r_laws_heldServeS_0 : ∀ x, round C_laws_heldServeS lt_laws_heldServeS (nthLoop Go.Proofs.Try.f117 0) L_laws_heldServeS_0 x = Wh.laws_heldServeS_l0 x := by intro x; kernel_rfl
theorem e_laws_heldServeS : ∀ xs, evT C_laws_heldServeS lt_laws_heldServeS Go.Proofs.Try.f117 [.v (.lst tImplServe), .v (.int .i64)] [.v (.int .i64)] xs = Wh.laws_heldServeS xs := by intro xs; kernel_rfl
theorem ok_laws_heldServeS : ConOk Go.Proofs.Try.prog K_laws_heldServeS := con_ok (Ls := [L_laws_heldServeS_0]) mixed (cx_ok _ _) (FnOk.nil Tab false) Go.Proofs.Try.func117 (loopsL_cons (by kernel_rfl) (loopD_ok r_laws_heldServeS_0) (loopsL_nil (by kernel_rfl))) e_laws_heldServeS
theorem fk_laws_heldServeS (fns : List (Nat × List Go.Ab.Mode × (List Arg → Option Res))) {dp : Bool} (h : FnOk Go.Proofs.Try.prog ⟨Tab, fns, dp⟩) : FnOk Go.Proofs.Try.prog ⟨Tab, K_laws_heldServeS.entry :: fns, dp⟩ := h.cons K_laws_heldServeS (by kernel_rfl) Wh.laws_heldServeS_v ok_laws_heldServeS

def K_laws_heldServer : Con := ⟨73, [.v tImplServer, .v (.int .i64)], [.v (.int .i64)], Wh.laws_heldServer, Wh.laws_heldServer'⟩
def C_laws_heldServer : Cx := ⟨Tab, [K_laws_heldServeS.entry, K_laws_heldBucketS.entry, K_laws_heldPool.entry, K_laws_heldCat.entry], false⟩
def lt_laws_heldServer : List (Nat × LoopD) := []
theorem e_laws_heldServer : ∀ xs, evT C_laws_heldServer lt_laws_heldServer Go.Proofs.Try.f73 [.v tImplServer, .v (.int .i64)] [.v (.int .i64)] xs = Wh.laws_heldServer xs := by intro xs; kernel_rfl
theorem ok_laws_heldServer : ConOk Go.Proofs.Try.prog K_laws_heldServer := con_ok (Ls := []) mixed (cx_ok _ _) (fk_laws_heldServeS _ (fk_laws_heldBucketS _ (fk_laws_heldPool _ (fk_laws_heldCat _ (FnOk.nil Tab false))))) Go.Proofs.Try.func73 (loopsL_nil (by kernel_rfl)) e_laws_heldServer
theorem fk_laws_heldServer (fns : List (Nat × List Go.Ab.Mode × (List Arg → Option Res))) {dp : Bool} (h : FnOk Go.Proofs.Try.prog ⟨Tab, fns, dp⟩) : FnOk Go.Proofs.Try.prog ⟨Tab, K_laws_heldServer.entry :: fns, dp⟩ := h.cons K_laws_heldServer (by kernel_rfl) Wh.laws_heldServer_v ok_laws_heldServer

def K_laws_heldIntS : Con := ⟨118, [.v (.lst (.int .i64)), .v (.int .i64)], [.v (.int .i64)], Wh.laws_heldIntS, Wh.laws_heldIntS'⟩
def C_laws_heldIntS : Cx := ⟨Tab, [], false⟩
def L_laws_heldIntS_0 : LoopD := loopD ⟨[(5, .leaf (.int .i64)), (1, .leaf (.int .i64)), (0, .leaf (.lst (.int .i64)))], []⟩ [(.ret, ⟨[(4, .leaf (.int .i64))], []⟩), ((.exit 0), ⟨[(1, .leaf (.int .i64))], []⟩)] Wh.laws_heldIntS_l0_y Wh.laws_heldIntS_l0
def lt_laws_heldIntS : List (Nat × LoopD) := [(2, L_laws_heldIntS_0)]
theorem r_laws_heldIntS_0 : ∀ x, round C_laws_heldIntS lt_laws_heldIntS (nthLoop Go.Proofs.Try.f118 0) L_laws_heldIntS_0 x = Wh.laws_heldIntS_l0 x := by intro x; kernel_rfl
theorem e_laws_heldIntS : ∀ xs, evT C_laws_heldIntS lt_laws_heldIntS Go.Proofs.Try.f118 [.v (.lst (.int .i64)), .v (.int .i64)] [.v (.int .i64)] xs = Wh.laws_heldIntS xs := by intro xs; kernel_rfl
theorem ok_laws_heldIntS : ConOk Go.Proofs.Try.prog K_laws_heldIntS := con_ok (Ls := [L_laws_heldIntS_0]) mixed (cx_ok _ _) (FnOk.nil Tab false) Go.Proofs.Try.func118 (loopsL_cons (by kernel_rfl) (loopD_ok r_laws_heldIntS_0) (loopsL_nil (by kernel_rfl))) e_laws_heldIntS
theorem fk_laws_heldIntS (fns : List (Nat × List Go.Ab.Mode × (List Arg → Option Res))) {dp : Bool} (h : FnOk Go.Proofs.Try.prog ⟨Tab, fns, dp⟩) : FnOk Go.Proofs.Try.prog ⟨Tab, K_laws_heldIntS.entry :: fns, dp⟩ := h.cons K_laws_heldIntS (by kernel_rfl) Wh.laws_heldIntS_v ok_laws_heldIntS

def K_laws_heldEqS : Con := ⟨119, [.v (.lst tImplEq), .v (.int .i64)], [.v (.int .i64)], Wh.laws_heldEqS, Wh.laws_heldEqS'⟩
def C_laws_heldEqS : Cx := ⟨Tab, [K_laws_markText.entry, K_laws_heldIntS.entry], false⟩
def L_laws_heldEqS_0 : LoopD := loopD ⟨[(5, .leaf (.int .i64)), (0, .leaf (.lst tImplEq)), (1, .leaf (.int .i64))], []⟩ [(.ret, ⟨[(4, .leaf (.int .i64))], []⟩), ((.exit 0), ⟨[(1, .leaf (.int .i64))], []⟩)] Wh.laws_heldEqS_l0_y Wh.laws_heldEqS_l0
def lt_laws_heldEqS : List (Nat × LoopD) := [(2, L_laws_heldEqS_0)]
theorem r_laws_heldEqS_0 : ∀ x, round C_laws_heldEqS lt_laws_heldEqS (nthLoop Go.Proofs.Try.f119 0) L_laws_heldEqS_0 x = Wh.laws_heldEqS_l0 x := by intro x; kernel_rfl
theorem e_laws_heldEqS : ∀ xs, evT C_laws_heldEqS lt_laws_heldEqS Go.Proofs.Try.f119 [.v (.lst tImplEq), .v (.int .i64)] [.v (.int .i64)] xs = Wh.laws_heldEqS xs := by intro xs; kernel_rfl
theorem ok_laws_heldEqS : ConOk Go.Proofs.Try.prog K_laws_heldEqS := con_ok (Ls := [L_laws_heldEqS_0]) mixed (cx_ok _ _) (fk_laws_markText _ (fk_laws_heldIntS _ (FnOk.nil Tab false))) Go.Proofs.Try.func119 (loopsL_cons (by kernel_rfl) (loopD_ok r_laws_heldEqS_0) (loopsL_nil (by kernel_rfl))) e_laws_heldEqS
theorem fk_laws_heldEqS (fns : List (Nat × List Go.Ab.Mode × (List Arg → Option Res))) {dp : Bool} (h : FnOk Go.Proofs.Try.prog ⟨Tab, fns, dp⟩) : FnOk Go.Proofs.Try.prog ⟨Tab, K_laws_heldEqS.entry :: fns, dp⟩ := h.cons K_laws_heldEqS (by kernel_rfl) Wh.laws_heldEqS_v ok_laws_heldEqS

def K_laws_heldClientS : Con := ⟨74, [.v (.lst tImplClient), .v (.int .i64)], [.v (.int .i64)], Wh.laws_heldClientS, Wh.laws_heldClientS'⟩
def C_laws_heldClientS : Cx := ⟨Tab, [K_laws_heldEqS.entry, K_laws_heldIntS.entry, K_laws_markText.entry], false⟩
def L_laws_heldClientS_0 : LoopD := loopD ⟨[(5, .leaf (.int .i64)), (0, .leaf (.lst tImplClient)), (1, .leaf (.int .i64))], []⟩ [(.ret, ⟨[(4, .leaf (.int .i64))], []⟩), ((.exit 0), ⟨[(1, .leaf (.int .i64))], []⟩)] Wh.laws_heldClientS_l0_y Wh.laws_heldClientS_l0
def lt_laws_heldClientS : List (Nat × LoopD) := [(2, L_laws_heldClientS_0)]
theorem r_laws_heldClientS_0 : ∀ x, round C_laws_heldClientS lt_laws_heldClientS (nthLoop Go.Proofs.Try.f74 0) L_laws_heldClientS_0 x = Wh.laws_heldClientS_l0 x := by intro x; kernel_rfl
theorem e_laws_heldClientS : ∀ xs, evT C_laws_heldClientS lt_laws_heldClientS Go.Proofs.Try.f74 [.v (.lst tImplClient), .v (.int .i64)] [.v (.int .i64)] xs = Wh.laws_heldClientS xs := by intro xs; kernel_rfl
theorem ok_laws_heldClientS : ConOk Go.Proofs.Try.prog K_laws_heldClientS := con_ok (Ls := [L_laws_heldClientS_0]) mixed (cx_ok _ _) (fk_laws_heldEqS _ (fk_laws_heldIntS _ (fk_laws_markText _ (FnOk.nil Tab false)))) Go.Proofs.Try.func74 (loopsL_cons (by kernel_rfl) (loopD_ok r_laws_heldClientS_0) (loopsL_nil (by kernel_rfl))) e_laws_heldClientS
theorem fk_laws_heldClientS (fns : List (Nat × List Go.Ab.Mode × (List Arg → Option Res))) {dp : Bool} (h : FnOk Go.Proofs.Try.prog ⟨Tab, fns, dp⟩) : FnOk Go.Proofs.Try.prog ⟨Tab, K_laws_heldClientS.entry :: fns, dp⟩ := h.cons K_laws_heldClientS (by kernel_rfl) Wh.laws_heldClientS_v ok_laws_heldClientS

def K_laws_heldPacketS : Con := ⟨75, [.v (.lst tImplPacket), .v (.int .i64)], [.v (.int .i64)], Wh.laws_heldPacketS, Wh.laws_heldPacketS'⟩
def C_laws_heldPacketS : Cx := ⟨Tab, [K_laws_markText.entry], false⟩
def L_laws_heldPacketS_0 : LoopD := loopD ⟨[(5, .leaf (.int .i64)), (0, .leaf (.lst tImplPacket)), (1, .leaf (.int .i64))], []⟩ [(.ret, ⟨[(4, .leaf (.int .i64))], []⟩), ((.exit 0), ⟨[(1, .leaf (.int .i64))], []⟩)] Wh.laws_heldPacketS_l0_y Wh.laws_heldPacketS_l0
def lt_laws_heldPacketS : List (Nat × LoopD) := [(2, L_laws_heldPacketS_0)]
theorem r_laws_heldPacketS_0 : ∀ x, round C_laws_heldPacketS lt_laws_heldPacketS (nthLoop Go.Proofs.Try.f75 0) L_laws_heldPacketS_0 x = Wh.laws_heldPacketS_l0 x := by intro x; kernel_rfl
theorem e_laws_heldPacketS : ∀ xs, evT C_laws_heldPacketS lt_laws_heldPacketS Go.Proofs.Try.f75 [.v (.lst tImplPacket), .v (.int .i64)] [.v (.int .i64)] xs = Wh.laws_heldPacketS xs := by intro xs; kernel_rfl
theorem ok_laws_heldPacketS : ConOk Go.Proofs.Try.prog K_laws_heldPacketS := con_ok (Ls := [L_laws_heldPacketS_0]) mixed (cx_ok _ _) (fk_laws_markText _ (FnOk.nil Tab false)) Go.Proofs.Try.func75 (loopsL_cons (by kernel_rfl) (loopD_ok r_laws_heldPacketS_0) (loopsL_nil (by kernel_rfl))) e_laws_heldPacketS
theorem fk_laws_heldPacketS (fns : List (Nat × List Go.Ab.Mode × (List Arg → Option Res))) {dp : Bool} (h : FnOk Go.Proofs.Try.prog ⟨Tab, fns, dp⟩) : FnOk Go.Proofs.Try.prog ⟨Tab, K_laws_heldPacketS.entry :: fns, dp⟩ := h.cons K_laws_heldPacketS (by kernel_rfl) Wh.laws_heldPacketS_v ok_laws_heldPacketS

def K_laws_heldWorld : Con := ⟨37, [.v tImplWorld, .v (.int .i64)], [.v (.int .i64)], Wh.laws_heldWorld, Wh.laws_heldWorld'⟩
def C_laws_heldWorld : Cx := ⟨Tab, [K_laws_heldItemS.entry, K_laws_heldPacketS.entry, K_laws_heldClientS.entry, K_laws_heldServer.entry], false⟩
def lt_laws_heldWorld : List (Nat × LoopD) := []
theorem e_laws_heldWorld : ∀ xs, evT C_laws_heldWorld lt_laws_heldWorld Go.Proofs.Try.f37 [.v tImplWorld, .v (.int .i64)] [.v (.int .i64)] xs = Wh.laws_heldWorld xs := by intro xs; kernel_rfl
theorem ok_laws_heldWorld : ConOk Go.Proofs.Try.prog K_laws_heldWorld := con_ok (Ls := []) mixed (cx_ok _ _) (fk_laws_heldItemS _ (fk_laws_heldPacketS _ (fk_laws_heldClientS _ (fk_laws_heldServer _ (FnOk.nil Tab false))))) Go.Proofs.Try.func37 (loopsL_nil (by kernel_rfl)) e_laws_heldWorld
theorem fk_laws_heldWorld (fns : List (Nat × List Go.Ab.Mode × (List Arg → Option Res))) {dp : Bool} (h : FnOk Go.Proofs.Try.prog ⟨Tab, fns, dp⟩) : FnOk Go.Proofs.Try.prog ⟨Tab, K_laws_heldWorld.entry :: fns, dp⟩ := h.cons K_laws_heldWorld (by kernel_rfl) Wh.laws_heldWorld_v ok_laws_heldWorld

def K_laws_FnExactWorldNew : Con := ⟨10, [], [.v .bool], Wh.laws_FnExactWorldNew, Wh.laws_FnExactWorldNew'⟩
def C_laws_FnExactWorldNew : Cx := ⟨Tab, [K_laws_heldWorld.entry, K_laws_markWorld.entry, K_laws_eqWorld.entry, K_impl_WorldNew.entry, K_spec_WorldNew.entry], false⟩
def lt_laws_FnExactWorldNew : List (Nat × LoopD) := []
theorem e_laws_FnExactWorldNew : ∀ xs, evT C_laws_FnExactWorldNew lt_laws_FnExactWorldNew Go.Proofs.Try.f10 [] [.v .bool] xs = Wh.laws_FnExactWorldNew xs := by intro xs; kernel_rfl
theorem ok_laws_FnExactWorldNew : ConOk Go.Proofs.Try.prog K_laws_FnExactWorldNew := con_ok (Ls := []) mixed (cx_ok _ _) (fk_laws_heldWorld _ (fk_laws_markWorld _ (fk_laws_eqWorld _ (fk_impl_WorldNew _ (fk_spec_WorldNew _ (FnOk.nil Tab false)))))) Go.Proofs.Try.func10 (loopsL_nil (by kernel_rfl)) e_laws_FnExactWorldNew
theorem fk_laws_FnExactWorldNew (fns : List (Nat × List Go.Ab.Mode × (List Arg → Option Res))) {dp : Bool} (h : FnOk Go.Proofs.Try.prog ⟨Tab, fns, dp⟩) : FnOk Go.Proofs.Try.prog ⟨Tab, K_laws_FnExactWorldNew.entry :: fns, dp⟩ := h.cons K_laws_FnExactWorldNew (by kernel_rfl) Wh.laws_FnExactWorldNew_v ok_laws_FnExactWorldNew

end
end Go.Proofs.Walk
