import Derived.Test.YtfeoanopdlpabaaGreatDoorX11
import Derived.Test.YtfeoanopdlpabaaGreatDoorProg
import Derived.KernelRfl
open Go Go.Ab
namespace Go.Proofs.zU
noncomputable section
def cr:List (Nat×TI):=[(2,⟨(.int .i64),0⟩),(3,⟨(.int .i64),0⟩),(4,⟨.bool,0⟩),(5,⟨(.int .u8),0⟩),(6,⟨(.int .u8),0⟩),(7,⟨No,1⟩),(8,⟨No,1⟩),(9,⟨.str,0⟩),(10,⟨.str,0⟩),(11,⟨.str,0⟩),(12,⟨(.int .u64),0⟩),(13,⟨Np,0⟩),(14,⟨Np,0⟩),(21,⟨(.int .i32),0⟩),(455,⟨(.int .i32),0⟩),(454,⟨(.int .i32),0⟩),(422,⟨(.ref (.int .u8)),0⟩),(452,⟨(.int .u8),0⟩),(451,⟨(.int .u8),0⟩),(345,⟨(.int .u32),0⟩),(118,⟨an,1⟩),(260,⟨an,1⟩),(22,⟨(.lst an),0⟩),(23,⟨bn,0⟩),(24,⟨bn,0⟩),(122,⟨e_,1⟩),(282,⟨e_,1⟩),(25,⟨(.lst e_),0⟩),(26,⟨fT,0⟩),(27,⟨fT,0⟩),(126,⟨fN,1⟩),(204,⟨fN,1⟩),(28,⟨(.lst fN),0⟩),(134,⟨gd,1⟩),(206,⟨gd,1⟩),(29,⟨(.lst gd),0⟩),(30,⟨eB,0⟩),(31,⟨eB,0⟩),(119,⟨an,1⟩),(34,⟨(.lst an),0⟩),(35,⟨bn,0⟩),(36,⟨bn,0⟩),(123,⟨e_,1⟩),(37,⟨(.lst e_),0⟩),(38,⟨fT,0⟩),(39,⟨fT,0⟩),(127,⟨fN,1⟩),(40,⟨(.lst fN),0⟩),(135,⟨gd,1⟩),(41,⟨(.lst gd),0⟩),(42,⟨eB,0⟩),(43,⟨eB,0⟩),(56,⟨(.lst (.int .i64)),0⟩),(57,⟨xS,0⟩),(58,⟨xS,0⟩),(320,⟨Ed,0⟩),(340,⟨Ed,0⟩),(59,⟨(.lst Ed),0⟩),(60,⟨DA,0⟩),(61,⟨DA,0⟩),(62,⟨Dz,0⟩),(63,⟨Dz,0⟩),(64,⟨BP,0⟩),(65,⟨BP,0⟩),(66,⟨Fy,1⟩),(67,⟨Fy,1⟩),(70,⟨xS,0⟩),(321,⟨Ed,0⟩),(71,⟨(.lst Ed),0⟩),(72,⟨DA,0⟩),(73,⟨DA,0⟩),(74,⟨Dz,0⟩),(75,⟨Dz,0⟩),(76,⟨BP,0⟩),(77,⟨BP,0⟩),(82,⟨Fy,1⟩),(78,⟨(.lst Fy),0⟩),(89,⟨(.lst BP),0⟩),(174,⟨Ee,1⟩),(258,⟨Ee,1⟩),(90,⟨(.lst Ee),0⟩),(91,⟨Fz,0⟩),(92,⟨Fz,0⟩),(95,⟨(.lst BP),0⟩),(175,⟨Ee,1⟩),(96,⟨(.lst Ee),0⟩),(97,⟨Fz,0⟩),(98,⟨Fz,0⟩),(111,⟨(.lst .str),0⟩),(192,⟨Jc,1⟩),(193,⟨Jc,1⟩),(189,⟨(.lst Jc),0⟩),(256,⟨(.lst (.int .u8)),0⟩),(314,⟨(.ref eB),0⟩),(331,⟨(.int .u64),0⟩),(332,⟨(.ref e_),0⟩),(357,⟨(.int .i64),0⟩),(366,⟨(.int .u64),0⟩),(369,⟨(.int .i64),0⟩),(375,⟨(.arr 24 (.int .u8)),0⟩),(379,⟨(.arr 8 (.int .u32)),0⟩),(380,⟨(.arr 64 (.int .u32)),0⟩),(399,⟨(.int .u64),0⟩),(403,⟨(.ref (.int .i64)),0⟩),(405,⟨(.lst (.int .u32)),0⟩),(416,⟨(.arr 20 (.int .u64)),0⟩),(417,⟨(.arr 65 (.int .u8)),0⟩),(425,⟨(.ref (.int .u64)),0⟩),(432,⟨xR,1⟩),(433,⟨xR,1⟩),(431,⟨(.ref xR),0⟩),(440,⟨(.arr 32 (.int .u8)),0⟩),(441,⟨(.arr 64 (.int .u8)),0⟩),(442,⟨(.arr 256 (.int .u8)),0⟩),(443,⟨Nq,1⟩),(444,⟨Nq,1⟩)]
theorem tab_ok:cn (fun x=>(cK Tryz.prog x.2.t).1 x.1&&(!(Nat.beq x.2.e 1) || eqB Tryz.prog x.1)) cr=true:=by kernel_rfl
theorem cx (fns:List (Nat×List Ab.Mode×(List Arg→Option Res))) (dp:Bool):bH Tryz.prog ⟨cr,fns,dp,Gl⟩:=cxOk_of tab_ok
theorem mixed:Tryz.prog.follows .mixedOrders=true:=by kernel_rfl
abbrev FT:Type:=List (Nat×List Ab.Mode×(List Arg→Option Res))
abbrev FK (c:iq):Prop:=∀(fns:FT) {dp:Bool},dD Tryz.prog Gb ⟨cr,fns,dp,Gl⟩→dD Tryz.prog Gb ⟨cr,c.entry::fns,dp,Gl⟩
abbrev EV (C:Cx) (lt:List (Nat×b8)) (f:Func) (ps:List PT) (ws:List Want) (g:gE ps→Option (jr ws×ij ps)):Prop:=∀xs,evT C lt f ps ws xs=g xs
abbrev CO (c:iq):Prop:=ConOk Tryz.prog Gb c
abbrev LT:Type:=List (Nat×b8)
abbrev z0:Nat:=500000000
abbrev z1:Nat:=500000001
abbrev z2:Nat:=500000002
abbrev z3:Nat:=500000003
abbrev I6:Ty:=.int .i64
abbrev I8:Ty:=.int .u8
abbrev I3:Ty:=.int .u32
theorem en:dD Tryz.prog Gb ⟨cr,[],false,Gl⟩:=dD.nil cr false gl_ok
def HA:iq:=⟨229,[.v an,.v I6],[.v I6],Wh.q85,Wh.q85'⟩
def C_q85:Cx:=⟨cr,[],false,Gl⟩
def lt_q85:LT:=[]
theorem e_q85:EV C_q85 lt_q85 Tryz.f229 [.v an,.v I6] [.v I6] Wh.q85:=by intro xs;kernel_rfl
theorem ok_q85:CO HA:=con_ok (Ls:=[]) mixed (cx _ _) en Tryz.func229 (loopsL_nil (by kernel_rfl)) (boxesL_none (by kernel_rfl)) e_q85
theorem fk_q85:FK HA:=fun _ _ h=>h.cons HA (by kernel_rfl) Wh.M5 ok_q85
def Hh:iq:=⟨125,[.v (.lst an),.v I6],[.v I6],Wh.q66,Wh.q66'⟩
def C_q66:Cx:=⟨cr,[HA.entry],false,Gl⟩
def JR:b8:=kS ⟨[(5,.leaf I6),(1,.leaf I6),(0,.leaf (.lst an))],[]⟩ [(.ret,⟨[(4,.leaf I6)],[]⟩),((.exit 0),⟨[(1,.leaf I6)],[]⟩)] Wh.MP Wh.Cu
def Pt:LT:=[(5,JR)]
theorem Vi:∀x,round C_q66 Pt (jo Tryz.f125 0) JR x=Wh.Cu x:=by intro x;kernel_rfl
theorem e_q66:EV C_q66 Pt Tryz.f125 [.v (.lst an),.v I6] [.v I6] Wh.q66:=by intro xs;kernel_rfl
theorem ok_q66:CO Hh:=con_ok (Ls:=[JR]) mixed (cx _ _) (fk_q85 _ en) Tryz.func125 (loopsL_cons (by kernel_rfl) (loopD_ok Vi) (loopsL_nil (by kernel_rfl))) (boxesL_none (by kernel_rfl)) e_q66
theorem fk_q66:FK Hh:=fun _ _ h=>h.cons Hh (by kernel_rfl) Wh.q66_v ok_q66
def Gc:iq:=⟨54,[.v bn,.v I6],[.v I6],Wh.C6,Wh.LN⟩
def C_q107:Cx:=⟨cr,[Hh.entry],false,Gl⟩
def S4:LT:=[]
theorem e_q107:EV C_q107 S4 Tryz.f54 [.v bn,.v I6] [.v I6] Wh.C6:=by intro xs;kernel_rfl
theorem Tp:CO Gc:=con_ok (Ls:=[]) mixed (cx _ _) (fk_q66 _ en) Tryz.func54 (loopsL_nil (by kernel_rfl)) (boxesL_none (by kernel_rfl)) e_q107
theorem R_:FK Gc:=fun _ _ h=>h.cons Gc (by kernel_rfl) Wh.P4 Tp
def GP:iq:=⟨149,[.v (.lst e_),.v I6],[.v I6],Wh.q43,Wh.q43'⟩
def C_q43:Cx:=⟨cr,[],false,Gl⟩
def lt_q43:LT:=[]
theorem e_q43:EV C_q43 lt_q43 Tryz.f149 [.v (.lst e_),.v I6] [.v I6] Wh.q43:=by intro xs;kernel_rfl
theorem ok_q43:CO GP:=con_ok (Ls:=[]) mixed (cx _ _) en Tryz.func149 (loopsL_nil (by kernel_rfl)) (boxesL_none (by kernel_rfl)) e_q43
theorem fk_q43:FK GP:=fun _ _ h=>h.cons GP (by kernel_rfl) Wh.q43_v ok_q43
def HB:iq:=⟨55,[.v fT,.v I6],[.v I6],Wh.q86,Wh.q86'⟩
def C_q86:Cx:=⟨cr,[GP.entry],false,Gl⟩
def lt_q86:LT:=[]
theorem e_q86:EV C_q86 lt_q86 Tryz.f55 [.v fT,.v I6] [.v I6] Wh.q86:=by intro xs;kernel_rfl
theorem ok_q86:CO HB:=con_ok (Ls:=[]) mixed (cx _ _) (fk_q43 _ en) Tryz.func55 (loopsL_nil (by kernel_rfl)) (boxesL_none (by kernel_rfl)) e_q86
theorem fk_q86:FK HB:=fun _ _ h=>h.cons HB (by kernel_rfl) Wh.q86_v ok_q86
def Gx:iq:=⟨56,[.v (.lst fN),.v I6],[.v I6],Wh.q25,Wh.q25'⟩
def C_q25:Cx:=⟨cr,[],false,Gl⟩
def lt_q25:LT:=[]
theorem e_q25:EV C_q25 lt_q25 Tryz.f56 [.v (.lst fN),.v I6] [.v I6] Wh.q25:=by intro xs;kernel_rfl
theorem ok_q25:CO Gx:=con_ok (Ls:=[]) mixed (cx _ _) en Tryz.func56 (loopsL_nil (by kernel_rfl)) (boxesL_none (by kernel_rfl)) e_q25
theorem fk_q25:FK Gx:=fun _ _ h=>h.cons Gx (by kernel_rfl) Wh.q25_v ok_q25
def GQ:iq:=⟨57,[.v (.lst gd),.v I6],[.v I6],Wh.q44,Wh.q44'⟩
def C_q44:Cx:=⟨cr,[],false,Gl⟩
def lt_q44:LT:=[]
theorem e_q44:EV C_q44 lt_q44 Tryz.f57 [.v (.lst gd),.v I6] [.v I6] Wh.q44:=by intro xs;kernel_rfl
theorem ok_q44:CO GQ:=con_ok (Ls:=[]) mixed (cx _ _) en Tryz.func57 (loopsL_nil (by kernel_rfl)) (boxesL_none (by kernel_rfl)) e_q44
theorem fk_q44:FK GQ:=fun _ _ h=>h.cons GQ (by kernel_rfl) Wh.q44_v ok_q44
def GR:iq:=⟨14,[.v eB,.v I6],[.v I6],Wh.q45,Wh.q45'⟩
def C_q45:Cx:=⟨cr,[GQ.entry,Gx.entry,HB.entry,Gc.entry],false,Gl⟩
def lt_q45:LT:=[]
theorem e_q45:EV C_q45 lt_q45 Tryz.f14 [.v eB,.v I6] [.v I6] Wh.q45:=by intro xs;kernel_rfl
theorem ok_q45:CO GR:=con_ok (Ls:=[]) mixed (cx _ _) (fk_q44 _ (fk_q25 _ (fk_q86 _ (R_ _ en)))) Tryz.func14 (loopsL_nil (by kernel_rfl)) (boxesL_none (by kernel_rfl)) e_q45
theorem fk_q45:FK GR:=fun _ _ h=>h.cons GR (by kernel_rfl) Wh.q45_v ok_q45
def HC:iq:=⟨232,[.v an],[.v an],Wh.q87,Wh.q87'⟩
def C_q87:Cx:=⟨cr,[],false,Gl⟩
def lt_q87:LT:=[]
theorem e_q87:EV C_q87 lt_q87 Tryz.f232 [.v an] [.v an] Wh.q87:=by intro xs;kernel_rfl
theorem ok_q87:CO HC:=con_ok (Ls:=[]) mixed (cx _ _) en Tryz.func232 (loopsL_nil (by kernel_rfl)) (boxesL_none (by kernel_rfl)) e_q87
theorem fk_q87:FK HC:=fun _ _ h=>h.cons HC (by kernel_rfl) Wh.q87_v ok_q87
def Hj:iq:=⟨129,[.v (.lst an)],[.v (.own an)],Wh.q68,Wh.q68'⟩
def C_q68:Cx:=⟨cr,[HC.entry],false,Gl⟩
def JU:b8:=kS ⟨[(4,.leaf I6),(0,.leaf (.lst an)),(3,.whole z0 an)],[(z0,false,.rows an)]⟩ [((.exit 0),⟨[(3,.whole z0 an)],[(z0,false,.rows an)]⟩)] Wh.QS Wh.Cv
def Pu:LT:=[(3,JU)]
theorem Vl:∀x,round C_q68 Pu (jo Tryz.f129 0) JU x=Wh.Cv x:=by intro x;kernel_rfl
theorem e_q68:EV C_q68 Pu Tryz.f129 [.v (.lst an)] [.v (.own an)] Wh.q68:=by intro xs;kernel_rfl
theorem ok_q68:CO Hj:=con_ok (Ls:=[JU]) mixed (cx _ _) (fk_q87 _ en) Tryz.func129 (loopsL_cons (by kernel_rfl) (loopD_ok Vl) (loopsL_nil (by kernel_rfl))) (boxesL_none (by kernel_rfl)) e_q68
theorem fk_q68:FK Hj:=fun _ _ h=>h.cons Hj (by kernel_rfl) Wh.q68_v ok_q68
def Gd:iq:=⟨69,[.v bn],[.v (.pair I6 (.pair (.own an) .unit))],Wh.C7,Wh.LO⟩
def C_q108:Cx:=⟨cr,[Hj.entry],false,Gl⟩
def S5:LT:=[]
theorem e_q108:EV C_q108 S5 Tryz.f69 [.v bn] [.v (.pair I6 (.pair (.own an) .unit))] Wh.C7:=by intro xs;kernel_rfl
theorem Tq:CO Gd:=con_ok (Ls:=[]) mixed (cx _ _) (fk_q68 _ en) Tryz.func69 (loopsL_nil (by kernel_rfl)) (boxesL_none (by kernel_rfl)) e_q108
theorem Sa:FK Gd:=fun _ _ h=>h.cons Gd (by kernel_rfl) Wh.P5 Tq
def Hi:iq:=⟨259,[.v e_],[.v e_],Wh.q67,Wh.q67'⟩
def C_q67:Cx:=⟨cr,[],false,Gl⟩
def lt_q67:LT:=[]
theorem e_q67:EV C_q67 lt_q67 Tryz.f259 [.v e_] [.v e_] Wh.q67:=by intro xs;kernel_rfl
theorem ok_q67:CO Hi:=con_ok (Ls:=[]) mixed (cx _ _) en Tryz.func259 (loopsL_nil (by kernel_rfl)) (boxesL_none (by kernel_rfl)) e_q67
theorem fk_q67:FK Hi:=fun _ _ h=>h.cons Hi (by kernel_rfl) Wh.q67_v ok_q67
def GU:iq:=⟨153,[.v (.lst e_)],[.v (.own e_)],Wh.q47,Wh.q47'⟩
def C_q47:Cx:=⟨cr,[Hi.entry],false,Gl⟩
def JT:b8:=kS ⟨[(4,.leaf I6),(0,.leaf (.lst e_)),(3,.whole z0 e_)],[(z0,false,.rows e_)]⟩ [((.exit 0),⟨[(3,.whole z0 e_)],[(z0,false,.rows e_)]⟩)] Wh.QF Wh.Cp
def Pk:LT:=[(3,JT)]
theorem Vk:∀x,round C_q47 Pk (jo Tryz.f153 0) JT x=Wh.Cp x:=by intro x;kernel_rfl
theorem e_q47:EV C_q47 Pk Tryz.f153 [.v (.lst e_)] [.v (.own e_)] Wh.q47:=by intro xs;kernel_rfl
theorem ok_q47:CO GU:=con_ok (Ls:=[JT]) mixed (cx _ _) (fk_q67 _ en) Tryz.func153 (loopsL_cons (by kernel_rfl) (loopD_ok Vk) (loopsL_nil (by kernel_rfl))) (boxesL_none (by kernel_rfl)) e_q47
theorem fk_q47:FK GU:=fun _ _ h=>h.cons GU (by kernel_rfl) Wh.q47_v ok_q47
def HD:iq:=⟨70,[.v fT],[.v (.pair (.own e_) (.pair I6 .unit))],Wh.q88,Wh.q88'⟩
def C_q88:Cx:=⟨cr,[GU.entry],false,Gl⟩
def lt_q88:LT:=[]
theorem e_q88:EV C_q88 lt_q88 Tryz.f70 [.v fT] [.v (.pair (.own e_) (.pair I6 .unit))] Wh.q88:=by intro xs;kernel_rfl
theorem ok_q88:CO HD:=con_ok (Ls:=[]) mixed (cx _ _) (fk_q47 _ en) Tryz.func70 (loopsL_nil (by kernel_rfl)) (boxesL_none (by kernel_rfl)) e_q88
theorem fk_q88:FK HD:=fun _ _ h=>h.cons HD (by kernel_rfl) Wh.q88_v ok_q88
def GS:iq:=⟨154,[.v fN],[.v fN],Wh.q46,Wh.q46'⟩
def C_q46:Cx:=⟨cr,[],false,Gl⟩
def lt_q46:LT:=[]
theorem e_q46:EV C_q46 lt_q46 Tryz.f154 [.v fN] [.v fN] Wh.q46:=by intro xs;kernel_rfl
theorem ok_q46:CO GS:=con_ok (Ls:=[]) mixed (cx _ _) en Tryz.func154 (loopsL_nil (by kernel_rfl)) (boxesL_none (by kernel_rfl)) e_q46
theorem fk_q46:FK GS:=fun _ _ h=>h.cons GS (by kernel_rfl) Wh.q46_v ok_q46
def Gy:iq:=⟨71,[.v (.lst fN)],[.v (.own fN)],Wh.q26,Wh.q26'⟩
def C_q26:Cx:=⟨cr,[GS.entry],false,Gl⟩
def JS:b8:=kS ⟨[(4,.leaf I6),(0,.leaf (.lst fN)),(3,.whole z0 fN)],[(z0,false,.rows fN)]⟩ [((.exit 0),⟨[(3,.whole z0 fN)],[(z0,false,.rows fN)]⟩)] Wh.Qo Wh.Ck
def Pd:LT:=[(3,JS)]
theorem Vj:∀x,round C_q26 Pd (jo Tryz.f71 0) JS x=Wh.Ck x:=by intro x;kernel_rfl
theorem e_q26:EV C_q26 Pd Tryz.f71 [.v (.lst fN)] [.v (.own fN)] Wh.q26:=by intro xs;kernel_rfl
theorem ok_q26:CO Gy:=con_ok (Ls:=[JS]) mixed (cx _ _) (fk_q46 _ en) Tryz.func71 (loopsL_cons (by kernel_rfl) (loopD_ok Vj) (loopsL_nil (by kernel_rfl))) (boxesL_none (by kernel_rfl)) e_q26
theorem fk_q26:FK Gy:=fun _ _ h=>h.cons Gy (by kernel_rfl) Wh.q26_v ok_q26
def Hl:iq:=⟨155,[.v gd],[.v gd],Wh.q69,Wh.q69'⟩
def C_q69:Cx:=⟨cr,[],false,Gl⟩
def lt_q69:LT:=[]
theorem e_q69:EV C_q69 lt_q69 Tryz.f155 [.v gd] [.v gd] Wh.q69:=by intro xs;kernel_rfl
theorem ok_q69:CO Hl:=con_ok (Ls:=[]) mixed (cx _ _) en Tryz.func155 (loopsL_nil (by kernel_rfl)) (boxesL_none (by kernel_rfl)) e_q69
theorem fk_q69:FK Hl:=fun _ _ h=>h.cons Hl (by kernel_rfl) Wh.q69_v ok_q69
def GV:iq:=⟨72,[.v (.lst gd)],[.v (.own gd)],Wh.q48,Wh.q48'⟩
def C_q48:Cx:=⟨cr,[Hl.entry],false,Gl⟩
def JV:b8:=kS ⟨[(4,.leaf I6),(0,.leaf (.lst gd)),(3,.whole z0 gd)],[(z0,false,.rows gd)]⟩ [((.exit 0),⟨[(3,.whole z0 gd)],[(z0,false,.rows gd)]⟩)] Wh.QG Wh.Cq
def Pm:LT:=[(3,JV)]
theorem Vm:∀x,round C_q48 Pm (jo Tryz.f72 0) JV x=Wh.Cq x:=by intro x;kernel_rfl
theorem e_q48:EV C_q48 Pm Tryz.f72 [.v (.lst gd)] [.v (.own gd)] Wh.q48:=by intro xs;kernel_rfl
theorem ok_q48:CO GV:=con_ok (Ls:=[JV]) mixed (cx _ _) (fk_q69 _ en) Tryz.func72 (loopsL_cons (by kernel_rfl) (loopD_ok Vm) (loopsL_nil (by kernel_rfl))) (boxesL_none (by kernel_rfl)) e_q48
theorem fk_q48:FK GV:=fun _ _ h=>h.cons GV (by kernel_rfl) Wh.q48_v ok_q48
def GW:iq:=⟨16,[.v eB],[.v (.pair .bool (.pair I6 (.pair .str (.pair (.pair I6 (.pair (.own an) .unit)) (.pair (.pair (.own e_) (.pair I6 .unit)) (.pair (.own fN) (.pair (.own gd) .unit)))))))],Wh.Bx,Wh.q49'⟩
def C_q49:Cx:=⟨cr,[GV.entry,Gy.entry,HD.entry,Gd.entry],false,Gl⟩
def lt_q49:LT:=[]
theorem e_q49:EV C_q49 lt_q49 Tryz.f16 [.v eB] [.v (.pair .bool (.pair I6 (.pair .str (.pair (.pair I6 (.pair (.own an) .unit)) (.pair (.pair (.own e_) (.pair I6 .unit)) (.pair (.own fN) (.pair (.own gd) .unit)))))))] Wh.Bx:=by intro xs;kernel_rfl
theorem ok_q49:CO GW:=con_ok (Ls:=[]) mixed (cx _ _) (fk_q48 _ (fk_q26 _ (fk_q88 _ (Sa _ en)))) Tryz.func16 (loopsL_nil (by kernel_rfl)) (boxesL_none (by kernel_rfl)) e_q49
theorem fk_q49:FK GW:=fun _ _ h=>h.cons GW (by kernel_rfl) Wh.q49_v ok_q49
def zG:iq:=⟨58,[.v I6,.v I6,.v I6],[.v .bool],Wh.so,Wh.xP⟩
def C_q119:Cx:=⟨cr,[],false,Gl⟩
def S8:LT:=[]
theorem e_q119:EV C_q119 S8 Tryz.f58 [.v I6,.v I6,.v I6] [.v .bool] Wh.so:=by intro xs;kernel_rfl
theorem TD:CO zG:=con_ok (Ls:=[]) mixed (cx _ _) en Tryz.func58 (loopsL_nil (by kernel_rfl)) (boxesL_none (by kernel_rfl)) e_q119
theorem Au:FK zG:=fun _ _ h=>h.cons zG (by kernel_rfl) Wh.yE TD
def EE:iq:=⟨178,[.v .str,.v I6,.v I8],[.v I6],Wh.ym,Wh.Fk⟩
def C_q94:Cx:=⟨cr,[],false,Gl⟩
def Kr:b8:=kS ⟨[(7,.leaf I6),(2,.leaf I8),(0,.leaf .str)],[]⟩ [(.ret,⟨[(6,.leaf I6)],[]⟩),((.exit 0),⟨[],[]⟩)] Wh.Q7 Wh.AO
def PA:LT:=[(2,Kr)]
theorem VT:∀x,round C_q94 PA (jo Tryz.f178 0) Kr x=Wh.AO x:=by intro x;kernel_rfl
theorem e_q94:EV C_q94 PA Tryz.f178 [.v .str,.v I6,.v I8] [.v I6] Wh.ym:=by intro xs;kernel_rfl
theorem ok_q94:CO EE:=con_ok (Ls:=[Kr]) mixed (cx _ _) en Tryz.func178 (loopsL_cons (by kernel_rfl) (loopD_ok VT) (loopsL_nil (by kernel_rfl))) (boxesL_none (by kernel_rfl)) e_q94
theorem Of:FK EE:=fun _ _ h=>h.cons EE (by kernel_rfl) Wh.AP ok_q94
def Er:iq:=⟨180,[.v .str],[.v I6],Wh.zM,Wh.Fa⟩
def NF:Cx:=⟨cr,[zG.entry],false,Gl⟩
def Kq:b8:=kS ⟨[(4,.leaf I6),(0,.leaf .str),(3,.leaf I6)],[]⟩ [(.ret,⟨[(2,.leaf I6)],[]⟩),((.exit 0),⟨[(3,.leaf I6)],[]⟩)] Wh.Qg Wh.Ci
def O8:LT:=[(5,Kq)]
theorem VS:∀x,round NF O8 (jo Tryz.f180 0) Kq x=Wh.Ci x:=by intro x;kernel_rfl
theorem e_q117:EV NF O8 Tryz.f180 [.v .str] [.v I6] Wh.zM:=by intro xs;kernel_rfl
theorem TA:CO Er:=con_ok (Ls:=[Kq]) mixed (cx _ _) (Au _ en) Tryz.func180 (loopsL_cons (by kernel_rfl) (loopD_ok VS) (loopsL_nil (by kernel_rfl))) (boxesL_none (by kernel_rfl)) e_q117
theorem N4:FK Er:=fun _ _ h=>h.cons Er (by kernel_rfl) Wh.Da TA
def Ep:iq:=⟨189,[.v I6],[.v .str],Wh.AE,Wh.Al⟩
def Ek (g:((Int))→Option (((List UInt8))×(Unit))) (g':((Int))→((List UInt8))×(Unit)):iq:=⟨189,[.v I6],[.v .str],g,g'⟩
def C_q113 (g:((Int))→Option (((List UInt8))×(Unit))) (g':((Int))→((List UInt8))×(Unit)):Cx:=⟨cr,[(Ek g g').entry],false,Gl⟩
def S7:LT:=[]
theorem e_q113 (g:((Int))→Option (((List UInt8))×(Unit))) (g':((Int))→((List UInt8))×(Unit)):∀xs,evT (C_q113 g g') S7 Tryz.f189 [.v I6] [.v .str] xs=Wh.q18 g g' xs:=by intro xs;kernel_rfl
theorem s_q113 (g:((Int))→Option (((List UInt8))×(Unit))) (g':((Int))→((List UInt8))×(Unit)) (hv:∀x y,g x=some y→g' x=y) (h:CO (Ek g g')):CO (Ek (Wh.q18 g g') (fun x=>match Wh.q18 g g' x with | some y=>y|none=>default)):=con_ok (Ls:=[]) mixed (cx _ _) (dD.cons en (Ek g g') (by kernel_rfl) hv h) Tryz.func189 (loopsL_nil (by kernel_rfl)) (boxesL_none (by kernel_rfl)) (e_q113 g g')
theorem n_q113 (n:Nat):CO (Ek (Wh.zP n) (fun x=>match Wh.zP n x with | some y=>y|none=>default)):=by
 induction n with
 |zero=>intro xs y h;exact absurd (show none=some y from h) (by simp)
 |succ n ih=>
  rw[Wh.LZ n]
  exact s_q113 _ _ (fun x y h=>by simp only[h]) ih
theorem Tv:CO Ep:=n_q113 20
theorem N3:FK Ep:=fun _ _ h=>h.cons Ep (by kernel_rfl) Wh.IE Tv
def G2:iq:=⟨423,[.v .str],[.v (.own I8)],Wh.q54,Wh.q54'⟩
def Jp:Cx:=⟨cr,[],false,Gl⟩
def Ki:b8:=kS ⟨[(3,.whole z0 I8),(0,.leaf .str)],[(z0,false,.rows I8)]⟩ [((.exit 0),⟨[(3,.whole z0 I8),(0,.leaf .str)],[(z0,false,.rows I8)]⟩)] Wh.QJ Wh.Cr
def Kj:b8:=kS ⟨[(5,.leaf I6),(4,.leaf I6),(3,.whole z0 I8)],[(z0,false,.rows I8)]⟩ [((.exit 2),⟨[(3,.whole z0 I8)],[(z0,false,.rows I8)]⟩)] Wh.QK Wh.Dk
def Ln:LT:=[(2,Ki),(6,Kj)]
theorem VK:∀x,round Jp Ln (jo Tryz.f423 0) Ki x=Wh.Cr x:=by intro x;kernel_rfl
theorem VL:∀x,round Jp Ln (jo Tryz.f423 1) Kj x=Wh.Dk x:=by intro x;kernel_rfl
theorem e_q54:EV Jp Ln Tryz.f423 [.v .str] [.v (.own I8)] Wh.q54:=by intro xs;kernel_rfl
theorem ok_q54:CO G2:=con_ok (Ls:=[Ki,Kj]) mixed (cx _ _) en Tryz.func423 (loopsL_cons (by kernel_rfl) (loopD_ok VK) (loopsL_cons (by kernel_rfl) (loopD_ok VL) (loopsL_nil (by kernel_rfl)))) (boxesL_none (by kernel_rfl)) e_q54
theorem fk_q54:FK G2:=fun _ _ h=>h.cons G2 (by kernel_rfl) Wh.q54_v ok_q54
def ED:iq:=⟨449,[.v I3,.v I6],[.v I3],Wh.we,Wh.yF⟩
def C_q92:Cx:=⟨cr,[],false,Gl⟩
def lt_q92:LT:=[]
theorem e_q92:EV C_q92 lt_q92 Tryz.f449 [.v I3,.v I6] [.v I3] Wh.we:=by intro xs;kernel_rfl
theorem ok_q92:CO ED:=con_ok (Ls:=[]) mixed (cx _ _) en Tryz.func449 (loopsL_nil (by kernel_rfl)) (boxesL_none (by kernel_rfl)) e_q92
theorem Oe:FK ED:=fun _ _ h=>h.cons ED (by kernel_rfl) Wh.q92_v ok_q92
def Hu:iq:=⟨447,[.v (.lst I8)],[.v (.own I3)],Wh.q76,Wh.q76'⟩
def Jq:Cx:=⟨cr,[ED.entry],false,Gl⟩
def Km:b8:=kS ⟨[(4,.leaf I6),(0,.leaf (.lst I8)),(3,.whole z0 I3)],[(z0,false,.rows I3)]⟩ [((.exit 0),⟨[(3,.whole z0 I3)],[(z0,false,.rows I3)]⟩)] Wh.QW Wh.Dn
def Kn:b8:=kS ⟨[(5,.leaf I6),(3,.whole z0 I3)],[(z0,false,.rows I3)]⟩ [((.exit 2),⟨[(3,.whole z0 I3)],[(z0,false,.rows I3)]⟩)] Wh.QX Wh.Dp
def Lo:LT:=[(3,Km),(7,Kn)]
theorem VO:∀x,round Jq Lo (jo Tryz.f447 0) Km x=Wh.Dn x:=by intro x;kernel_rfl
theorem VP:∀x,round Jq Lo (jo Tryz.f447 1) Kn x=Wh.Dp x:=by intro x;kernel_rfl
theorem e_q76:EV Jq Lo Tryz.f447 [.v (.lst I8)] [.v (.own I3)] Wh.q76:=by intro xs;kernel_rfl
theorem ok_q76:CO Hu:=con_ok (Ls:=[Km,Kn]) mixed (cx _ _) (Oe _ en) Tryz.func447 (loopsL_cons (by kernel_rfl) (loopD_ok VO) (loopsL_cons (by kernel_rfl) (loopD_ok VP) (loopsL_nil (by kernel_rfl)))) (boxesL_none (by kernel_rfl)) e_q76
theorem fk_q76:FK Hu:=fun _ _ h=>h.cons Hu (by kernel_rfl) Wh.q76_v ok_q76
def G1:iq:=⟨448,[],[.v (.own I3)],Wh.q53,Wh.q53'⟩
def C_q53:Cx:=⟨cr,[],false,Gl⟩
def lt_q53:LT:=[]
theorem e_q53:EV C_q53 lt_q53 Tryz.f448 [] [.v (.own I3)] Wh.q53:=by intro xs;kernel_rfl
theorem ok_q53:CO G1:=con_ok (Ls:=[]) mixed (cx _ _) en Tryz.func448 (loopsL_nil (by kernel_rfl)) (boxesL_none (by kernel_rfl)) e_q53
theorem fk_q53:FK G1:=fun _ _ h=>h.cons G1 (by kernel_rfl) Wh.q53_v ok_q53
def Ht:iq:=⟨424,[.v (.lst I3),.v (.lst I8)],[.v (.own I3)],Wh.q74,Wh.q74'⟩
def F1:Cx:=⟨cr,[ED.entry,G1.entry,Hu.entry],false,Gl⟩
def Ke:b8:=kS ⟨[(7,.whole z0 I3),(8,.leaf I6),(5,.whole z1 I3),(6,.whole z2 I3),(0,.leaf (.lst I3))],[(z0,false,.rows I3),(z1,false,.rows I3),(z2,false,.rows I3)]⟩ [((.exit 0),⟨[(7,.whole z0 I3),(0,.leaf (.lst I3))],[(z0,false,.rows I3)]⟩)] Wh.QU Wh.Dm
def Kf:b8:=kS ⟨[(14,.leaf I6),(7,.whole z0 I3),(5,.whole z1 I3),(6,.whole z2 I3),(0,.leaf (.lst I3)),(8,.leaf I6),(13,.leaf I3),(12,.leaf I3),(11,.leaf I3)],[(z0,false,.rows I3),(z1,false,.rows I3),(z2,false,.rows I3)]⟩ [((.exit 2),⟨[(7,.whole z0 I3),(5,.whole z1 I3),(6,.whole z2 I3),(0,.leaf (.lst I3)),(8,.leaf I6),(13,.leaf I3),(12,.leaf I3),(11,.leaf I3)],[(z0,false,.rows I3),(z1,false,.rows I3),(z2,false,.rows I3)]⟩)] Wh.MU Wh.Fi
def Kg:b8:=kS ⟨[(16,.leaf I6),(7,.whole z0 I3),(0,.leaf (.lst I3)),(15,.whole z1 I3)],[(z0,false,.rows I3),(z1,false,.rows I3)]⟩ [((.exit 4),⟨[(15,.whole z0 I3)],[(z0,false,.rows I3)]⟩)] Wh.QV Wh.Fj
def Ip:LT:=[(5,Ke),(13,Kf),(20,Kg)]
theorem VG:∀x,round F1 Ip (jo Tryz.f424 0) Ke x=Wh.Dm x:=by intro x;kernel_rfl
theorem VH:∀x,round F1 Ip (jo Tryz.f424 1) Kf x=Wh.Fi x:=by intro x;kernel_rfl
theorem VI:∀x,round F1 Ip (jo Tryz.f424 2) Kg x=Wh.Fj x:=by intro x;kernel_rfl
theorem e_q74:EV F1 Ip Tryz.f424 [.v (.lst I3),.v (.lst I8)] [.v (.own I3)] Wh.q74:=by intro xs;kernel_rfl
theorem ok_q74:CO Ht:=con_ok (Ls:=[Ke,Kf,Kg]) mixed (cx _ _) (Oe _ (fk_q53 _ (fk_q76 _ en))) Tryz.func424 (loopsL_cons (by kernel_rfl) (loopD_ok VG) (loopsL_cons (by kernel_rfl) (loopD_ok VH) (loopsL_cons (by kernel_rfl) (loopD_ok VI) (loopsL_nil (by kernel_rfl))))) (boxesL_none (by kernel_rfl)) e_q74
theorem fk_q74:FK Ht:=fun _ _ h=>h.cons Ht (by kernel_rfl) Wh.q74_v ok_q74
def Gi:iq:=⟨375,[.v .str],[.v .str],Wh.C_,Wh.L2⟩
def Jm:Cx:=⟨cr,[Ht.entry,G2.entry],false,Gl⟩
def Kk:b8:=kS ⟨[(5,.leaf I6),(4,.whole z0 I8),(3,.whole z1 I3)],[(z0,false,.rows I8),(z1,false,.rows I3)]⟩ [((.exit 0),⟨[(3,.whole z0 I3)],[(z0,false,.rows I3)]⟩)] Wh.Qc Wh.Cg
def Kl:b8:=kS ⟨[(7,.leaf I6),(3,.whole z0 I3),(6,.whole z1 I8)],[(z0,false,.rows I3),(z1,false,.rows I8)]⟩ [((.exit 2),⟨[(6,.whole z0 I8)],[(z0,false,.rows I8)]⟩)] Wh.Qd Wh.E9
def Lj:LT:=[(4,Kk),(9,Kl)]
theorem VM:∀x,round Jm Lj (jo Tryz.f375 0) Kk x=Wh.Cg x:=by intro x;kernel_rfl
theorem VN:∀x,round Jm Lj (jo Tryz.f375 1) Kl x=Wh.E9 x:=by intro x;kernel_rfl
theorem e_q115:EV Jm Lj Tryz.f375 [.v .str] [.v .str] Wh.C_:=by intro xs;kernel_rfl
theorem Tx:CO Gi:=con_ok (Ls:=[Kk,Kl]) mixed (cx _ _) (fk_q74 _ (fk_q54 _ en)) Tryz.func375 (loopsL_cons (by kernel_rfl) (loopD_ok VM) (loopsL_cons (by kernel_rfl) (loopD_ok VN) (loopsL_nil (by kernel_rfl)))) (boxesL_none (by kernel_rfl)) e_q115
theorem Se:FK Gi:=fun _ _ h=>h.cons Gi (by kernel_rfl) Wh.Qe Tx
def Gh:iq:=⟨374,[.v .str],[.v .str],Wh.Ce,Wh.IF⟩
def NC:Cx:=⟨cr,[],false,Gl⟩
def Kh:b8:=kS ⟨[(4,.leaf I6),(0,.leaf .str),(3,.whole z0 I8)],[(z0,false,.rows I8)]⟩ [((.exit 0),⟨[(3,.whole z0 I8)],[(z0,false,.rows I8)]⟩)] Wh.Qb Wh.Cf
def O6:LT:=[(3,Kh)]
theorem VJ:∀x,round NC O6 (jo Tryz.f374 0) Kh x=Wh.Cf x:=by intro x;kernel_rfl
theorem e_q114:EV NC O6 Tryz.f374 [.v .str] [.v .str] Wh.Ce:=by intro xs;kernel_rfl
theorem Tw:CO Gh:=con_ok (Ls:=[Kh]) mixed (cx _ _) en Tryz.func374 (loopsL_cons (by kernel_rfl) (loopD_ok VJ) (loopsL_nil (by kernel_rfl))) (boxesL_none (by kernel_rfl)) e_q114
theorem Sd:FK Gh:=fun _ _ h=>h.cons Gh (by kernel_rfl) Wh.L1 Tw
def Hq:iq:=⟨328,[.v .str],[.v .str],Wh.q71,Wh.Cw⟩
def C_q71:Cx:=⟨cr,[Gh.entry,Gi.entry],false,Gl⟩
def lt_q71:LT:=[]
theorem e_q71:EV C_q71 lt_q71 Tryz.f328 [.v .str] [.v .str] Wh.q71:=by intro xs;kernel_rfl
theorem ok_q71:CO Hq:=con_ok (Ls:=[]) mixed (cx _ _) (Sd _ (Se _ en)) Tryz.func328 (loopsL_nil (by kernel_rfl)) (boxesL_none (by kernel_rfl)) e_q71
theorem fk_q71:FK Hq:=fun _ _ h=>h.cons Hq (by kernel_rfl) Wh.q71_v ok_q71
def HJ:iq:=⟨258,[.v I6,.v .str],[.v .str],Wh.q95,Wh.q95'⟩
def C_q95:Cx:=⟨cr,[Hq.entry,Ep.entry],false,Gl⟩
def lt_q95:LT:=[]
theorem e_q95:EV C_q95 lt_q95 Tryz.f258 [.v I6,.v .str] [.v .str] Wh.q95:=by intro xs;kernel_rfl
theorem ok_q95:CO HJ:=con_ok (Ls:=[]) mixed (cx _ _) (fk_q71 _ (N3 _ en)) Tryz.func258 (loopsL_nil (by kernel_rfl)) (boxesL_none (by kernel_rfl)) e_q95
theorem fk_q95:FK HJ:=fun _ _ h=>h.cons HJ (by kernel_rfl) Wh.Nc ok_q95
def HK:iq:=⟨150,[.v .str,.v I6,.v I6],[.v .str,.v I6],Wh.BK,Wh.q96'⟩
def C_q96:Cx:=⟨cr,[HJ.entry,zG.entry,Er.entry,EE.entry],false,Gl⟩
def lt_q96:LT:=[]
theorem e_q96:EV C_q96 lt_q96 Tryz.f150 [.v .str,.v I6,.v I6] [.v .str,.v I6] Wh.BK:=by intro xs;kernel_rfl
theorem ok_q96:CO HK:=con_ok (Ls:=[]) mixed (cx _ _) (fk_q95 _ (Au _ (N4 _ (Of _ en)))) Tryz.func150 (loopsL_nil (by kernel_rfl)) (boxesL_none (by kernel_rfl)) e_q96
theorem fk_q96:FK HK:=fun _ _ h=>h.cons HK (by kernel_rfl) Wh.Nd ok_q96
def EG:iq:=⟨60,[.v .str],[.v (.own .str),.v I6],Wh.BL,Wh.IX⟩
def C_q97:Cx:=⟨cr,[HK.entry],false,Gl⟩
def Ku:b8:=kS ⟨[(5,.leaf I6),(4,.whole z0 .str),(0,.leaf .str)],[(z0,false,.rows .str)]⟩ [(.ret,⟨[(2,.whole z0 .str),(3,.leaf I6)],[(z0,false,.rows .str)]⟩)] Wh.Q8 Wh.Cy
def PB:LT:=[(3,Ku)]
theorem VU:∀x,round C_q97 PB (jo Tryz.f60 0) Ku x=Wh.Cy x:=by intro x;kernel_rfl
theorem e_q97:EV C_q97 PB Tryz.f60 [.v .str] [.v (.own .str),.v I6] Wh.BL:=by intro xs;kernel_rfl
theorem ok_q97:CO EG:=con_ok (Ls:=[Ku]) mixed (cx _ _) (fk_q96 _ en) Tryz.func60 (loopsL_cons (by kernel_rfl) (loopD_ok VU) (loopsL_nil (by kernel_rfl))) (boxesL_none (by kernel_rfl)) e_q97
theorem Og:FK EG:=fun _ _ h=>h.cons EG (by kernel_rfl) Wh.Ng ok_q97
def HI:iq:=⟨179,[.v .str,.v I8],[.v (.own .str)],Wh.BJ,Wh.q93'⟩
def C_q93:Cx:=⟨cr,[],false,Gl⟩
def Ko:b8:=kS ⟨[(7,.leaf I6),(6,.leaf I6),(0,.leaf .str),(5,.whole z0 .str),(1,.leaf I8)],[(z0,false,.rows .str)]⟩ [((.exit 0),⟨[(6,.leaf I6),(0,.leaf .str),(5,.whole z0 .str)],[(z0,false,.rows .str)]⟩)] Wh.Q6 Wh.yM
def Pz:LT:=[(4,Ko)]
theorem VQ:∀x,round C_q93 Pz (jo Tryz.f179 0) Ko x=Wh.yM x:=by intro x;kernel_rfl
theorem e_q93:EV C_q93 Pz Tryz.f179 [.v .str,.v I8] [.v (.own .str)] Wh.BJ:=by intro xs;kernel_rfl
theorem ok_q93:CO HI:=con_ok (Ls:=[Ko]) mixed (cx _ _) en Tryz.func179 (loopsL_cons (by kernel_rfl) (loopD_ok VQ) (loopsL_nil (by kernel_rfl))) (boxesL_none (by kernel_rfl)) e_q93
theorem fk_q93:FK HI:=fun _ _ h=>h.cons HI (by kernel_rfl) Wh.Na ok_q93
def HG:iq:=⟨200,[.v .str],[.v .bool],Wh.q90,Wh.q90'⟩
def C_q90:Cx:=⟨cr,[zG.entry],false,Gl⟩
def J6:b8:=kS ⟨[(3,.leaf I6),(0,.leaf .str)],[]⟩ [(.ret,⟨[(2,.leaf .bool)],[]⟩),((.exit 0),⟨[(0,.leaf .str)],[]⟩)] Wh.Q2 Wh.BI
def Py:LT:=[(2,J6)]
theorem Vx:∀x,round C_q90 Py (jo Tryz.f200 0) J6 x=Wh.BI x:=by intro x;kernel_rfl
theorem e_q90:EV C_q90 Py Tryz.f200 [.v .str] [.v .bool] Wh.q90:=by intro xs;kernel_rfl
theorem ok_q90:CO HG:=con_ok (Ls:=[J6]) mixed (cx _ _) (Au _ en) Tryz.func200 (loopsL_cons (by kernel_rfl) (loopD_ok Vx) (loopsL_nil (by kernel_rfl))) (boxesL_none (by kernel_rfl)) e_q90
theorem fk_q90:FK HG:=fun _ _ h=>h.cons HG (by kernel_rfl) Wh.q90_v ok_q90
def DH:iq:=⟨185,[.v an],[.v .bool],Wh.AF,Wh.D7⟩
def C_q121:Cx:=⟨cr,[HG.entry,zG.entry],false,Gl⟩
def S9:LT:=[]
theorem e_q121:EV C_q121 S9 Tryz.f185 [.v an] [.v .bool] Wh.AF:=by intro xs;kernel_rfl
theorem TF:CO DH:=con_ok (Ls:=[]) mixed (cx _ _) (fk_q90 _ (Au _ en)) Tryz.func185 (loopsL_nil (by kernel_rfl)) (boxesL_none (by kernel_rfl)) e_q121
theorem KQ:FK DH:=fun _ _ h=>h.cons DH (by kernel_rfl) Wh.Cj TF
def Gz:iq:=⟨103,[.v I6,.v .str,.v .str],[.v .str],Wh.q27,Wh.q27'⟩
def C_q27:Cx:=⟨cr,[Ep.entry,DH.entry],false,Gl⟩
def lt_q27:LT:=[]
theorem e_q27:EV C_q27 lt_q27 Tryz.f103 [.v I6,.v .str,.v .str] [.v .str] Wh.q27:=by intro xs;kernel_rfl
theorem ok_q27:CO Gz:=con_ok (Ls:=[]) mixed (cx _ _) (N3 _ (KQ _ en)) Tryz.func103 (loopsL_nil (by kernel_rfl)) (boxesL_none (by kernel_rfl)) e_q27
theorem fk_q27:FK Gz:=fun _ _ h=>h.cons Gz (by kernel_rfl) Wh.Mi ok_q27
def Em:iq:=⟨272,[.v an,.v I6,.v .str],[.v .bool],Wh.CZ,Wh.Ix⟩
def C_q100:Cx:=⟨cr,[],false,Gl⟩
def S0:LT:=[]
theorem e_q100:EV C_q100 S0 Tryz.f272 [.v an,.v I6,.v .str] [.v .bool] Wh.CZ:=by intro xs;kernel_rfl
theorem Ti:CO Em:=con_ok (Ls:=[]) mixed (cx _ _) en Tryz.func272 (loopsL_nil (by kernel_rfl)) (boxesL_none (by kernel_rfl)) e_q100
theorem N0:FK Em:=fun _ _ h=>h.cons Em (by kernel_rfl) Wh.Iy Ti
def EB:iq:=⟨187,[.v (.lst an),.v I6],[.v I6],Wh.q78,Wh.IT⟩
def C_q78:Cx:=⟨cr,[],false,Gl⟩
def Kx:b8:=kS ⟨[(6,.leaf I6),(0,.leaf (.lst an)),(5,.leaf I6),(1,.leaf I6)],[]⟩ [((.exit 0),⟨[(5,.leaf I6)],[]⟩)] Wh.QY Wh.BF
def Pw:LT:=[(3,Kx)]
theorem VW:∀x,round C_q78 Pw (jo Tryz.f187 0) Kx x=Wh.BF x:=by intro x;kernel_rfl
theorem e_q78:EV C_q78 Pw Tryz.f187 [.v (.lst an),.v I6] [.v I6] Wh.q78:=by intro xs;kernel_rfl
theorem ok_q78:CO EB:=con_ok (Ls:=[Kx]) mixed (cx _ _) en Tryz.func187 (loopsL_cons (by kernel_rfl) (loopD_ok VW) (loopsL_nil (by kernel_rfl))) (boxesL_none (by kernel_rfl)) e_q78
theorem Oc:FK EB:=fun _ _ h=>h.cons EB (by kernel_rfl) Wh.IU ok_q78
def Eo:iq:=⟨184,[.v bn],[.v .bool],Wh.Cb,Wh.IC⟩
def F0:Cx:=⟨cr,[EB.entry,Em.entry,DH.entry,zG.entry],false,Gl⟩
def J3:b8:=kS ⟨[(1,.aZ z0 []),(3,.leaf I6)],[(z0,false,.var bn (.leaf bn))]⟩ [(.ret,⟨[(2,.leaf .bool)],[]⟩),((.exit 0),⟨[(1,.aZ z0 [])],[(z0,false,.var bn (.leaf bn))]⟩)] Wh.P8 Wh.Be
def J4:b8:=kS ⟨[(5,.leaf I6),(4,.aZ z0 []),(1,.aZ z1 []),(3,.leaf I6)],[(z0,false,.var an (.leaf an)),(z1,false,.var bn (.leaf bn))]⟩ [(.ret,⟨[(2,.leaf .bool)],[]⟩),((.exit 2),⟨[(1,.aZ z0 []),(3,.leaf I6)],[(z0,false,.var bn (.leaf bn))]⟩)] Wh.P9 Wh.Cc
def J5:b8:=kS ⟨[(6,.leaf I6),(1,.aZ z0 [])],[(z0,false,.var bn (.leaf bn))]⟩ [(.ret,⟨[(2,.leaf .bool)],[]⟩),((.exit 4),⟨[],[]⟩)] Wh.P_ Wh.C8
def Io:LT:=[(4,J3),(10,J4),(15,J5)]
theorem Vu:∀x,round F0 Io (jo Tryz.f184 0) J3 x=Wh.Be x:=by intro x;kernel_rfl
theorem Vv:∀x,round F0 Io (jo Tryz.f184 1) J4 x=Wh.Cc x:=by intro x;kernel_rfl
theorem Vw:∀x,round F0 Io (jo Tryz.f184 2) J5 x=Wh.C8 x:=by intro x;kernel_rfl
theorem e_q110:EV F0 Io Tryz.f184 [.v bn] [.v .bool] Wh.Cb:=by intro xs;kernel_rfl
theorem Ts:CO Eo:=con_ok (Ls:=[J3,J4,J5]) mixed (cx _ _) (Oc _ (N0 _ (KQ _ (Au _ en)))) Tryz.func184 (loopsL_cons (by kernel_rfl) (loopD_ok Vu) (loopsL_cons (by kernel_rfl) (loopD_ok Vv) (loopsL_cons (by kernel_rfl) (loopD_ok Vw) (loopsL_nil (by kernel_rfl))))) (boxesL_none (by kernel_rfl)) e_q110
theorem N2:FK Eo:=fun _ _ h=>h.cons Eo (by kernel_rfl) Wh.D5 Ts
def Es:iq:=⟨186,[.v bn,.v I6,.v .str],[.v I6],Wh.Am,Wh.IJ⟩
def NH:Cx:=⟨cr,[],false,Gl⟩
def Kw:b8:=kS ⟨[(7,.leaf I6),(2,.leaf .str),(3,.aZ z0 []),(1,.leaf I6)],[(z0,false,.var bn (.leaf bn))]⟩ [(.ret,⟨[(6,.leaf I6)],[]⟩),((.exit 0),⟨[],[]⟩)] Wh.Qj Wh.Bi
def O_:LT:=[(2,Kw)]
theorem VV:∀x,round NH O_ (jo Tryz.f186 0) Kw x=Wh.Bi x:=by intro x;kernel_rfl
theorem e_q120:EV NH O_ Tryz.f186 [.v bn,.v I6,.v .str] [.v I6] Wh.Am:=by intro xs;kernel_rfl
theorem TE:CO Es:=con_ok (Ls:=[Kw]) mixed (cx _ _) en Tryz.func186 (loopsL_cons (by kernel_rfl) (loopD_ok VV) (loopsL_nil (by kernel_rfl))) (boxesL_none (by kernel_rfl)) e_q120
theorem N5:FK Es:=fun _ _ h=>h.cons Es (by kernel_rfl) Wh.Fb TE
def EH:iq:=⟨170,[.v bn],[.v (.pair I6 (.pair (.own an) .unit))],Wh.AQ,Wh.Ec⟩
def C_q98:Cx:=⟨cr,[],false,Gl⟩
def lt_q98:LT:=[]
theorem e_q98:EV C_q98 lt_q98 Tryz.f170 [.v bn] [.v (.pair I6 (.pair (.own an) .unit))] Wh.AQ:=by intro xs;kernel_rfl
theorem ok_q98:CO EH:=con_ok (Ls:=[]) mixed (cx _ _) en Tryz.func170 (loopsL_nil (by kernel_rfl)) (boxesL_none (by kernel_rfl)) e_q98
theorem Oh:FK EH:=fun _ _ h=>h.cons EH (by kernel_rfl) Wh.Fl ok_q98
def F7:iq:=⟨270,[.v bn,.v I6],[.v (.pair I6 (.pair (.own an) .unit))],Wh.C0,Wh.LF⟩
def C_q101:Cx:=⟨cr,[],false,Gl⟩
def S1:LT:=[]
theorem e_q101:EV C_q101 S1 Tryz.f270 [.v bn,.v I6] [.v (.pair I6 (.pair (.own an) .unit))] Wh.C0:=by intro xs;kernel_rfl
theorem Tj:CO F7:=con_ok (Ls:=[]) mixed (cx _ _) en Tryz.func270 (loopsL_nil (by kernel_rfl)) (boxesL_none (by kernel_rfl)) e_q101
theorem R5:FK F7:=fun _ _ h=>h.cons F7 (by kernel_rfl) Wh.PW Tj
def Hp:iq:=⟨181,[.v bn,.v I6,.v .str],[.v (.pair I6 (.pair (.own an) .unit)),.v I6],Wh.q70,Wh.IS⟩
def C_q70:Cx:=⟨cr,[F7.entry,EH.entry,Es.entry,Eo.entry],false,Gl⟩
def lt_q70:LT:=[]
theorem e_q70:EV C_q70 lt_q70 Tryz.f181 [.v bn,.v I6,.v .str] [.v (.pair I6 (.pair (.own an) .unit)),.v I6] Wh.q70:=by intro xs;kernel_rfl
theorem ok_q70:CO Hp:=con_ok (Ls:=[]) mixed (cx _ _) (R5 _ (Oh _ (N5 _ (N2 _ en)))) Tryz.func181 (loopsL_nil (by kernel_rfl)) (boxesL_none (by kernel_rfl)) e_q70
theorem fk_q70:FK Hp:=fun _ _ h=>h.cons Hp (by kernel_rfl) Wh.q70_v ok_q70
def Gk:iq:=⟨188,[.v bn,.v an],[.v (.pair I6 (.pair (.own an) .unit))],Wh.Db,Wh.L7⟩
def NG:Cx:=⟨cr,[Em.entry],false,Gl⟩
def Kz:b8:=kS ⟨[(5,.leaf I6),(4,.aZ z0 []),(2,.aZ z1 []),(3,.aZ z2 [])],[(z0,false,.var bn (.pair (.leaf I6) (.pair (.whole z3 an) (.leaf .unit)))),(z1,false,.var bn (.leaf bn)),(z2,false,.var an (.leaf an)),(z3,false,.rows an)]⟩ [((.exit 0),⟨[(4,.aZ z0 []),(5,.leaf I6),(2,.aZ z1 []),(3,.aZ z2 [])],[(z0,false,.var bn (.pair (.leaf I6) (.pair (.whole z3 an) (.leaf .unit)))),(z1,false,.var bn (.leaf bn)),(z2,false,.var an (.leaf an)),(z3,false,.rows an)]⟩)] Wh.Qh Wh.Bh
def O9:LT:=[(2,Kz)]
theorem VY:∀x,round NG O9 (jo Tryz.f188 0) Kz x=Wh.Bh x:=by intro x;kernel_rfl
theorem e_q118:EV NG O9 Tryz.f188 [.v bn,.v an] [.v (.pair I6 (.pair (.own an) .unit))] Wh.Db:=by intro xs;kernel_rfl
theorem TC:CO Gk:=con_ok (Ls:=[Kz]) mixed (cx _ _) (N0 _ en) Tryz.func188 (loopsL_cons (by kernel_rfl) (loopD_ok VY) (loopsL_nil (by kernel_rfl))) (boxesL_none (by kernel_rfl)) e_q118
theorem Sg:FK Gk:=fun _ _ h=>h.cons Gk (by kernel_rfl) Wh.Qi TC
def HE:iq:=⟨101,[.v bn,.v I6,.v .str,.v .str],[.v (.pair I6 (.pair (.own an) .unit)),.v I6],Wh.BH,Wh.IW⟩
def C_q89:Cx:=⟨cr,[Gk.entry,EB.entry,Es.entry,EH.entry,DH.entry,Eo.entry],false,Gl⟩
def lt_q89:LT:=[]
theorem e_q89:EV C_q89 lt_q89 Tryz.f101 [.v bn,.v I6,.v .str,.v .str] [.v (.pair I6 (.pair (.own an) .unit)),.v I6] Wh.BH:=by intro xs;kernel_rfl
theorem ok_q89:CO HE:=con_ok (Ls:=[]) mixed (cx _ _) (Sg _ (Oc _ (N5 _ (Oh _ (KQ _ (N2 _ en)))))) Tryz.func101 (loopsL_nil (by kernel_rfl)) (boxesL_none (by kernel_rfl)) e_q89
theorem fk_q89:FK HE:=fun _ _ h=>h.cons HE (by kernel_rfl) Wh.q89_v ok_q89
def HL:iq:=⟨98,[.v bn,.v .str],[.v (.pair I6 (.pair (.own an) .unit)),.v .bool],Wh.BM,Wh.q99'⟩
def C_q99:Cx:=⟨cr,[HE.entry,Hp.entry,Gz.entry,Er.entry,HI.entry,EE.entry],false,Gl⟩
def lt_q99:LT:=[]
theorem e_q99:EV C_q99 lt_q99 Tryz.f98 [.v bn,.v .str] [.v (.pair I6 (.pair (.own an) .unit)),.v .bool] Wh.BM:=by intro xs;kernel_rfl
theorem ok_q99:CO HL:=con_ok (Ls:=[]) mixed (cx _ _) (fk_q89 _ (fk_q70 _ (fk_q27 _ (N4 _ (fk_q93 _ (Of _ en)))))) Tryz.func98 (loopsL_nil (by kernel_rfl)) (boxesL_none (by kernel_rfl)) e_q99
theorem fk_q99:FK HL:=fun _ _ h=>h.cons HL (by kernel_rfl) Wh.Nh ok_q99
def En:iq:=⟨61,[.v (.lst .str)],[.v (.pair I6 (.pair (.own an) .unit)),.v .bool],Wh.Ca,Wh.IB⟩
def NA:Cx:=⟨cr,[HL.entry],false,Gl⟩
def J2:b8:=kS ⟨[(2,.aZ z0 []),(5,.leaf I6),(4,.aZ z1 []),(0,.leaf (.lst .str))],[(z0,false,.var bn (.pair (.leaf I6) (.pair (.whole z2 an) (.leaf .unit)))),(z1,false,.var bn (.pair (.leaf I6) (.pair (.whole z3 an) (.leaf .unit)))),(z2,false,.rows an),(z3,false,.rows an)]⟩ [(.ret,⟨[(2,.aZ z0 []),(3,.leaf .bool)],[(z0,false,.var bn (.pair (.leaf I6) (.pair (.whole z1 an) (.leaf .unit)))),(z1,false,.rows an)]⟩),((.exit 0),⟨[(2,.aZ z0 []),(4,.aZ z1 [])],[(z0,false,.var bn (.pair (.leaf I6) (.pair (.whole z2 an) (.leaf .unit)))),(z1,false,.var bn (.pair (.leaf I6) (.pair (.whole z3 an) (.leaf .unit)))),(z2,false,.rows an),(z3,false,.rows an)]⟩)] Wh.P6 Wh.Bc
def O4:LT:=[(3,J2)]
theorem Vt:∀x,round NA O4 (jo Tryz.f61 0) J2 x=Wh.Bc x:=by intro x;kernel_rfl
theorem e_q109:EV NA O4 Tryz.f61 [.v (.lst .str)] [.v (.pair I6 (.pair (.own an) .unit)),.v .bool] Wh.Ca:=by intro xs;kernel_rfl
theorem Tr:CO En:=con_ok (Ls:=[J2]) mixed (cx _ _) (fk_q99 _ en) Tryz.func61 (loopsL_cons (by kernel_rfl) (loopD_ok Vt) (loopsL_nil (by kernel_rfl))) (boxesL_none (by kernel_rfl)) e_q109
theorem N1:FK En:=fun _ _ h=>h.cons En (by kernel_rfl) Wh.LQ Tr
def Hs:iq:=⟨59,[.v eB],[.v .bool],Wh.q73,Wh.q73'⟩
def C_q73:Cx:=⟨cr,[En.entry,EG.entry],false,Gl⟩
def lt_q73:LT:=[]
theorem e_q73:EV C_q73 lt_q73 Tryz.f59 [.v eB] [.v .bool] Wh.q73:=by intro xs;kernel_rfl
theorem ok_q73:CO Hs:=con_ok (Ls:=[]) mixed (cx _ _) (N1 _ (Og _ en)) Tryz.func59 (loopsL_nil (by kernel_rfl)) (boxesL_none (by kernel_rfl)) e_q73
theorem fk_q73:FK Hs:=fun _ _ h=>h.cons Hs (by kernel_rfl) Wh.q73_v ok_q73
def Hr:iq:=⟨62,[.v bn,.v bn],[.v .bool],Wh.BB,Wh.q72'⟩
def C_q72:Cx:=⟨cr,[],false,Gl⟩
def Kc:b8:=kS ⟨[(5,.leaf I6),(3,.aZ z0 []),(2,.aZ z1 [])],[(z0,false,.var bn (.leaf bn)),(z1,false,.var bn (.leaf bn))]⟩ [(.ret,⟨[(4,.leaf .bool)],[]⟩),((.exit 0),⟨[],[]⟩)] Wh.QT Wh.BD
def Pv:LT:=[(4,Kc)]
theorem VE:∀x,round C_q72 Pv (jo Tryz.f62 0) Kc x=Wh.BD x:=by intro x;kernel_rfl
theorem e_q72:EV C_q72 Pv Tryz.f62 [.v bn,.v bn] [.v .bool] Wh.BB:=by intro xs;kernel_rfl
theorem ok_q72:CO Hr:=con_ok (Ls:=[Kc]) mixed (cx _ _) en Tryz.func62 (loopsL_cons (by kernel_rfl) (loopD_ok VE) (loopsL_nil (by kernel_rfl))) (boxesL_none (by kernel_rfl)) e_q72
theorem fk_q72:FK Hr:=fun _ _ h=>h.cons Hr (by kernel_rfl) Wh.q72_v ok_q72
def Gg:iq:=⟨151,[.v e_],[.v .bool],Wh.Cd,Wh.LY⟩
def C_q112:Cx:=⟨cr,[zG.entry],false,Gl⟩
def S6:LT:=[]
theorem e_q112:EV C_q112 S6 Tryz.f151 [.v e_] [.v .bool] Wh.Cd:=by intro xs;kernel_rfl
theorem Tu:CO Gg:=con_ok (Ls:=[]) mixed (cx _ _) (Au _ en) Tryz.func151 (loopsL_nil (by kernel_rfl)) (boxesL_none (by kernel_rfl)) e_q112
theorem Sc:FK Gg:=fun _ _ h=>h.cons Gg (by kernel_rfl) Wh.ID Tu
def Gf:iq:=⟨152,[.v fT,.v I6],[.v I6],Wh.C9,Wh.LW⟩
def NB:Cx:=⟨cr,[],false,Gl⟩
def Kb:b8:=kS ⟨[(6,.leaf I6),(5,.leaf I6),(1,.leaf I6),(2,.aZ z0 [])],[(z0,false,.var fT (.leaf fT))]⟩ [((.exit 0),⟨[(5,.leaf I6)],[]⟩)] Wh.Qa Wh.Bf
def O5:LT:=[(3,Kb)]
theorem VD:∀x,round NB O5 (jo Tryz.f152 0) Kb x=Wh.Bf x:=by intro x;kernel_rfl
theorem e_q111:EV NB O5 Tryz.f152 [.v fT,.v I6] [.v I6] Wh.C9:=by intro xs;kernel_rfl
theorem Tt:CO Gf:=con_ok (Ls:=[Kb]) mixed (cx _ _) en Tryz.func152 (loopsL_cons (by kernel_rfl) (loopD_ok VD) (loopsL_nil (by kernel_rfl))) (boxesL_none (by kernel_rfl)) e_q111
theorem Sb:FK Gf:=fun _ _ h=>h.cons Gf (by kernel_rfl) Wh.D6 Tt
def HH:iq:=⟨63,[.v fT],[.v .bool],Wh.q91,Wh.q91'⟩
def F2:Cx:=⟨cr,[Gf.entry,Gg.entry,zG.entry],false,Gl⟩
def J7:b8:=kS ⟨[(1,.aZ z0 []),(3,.leaf I6)],[(z0,false,.var fT (.leaf fT))]⟩ [(.ret,⟨[(2,.leaf .bool)],[]⟩),((.exit 0),⟨[(1,.aZ z0 [])],[(z0,false,.var fT (.leaf fT))]⟩)] Wh.Q3 Wh.AM
def J8:b8:=kS ⟨[(4,.leaf I6),(1,.aZ z0 []),(3,.leaf I6)],[(z0,false,.var fT (.leaf fT))]⟩ [(.ret,⟨[(2,.leaf .bool)],[]⟩),((.exit 2),⟨[(1,.aZ z0 []),(3,.leaf I6)],[(z0,false,.var fT (.leaf fT))]⟩)] Wh.Q4 Wh.zC
def J9:b8:=kS ⟨[(5,.leaf I6),(1,.aZ z0 [])],[(z0,false,.var fT (.leaf fT))]⟩ [(.ret,⟨[(2,.leaf .bool)],[]⟩),((.exit 4),⟨[],[]⟩)] Wh.Q5 Wh.AN
def Iq:LT:=[(4,J7),(9,J8),(14,J9)]
theorem Vy:∀x,round F2 Iq (jo Tryz.f63 0) J7 x=Wh.AM x:=by intro x;kernel_rfl
theorem Vz:∀x,round F2 Iq (jo Tryz.f63 1) J8 x=Wh.zC x:=by intro x;kernel_rfl
theorem VA:∀x,round F2 Iq (jo Tryz.f63 2) J9 x=Wh.AN x:=by intro x;kernel_rfl
theorem e_q91:EV F2 Iq Tryz.f63 [.v fT] [.v .bool] Wh.q91:=by intro xs;kernel_rfl
theorem ok_q91:CO HH:=con_ok (Ls:=[J7,J8,J9]) mixed (cx _ _) (Sb _ (Sc _ (Au _ en))) Tryz.func63 (loopsL_cons (by kernel_rfl) (loopD_ok Vy) (loopsL_cons (by kernel_rfl) (loopD_ok Vz) (loopsL_cons (by kernel_rfl) (loopD_ok VA) (loopsL_nil (by kernel_rfl))))) (boxesL_none (by kernel_rfl)) e_q91
theorem fk_q91:FK HH:=fun _ _ h=>h.cons HH (by kernel_rfl) Wh.q91_v ok_q91
def Ew:iq:=⟨65,[.v bn,.v I6],[.v an,.v .bool],Wh.q29,Wh.IN⟩
def C_q29:Cx:=⟨cr,[],false,Gl⟩
def Ky:b8:=kS ⟨[(4,.aZ z0 []),(6,.leaf I6),(2,.aZ z1 []),(1,.leaf I6)],[(z0,false,.var an (.pair (.leaf I6) (.pair (.leaf .str) (.pair (.leaf I6) (.pair (.leaf .str) (.leaf .unit)))))),(z1,false,.var bn (.leaf bn))]⟩ [(.ret,⟨[(4,.aZ z0 []),(5,.leaf .bool)],[(z0,false,.var an (.leaf an))]⟩),((.exit 0),⟨[(4,.aZ z0 [])],[(z0,false,.var an (.pair (.leaf I6) (.pair (.leaf .str) (.pair (.leaf I6) (.pair (.leaf .str) (.leaf .unit))))))]⟩)] Wh.Qq Wh.Bp
def Pf:LT:=[(2,Ky)]
theorem VX:∀x,round C_q29 Pf (jo Tryz.f65 0) Ky x=Wh.Bp x:=by intro x;kernel_rfl
theorem e_q29:EV C_q29 Pf Tryz.f65 [.v bn,.v I6] [.v an,.v .bool] Wh.q29:=by intro xs;kernel_rfl
theorem ok_q29:CO Ew:=con_ok (Ls:=[Ky]) mixed (cx _ _) en Tryz.func65 (loopsL_cons (by kernel_rfl) (loopD_ok VX) (loopsL_nil (by kernel_rfl))) (boxesL_none (by kernel_rfl)) e_q29
theorem N9:FK Ew:=fun _ _ h=>h.cons Ew (by kernel_rfl) Wh.Cl ok_q29
def G0:iq:=⟨138,[.v I6],[.v I6],Wh.q52,Wh.q52'⟩
def C_q52:Cx:=⟨cr,[],false,Gl⟩
def lt_q52:LT:=[]
theorem e_q52:EV C_q52 lt_q52 Tryz.f138 [.v I6] [.v I6] Wh.q52:=by intro xs;kernel_rfl
theorem ok_q52:CO G0:=con_ok (Ls:=[]) mixed (cx _ _) en Tryz.func138 (loopsL_nil (by kernel_rfl)) (boxesL_none (by kernel_rfl)) e_q52
theorem fk_q52:FK G0:=fun _ _ h=>h.cons G0 (by kernel_rfl) Wh.ME ok_q52
def GA:iq:=⟨64,[.v eB],[.v .bool],Wh.q28,Wh.q28'⟩
def C_q28:Cx:=⟨cr,[G0.entry,Ew.entry,zG.entry],false,Gl⟩
def Kd:b8:=kS ⟨[(3,.leaf I6),(1,.aZ z0 [])],[(z0,false,.var eB (.leaf eB))]⟩ [(.ret,⟨[(2,.leaf .bool)],[]⟩),((.exit 0),⟨[],[]⟩)] Wh.Qp Wh.AG
def Pe:LT:=[(2,Kd)]
theorem VF:∀x,round C_q28 Pe (jo Tryz.f64 0) Kd x=Wh.AG x:=by intro x;kernel_rfl
theorem e_q28:EV C_q28 Pe Tryz.f64 [.v eB] [.v .bool] Wh.q28:=by intro xs;kernel_rfl
theorem ok_q28:CO GA:=con_ok (Ls:=[Kd]) mixed (cx _ _) (fk_q52 _ (N9 _ (Au _ en))) Tryz.func64 (loopsL_cons (by kernel_rfl) (loopD_ok VF) (loopsL_nil (by kernel_rfl))) (boxesL_none (by kernel_rfl)) e_q28
theorem fk_q28:FK GA:=fun _ _ h=>h.cons GA (by kernel_rfl) Wh.q28_v ok_q28
def EA:iq:=⟨66,[.v xS],[.v I6],Wh.AJ,Wh.Ea⟩
def C_q77:Cx:=⟨cr,[],false,Gl⟩
def lt_q77:LT:=[]
theorem e_q77:EV C_q77 lt_q77 Tryz.f66 [.v xS] [.v I6] Wh.AJ:=by intro xs;kernel_rfl
theorem ok_q77:CO EA:=con_ok (Ls:=[]) mixed (cx _ _) en Tryz.func66 (loopsL_nil (by kernel_rfl)) (boxesL_none (by kernel_rfl)) e_q77
theorem Ob:FK EA:=fun _ _ h=>h.cons EA (by kernel_rfl) Wh.BE ok_q77
def Gj:iq:=⟨67,[.v I6],[.v (.pair I6 (.pair I6 (.pair (.own I6) (.pair (.own I6) .unit))))],Wh.Ch,Wh.E_⟩
def ND:Cx:=⟨cr,[EA.entry],false,Gl⟩
def Kp:b8:=kS ⟨[(3,.aZ z0 []),(2,.aZ z1 [])],[(z0,false,.var xS (.pair (.leaf I6) (.pair (.leaf I6) (.pair (.whole z2 I6) (.pair (.whole z3 I6) (.leaf .unit)))))),(z1,false,.var xS (.pair (.leaf I6) (.pair (.leaf I6) (.pair (.whole 500000004 I6) (.pair (.whole 500000005 I6) (.leaf .unit)))))),(z2,false,.rows I6),(z3,false,.rows I6),(500000004,false,.rows I6),(500000005,false,.rows I6)]⟩ [((.exit 0),⟨[(2,.aZ z0 []),(3,.aZ z1 [])],[(z0,false,.var xS (.pair (.leaf I6) (.pair (.leaf I6) (.pair (.whole z2 I6) (.pair (.whole z3 I6) (.leaf .unit)))))),(z1,false,.var xS (.pair (.leaf I6) (.pair (.leaf I6) (.pair (.whole 500000004 I6) (.pair (.whole 500000005 I6) (.leaf .unit)))))),(z2,false,.rows I6),(z3,false,.rows I6),(500000004,false,.rows I6),(500000005,false,.rows I6)]⟩)] Wh.Qf Wh.Bg
def O7:LT:=[(2,Kp)]
theorem VR:∀x,round ND O7 (jo Tryz.f67 0) Kp x=Wh.Bg x:=by intro x;kernel_rfl
theorem e_q116:EV ND O7 Tryz.f67 [.v I6] [.v (.pair I6 (.pair I6 (.pair (.own I6) (.pair (.own I6) .unit))))] Wh.Ch:=by intro xs;kernel_rfl
theorem Tz:CO Gj:=con_ok (Ls:=[Kp]) mixed (cx _ _) (Ob _ en) Tryz.func67 (loopsL_cons (by kernel_rfl) (loopD_ok VR) (loopsL_nil (by kernel_rfl))) (boxesL_none (by kernel_rfl)) e_q116
theorem Sf:FK Gj:=fun _ _ h=>h.cons Gj (by kernel_rfl) Wh.IG Tz
def GY:iq:=⟨68,[.v fN],[.v .bool],Wh.q50,Wh.q50'⟩
def C_q50:Cx:=⟨cr,[zG.entry],false,Gl⟩
def lt_q50:LT:=[]
theorem e_q50:EV C_q50 lt_q50 Tryz.f68 [.v fN] [.v .bool] Wh.q50:=by intro xs;kernel_rfl
theorem ok_q50:CO GY:=con_ok (Ls:=[]) mixed (cx _ _) (Au _ en) Tryz.func68 (loopsL_nil (by kernel_rfl)) (boxesL_none (by kernel_rfl)) e_q50
theorem fk_q50:FK GY:=fun _ _ h=>h.cons GY (by kernel_rfl) Wh.q50_v ok_q50
def GZ:iq:=⟨15,[.v eB],[.v .bool],Wh.q51,Wh.q51'⟩
def Jo:Cx:=⟨cr,[GY.entry,EA.entry,Gj.entry,Ew.entry,GA.entry,HH.entry,Hr.entry,En.entry,EG.entry,Hs.entry,zG.entry],false,Gl⟩
def J_:b8:=kS ⟨[(7,.leaf I6),(1,.aZ z0 [])],[(z0,false,.var eB (.leaf eB))]⟩ [(.ret,⟨[(2,.leaf .bool)],[]⟩),((.exit 0),⟨[(1,.aZ z0 [])],[(z0,false,.var eB (.leaf eB))]⟩)] Wh.QH Wh.zO
def Ka:b8:=kS ⟨[(10,.leaf I6),(1,.aZ z0 [])],[(z0,false,.var eB (.leaf eB))]⟩ [(.ret,⟨[(2,.leaf .bool)],[]⟩),((.exit 2),⟨[],[]⟩)] Wh.QI Wh.By
def Lm:LT:=[(10,J_),(16,Ka)]
theorem VB:∀x,round Jo Lm (jo Tryz.f15 0) J_ x=Wh.zO x:=by intro x;kernel_rfl
theorem VC:∀x,round Jo Lm (jo Tryz.f15 1) Ka x=Wh.By x:=by intro x;kernel_rfl
theorem e_q51:EV Jo Lm Tryz.f15 [.v eB] [.v .bool] Wh.q51:=by intro xs;kernel_rfl
theorem ok_q51:CO GZ:=con_ok (Ls:=[J_,Ka]) mixed (cx _ _) (fk_q50 _ (Ob _ (Sf _ (N9 _ (fk_q28 _ (fk_q91 _ (fk_q72 _ (N1 _ (Og _ (fk_q73 _ (Au _ en))))))))))) Tryz.func15 (loopsL_cons (by kernel_rfl) (loopD_ok VB) (loopsL_cons (by kernel_rfl) (loopD_ok VC) (loopsL_nil (by kernel_rfl)))) (boxesL_none (by kernel_rfl)) e_q51
theorem fk_q51:FK GZ:=fun _ _ h=>h.cons GZ (by kernel_rfl) Wh.q51_v ok_q51
def zT:iq:=⟨73,[.v I6,.v I6,.v I6],[.v .bool],Wh.vT,Wh.x_⟩
def C_q82:Cx:=⟨cr,[],false,Gl⟩
def lt_q82:LT:=[]
theorem e_q82:EV C_q82 lt_q82 Tryz.f73 [.v I6,.v I6,.v I6] [.v .bool] Wh.vT:=by intro xs;kernel_rfl
theorem ok_q82:CO zT:=con_ok (Ls:=[]) mixed (cx _ _) en Tryz.func73 (loopsL_nil (by kernel_rfl)) (boxesL_none (by kernel_rfl)) e_q82
theorem A7:FK zT:=fun _ _ h=>h.cons zT (by kernel_rfl) Wh.yL ok_q82
def Hx:iq:=⟨389,[.v I3,.v I6],[.v I3],Wh.zg,Wh.zQ⟩
def C_q81:Cx:=⟨cr,[],false,Gl⟩
def lt_q81:LT:=[]
theorem e_q81:EV C_q81 lt_q81 Tryz.f389 [.v I3,.v I6] [.v I3] Wh.zg:=by intro xs;kernel_rfl
theorem ok_q81:CO Hx:=con_ok (Ls:=[]) mixed (cx _ _) en Tryz.func389 (loopsL_nil (by kernel_rfl)) (boxesL_none (by kernel_rfl)) e_q81
theorem fk_q81:FK Hx:=fun _ _ h=>h.cons Hx (by kernel_rfl) Wh.q81_v ok_q81
def GJ:iq:=⟨334,[.v .str],[.v .str],Wh.q38,Wh.q38'⟩
def BW:Cx:=⟨cr,[Hx.entry],false,Gl⟩
def JG:b8:=kS ⟨[(4,.whole z0 I8),(3,.aZ z1 []),(0,.leaf .str)],[(z0,false,.rows I8),(z1,false,.var (.arr 8 I3) (.leaf (.arr 8 I3)))]⟩ [((.exit 0),⟨[(4,.whole z0 I8),(3,.aZ z1 []),(0,.leaf .str)],[(z0,false,.rows I8),(z1,false,.var (.arr 8 I3) (.leaf (.arr 8 I3)))]⟩)] Wh.Qv Wh.Cm
def JH:b8:=kS ⟨[(6,.leaf I6),(5,.leaf (.int .u64)),(4,.whole z0 I8),(3,.aZ z1 [])],[(z0,false,.rows I8),(z1,false,.var (.arr 8 I3) (.leaf (.arr 8 I3)))]⟩ [((.exit 2),⟨[(4,.whole z0 I8),(3,.aZ z1 [])],[(z0,false,.rows I8),(z1,false,.var (.arr 8 I3) (.leaf (.arr 8 I3)))]⟩)] Wh.Qw Wh.Df
def JI:b8:=kS ⟨[(4,.piece z0 I8),(3,.aZ z1 [])],[(z0,false,.rows I8),(z1,false,.var (.arr 8 I3) (.leaf (.arr 8 I3)))]⟩ [((.exit 4),⟨[(3,.aZ z0 [])],[(z0,false,.var (.arr 8 I3) (.leaf (.arr 8 I3)))]⟩)] Wh.Qx Wh.Cn
def JJ:b8:=kS ⟨[(54,.leaf I6),(7,.aZ z0 []),(4,.piece z1 I8),(3,.aZ z2 [])],[(z0,false,.var (.arr 64 I3) (.leaf (.arr 64 I3))),(z1,false,.rows I8),(z2,false,.var (.arr 8 I3) (.leaf (.arr 8 I3)))]⟩ [((.exit 6),⟨[(7,.aZ z0 []),(3,.aZ z1 []),(4,.piece z2 I8)],[(z0,false,.var (.arr 64 I3) (.leaf (.arr 64 I3))),(z1,false,.var (.arr 8 I3) (.leaf (.arr 8 I3))),(z2,false,.rows I8)]⟩)] Wh.Qy Wh.Co
def JK:b8:=kS ⟨[(133,.leaf I6),(11,.aZ z0 []),(7,.aZ z1 []),(3,.aZ z2 []),(4,.piece z3 I8)],[(z0,false,.var (.arr 8 I3) (.leaf (.arr 8 I3))),(z1,false,.var (.arr 64 I3) (.leaf (.arr 64 I3))),(z2,false,.var (.arr 8 I3) (.leaf (.arr 8 I3))),(z3,false,.rows I8)]⟩ [((.exit 8),⟨[(3,.aZ z0 []),(11,.aZ z1 []),(4,.piece z2 I8)],[(z0,false,.var (.arr 8 I3) (.leaf (.arr 8 I3))),(z1,false,.var (.arr 8 I3) (.leaf (.arr 8 I3))),(z2,false,.rows I8)]⟩)] Wh.Qz Wh.Dg
def JL:b8:=kS ⟨[(213,.leaf I6),(3,.aZ z0 []),(11,.aZ z1 []),(4,.piece z2 I8)],[(z0,false,.var (.arr 8 I3) (.leaf (.arr 8 I3))),(z1,false,.var (.arr 8 I3) (.leaf (.arr 8 I3))),(z2,false,.rows I8)]⟩ [((.exit 10),⟨[(3,.aZ z0 []),(4,.piece z1 I8)],[(z0,false,.var (.arr 8 I3) (.leaf (.arr 8 I3))),(z1,false,.rows I8)]⟩)] Wh.QA Wh.Ff
def JM:b8:=kS ⟨[(227,.leaf I6),(18,.whole z0 I8),(226,.leaf (.arr 8 I3))],[(z0,false,.rows I8)]⟩ [((.exit 12),⟨[(18,.whole z0 I8)],[(z0,false,.rows I8)]⟩)] Wh.QB Wh.Fg
def B8:LT:=[(3,JG),(7,JH),(10,JI),(14,JJ),(23,JK),(31,JL),(37,JM)]
theorem U8:∀x,round BW B8 (jo Tryz.f334 0) JG x=Wh.Cm x:=by intro x;kernel_rfl
theorem U9:∀x,round BW B8 (jo Tryz.f334 1) JH x=Wh.Df x:=by intro x;kernel_rfl
theorem U_:∀x,round BW B8 (jo Tryz.f334 2) JI x=Wh.Cn x:=by intro x;kernel_rfl
theorem Va:∀x,round BW B8 (jo Tryz.f334 3) JJ x=Wh.Co x:=by intro x;kernel_rfl
theorem Vb:∀x,round BW B8 (jo Tryz.f334 4) JK x=Wh.Dg x:=by intro x;kernel_rfl
theorem Vc:∀x,round BW B8 (jo Tryz.f334 5) JL x=Wh.Ff x:=by intro x;kernel_rfl
theorem Vd:∀x,round BW B8 (jo Tryz.f334 6) JM x=Wh.Fg x:=by intro x;kernel_rfl
theorem e_q38:EV BW B8 Tryz.f334 [.v .str] [.v .str] Wh.q38:=by intro xs;kernel_rfl
theorem ok_q38:CO GJ:=con_ok (Ls:=[JG,JH,JI,JJ,JK,JL,JM]) mixed (cx _ _) (fk_q81 _ en) Tryz.func334 (loopsL_cons (by kernel_rfl) (loopD_ok U8) (loopsL_cons (by kernel_rfl) (loopD_ok U9) (loopsL_cons (by kernel_rfl) (loopD_ok U_) (loopsL_cons (by kernel_rfl) (loopD_ok Va) (loopsL_cons (by kernel_rfl) (loopD_ok Vb) (loopsL_cons (by kernel_rfl) (loopD_ok Vc) (loopsL_cons (by kernel_rfl) (loopD_ok Vd) (loopsL_nil (by kernel_rfl))))))))) (boxesL_none (by kernel_rfl)) e_q38
theorem fk_q38:FK GJ:=fun _ _ h=>h.cons GJ (by kernel_rfl) Wh.q38_v ok_q38
def F_:iq:=⟨333,[.v .str],[.v .str],Wh.D4,Wh.LK⟩
def Nz:Cx:=⟨cr,[],false,Gl⟩
def JE:b8:=kS ⟨[(4,.leaf I6),(0,.leaf .str),(3,.whole z0 I8)],[(z0,false,.rows I8)]⟩ [((.exit 0),⟨[(3,.whole z0 I8)],[(z0,false,.rows I8)]⟩)] Wh.P1 Wh.Iz
def O3:LT:=[(3,JE)]
theorem U6:∀x,round Nz O3 (jo Tryz.f333 0) JE x=Wh.Iz x:=by intro x;kernel_rfl
theorem e_q104:EV Nz O3 Tryz.f333 [.v .str] [.v .str] Wh.D4:=by intro xs;kernel_rfl
theorem Tm:CO F_:=con_ok (Ls:=[JE]) mixed (cx _ _) en Tryz.func333 (loopsL_cons (by kernel_rfl) (loopD_ok U6) (loopsL_nil (by kernel_rfl))) (boxesL_none (by kernel_rfl)) e_q104
theorem R8:FK F_:=fun _ _ h=>h.cons F_ (by kernel_rfl) Wh.P2 Tm
def G4:iq:=⟨263,[.v .str],[.v .str],Wh.q56,Wh.Cs⟩
def C_q56:Cx:=⟨cr,[F_.entry,GJ.entry],false,Gl⟩
def lt_q56:LT:=[]
theorem e_q56:EV C_q56 lt_q56 Tryz.f263 [.v .str] [.v .str] Wh.q56:=by intro xs;kernel_rfl
theorem ok_q56:CO G4:=con_ok (Ls:=[]) mixed (cx _ _) (R8 _ (fk_q38 _ en)) Tryz.func263 (loopsL_nil (by kernel_rfl)) (boxesL_none (by kernel_rfl)) e_q56
theorem fk_q56:FK G4:=fun _ _ h=>h.cons G4 (by kernel_rfl) Wh.q56_v ok_q56
def G9:iq:=⟨159,[.v I6,.v .str],[.v .str],Wh.q61,Wh.q61'⟩
def C_q61:Cx:=⟨cr,[G4.entry,DI.entry],false,Gl⟩
def lt_q61:LT:=[]
theorem e_q61:EV C_q61 lt_q61 Tryz.f159 [.v I6,.v .str] [.v .str] Wh.q61:=by intro xs;kernel_rfl
theorem ok_q61:CO G9:=con_ok (Ls:=[]) mixed (cx _ _) (fk_q56 _ (KR _ en)) Tryz.func159 (loopsL_nil (by kernel_rfl)) (boxesL_none (by kernel_rfl)) e_q61
theorem fk_q61:FK G9:=fun _ _ h=>h.cons G9 (by kernel_rfl) Wh.MM ok_q61
def GX:iq:=⟨243,[.v .str,.v .str],[.v .bool],Wh.q5,Wh.q5'⟩
def C_q5:Cx:=⟨cr,[],false,Gl⟩
def lt_q5:LT:=[]
theorem e_q5:EV C_q5 lt_q5 Tryz.f243 [.v .str,.v .str] [.v .bool] Wh.q5:=by intro xs;kernel_rfl
theorem ok_q5:CO GX:=con_ok (Ls:=[]) mixed (cx _ _) en Tryz.func243 (loopsL_nil (by kernel_rfl)) (boxesL_none (by kernel_rfl)) e_q5
theorem fk_q5:FK GX:=fun _ _ h=>h.cons GX (by kernel_rfl) Wh.q5_v ok_q5
def Ge:iq:=⟨140,[.v .str,.v .str],[.v .bool],Wh.q11,Wh.q11'⟩
def C_q11:Cx:=⟨cr,[GX.entry],false,Gl⟩
def lt_q11:LT:=[]
theorem e_q11:EV C_q11 lt_q11 Tryz.f140 [.v .str,.v .str] [.v .bool] Wh.q11:=by intro xs;kernel_rfl
theorem ok_q11:CO Ge:=con_ok (Ls:=[]) mixed (cx _ _) (fk_q5 _ en) Tryz.func140 (loopsL_nil (by kernel_rfl)) (boxesL_none (by kernel_rfl)) e_q11
theorem fk_q11:FK Ge:=fun _ _ h=>h.cons Ge (by kernel_rfl) Wh.L9 ok_q11
def G5:iq:=⟨74,[.v .str],[.v (.own .str),.v I6],Wh.q57,Wh.q57'⟩
def C_q57:Cx:=⟨cr,[Ge.entry,G9.entry,zT.entry,DI.entry,El.entry,EI.entry],false,Gl⟩
def Jv:b8:=kS ⟨[(5,.leaf I6),(4,.whole z0 .str),(0,.leaf .str)],[(z0,false,.rows .str)]⟩ [(.ret,⟨[(2,.whole z0 .str),(3,.leaf I6)],[(z0,false,.rows .str)]⟩)] Wh.QL Wh.AI
def Pn:LT:=[(3,Jv)]
theorem UX:∀x,round C_q57 Pn (jo Tryz.f74 0) Jv x=Wh.AI x:=by intro x;kernel_rfl
theorem e_q57:EV C_q57 Pn Tryz.f74 [.v .str] [.v (.own .str),.v I6] Wh.q57:=by intro xs;kernel_rfl
theorem ok_q57:CO G5:=con_ok (Ls:=[Jv]) mixed (cx _ _) (fk_q11 _ (fk_q61 _ (A7 _ (KR _ (NZ _ (Oi _ en)))))) Tryz.func74 (loopsL_cons (by kernel_rfl) (loopD_ok UX) (loopsL_nil (by kernel_rfl))) (boxesL_none (by kernel_rfl)) e_q57
theorem fk_q57:FK G5:=fun _ _ h=>h.cons G5 (by kernel_rfl) Wh.q57_v ok_q57
def DG:iq:=⟨233,[.v I6],[.v .bool],Wh.zL,Wh.E8⟩
def C_q105:Cx:=⟨cr,[zT.entry],false,Gl⟩
def S2:LT:=[]
theorem e_q105:EV C_q105 S2 Tryz.f233 [.v I6] [.v .bool] Wh.zL:=by intro xs;kernel_rfl
theorem Tn:CO DG:=con_ok (Ls:=[]) mixed (cx _ _) (A7 _ en) Tryz.func233 (loopsL_nil (by kernel_rfl)) (boxesL_none (by kernel_rfl)) e_q105
theorem KP:FK DG:=fun _ _ h=>h.cons DG (by kernel_rfl) Wh.IA Tn
def EC:iq:=⟨213,[.v .str],[.v .bool],Wh.q79,Wh.IV⟩
def C_q79:Cx:=⟨cr,[zT.entry],false,Gl⟩
def Jw:b8:=kS ⟨[(6,.leaf I6),(0,.leaf .str),(5,.leaf I6)],[]⟩ [(.ret,⟨[(2,.leaf .bool)],[]⟩),((.exit 0),⟨[(0,.leaf .str)],[]⟩)] Wh.QZ Wh.BG
def Px:LT:=[(2,Jw)]
theorem UY:∀x,round C_q79 Px (jo Tryz.f213 0) Jw x=Wh.BG x:=by intro x;kernel_rfl
theorem e_q79:EV C_q79 Px Tryz.f213 [.v .str] [.v .bool] Wh.q79:=by intro xs;kernel_rfl
theorem ok_q79:CO EC:=con_ok (Ls:=[Jw]) mixed (cx _ _) (A7 _ en) Tryz.func213 (loopsL_cons (by kernel_rfl) (loopD_ok UY) (loopsL_nil (by kernel_rfl))) (boxesL_none (by kernel_rfl)) e_q79
theorem Od:FK EC:=fun _ _ h=>h.cons EC (by kernel_rfl) Wh.M0 ok_q79
def Gr:iq:=⟨192,[.v I6,.v .str,.v .str],[.v .str],Wh.q19,Wh.q19'⟩
def C_q19:Cx:=⟨cr,[DI.entry,EC.entry,DG.entry],false,Gl⟩
def lt_q19:LT:=[]
theorem e_q19:EV C_q19 lt_q19 Tryz.f192 [.v I6,.v .str,.v .str] [.v .str] Wh.q19:=by intro xs;kernel_rfl
theorem ok_q19:CO Gr:=con_ok (Ls:=[]) mixed (cx _ _) (KR _ (Od _ (KP _ en))) Tryz.func192 (loopsL_nil (by kernel_rfl)) (boxesL_none (by kernel_rfl)) e_q19
theorem fk_q19:FK Gr:=fun _ _ h=>h.cons Gr (by kernel_rfl) Wh.Mb ok_q19
def Ez:iq:=⟨267,[.v bn],[.v (.pair I6 (.pair (.own an) .unit))],Wh.Bt,Wh.Fe⟩
def C_q36:Cx:=⟨cr,[],false,Gl⟩
def lt_q36:LT:=[]
theorem e_q36:EV C_q36 lt_q36 Tryz.f267 [.v bn] [.v (.pair I6 (.pair (.own an) .unit))] Wh.Bt:=by intro xs;kernel_rfl
theorem ok_q36:CO Ez:=con_ok (Ls:=[]) mixed (cx _ _) en Tryz.func267 (loopsL_nil (by kernel_rfl)) (boxesL_none (by kernel_rfl)) e_q36
theorem Oa:FK Ez:=fun _ _ h=>h.cons Ez (by kernel_rfl) Wh.De ok_q36
def Gq:iq:=⟨276,[.v an,.v (.ref I6),.v (.ref .str)],[.v .bool],Wh.q16,Wh.q16'⟩
def C_q16:Cx:=⟨cr,[],false,Gl⟩
def lt_q16:LT:=[]
theorem e_q16:EV C_q16 lt_q16 Tryz.f276 [.v an,.v (.ref I6),.v (.ref .str)] [.v .bool] Wh.q16:=by intro xs;kernel_rfl
theorem ok_q16:CO Gq:=con_ok (Ls:=[]) mixed (cx _ _) en Tryz.func276 (loopsL_nil (by kernel_rfl)) (boxesL_none (by kernel_rfl)) e_q16
theorem fk_q16:FK Gq:=fun _ _ h=>h.cons Gq (by kernel_rfl) Wh.Ma ok_q16
def GB:iq:=⟨165,[.v (.lst an),.f 276 (.pair (.ref I6) (.pair (.ref .str) .unit))],[.v I6],Wh.q3,Wh.q3'⟩
def C_q3:Cx:=⟨cr,[Gq.entry],false,Gl⟩
def JY:b8:=kS ⟨[(8,.leaf I6),(0,.leaf (.lst an)),(1,.fn 276 (.bB (.leaf (.ref I6)) (.bB (.leaf (.ref .str)) (.b7)))),(7,.leaf I6)],[]⟩ [(.ret,⟨[(4,.leaf I6)],[]⟩),((.exit 0),⟨[],[]⟩)] Wh.QC Wh.Bw
def lt_q3:LT:=[(2,JY)]
theorem Vp:∀x,round C_q3 lt_q3 (jo Tryz.f165 0) JY x=Wh.Bw x:=by intro x;kernel_rfl
theorem e_q3:EV C_q3 lt_q3 Tryz.f165 [.v (.lst an),.f 276 (.pair (.ref I6) (.pair (.ref .str) .unit))] [.v I6] Wh.q3:=by intro xs;kernel_rfl
theorem ok_q3:CO GB:=con_ok (Ls:=[JY]) mixed (cx _ _) (fk_q16 _ en) Tryz.func165 (loopsL_cons (by kernel_rfl) (loopD_ok Vp) (loopsL_nil (by kernel_rfl))) (boxesL_none (by kernel_rfl)) e_q3
theorem fk_q3:FK GB:=fun _ _ h=>h.cons GB (by kernel_rfl) Wh.q3_v ok_q3
def Ey:iq:=⟨193,[.v bn,.v I6,.v .str],[.v I6],Wh.An,Wh.IQ⟩
def C_q32:Cx:=⟨cr,[GB.entry],false,Gl⟩
def lt_q32:LT:=[]
theorem e_q32:EV C_q32 lt_q32 Tryz.f193 [.v bn,.v I6,.v .str] [.v I6] Wh.An:=by intro xs;kernel_rfl
theorem ok_q32:CO Ey:=con_ok (Ls:=[]) mixed (cx _ _) (fk_q3 _ en) Tryz.func193 (loopsL_nil (by kernel_rfl)) (boxesL_none (by kernel_rfl)) e_q32
theorem N_:FK Ey:=fun _ _ h=>h.cons Ey (by kernel_rfl) Wh.Fc ok_q32
def HF:iq:=⟨277,[.k (.own an),.v I6,.v I6],[.v (.own an)],Wh.Dq,Wh.q9'⟩
def C_q9:Cx:=⟨cr,[],false,Gl⟩
def lt_q9:LT:=[]
theorem e_q9:EV C_q9 lt_q9 Tryz.f277 [.k (.own an),.v I6,.v I6] [.v (.own an)] Wh.Dq:=by intro xs;kernel_rfl
theorem ok_q9:CO HF:=con_ok (Ls:=[]) mixed (cx _ _) en Tryz.func277 (loopsL_nil (by kernel_rfl)) (boxesL_none (by kernel_rfl)) e_q9
theorem fk_q9:FK HF:=fun _ _ h=>h.cons HF (by kernel_rfl) Wh.q9_v ok_q9
def GF:iq:=⟨194,[.v bn,.v I6,.v .str],[.v (.pair I6 (.pair (.own an) .unit)),.v I6],Wh.q33,Wh.q33'⟩
def C_q33:Cx:=⟨cr,[HF.entry,Ey.entry,Ez.entry],false,Gl⟩
def lt_q33:LT:=[]
theorem e_q33:EV C_q33 lt_q33 Tryz.f194 [.v bn,.v I6,.v .str] [.v (.pair I6 (.pair (.own an) .unit)),.v I6] Wh.q33:=by intro xs;kernel_rfl
theorem ok_q33:CO GF:=con_ok (Ls:=[]) mixed (cx _ _) (fk_q9 _ (N_ _ (Oa _ en))) Tryz.func194 (loopsL_nil (by kernel_rfl)) (boxesL_none (by kernel_rfl)) e_q33
theorem fk_q33:FK GF:=fun _ _ h=>h.cons GF (by kernel_rfl) Wh.q33_v ok_q33
def Gn:iq:=⟨130,[.v I6,.v .str,.v .str],[.v .bool],Wh.q14,Wh.q14'⟩
def C_q14:Cx:=⟨cr,[zT.entry,EC.entry,DG.entry],false,Gl⟩
def lt_q14:LT:=[]
theorem e_q14:EV C_q14 lt_q14 Tryz.f130 [.v I6,.v .str,.v .str] [.v .bool] Wh.q14:=by intro xs;kernel_rfl
theorem ok_q14:CO Gn:=con_ok (Ls:=[]) mixed (cx _ _) (A7 _ (Od _ (KP _ en))) Tryz.func130 (loopsL_nil (by kernel_rfl)) (boxesL_none (by kernel_rfl)) e_q14
theorem fk_q14:FK Gn:=fun _ _ h=>h.cons Gn (by kernel_rfl) Wh.IL ok_q14
def Gu:iq:=⟨273,[.v bn,.v I6],[.v I6],Wh.q21,Wh.q21'⟩
def C_q21:Cx:=⟨cr,[],false,Gl⟩
def Ju:b8:=kS ⟨[(11,.leaf I6),(5,.leaf I6),(1,.leaf I6),(9,.leaf (.lst an)),(10,.leaf I6)],[]⟩ [((.exit 0),⟨[(5,.leaf I6)],[]⟩)] Wh.Ql Wh.Bn
def Pa:LT:=[(3,Ju)]
theorem UW:∀x,round C_q21 Pa (jo Tryz.f273 0) Ju x=Wh.Bn x:=by intro x;kernel_rfl
theorem e_q21:EV C_q21 Pa Tryz.f273 [.v bn,.v I6] [.v I6] Wh.q21:=by intro xs;kernel_rfl
theorem ok_q21:CO Gu:=con_ok (Ls:=[Ju]) mixed (cx _ _) en Tryz.func273 (loopsL_cons (by kernel_rfl) (loopD_ok UW) (loopsL_nil (by kernel_rfl))) (boxesL_none (by kernel_rfl)) e_q21
theorem fk_q21:FK Gu:=fun _ _ h=>h.cons Gu (by kernel_rfl) Wh.q21_v ok_q21
def GC:iq:=⟨398,[.v I6],[.v .bool],Wh.q30,Wh.IP⟩
def C_q30:Cx:=⟨cr,[],false,Gl⟩
def lt_q30:LT:=[]
theorem e_q30:EV C_q30 lt_q30 Tryz.f398 [.v I6] [.v .bool] Wh.q30:=by intro xs;kernel_rfl
theorem ok_q30:CO GC:=con_ok (Ls:=[]) mixed (cx _ _) en Tryz.func398 (loopsL_nil (by kernel_rfl)) (boxesL_none (by kernel_rfl)) e_q30
theorem fk_q30:FK GC:=fun _ _ h=>h.cons GC (by kernel_rfl) Wh.q30_v ok_q30
def Gp:iq:=⟨337,[.v I6,.v I6],[.v I6],Wh.q15,Wh.q15'⟩
def C_q15:Cx:=⟨cr,[GC.entry],false,Gl⟩
def lt_q15:LT:=[]
theorem e_q15:EV C_q15 lt_q15 Tryz.f337 [.v I6,.v I6] [.v I6] Wh.q15:=by intro xs;kernel_rfl
theorem ok_q15:CO Gp:=con_ok (Ls:=[]) mixed (cx _ _) (fk_q30 _ en) Tryz.func337 (loopsL_nil (by kernel_rfl)) (boxesL_none (by kernel_rfl)) e_q15
theorem fk_q15:FK Gp:=fun _ _ h=>h.cons Gp (by kernel_rfl) Wh.q15_v ok_q15
def Gm:iq:=⟨399,[.v .str],[.v .bool],Wh.q12,Wh.II⟩
def C_q12:Cx:=⟨cr,[],false,Gl⟩
def lt_q12:LT:=[]
theorem e_q12:EV C_q12 lt_q12 Tryz.f399 [.v .str] [.v .bool] Wh.q12:=by intro xs;kernel_rfl
theorem ok_q12:CO Gm:=con_ok (Ls:=[]) mixed (cx _ _) en Tryz.func399 (loopsL_nil (by kernel_rfl)) (boxesL_none (by kernel_rfl)) e_q12
theorem fk_q12:FK Gm:=fun _ _ h=>h.cons Gm (by kernel_rfl) Wh.q12_v ok_q12
def Ho:iq:=⟨338,[.v .str,.v .str],[.v I6],Wh.q7,Wh.q7'⟩
def C_q7:Cx:=⟨cr,[Gm.entry],false,Gl⟩
def lt_q7:LT:=[]
theorem e_q7:EV C_q7 lt_q7 Tryz.f338 [.v .str,.v .str] [.v I6] Wh.q7:=by intro xs;kernel_rfl
theorem ok_q7:CO Ho:=con_ok (Ls:=[]) mixed (cx _ _) (fk_q12 _ en) Tryz.func338 (loopsL_nil (by kernel_rfl)) (boxesL_none (by kernel_rfl)) e_q7
theorem fk_q7:FK Ho:=fun _ _ h=>h.cons Ho (by kernel_rfl) Wh.q7_v ok_q7
def F8:iq:=⟨336,[.v (.lst I6)],[.v I6],Wh.C3,Wh.LG⟩
def Nx:Cx:=⟨cr,[],false,Gl⟩
def Js:b8:=kS ⟨[(8,.leaf I6),(3,.leaf I6),(6,.leaf (.lst I6)),(7,.leaf I6)],[]⟩ [(.ret,⟨[(2,.leaf I6)],[]⟩),((.exit 0),⟨[(3,.leaf I6)],[]⟩)] Wh.PX Wh.B_
def O1:LT:=[(3,Js)]
theorem UT:∀x,round Nx O1 (jo Tryz.f336 0) Js x=Wh.B_ x:=by intro x;kernel_rfl
theorem e_q102:EV Nx O1 Tryz.f336 [.v (.lst I6)] [.v I6] Wh.C3:=by intro xs;kernel_rfl
theorem Tk:CO F8:=con_ok (Ls:=[Js]) mixed (cx _ _) en Tryz.func336 (loopsL_cons (by kernel_rfl) (loopD_ok UT) (loopsL_nil (by kernel_rfl))) (boxesL_none (by kernel_rfl)) e_q102
theorem R6:FK F8:=fun _ _ h=>h.cons F8 (by kernel_rfl) Wh.PY Tk
def Ev:iq:=⟨275,[.v an,.v an],[.v I6],Wh.q23,Wh.q23'⟩
def C_q23:Cx:=⟨cr,[F8.entry,Ho.entry,Gp.entry],false,Gl⟩
def lt_q23:LT:=[]
theorem e_q23:EV C_q23 lt_q23 Tryz.f275 [.v an,.v an] [.v I6] Wh.q23:=by intro xs;kernel_rfl
theorem ok_q23:CO Ev:=con_ok (Ls:=[]) mixed (cx _ _) (R6 _ (fk_q7 _ (fk_q15 _ en))) Tryz.func275 (loopsL_nil (by kernel_rfl)) (boxesL_none (by kernel_rfl)) e_q23
theorem N8:FK Ev:=fun _ _ h=>h.cons Ev (by kernel_rfl) Wh.IM ok_q23
def F4:iq:=⟨390,[.m an,.v I6,.v I6,.f 275 .unit],[],Wh.q0,Wh.q0'⟩
def C_q0:Cx:=⟨cr,[Ev.entry],false,Gl⟩
def JZ:b8:=kS ⟨[(0,.whole 900 an),(8,.leaf I6),(3,.fn 275 (.b7)),(1,.leaf I6),(2,.leaf I6)],[(900,false,.rows an)]⟩ [((.exit 0),⟨[],[(900,false,.rows an)]⟩)] Wh.PU Wh.Ak
def J0:b8:=kS ⟨[(9,.leaf I6),(0,.whole 900 an),(3,.fn 275 (.b7)),(1,.leaf I6),(2,.leaf I6),(8,.leaf I6)],[(900,false,.rows an)]⟩ [((.exit 2),⟨[(0,.whole 900 an),(3,.fn 275 (.b7)),(1,.leaf I6),(2,.leaf I6),(8,.leaf I6)],[(900,false,.rows an)]⟩)] Wh.PV Wh.AD
def Li:LT:=[(1,JZ),(4,J0)]
theorem Vq:∀x,round C_q0 Li (jo Tryz.f390 0) JZ x=Wh.Ak x:=by intro x;kernel_rfl
theorem Vr:∀x,round C_q0 Li (jo Tryz.f390 1) J0 x=Wh.AD x:=by intro x;kernel_rfl
theorem e_q0:EV C_q0 Li Tryz.f390 [.m an,.v I6,.v I6,.f 275 .unit] [] Wh.q0:=by intro xs;kernel_rfl
theorem ok_q0:CO F4:=con_ok (Ls:=[JZ,J0]) mixed (cx _ _) (N8 _ en) Tryz.func390 (loopsL_cons (by kernel_rfl) (loopD_ok Vq) (loopsL_cons (by kernel_rfl) (loopD_ok Vr) (loopsL_nil (by kernel_rfl)))) (boxesL_none (by kernel_rfl)) e_q0
theorem fk_q0:FK F4:=fun _ _ h=>h.cons F4 (by kernel_rfl) Wh.q0_v ok_q0
def F5:iq:=⟨335,[.m an,.v I6,.v I6,.v I6,.f 275 .unit],[],Wh.q1,Wh.q1'⟩
def C_q1:Cx:=⟨cr,[Ev.entry,F4.entry],false,Gl⟩
def J1:b8:=kS ⟨[(4,.fn 275 (.b7)),(2,.leaf I6),(1,.leaf I6),(0,.whole 900 an),(11,.leaf .bool),(10,.leaf .bool),(3,.leaf I6)],[(900,false,.rows an)]⟩ [(.ret,⟨[],[(900,false,.rows an)]⟩)] Wh.Qk Wh.D9
def lt_q1:LT:=[(2,J1)]
theorem Vs:∀x,round C_q1 lt_q1 (jo Tryz.f335 0) J1 x=Wh.D9 x:=by intro x;kernel_rfl
theorem e_q1:EV C_q1 lt_q1 Tryz.f335 [.m an,.v I6,.v I6,.v I6,.f 275 .unit] [] Wh.q1:=by intro xs;kernel_rfl
theorem ok_q1:CO F5:=con_ok (Ls:=[J1]) mixed (cx _ _) (N8 _ (fk_q0 _ en)) Tryz.func335 (loopsL_cons (by kernel_rfl) (loopD_ok Vs) (loopsL_nil (by kernel_rfl))) (boxesL_none (by kernel_rfl)) e_q1
theorem fk_q1:FK F5:=fun _ _ h=>h.cons F5 (by kernel_rfl) Wh.q1_v ok_q1
def GL:iq:=⟨274,[.m an,.f 275 .unit],[],Wh.q4,Wh.q4'⟩
def C_q4:Cx:=⟨cr,[F5.entry,F3.entry],false,Gl⟩
def lt_q4:LT:=[]
theorem e_q4:EV C_q4 lt_q4 Tryz.f274 [.m an,.f 275 .unit] [] Wh.q4:=by intro xs;kernel_rfl
theorem ok_q4:CO GL:=con_ok (Ls:=[]) mixed (cx _ _) (fk_q1 _ (R4 _ en)) Tryz.func274 (loopsL_nil (by kernel_rfl)) (boxesL_none (by kernel_rfl)) e_q4
theorem fk_q4:FK GL:=fun _ _ h=>h.cons GL (by kernel_rfl) Wh.q4_v ok_q4
def G3:iq:=⟨190,[.v bn,.v I6,.v .str,.v .str],[.v (.pair I6 (.pair (.own an) .unit)),.v I6],Wh.Bz,Wh.q55'⟩
def C_q55:Cx:=⟨cr,[GL.entry,Gu.entry,Ey.entry,Gn.entry,Ez.entry],false,Gl⟩
def lt_q55:LT:=[]
theorem e_q55:EV C_q55 lt_q55 Tryz.f190 [.v bn,.v I6,.v .str,.v .str] [.v (.pair I6 (.pair (.own an) .unit)),.v I6] Wh.Bz:=by intro xs;kernel_rfl
theorem ok_q55:CO G3:=con_ok (Ls:=[]) mixed (cx _ _) (fk_q4 _ (fk_q21 _ (N_ _ (fk_q14 _ (Oa _ en))))) Tryz.func190 (loopsL_nil (by kernel_rfl)) (boxesL_none (by kernel_rfl)) e_q55
theorem fk_q55:FK G3:=fun _ _ h=>h.cons G3 (by kernel_rfl) Wh.q55_v ok_q55
def Gt:iq:=⟨160,[.v bn,.v .str],[.v (.pair I6 (.pair (.own an) .unit)),.v .bool],Wh.q20,Wh.q20'⟩
def C_q20:Cx:=⟨cr,[G3.entry,GF.entry,Gr.entry,El.entry,EI.entry],false,Gl⟩
def lt_q20:LT:=[]
theorem e_q20:EV C_q20 lt_q20 Tryz.f160 [.v bn,.v .str] [.v (.pair I6 (.pair (.own an) .unit)),.v .bool] Wh.q20:=by intro xs;kernel_rfl
theorem ok_q20:CO Gt:=con_ok (Ls:=[]) mixed (cx _ _) (fk_q55 _ (fk_q33 _ (fk_q19 _ (NZ _ (Oi _ en))))) Tryz.func160 (loopsL_nil (by kernel_rfl)) (boxesL_none (by kernel_rfl)) e_q20
theorem fk_q20:FK Gt:=fun _ _ h=>h.cons Gt (by kernel_rfl) Wh.Md ok_q20
def F9:iq:=⟨75,[.v (.lst .str)],[.v (.pair I6 (.pair (.own an) .unit)),.v .bool],Wh.C4,Wh.LI⟩
def Ny:Cx:=⟨cr,[Gt.entry],false,Gl⟩
def Jt:b8:=kS ⟨[(2,.aZ z0 []),(13,.leaf I6),(4,.aZ z1 []),(11,.leaf (.lst .str)),(12,.leaf I6)],[(z0,false,.var bn (.pair (.leaf I6) (.pair (.whole z2 an) (.leaf .unit)))),(z1,false,.var bn (.pair (.leaf I6) (.pair (.whole z3 an) (.leaf .unit)))),(z2,false,.rows an),(z3,false,.rows an)]⟩ [(.ret,⟨[(2,.aZ z0 []),(3,.leaf .bool)],[(z0,false,.var bn (.pair (.leaf I6) (.pair (.whole z1 an) (.leaf .unit)))),(z1,false,.rows an)]⟩),((.exit 0),⟨[(2,.aZ z0 []),(4,.aZ z1 [])],[(z0,false,.var bn (.pair (.leaf I6) (.pair (.whole z2 an) (.leaf .unit)))),(z1,false,.var bn (.pair (.leaf I6) (.pair (.whole z3 an) (.leaf .unit)))),(z2,false,.rows an),(z3,false,.rows an)]⟩)] Wh.PZ Wh.Bb
def O2:LT:=[(3,Jt)]
theorem UU:∀x,round Ny O2 (jo Tryz.f75 0) Jt x=Wh.Bb x:=by intro x;kernel_rfl
theorem e_q103:EV Ny O2 Tryz.f75 [.v (.lst .str)] [.v (.pair I6 (.pair (.own an) .unit)),.v .bool] Wh.C4:=by intro xs;kernel_rfl
theorem Tl:CO F9:=con_ok (Ls:=[Jt]) mixed (cx _ _) (fk_q20 _ en) Tryz.func75 (loopsL_cons (by kernel_rfl) (loopD_ok UU) (loopsL_nil (by kernel_rfl))) (boxesL_none (by kernel_rfl)) e_q103
theorem R7:FK F9:=fun _ _ h=>h.cons F9 (by kernel_rfl) Wh.P0 Tl
def F6:iq:=⟨161,[.v (.lst an),.v (.lst an)],[.v .bool],Wh.q10,Wh.q10'⟩
def C_q10:Cx:=⟨cr,[],false,Gl⟩
def JW:b8:=kS ⟨[(13,.leaf I6),(1,.leaf (.lst an)),(0,.leaf (.lst an)),(12,.leaf I6)],[]⟩ [(.ret,⟨[(4,.leaf .bool)],[]⟩),((.exit 0),⟨[],[]⟩)] Wh.P7 Wh.Bd
def O0:LT:=[(4,JW)]
theorem Vn:∀x,round C_q10 O0 (jo Tryz.f161 0) JW x=Wh.Bd x:=by intro x;kernel_rfl
theorem e_q10:EV C_q10 O0 Tryz.f161 [.v (.lst an),.v (.lst an)] [.v .bool] Wh.q10:=by intro xs;kernel_rfl
theorem ok_q10:CO F6:=con_ok (Ls:=[JW]) mixed (cx _ _) en Tryz.func161 (loopsL_cons (by kernel_rfl) (loopD_ok Vn) (loopsL_nil (by kernel_rfl))) (boxesL_none (by kernel_rfl)) e_q10
theorem fk_q10:FK F6:=fun _ _ h=>h.cons F6 (by kernel_rfl) Wh.q10_v ok_q10
def G_:iq:=⟨76,[.v bn,.v bn],[.v .bool],Wh.q62,Wh.q62'⟩
def C_q62:Cx:=⟨cr,[F6.entry],false,Gl⟩
def lt_q62:LT:=[]
theorem e_q62:EV C_q62 lt_q62 Tryz.f76 [.v bn,.v bn] [.v .bool] Wh.q62:=by intro xs;kernel_rfl
theorem ok_q62:CO G_:=con_ok (Ls:=[]) mixed (cx _ _) (fk_q10 _ en) Tryz.func76 (loopsL_nil (by kernel_rfl)) (boxesL_none (by kernel_rfl)) e_q62
theorem fk_q62:FK G_:=fun _ _ h=>h.cons G_ (by kernel_rfl) Wh.q62_v ok_q62
def Gv:iq:=⟨264,[.v fT,.v I6,.v I6],[.v I6],Wh.q22,Wh.q22'⟩
def C_q22:Cx:=⟨cr,[],false,Gl⟩
def JA:b8:=kS ⟨[(12,.leaf I6),(2,.leaf I6),(1,.leaf I6),(10,.leaf (.lst e_)),(11,.leaf I6)],[]⟩ [(.ret,⟨[(6,.leaf I6)],[]⟩),((.exit 0),⟨[],[]⟩)] Wh.Qm Wh.Bo
def Pb:LT:=[(2,JA)]
theorem U2:∀x,round C_q22 Pb (jo Tryz.f264 0) JA x=Wh.Bo x:=by intro x;kernel_rfl
theorem e_q22:EV C_q22 Pb Tryz.f264 [.v fT,.v I6,.v I6] [.v I6] Wh.q22:=by intro xs;kernel_rfl
theorem ok_q22:CO Gv:=con_ok (Ls:=[JA]) mixed (cx _ _) en Tryz.func264 (loopsL_cons (by kernel_rfl) (loopD_ok U2) (loopsL_nil (by kernel_rfl))) (boxesL_none (by kernel_rfl)) e_q22
theorem fk_q22:FK Gv:=fun _ _ h=>h.cons Gv (by kernel_rfl) Wh.q22_v ok_q22
def G7:iq:=⟨265,[.v fT,.v I6],[.v I6],Wh.q59,Wh.q59'⟩
def C_q59:Cx:=⟨cr,[],false,Gl⟩
def JB:b8:=kS ⟨[(11,.leaf I6),(5,.leaf I6),(1,.leaf I6),(9,.leaf (.lst e_)),(10,.leaf I6)],[]⟩ [((.exit 0),⟨[(5,.leaf I6)],[]⟩)] Wh.QN Wh.BA
def Pq:LT:=[(3,JB)]
theorem U3:∀x,round C_q59 Pq (jo Tryz.f265 0) JB x=Wh.BA x:=by intro x;kernel_rfl
theorem e_q59:EV C_q59 Pq Tryz.f265 [.v fT,.v I6] [.v I6] Wh.q59:=by intro xs;kernel_rfl
theorem ok_q59:CO G7:=con_ok (Ls:=[JB]) mixed (cx _ _) en Tryz.func265 (loopsL_cons (by kernel_rfl) (loopD_ok U3) (loopsL_nil (by kernel_rfl))) (boxesL_none (by kernel_rfl)) e_q59
theorem fk_q59:FK G7:=fun _ _ h=>h.cons G7 (by kernel_rfl) Wh.D_ ok_q59
def Hw:iq:=⟨162,[.v fT],[.v .bool],Wh.q80,Wh.q80'⟩
def Jr:Cx:=⟨cr,[G7.entry,Gv.entry,DG.entry,zT.entry],false,Gl⟩
def Jy:b8:=kS ⟨[(19,.leaf I6),(1,.aZ z0 []),(17,.leaf (.lst e_)),(18,.leaf I6)],[(z0,false,.var fT (.leaf fT))]⟩ [(.ret,⟨[(2,.leaf .bool)],[]⟩),((.exit 0),⟨[(1,.aZ z0 [])],[(z0,false,.var fT (.leaf fT))]⟩)] Wh.Q0 Wh.AK
def Jz:b8:=kS ⟨[(63,.leaf I6),(1,.aZ z0 [])],[(z0,false,.var fT (.leaf fT))]⟩ [(.ret,⟨[(2,.leaf .bool)],[]⟩),((.exit 2),⟨[],[]⟩)] Wh.Q1 Wh.AL
def Lp:LT:=[(4,Jy),(13,Jz)]
theorem U0:∀x,round Jr Lp (jo Tryz.f162 0) Jy x=Wh.AK x:=by intro x;kernel_rfl
theorem U1:∀x,round Jr Lp (jo Tryz.f162 1) Jz x=Wh.AL x:=by intro x;kernel_rfl
theorem e_q80:EV Jr Lp Tryz.f162 [.v fT] [.v .bool] Wh.q80:=by intro xs;kernel_rfl
theorem ok_q80:CO Hw:=con_ok (Ls:=[Jy,Jz]) mixed (cx _ _) (fk_q59 _ (fk_q22 _ (KP _ (A7 _ en)))) Tryz.func162 (loopsL_cons (by kernel_rfl) (loopD_ok U0) (loopsL_cons (by kernel_rfl) (loopD_ok U1) (loopsL_nil (by kernel_rfl)))) (boxesL_none (by kernel_rfl)) e_q80
theorem fk_q80:FK Hw:=fun _ _ h=>h.cons Hw (by kernel_rfl) Wh.M4 ok_q80
def Hv:iq:=⟨166,[.v an,.v (.ref I6)],[.v .bool],Wh.Eb,Wh.q8'⟩
def C_q8:Cx:=⟨cr,[],false,Gl⟩
def lt_q8:LT:=[]
theorem e_q8:EV C_q8 lt_q8 Tryz.f166 [.v an,.v (.ref I6)] [.v .bool] Wh.Eb:=by intro xs;kernel_rfl
theorem ok_q8:CO Hv:=con_ok (Ls:=[]) mixed (cx _ _) en Tryz.func166 (loopsL_nil (by kernel_rfl)) (boxesL_none (by kernel_rfl)) e_q8
theorem fk_q8:FK Hv:=fun _ _ h=>h.cons Hv (by kernel_rfl) Wh.q8_v ok_q8
def Gs:iq:=⟨165,[.v (.lst an),.f 166 (.pair (.ref I6) .unit)],[.v I6],Wh.q2,Wh.Bl⟩
def C_q2:Cx:=⟨cr,[Hv.entry],false,Gl⟩
def JX:b8:=kS ⟨[(8,.leaf I6),(0,.leaf (.lst an)),(1,.fn 166 (.bB (.leaf (.ref I6)) (.b7))),(7,.leaf I6)],[]⟩ [(.ret,⟨[(4,.leaf I6)],[]⟩),((.exit 0),⟨[],[]⟩)] Wh.Qr Wh.Bq
def lt_q2:LT:=[(2,JX)]
theorem Vo:∀x,round C_q2 lt_q2 (jo Tryz.f165 0) JX x=Wh.Bq x:=by intro x;kernel_rfl
theorem e_q2:EV C_q2 lt_q2 Tryz.f165 [.v (.lst an),.f 166 (.pair (.ref I6) .unit)] [.v I6] Wh.q2:=by intro xs;kernel_rfl
theorem ok_q2:CO Gs:=con_ok (Ls:=[JX]) mixed (cx _ _) (fk_q8 _ en) Tryz.func165 (loopsL_cons (by kernel_rfl) (loopD_ok Vo) (loopsL_nil (by kernel_rfl))) (boxesL_none (by kernel_rfl)) e_q2
theorem fk_q2:FK Gs:=fun _ _ h=>h.cons Gs (by kernel_rfl) Wh.q2_v ok_q2
def Et:iq:=⟨80,[.v bn,.v I6],[.v I6],Wh.Bj,Wh.IK⟩
def C_q13:Cx:=⟨cr,[Gs.entry],false,Gl⟩
def lt_q13:LT:=[]
theorem e_q13:EV C_q13 lt_q13 Tryz.f80 [.v bn,.v I6] [.v I6] Wh.Bj:=by intro xs;kernel_rfl
theorem ok_q13:CO Et:=con_ok (Ls:=[]) mixed (cx _ _) (fk_q2 _ en) Tryz.func80 (loopsL_nil (by kernel_rfl)) (boxesL_none (by kernel_rfl)) e_q13
theorem N6:FK Et:=fun _ _ h=>h.cons Et (by kernel_rfl) Wh.Dc ok_q13
def Eu:iq:=⟨164,[.v xS],[.v I6],Wh.Bk,Wh.D8⟩
def C_q17:Cx:=⟨cr,[],false,Gl⟩
def lt_q17:LT:=[]
theorem e_q17:EV C_q17 lt_q17 Tryz.f164 [.v xS] [.v I6] Wh.Bk:=by intro xs;kernel_rfl
theorem ok_q17:CO Eu:=con_ok (Ls:=[]) mixed (cx _ _) en Tryz.func164 (loopsL_nil (by kernel_rfl)) (boxesL_none (by kernel_rfl)) e_q17
theorem N7:FK Eu:=fun _ _ h=>h.cons Eu (by kernel_rfl) Wh.q17_v ok_q17
def G6:iq:=⟨163,[.v I6],[.v (.pair I6 (.pair I6 (.pair (.own I6) (.pair (.own I6) .unit))))],Wh.q58,Wh.q58'⟩
def C_q58:Cx:=⟨cr,[Eu.entry,zT.entry],false,Gl⟩
def Jx:b8:=kS ⟨[(3,.aZ z0 []),(2,.aZ z1 [])],[(z0,false,.var xS (.pair (.leaf I6) (.pair (.leaf I6) (.pair (.whole z2 I6) (.pair (.whole z3 I6) (.leaf .unit)))))),(z1,false,.var xS (.pair (.leaf I6) (.pair (.leaf I6) (.pair (.whole 500000004 I6) (.pair (.whole 500000005 I6) (.leaf .unit)))))),(z2,false,.rows I6),(z3,false,.rows I6),(500000004,false,.rows I6),(500000005,false,.rows I6)]⟩ [((.exit 0),⟨[(2,.aZ z0 []),(3,.aZ z1 [])],[(z0,false,.var xS (.pair (.leaf I6) (.pair (.leaf I6) (.pair (.whole z2 I6) (.pair (.whole z3 I6) (.leaf .unit)))))),(z1,false,.var xS (.pair (.leaf I6) (.pair (.leaf I6) (.pair (.whole 500000004 I6) (.pair (.whole 500000005 I6) (.leaf .unit)))))),(z2,false,.rows I6),(z3,false,.rows I6),(500000004,false,.rows I6),(500000005,false,.rows I6)]⟩)] Wh.QM Wh.Fh
def Pp:LT:=[(4,Jx)]
theorem UZ:∀x,round C_q58 Pp (jo Tryz.f163 0) Jx x=Wh.Fh x:=by intro x;kernel_rfl
theorem e_q58:EV C_q58 Pp Tryz.f163 [.v I6] [.v (.pair I6 (.pair I6 (.pair (.own I6) (.pair (.own I6) .unit))))] Wh.q58:=by intro xs;kernel_rfl
theorem ok_q58:CO G6:=con_ok (Ls:=[Jx]) mixed (cx _ _) (N7 _ (A7 _ en)) Tryz.func163 (loopsL_cons (by kernel_rfl) (loopD_ok UZ) (loopsL_nil (by kernel_rfl))) (boxesL_none (by kernel_rfl)) e_q58
theorem fk_q58:FK G6:=fun _ _ h=>h.cons G6 (by kernel_rfl) Wh.q58_v ok_q58
def GI:iq:=⟨77,[.v fT,.v bn],[.v .bool],Wh.q37,Wh.q37'⟩
def C_q37:Cx:=⟨cr,[Eu.entry,G6.entry,Et.entry,Hw.entry],false,Gl⟩
def JF:b8:=kS ⟨[(14,.leaf I6),(3,.aZ z0 []),(12,.leaf (.lst e_)),(13,.leaf I6)],[(z0,false,.var bn (.leaf bn))]⟩ [(.ret,⟨[(4,.leaf .bool)],[]⟩),((.exit 0),⟨[],[]⟩)] Wh.Qu Wh.zN
def Pg:LT:=[(4,JF)]
theorem U7:∀x,round C_q37 Pg (jo Tryz.f77 0) JF x=Wh.zN x:=by intro x;kernel_rfl
theorem e_q37:EV C_q37 Pg Tryz.f77 [.v fT,.v bn] [.v .bool] Wh.q37:=by intro xs;kernel_rfl
theorem ok_q37:CO GI:=con_ok (Ls:=[JF]) mixed (cx _ _) (N7 _ (fk_q58 _ (N6 _ (fk_q80 _ en)))) Tryz.func77 (loopsL_cons (by kernel_rfl) (loopD_ok U7) (loopsL_nil (by kernel_rfl))) (boxesL_none (by kernel_rfl)) e_q37
theorem fk_q37:FK GI:=fun _ _ h=>h.cons GI (by kernel_rfl) Wh.q37_v ok_q37
def GD:iq:=⟨78,[.v fN],[.v .bool],Wh.q31,Wh.q31'⟩
def C_q31:Cx:=⟨cr,[zT.entry],false,Gl⟩
def lt_q31:LT:=[]
theorem e_q31:EV C_q31 lt_q31 Tryz.f78 [.v fN] [.v .bool] Wh.q31:=by intro xs;kernel_rfl
theorem ok_q31:CO GD:=con_ok (Ls:=[]) mixed (cx _ _) (A7 _ en) Tryz.func78 (loopsL_nil (by kernel_rfl)) (boxesL_none (by kernel_rfl)) e_q31
theorem fk_q31:FK GD:=fun _ _ h=>h.cons GD (by kernel_rfl) Wh.q31_v ok_q31
def GH:iq:=⟨79,[.v I6],[.v .bool],Wh.q35,Wh.q35'⟩
def C_q35:Cx:=⟨cr,[zT.entry],false,Gl⟩
def lt_q35:LT:=[]
theorem e_q35:EV C_q35 lt_q35 Tryz.f79 [.v I6] [.v .bool] Wh.q35:=by intro xs;kernel_rfl
theorem ok_q35:CO GH:=con_ok (Ls:=[]) mixed (cx _ _) (A7 _ en) Tryz.func79 (loopsL_nil (by kernel_rfl)) (boxesL_none (by kernel_rfl)) e_q35
theorem fk_q35:FK GH:=fun _ _ h=>h.cons GH (by kernel_rfl) Wh.Mo ok_q35
def G8:iq:=⟨81,[.v I6],[.v I6],Wh.q60,Wh.q60'⟩
def C_q60:Cx:=⟨cr,[],false,Gl⟩
def lt_q60:LT:=[]
theorem e_q60:EV C_q60 lt_q60 Tryz.f81 [.v I6] [.v I6] Wh.q60:=by intro xs;kernel_rfl
theorem ok_q60:CO G8:=con_ok (Ls:=[]) mixed (cx _ _) en Tryz.func81 (loopsL_nil (by kernel_rfl)) (boxesL_none (by kernel_rfl)) e_q60
theorem fk_q60:FK G8:=fun _ _ h=>h.cons G8 (by kernel_rfl) Wh.ML ok_q60
def GG:iq:=⟨17,[.v eB],[.v .bool],Wh.q34,Wh.q34'⟩
def Jn:Cx:=⟨cr,[G8.entry,Et.entry,GH.entry,GD.entry,GI.entry,G_.entry,F9.entry,G5.entry,zT.entry],false,Gl⟩
def JC:b8:=kS ⟨[(105,.leaf I6),(1,.aZ z0 []),(103,.leaf (.lst fN)),(104,.leaf I6)],[(z0,false,.var eB (.leaf eB))]⟩ [(.ret,⟨[(2,.leaf .bool)],[]⟩),((.exit 0),⟨[(1,.aZ z0 [])],[(z0,false,.var eB (.leaf eB))]⟩)] Wh.Qs Wh.Br
def JD:b8:=kS ⟨[(133,.leaf I6),(1,.aZ z0 []),(131,.leaf (.lst gd)),(132,.leaf I6)],[(z0,false,.var eB (.leaf eB))]⟩ [(.ret,⟨[(2,.leaf .bool)],[]⟩),((.exit 2),⟨[],[]⟩)] Wh.Qt Wh.AH
def Ll:LT:=[(13,JC),(19,JD)]
theorem U4:∀x,round Jn Ll (jo Tryz.f17 0) JC x=Wh.Br x:=by intro x;kernel_rfl
theorem U5:∀x,round Jn Ll (jo Tryz.f17 1) JD x=Wh.AH x:=by intro x;kernel_rfl
theorem e_q34:EV Jn Ll Tryz.f17 [.v eB] [.v .bool] Wh.q34:=by intro xs;kernel_rfl
theorem ok_q34:CO GG:=con_ok (Ls:=[JC,JD]) mixed (cx _ _) (fk_q60 _ (N6 _ (fk_q35 _ (fk_q31 _ (fk_q37 _ (fk_q62 _ (R7 _ (fk_q57 _ (A7 _ en))))))))) Tryz.func17 (loopsL_cons (by kernel_rfl) (loopD_ok U4) (loopsL_cons (by kernel_rfl) (loopD_ok U5) (loopsL_nil (by kernel_rfl)))) (boxesL_none (by kernel_rfl)) e_q34
theorem fk_q34:FK GG:=fun _ _ h=>h.cons GG (by kernel_rfl) Wh.q34_v ok_q34
def Hy:iq:=⟨235,[.v an,.v an],[.v .bool],Wh.q83,Wh.q83'⟩
def C_q83:Cx:=⟨cr,[],false,Gl⟩
def lt_q83:LT:=[]
theorem e_q83:EV C_q83 lt_q83 Tryz.f235 [.v an,.v an] [.v .bool] Wh.q83:=by intro xs;kernel_rfl
theorem ok_q83:CO Hy:=con_ok (Ls:=[]) mixed (cx _ _) en Tryz.func235 (loopsL_nil (by kernel_rfl)) (boxesL_none (by kernel_rfl)) e_q83
theorem fk_q83:FK Hy:=fun _ _ h=>h.cons Hy (by kernel_rfl) Wh.q83_v ok_q83
def Hf:iq:=⟨133,[.v (.lst an),.v (.lst an)],[.v .bool],Wh.q64,Wh.q64'⟩
def C_q64:Cx:=⟨cr,[Hy.entry],false,Gl⟩
def JP:b8:=kS ⟨[(5,.leaf I6),(1,.leaf (.lst an)),(0,.leaf (.lst an))],[]⟩ [(.ret,⟨[(4,.leaf .bool)],[]⟩),((.exit 0),⟨[],[]⟩)] Wh.QO Wh.Dl
def Pr:LT:=[(4,JP)]
theorem Vg:∀x,round C_q64 Pr (jo Tryz.f133 0) JP x=Wh.Dl x:=by intro x;kernel_rfl
theorem e_q64:EV C_q64 Pr Tryz.f133 [.v (.lst an),.v (.lst an)] [.v .bool] Wh.q64:=by intro xs;kernel_rfl
theorem ok_q64:CO Hf:=con_ok (Ls:=[JP]) mixed (cx _ _) (fk_q83 _ en) Tryz.func133 (loopsL_cons (by kernel_rfl) (loopD_ok Vg) (loopsL_nil (by kernel_rfl))) (boxesL_none (by kernel_rfl)) e_q64
theorem fk_q64:FK Hf:=fun _ _ h=>h.cons Hf (by kernel_rfl) Wh.q64_v ok_q64
def Ga:iq:=⟨82,[.v bn,.v bn],[.v .bool],Wh.C5,Wh.LM⟩
def C_q106:Cx:=⟨cr,[Hf.entry],false,Gl⟩
def S3:LT:=[]
theorem e_q106:EV C_q106 S3 Tryz.f82 [.v bn,.v bn] [.v .bool] Wh.C5:=by intro xs;kernel_rfl
theorem To:CO Ga:=con_ok (Ls:=[]) mixed (cx _ _) (fk_q64 _ en) Tryz.func82 (loopsL_nil (by kernel_rfl)) (boxesL_none (by kernel_rfl)) e_q106
theorem R9:FK Ga:=fun _ _ h=>h.cons Ga (by kernel_rfl) Wh.P3 To
def He:iq:=⟨266,[.v e_,.v e_],[.v .bool],Wh.q63,Wh.q63'⟩
def C_q63:Cx:=⟨cr,[],false,Gl⟩
def lt_q63:LT:=[]
theorem e_q63:EV C_q63 lt_q63 Tryz.f266 [.v e_,.v e_] [.v .bool] Wh.q63:=by intro xs;kernel_rfl
theorem ok_q63:CO He:=con_ok (Ls:=[]) mixed (cx _ _) en Tryz.func266 (loopsL_nil (by kernel_rfl)) (boxesL_none (by kernel_rfl)) e_q63
theorem fk_q63:FK He:=fun _ _ h=>h.cons He (by kernel_rfl) Wh.q63_v ok_q63
def GM:iq:=⟨167,[.v (.lst e_),.v (.lst e_)],[.v .bool],Wh.q40,Wh.q40'⟩
def C_q40:Cx:=⟨cr,[He.entry],false,Gl⟩
def JO:b8:=kS ⟨[(5,.leaf I6),(1,.leaf (.lst e_)),(0,.leaf (.lst e_))],[]⟩ [(.ret,⟨[(4,.leaf .bool)],[]⟩),((.exit 0),⟨[],[]⟩)] Wh.QD Wh.Dh
def Ph:LT:=[(4,JO)]
theorem Vf:∀x,round C_q40 Ph (jo Tryz.f167 0) JO x=Wh.Dh x:=by intro x;kernel_rfl
theorem e_q40:EV C_q40 Ph Tryz.f167 [.v (.lst e_),.v (.lst e_)] [.v .bool] Wh.q40:=by intro xs;kernel_rfl
theorem ok_q40:CO GM:=con_ok (Ls:=[JO]) mixed (cx _ _) (fk_q63 _ en) Tryz.func167 (loopsL_cons (by kernel_rfl) (loopD_ok Vf) (loopsL_nil (by kernel_rfl))) (boxesL_none (by kernel_rfl)) e_q40
theorem fk_q40:FK GM:=fun _ _ h=>h.cons GM (by kernel_rfl) Wh.q40_v ok_q40
def Hz:iq:=⟨83,[.v fT,.v fT],[.v .bool],Wh.q84,Wh.q84'⟩
def C_q84:Cx:=⟨cr,[GM.entry],false,Gl⟩
def lt_q84:LT:=[]
theorem e_q84:EV C_q84 lt_q84 Tryz.f83 [.v fT,.v fT] [.v .bool] Wh.q84:=by intro xs;kernel_rfl
theorem ok_q84:CO Hz:=con_ok (Ls:=[]) mixed (cx _ _) (fk_q40 _ en) Tryz.func83 (loopsL_nil (by kernel_rfl)) (boxesL_none (by kernel_rfl)) e_q84
theorem fk_q84:FK Hz:=fun _ _ h=>h.cons Hz (by kernel_rfl) Wh.q84_v ok_q84
def GK:iq:=⟨168,[.v fN,.v fN],[.v .bool],Wh.q39,Wh.q39'⟩
def C_q39:Cx:=⟨cr,[],false,Gl⟩
def lt_q39:LT:=[]
theorem e_q39:EV C_q39 lt_q39 Tryz.f168 [.v fN,.v fN] [.v .bool] Wh.q39:=by intro xs;kernel_rfl
theorem ok_q39:CO GK:=con_ok (Ls:=[]) mixed (cx _ _) en Tryz.func168 (loopsL_nil (by kernel_rfl)) (boxesL_none (by kernel_rfl)) e_q39
theorem fk_q39:FK GK:=fun _ _ h=>h.cons GK (by kernel_rfl) Wh.q39_v ok_q39
def Gw:iq:=⟨84,[.v (.lst fN),.v (.lst fN)],[.v .bool],Wh.q24,Wh.q24'⟩
def C_q24:Cx:=⟨cr,[GK.entry],false,Gl⟩
def JN:b8:=kS ⟨[(5,.leaf I6),(1,.leaf (.lst fN)),(0,.leaf (.lst fN))],[]⟩ [(.ret,⟨[(4,.leaf .bool)],[]⟩),((.exit 0),⟨[],[]⟩)] Wh.Qn Wh.Dd
def Pc:LT:=[(4,JN)]
theorem Ve:∀x,round C_q24 Pc (jo Tryz.f84 0) JN x=Wh.Dd x:=by intro x;kernel_rfl
theorem e_q24:EV C_q24 Pc Tryz.f84 [.v (.lst fN),.v (.lst fN)] [.v .bool] Wh.q24:=by intro xs;kernel_rfl
theorem ok_q24:CO Gw:=con_ok (Ls:=[JN]) mixed (cx _ _) (fk_q39 _ en) Tryz.func84 (loopsL_cons (by kernel_rfl) (loopD_ok Ve) (loopsL_nil (by kernel_rfl))) (boxesL_none (by kernel_rfl)) e_q24
theorem fk_q24:FK Gw:=fun _ _ h=>h.cons Gw (by kernel_rfl) Wh.q24_v ok_q24
def Hg:iq:=⟨169,[.v gd,.v gd],[.v .bool],Wh.q65,Wh.q65'⟩
def C_q65:Cx:=⟨cr,[],false,Gl⟩
def lt_q65:LT:=[]
theorem e_q65:EV C_q65 lt_q65 Tryz.f169 [.v gd,.v gd] [.v .bool] Wh.q65:=by intro xs;kernel_rfl
theorem ok_q65:CO Hg:=con_ok (Ls:=[]) mixed (cx _ _) en Tryz.func169 (loopsL_nil (by kernel_rfl)) (boxesL_none (by kernel_rfl)) e_q65
theorem fk_q65:FK Hg:=fun _ _ h=>h.cons Hg (by kernel_rfl) Wh.q65_v ok_q65
def GN:iq:=⟨85,[.v (.lst gd),.v (.lst gd)],[.v .bool],Wh.q41,Wh.q41'⟩
def C_q41:Cx:=⟨cr,[Hg.entry],false,Gl⟩
def JQ:b8:=kS ⟨[(5,.leaf I6),(1,.leaf (.lst gd)),(0,.leaf (.lst gd))],[]⟩ [(.ret,⟨[(4,.leaf .bool)],[]⟩),((.exit 0),⟨[],[]⟩)] Wh.QE Wh.Dj
def Pj:LT:=[(4,JQ)]
theorem Vh:∀x,round C_q41 Pj (jo Tryz.f85 0) JQ x=Wh.Dj x:=by intro x;kernel_rfl
theorem e_q41:EV C_q41 Pj Tryz.f85 [.v (.lst gd),.v (.lst gd)] [.v .bool] Wh.q41:=by intro xs;kernel_rfl
theorem ok_q41:CO GN:=con_ok (Ls:=[JQ]) mixed (cx _ _) (fk_q65 _ en) Tryz.func85 (loopsL_cons (by kernel_rfl) (loopD_ok Vh) (loopsL_nil (by kernel_rfl))) (boxesL_none (by kernel_rfl)) e_q41
theorem fk_q41:FK GN:=fun _ _ h=>h.cons GN (by kernel_rfl) Wh.q41_v ok_q41
def GO:iq:=⟨18,[.v eB,.v eB],[.v .bool],Wh.q42,Wh.q42'⟩
def C_q42:Cx:=⟨cr,[GN.entry,Gw.entry,Hz.entry,Ga.entry],false,Gl⟩
def lt_q42:LT:=[]
theorem e_q42:EV C_q42 lt_q42 Tryz.f18 [.v eB,.v eB] [.v .bool] Wh.q42:=by intro xs;kernel_rfl
theorem ok_q42:CO GO:=con_ok (Ls:=[]) mixed (cx _ _) (fk_q41 _ (fk_q24 _ (fk_q84 _ (R9 _ en)))) Tryz.func18 (loopsL_nil (by kernel_rfl)) (boxesL_none (by kernel_rfl)) e_q42
theorem fk_q42:FK GO:=fun _ _ h=>h.cons GO (by kernel_rfl) Wh.q42_v ok_q42
def K_q6:iq:=⟨3,[.v eB],[.v .bool],Wh.q6,Wh.q6'⟩
def C_q6:Cx:=⟨cr,[GO.entry,GG.entry,GZ.entry,GW.entry,GR.entry],false,Gl⟩
def lt_q6:LT:=[]
theorem e_q6:EV C_q6 lt_q6 Tryz.f3 [.v eB] [.v .bool] Wh.q6:=by intro xs;kernel_rfl
theorem ok_q6:CO K_q6:=con_ok (Ls:=[]) mixed (cx _ _) (fk_q42 _ (fk_q34 _ (fk_q51 _ (fk_q49 _ (fk_q45 _ en))))) Tryz.func3 (loopsL_nil (by kernel_rfl)) (boxesL_none (by kernel_rfl)) e_q6
end
end Go.Proofs.zU
