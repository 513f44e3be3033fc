import Derived.Test.YtfeoanopdlpabaaGreatDoorX12
import Derived.Test.YtfeoanopdlpabaaGreatDoorProg
import Derived.KernelRfl
open Go Go.Ab
namespace Go.Proofs.AN
noncomputable section
def en:List (Nat×TI):=[(2,⟨(.int .i64),0⟩),(3,⟨(.int .i64),0⟩),(4,⟨.bool,0⟩),(5,⟨(.int .u8),0⟩),(6,⟨(.int .u8),0⟩),(7,⟨QY,1⟩),(8,⟨QY,1⟩),(9,⟨.str,0⟩),(10,⟨.str,0⟩),(11,⟨.str,0⟩),(12,⟨(.int .u64),0⟩),(13,⟨QZ,0⟩),(14,⟨QZ,0⟩),(21,⟨(.int .i32),0⟩),(455,⟨(.int .i32),0⟩),(454,⟨(.int .i32),0⟩),(422,⟨(.ref (.int .u8)),0⟩),(452,⟨(.int .u8),0⟩),(451,⟨(.int .u8),0⟩),(345,⟨(.int .u32),0⟩),(118,⟨an,1⟩),(260,⟨an,1⟩),(22,⟨(.lst an),0⟩),(23,⟨bx,0⟩),(24,⟨bx,0⟩),(122,⟨eA,1⟩),(282,⟨eA,1⟩),(25,⟨(.lst eA),0⟩),(26,⟨gd,0⟩),(27,⟨gd,0⟩),(126,⟨fN,1⟩),(204,⟨fN,1⟩),(28,⟨(.lst fN),0⟩),(134,⟨fT,1⟩),(206,⟨fT,1⟩),(29,⟨(.lst fT),0⟩),(30,⟨ct,0⟩),(31,⟨ct,0⟩),(119,⟨an,1⟩),(34,⟨(.lst an),0⟩),(35,⟨bx,0⟩),(36,⟨bx,0⟩),(123,⟨eA,1⟩),(37,⟨(.lst eA),0⟩),(38,⟨gd,0⟩),(39,⟨gd,0⟩),(127,⟨fN,1⟩),(40,⟨(.lst fN),0⟩),(135,⟨fT,1⟩),(41,⟨(.lst fT),0⟩),(42,⟨ct,0⟩),(43,⟨ct,0⟩),(56,⟨(.lst (.int .i64)),0⟩),(57,⟨yA,0⟩),(58,⟨yA,0⟩),(320,⟨Ga,0⟩),(340,⟨Ga,0⟩),(59,⟨(.lst Ga),0⟩),(60,⟨Fi,0⟩),(61,⟨Fi,0⟩),(62,⟨Fh,0⟩),(63,⟨Fh,0⟩),(64,⟨CQ,0⟩),(65,⟨CQ,0⟩),(66,⟨HP,1⟩),(67,⟨HP,1⟩),(70,⟨yA,0⟩),(321,⟨Ga,0⟩),(71,⟨(.lst Ga),0⟩),(72,⟨Fi,0⟩),(73,⟨Fi,0⟩),(74,⟨Fh,0⟩),(75,⟨Fh,0⟩),(76,⟨CQ,0⟩),(77,⟨CQ,0⟩),(82,⟨HP,1⟩),(78,⟨(.lst HP),0⟩),(89,⟨(.lst CQ),0⟩),(174,⟨Gc,1⟩),(258,⟨Gc,1⟩),(90,⟨(.lst Gc),0⟩),(91,⟨HQ,0⟩),(92,⟨HQ,0⟩),(95,⟨(.lst CQ),0⟩),(175,⟨Gc,1⟩),(96,⟨(.lst Gc),0⟩),(97,⟨HQ,0⟩),(98,⟨HQ,0⟩),(111,⟨(.lst .str),0⟩),(192,⟨L1,1⟩),(193,⟨L1,1⟩),(189,⟨(.lst L1),0⟩),(256,⟨(.lst (.int .u8)),0⟩),(314,⟨(.ref ct),0⟩),(331,⟨(.int .u64),0⟩),(332,⟨(.ref eA),0⟩),(357,⟨(.int .i64),0⟩),(366,⟨(.int .u64),0⟩),(369,⟨(.int .i64),0⟩),(375,⟨(.arr 24 (.int .u8)),0⟩),(379,⟨(.arr 8 (.int .u32)),0⟩),(380,⟨(.arr 64 (.int .u32)),0⟩),(399,⟨(.int .u64),0⟩),(403,⟨(.ref (.int .i64)),0⟩),(405,⟨(.lst (.int .u32)),0⟩),(416,⟨(.arr 20 (.int .u64)),0⟩),(417,⟨(.arr 65 (.int .u8)),0⟩),(425,⟨(.ref (.int .u64)),0⟩),(432,⟨xT,1⟩),(433,⟨xT,1⟩),(431,⟨(.ref xT),0⟩),(440,⟨(.arr 32 (.int .u8)),0⟩),(441,⟨(.arr 64 (.int .u8)),0⟩),(442,⟨(.arr 256 (.int .u8)),0⟩),(443,⟨Q0,1⟩),(444,⟨Q0,1⟩)]
theorem tab_ok:cn (fun x=>(cK Tryz.prog x.2.t).1 x.1&&(!(Nat.beq x.2.e 1) || eqB Tryz.prog x.1)) en=true:=by kernel_rfl
theorem e_ (fns:List (Nat×List Ab.Mode×(List Arg→Option Res))) (dp:Bool):bH Tryz.prog ⟨en,fns,dp,Gl⟩:=cxOk_of tab_ok
theorem mixed:Tryz.prog.follows .mixedOrders=true:=by kernel_rfl
abbrev FT:Type:=List (Nat×List Ab.Mode×(List Arg→Option Res))
abbrev FK (c:iq):Prop:=∀(fns:FT) {dp:Bool},dD Tryz.prog Gb ⟨en,fns,dp,Gl⟩→dD Tryz.prog Gb ⟨en,c.entry::fns,dp,Gl⟩
abbrev EV (C:Cx) (lt:List (Nat×b8)) (f:Func) (ps:List PT) (ws:List Want) (g:gE ps→Option (jr ws×ij ps)):Prop:=∀xs,evT C lt f ps ws xs=g xs
abbrev CO (c:iq):Prop:=ConOk Tryz.prog Gb c
abbrev LT:Type:=List (Nat×b8)
abbrev z0:Nat:=500000000
abbrev z1:Nat:=500000001
abbrev z2:Nat:=500000002
abbrev z3:Nat:=500000003
abbrev I6:Ty:=.int .i64
abbrev I8:Ty:=.int .u8
abbrev I3:Ty:=.int .u32
theorem fk:dD Tryz.prog Gb ⟨en,[],false,Gl⟩:=dD.nil en false gl_ok
theorem Cc:dD Tryz.prog Gb ⟨en,[],true,Gl⟩:=dD.nil en true gl_ok
def IB:iq:=⟨229,[.v an,.v I6],[.v I6],Wh.Ez,Wh.OR⟩
def C_q108:Cx:=⟨en,[],false,Gl⟩
def XM:LT:=[]
theorem e_q108:EV C_q108 XM Tryz.f229 [.v an,.v I6] [.v I6] Wh.Ez:=by intro xs;kernel_rfl
theorem Yz:CO IB:=con_ok (Ls:=[]) mixed (e_ _ _) fk Tryz.func229 (loopsL_nil (by kernel_rfl)) (boxesL_none (by kernel_rfl)) e_q108
theorem Wr:FK IB:=fun _ _ h=>h.cons IB (by kernel_rfl) Wh.OS Yz
def Kb:iq:=⟨125,[.v (.lst an),.v I6],[.v I6],Wh.q86,Wh.q86'⟩
def C_q86:Cx:=⟨en,[IB.entry],false,Gl⟩
def MN:b8:=kS ⟨[(5,.leaf I6),(1,.leaf I6),(0,.leaf (.lst an))],[]⟩ [(.ret,⟨[(4,.leaf I6)],[]⟩),((.exit 0),⟨[(1,.leaf I6)],[]⟩)] Wh.QG Wh.DN
def Ts:LT:=[(5,MN)]
theorem aa5:∀x,round C_q86 Ts (jo Tryz.f125 0) MN x=Wh.DN x:=by intro x;kernel_rfl
theorem e_q86:EV C_q86 Ts Tryz.f125 [.v (.lst an),.v I6] [.v I6] Wh.q86:=by intro xs;kernel_rfl
theorem ok_q86:CO Kb:=con_ok (Ls:=[MN]) mixed (e_ _ _) (Wr _ fk) Tryz.func125 (loopsL_cons (by kernel_rfl) (loopD_ok aa5) (loopsL_nil (by kernel_rfl))) (boxesL_none (by kernel_rfl)) e_q86
theorem fk_q86:FK Kb:=fun _ _ h=>h.cons Kb (by kernel_rfl) Wh.q86_v ok_q86
def IV:iq:=⟨54,[.v bx,.v I6],[.v I6],Wh.EM,Wh.Pp⟩
def C_q132:Cx:=⟨en,[Kb.entry],false,Gl⟩
def X3:LT:=[]
theorem e_q132:EV C_q132 X3 Tryz.f54 [.v bx,.v I6] [.v I6] Wh.EM:=by intro xs;kernel_rfl
theorem YX:CO IV:=con_ok (Ls:=[]) mixed (e_ _ _) (fk_q86 _ fk) Tryz.func54 (loopsL_nil (by kernel_rfl)) (boxesL_none (by kernel_rfl)) e_q132
theorem WI:FK IV:=fun _ _ h=>h.cons IV (by kernel_rfl) Wh.Um YX
def JO:iq:=⟨149,[.v (.lst eA),.v I6],[.v I6],Wh.q61,Wh.q61'⟩
def C_q61:Cx:=⟨en,[],false,Gl⟩
def lt_q61:LT:=[]
theorem e_q61:EV C_q61 lt_q61 Tryz.f149 [.v (.lst eA),.v I6] [.v I6] Wh.q61:=by intro xs;kernel_rfl
theorem ok_q61:CO JO:=con_ok (Ls:=[]) mixed (e_ _ _) fk Tryz.func149 (loopsL_nil (by kernel_rfl)) (boxesL_none (by kernel_rfl)) e_q61
theorem fk_q61:FK JO:=fun _ _ h=>h.cons JO (by kernel_rfl) Wh.q61_v ok_q61
def IC:iq:=⟨55,[.v gd,.v I6],[.v I6],Wh.EA,Wh.OT⟩
def C_q109:Cx:=⟨en,[JO.entry],false,Gl⟩
def XN:LT:=[]
theorem e_q109:EV C_q109 XN Tryz.f55 [.v gd,.v I6] [.v I6] Wh.EA:=by intro xs;kernel_rfl
theorem YA:CO IC:=con_ok (Ls:=[]) mixed (e_ _ _) (fk_q61 _ fk) Tryz.func55 (loopsL_nil (by kernel_rfl)) (boxesL_none (by kernel_rfl)) e_q109
theorem Wt:FK IC:=fun _ _ h=>h.cons IC (by kernel_rfl) Wh.TY YA
def Jv:iq:=⟨56,[.v (.lst fN),.v I6],[.v I6],Wh.q39,Wh.q39'⟩
def C_q39:Cx:=⟨en,[],false,Gl⟩
def lt_q39:LT:=[]
theorem e_q39:EV C_q39 lt_q39 Tryz.f56 [.v (.lst fN),.v I6] [.v I6] Wh.q39:=by intro xs;kernel_rfl
theorem ok_q39:CO Jv:=con_ok (Ls:=[]) mixed (e_ _ _) fk Tryz.func56 (loopsL_nil (by kernel_rfl)) (boxesL_none (by kernel_rfl)) e_q39
theorem fk_q39:FK Jv:=fun _ _ h=>h.cons Jv (by kernel_rfl) Wh.q39_v ok_q39
def JP:iq:=⟨57,[.v (.lst fT),.v I6],[.v I6],Wh.q62,Wh.q62'⟩
def C_q62:Cx:=⟨en,[],false,Gl⟩
def lt_q62:LT:=[]
theorem e_q62:EV C_q62 lt_q62 Tryz.f57 [.v (.lst fT),.v I6] [.v I6] Wh.q62:=by intro xs;kernel_rfl
theorem ok_q62:CO JP:=con_ok (Ls:=[]) mixed (e_ _ _) fk Tryz.func57 (loopsL_nil (by kernel_rfl)) (boxesL_none (by kernel_rfl)) e_q62
theorem fk_q62:FK JP:=fun _ _ h=>h.cons JP (by kernel_rfl) Wh.q62_v ok_q62
def JQ:iq:=⟨14,[.v ct,.v I6],[.v I6],Wh.q63,Wh.q63'⟩
def C_q63:Cx:=⟨en,[JP.entry,Jv.entry,IC.entry,IV.entry],false,Gl⟩
def lt_q63:LT:=[]
theorem e_q63:EV C_q63 lt_q63 Tryz.f14 [.v ct,.v I6] [.v I6] Wh.q63:=by intro xs;kernel_rfl
theorem ok_q63:CO JQ:=con_ok (Ls:=[]) mixed (e_ _ _) (fk_q62 _ (fk_q39 _ (Wt _ (WI _ fk)))) Tryz.func14 (loopsL_nil (by kernel_rfl)) (boxesL_none (by kernel_rfl)) e_q63
theorem fk_q63:FK JQ:=fun _ _ h=>h.cons JQ (by kernel_rfl) Wh.q63_v ok_q63
def IE:iq:=⟨232,[.v an],[.v an],Wh.FW,Wh.OW⟩
def C_q110:Cx:=⟨en,[],false,Gl⟩
def XO:LT:=[]
theorem e_q110:EV C_q110 XO Tryz.f232 [.v an] [.v an] Wh.FW:=by intro xs;kernel_rfl
theorem YB:CO IE:=con_ok (Ls:=[]) mixed (e_ _ _) fk Tryz.func232 (loopsL_nil (by kernel_rfl)) (boxesL_none (by kernel_rfl)) e_q110
theorem Wu:FK IE:=fun _ _ h=>h.cons IE (by kernel_rfl) Wh.T0 YB
def Kd:iq:=⟨129,[.v (.lst an)],[.v (.own an)],Wh.q88,Wh.q88'⟩
def C_q88:Cx:=⟨en,[IE.entry],false,Gl⟩
def MQ:b8:=kS ⟨[(4,.leaf I6),(0,.leaf (.lst an)),(3,.whole z0 an)],[(z0,false,.rows an)]⟩ [((.exit 0),⟨[(3,.whole z0 an)],[(z0,false,.rows an)]⟩)] Wh.Vi Wh.DO
def Tt:LT:=[(3,MQ)]
theorem aa8:∀x,round C_q88 Tt (jo Tryz.f129 0) MQ x=Wh.DO x:=by intro x;kernel_rfl
theorem e_q88:EV C_q88 Tt Tryz.f129 [.v (.lst an)] [.v (.own an)] Wh.q88:=by intro xs;kernel_rfl
theorem ok_q88:CO Kd:=con_ok (Ls:=[MQ]) mixed (e_ _ _) (Wu _ fk) Tryz.func129 (loopsL_cons (by kernel_rfl) (loopD_ok aa8) (loopsL_nil (by kernel_rfl))) (boxesL_none (by kernel_rfl)) e_q88
theorem fk_q88:FK Kd:=fun _ _ h=>h.cons Kd (by kernel_rfl) Wh.q88_v ok_q88
def IW:iq:=⟨69,[.v bx],[.v (.pair I6 (.pair (.own an) .unit))],Wh.EN,Wh.Pq⟩
def C_q133:Cx:=⟨en,[Kd.entry],false,Gl⟩
def X4:LT:=[]
theorem e_q133:EV C_q133 X4 Tryz.f69 [.v bx] [.v (.pair I6 (.pair (.own an) .unit))] Wh.EN:=by intro xs;kernel_rfl
theorem YY:CO IW:=con_ok (Ls:=[]) mixed (e_ _ _) (fk_q88 _ fk) Tryz.func69 (loopsL_nil (by kernel_rfl)) (boxesL_none (by kernel_rfl)) e_q133
theorem WJ:FK IW:=fun _ _ h=>h.cons IW (by kernel_rfl) Wh.Un YY
def Kc:iq:=⟨259,[.v eA],[.v eA],Wh.q87,Wh.q87'⟩
def C_q87:Cx:=⟨en,[],false,Gl⟩
def lt_q87:LT:=[]
theorem e_q87:EV C_q87 lt_q87 Tryz.f259 [.v eA] [.v eA] Wh.q87:=by intro xs;kernel_rfl
theorem ok_q87:CO Kc:=con_ok (Ls:=[]) mixed (e_ _ _) fk Tryz.func259 (loopsL_nil (by kernel_rfl)) (boxesL_none (by kernel_rfl)) e_q87
theorem fk_q87:FK Kc:=fun _ _ h=>h.cons Kc (by kernel_rfl) Wh.q87_v ok_q87
def JS:iq:=⟨153,[.v (.lst eA)],[.v (.own eA)],Wh.q65,Wh.q65'⟩
def C_q65:Cx:=⟨en,[Kc.entry],false,Gl⟩
def MP:b8:=kS ⟨[(4,.leaf I6),(0,.leaf (.lst eA)),(3,.whole z0 eA)],[(z0,false,.rows eA)]⟩ [((.exit 0),⟨[(3,.whole z0 eA)],[(z0,false,.rows eA)]⟩)] Wh.U9 Wh.DJ
def Tm:LT:=[(3,MP)]
theorem aa7:∀x,round C_q65 Tm (jo Tryz.f153 0) MP x=Wh.DJ x:=by intro x;kernel_rfl
theorem e_q65:EV C_q65 Tm Tryz.f153 [.v (.lst eA)] [.v (.own eA)] Wh.q65:=by intro xs;kernel_rfl
theorem ok_q65:CO JS:=con_ok (Ls:=[MP]) mixed (e_ _ _) (fk_q87 _ fk) Tryz.func153 (loopsL_cons (by kernel_rfl) (loopD_ok aa7) (loopsL_nil (by kernel_rfl))) (boxesL_none (by kernel_rfl)) e_q65
theorem fk_q65:FK JS:=fun _ _ h=>h.cons JS (by kernel_rfl) Wh.q65_v ok_q65
def IF:iq:=⟨70,[.v gd],[.v (.pair (.own eA) (.pair I6 .unit))],Wh.EB,Wh.OX⟩
def C_q111:Cx:=⟨en,[JS.entry],false,Gl⟩
def XP:LT:=[]
theorem e_q111:EV C_q111 XP Tryz.f70 [.v gd] [.v (.pair (.own eA) (.pair I6 .unit))] Wh.EB:=by intro xs;kernel_rfl
theorem YC:CO IF:=con_ok (Ls:=[]) mixed (e_ _ _) (fk_q65 _ fk) Tryz.func70 (loopsL_nil (by kernel_rfl)) (boxesL_none (by kernel_rfl)) e_q111
theorem Wv:FK IF:=fun _ _ h=>h.cons IF (by kernel_rfl) Wh.T3 YC
def JR:iq:=⟨154,[.v fN],[.v fN],Wh.q64,Wh.q64'⟩
def C_q64:Cx:=⟨en,[],false,Gl⟩
def lt_q64:LT:=[]
theorem e_q64:EV C_q64 lt_q64 Tryz.f154 [.v fN] [.v fN] Wh.q64:=by intro xs;kernel_rfl
theorem ok_q64:CO JR:=con_ok (Ls:=[]) mixed (e_ _ _) fk Tryz.func154 (loopsL_nil (by kernel_rfl)) (boxesL_none (by kernel_rfl)) e_q64
theorem fk_q64:FK JR:=fun _ _ h=>h.cons JR (by kernel_rfl) Wh.q64_v ok_q64
def Jx:iq:=⟨71,[.v (.lst fN)],[.v (.own fN)],Wh.q40,Wh.q40'⟩
def C_q40:Cx:=⟨en,[JR.entry],false,Gl⟩
def MO:b8:=kS ⟨[(4,.leaf I6),(0,.leaf (.lst fN)),(3,.whole z0 fN)],[(z0,false,.rows fN)]⟩ [((.exit 0),⟨[(3,.whole z0 fN)],[(z0,false,.rows fN)]⟩)] Wh.US Wh.DC
def Tf:LT:=[(3,MO)]
theorem aa6:∀x,round C_q40 Tf (jo Tryz.f71 0) MO x=Wh.DC x:=by intro x;kernel_rfl
theorem e_q40:EV C_q40 Tf Tryz.f71 [.v (.lst fN)] [.v (.own fN)] Wh.q40:=by intro xs;kernel_rfl
theorem ok_q40:CO Jx:=con_ok (Ls:=[MO]) mixed (e_ _ _) (fk_q64 _ fk) Tryz.func71 (loopsL_cons (by kernel_rfl) (loopD_ok aa6) (loopsL_nil (by kernel_rfl))) (boxesL_none (by kernel_rfl)) e_q40
theorem fk_q40:FK Jx:=fun _ _ h=>h.cons Jx (by kernel_rfl) Wh.q40_v ok_q40
def Ke:iq:=⟨155,[.v fT],[.v fT],Wh.q89,Wh.q89'⟩
def C_q89:Cx:=⟨en,[],false,Gl⟩
def lt_q89:LT:=[]
theorem e_q89:EV C_q89 lt_q89 Tryz.f155 [.v fT] [.v fT] Wh.q89:=by intro xs;kernel_rfl
theorem ok_q89:CO Ke:=con_ok (Ls:=[]) mixed (e_ _ _) fk Tryz.func155 (loopsL_nil (by kernel_rfl)) (boxesL_none (by kernel_rfl)) e_q89
theorem fk_q89:FK Ke:=fun _ _ h=>h.cons Ke (by kernel_rfl) Wh.q89_v ok_q89
def JT:iq:=⟨72,[.v (.lst fT)],[.v (.own fT)],Wh.q66,Wh.q66'⟩
def C_q66:Cx:=⟨en,[Ke.entry],false,Gl⟩
def MR:b8:=kS ⟨[(4,.leaf I6),(0,.leaf (.lst fT)),(3,.whole z0 fT)],[(z0,false,.rows fT)]⟩ [((.exit 0),⟨[(3,.whole z0 fT)],[(z0,false,.rows fT)]⟩)] Wh.U_ Wh.DK
def Tn:LT:=[(3,MR)]
theorem aa9:∀x,round C_q66 Tn (jo Tryz.f72 0) MR x=Wh.DK x:=by intro x;kernel_rfl
theorem e_q66:EV C_q66 Tn Tryz.f72 [.v (.lst fT)] [.v (.own fT)] Wh.q66:=by intro xs;kernel_rfl
theorem ok_q66:CO JT:=con_ok (Ls:=[MR]) mixed (e_ _ _) (fk_q89 _ fk) Tryz.func72 (loopsL_cons (by kernel_rfl) (loopD_ok aa9) (loopsL_nil (by kernel_rfl))) (boxesL_none (by kernel_rfl)) e_q66
theorem fk_q66:FK JT:=fun _ _ h=>h.cons JT (by kernel_rfl) Wh.q66_v ok_q66
def JU:iq:=⟨16,[.v ct],[.v (.pair .bool (.pair I6 (.pair .str (.pair (.pair I6 (.pair (.own an) .unit)) (.pair (.pair (.own eA) (.pair I6 .unit)) (.pair (.own fN) (.pair (.own fT) .unit)))))))],Wh.BO,Wh.q67'⟩
def C_q67:Cx:=⟨en,[JT.entry,Jx.entry,IF.entry,IW.entry],false,Gl⟩
def lt_q67:LT:=[]
theorem e_q67:EV C_q67 lt_q67 Tryz.f16 [.v ct] [.v (.pair .bool (.pair I6 (.pair .str (.pair (.pair I6 (.pair (.own an) .unit)) (.pair (.pair (.own eA) (.pair I6 .unit)) (.pair (.own fN) (.pair (.own fT) .unit)))))))] Wh.BO:=by intro xs;kernel_rfl
theorem ok_q67:CO JU:=con_ok (Ls:=[]) mixed (e_ _ _) (fk_q66 _ (fk_q40 _ (Wv _ (WJ _ fk)))) Tryz.func16 (loopsL_nil (by kernel_rfl)) (boxesL_none (by kernel_rfl)) e_q67
theorem fk_q67:FK JU:=fun _ _ h=>h.cons JU (by kernel_rfl) Wh.q67_v ok_q67
def Af:iq:=⟨58,[.v I6,.v I6,.v I6],[.v .bool],Wh.xW,Wh.yj⟩
def C_q145:Cx:=⟨en,[],false,Gl⟩
def X8:LT:=[]
theorem e_q145:EV C_q145 X8 Tryz.f58 [.v I6,.v I6,.v I6] [.v .bool] Wh.xW:=by intro xs;kernel_rfl
theorem Y_:CO Af:=con_ok (Ls:=[]) mixed (e_ _ _) fk Tryz.func58 (loopsL_nil (by kernel_rfl)) (boxesL_none (by kernel_rfl)) e_q145
theorem A3:FK Af:=fun _ _ h=>h.cons Af (by kernel_rfl) Wh.zc Y_
def Gt:iq:=⟨178,[.v .str,.v I6,.v I8],[.v I6],Wh.y2,Wh.Ho⟩
def Ra:Cx:=⟨en,[],false,Gl⟩
def Nr:b8:=kS ⟨[(7,.leaf I6),(2,.leaf I8),(0,.leaf .str)],[]⟩ [(.ret,⟨[(6,.leaf I6)],[]⟩),((.exit 0),⟨[],[]⟩)] Wh.Uc Wh.BG
def SS:LT:=[(2,Nr)]
theorem abG:∀x,round Ra SS (jo Tryz.f178 0) Nr x=Wh.BG x:=by intro x;kernel_rfl
theorem e_q119:EV Ra SS Tryz.f178 [.v .str,.v I6,.v I8] [.v I6] Wh.y2:=by intro xs;kernel_rfl
theorem YK:CO Gt:=con_ok (Ls:=[Nr]) mixed (e_ _ _) fk Tryz.func178 (loopsL_cons (by kernel_rfl) (loopD_ok abG) (loopsL_nil (by kernel_rfl))) (boxesL_none (by kernel_rfl)) e_q119
theorem RI:FK Gt:=fun _ _ h=>h.cons Gt (by kernel_rfl) Wh.BH YK
def GB:iq:=⟨180,[.v .str],[.v I6],Wh.AF,Wh.Hu⟩
def Rj:Cx:=⟨en,[Af.entry],false,Gl⟩
def Nq:b8:=kS ⟨[(4,.leaf I6),(0,.leaf .str),(3,.leaf I6)],[]⟩ [(.ret,⟨[(2,.leaf I6)],[]⟩),((.exit 0),⟨[(3,.leaf I6)],[]⟩)] Wh.Uz Wh.Dr
def S2:LT:=[(5,Nq)]
theorem abF:∀x,round Rj S2 (jo Tryz.f180 0) Nq x=Wh.Dr x:=by intro x;kernel_rfl
theorem e_q143:EV Rj S2 Tryz.f180 [.v .str] [.v I6] Wh.AF:=by intro xs;kernel_rfl
theorem Y8:CO GB:=con_ok (Ls:=[Nq]) mixed (e_ _ _) (A3 _ fk) Tryz.func180 (loopsL_cons (by kernel_rfl) (loopD_ok abF) (loopsL_nil (by kernel_rfl))) (boxesL_none (by kernel_rfl)) e_q143
theorem RR:FK GB:=fun _ _ h=>h.cons GB (by kernel_rfl) Wh.EU Y8
def GA:iq:=⟨189,[.v I6],[.v .str],Wh.BJ,Wh.Bc⟩
def Gm (g:((Int))→Option (((List UInt8))×(Unit))) (g':((Int))→((List UInt8))×(Unit)):iq:=⟨189,[.v I6],[.v .str],g,g'⟩
def C_q139 (g:((Int))→Option (((List UInt8))×(Unit))) (g':((Int))→((List UInt8))×(Unit)):Cx:=⟨en,[(Gm g g').entry],false,Gl⟩
def X7:LT:=[]
theorem e_q139 (g:((Int))→Option (((List UInt8))×(Unit))) (g':((Int))→((List UInt8))×(Unit)):∀xs,evT (C_q139 g g') X7 Tryz.f189 [.v I6] [.v .str] xs=Wh.q28 g g' xs:=by intro xs;kernel_rfl
theorem s_q139 (g:((Int))→Option (((List UInt8))×(Unit))) (g':((Int))→((List UInt8))×(Unit)) (hv:∀x y,g x=some y→g' x=y) (h:CO (Gm g g')):CO (Gm (Wh.q28 g g') (fun x=>match Wh.q28 g g' x with | some y=>y|none=>default)):=con_ok (Ls:=[]) mixed (e_ _ _) (dD.cons fk (Gm g g') (by kernel_rfl) hv h) Tryz.func189 (loopsL_nil (by kernel_rfl)) (boxesL_none (by kernel_rfl)) (e_q139 g g')
theorem n_q139 (n:Nat):CO (Gm (Wh.AI n) (fun x=>match Wh.AI n x with | some y=>y|none=>default)):=by
 induction n with
 |zero=>intro xs y h;exact absurd (show none=some y from h) (by simp)
 |succ n ih=>
  rw[Wh.PB n]
  exact s_q139 _ _ (fun x y h=>by simp only[h]) ih
theorem Y4:CO GA:=n_q139 20
theorem RQ:FK GA:=fun _ _ h=>h.cons GA (by kernel_rfl) Wh.Lu Y4
def J0:iq:=⟨423,[.v .str],[.v (.own I8)],Wh.q72,Wh.q72'⟩
def Mc:Cx:=⟨en,[],false,Gl⟩
def Nh:b8:=kS ⟨[(3,.whole z0 I8),(0,.leaf .str)],[(z0,false,.rows I8)]⟩ [((.exit 0),⟨[(3,.whole z0 I8),(0,.leaf .str)],[(z0,false,.rows I8)]⟩)] Wh.Vc Wh.DL
def Ni:b8:=kS ⟨[(5,.leaf I6),(4,.leaf I6),(3,.whole z0 I8)],[(z0,false,.rows I8)]⟩ [((.exit 2),⟨[(3,.whole z0 I8)],[(z0,false,.rows I8)]⟩)] Wh.Vd Wh.E5
def On:LT:=[(2,Nh),(6,Ni)]
theorem abx:∀x,round Mc On (jo Tryz.f423 0) Nh x=Wh.DL x:=by intro x;kernel_rfl
theorem aby:∀x,round Mc On (jo Tryz.f423 1) Ni x=Wh.E5 x:=by intro x;kernel_rfl
theorem e_q72:EV Mc On Tryz.f423 [.v .str] [.v (.own I8)] Wh.q72:=by intro xs;kernel_rfl
theorem ok_q72:CO J0:=con_ok (Ls:=[Nh,Ni]) mixed (e_ _ _) fk Tryz.func423 (loopsL_cons (by kernel_rfl) (loopD_ok abx) (loopsL_cons (by kernel_rfl) (loopD_ok aby) (loopsL_nil (by kernel_rfl)))) (boxesL_none (by kernel_rfl)) e_q72
theorem fk_q72:FK J0:=fun _ _ h=>h.cons J0 (by kernel_rfl) Wh.q72_v ok_q72
def Gs:iq:=⟨449,[.v I3,.v I6],[.v I3],Wh.yd,Wh.zp⟩
def C_q117:Cx:=⟨en,[],false,Gl⟩
def XT:LT:=[]
theorem e_q117:EV C_q117 XT Tryz.f449 [.v I3,.v I6] [.v I3] Wh.yd:=by intro xs;kernel_rfl
theorem YI:CO Gs:=con_ok (Ls:=[]) mixed (e_ _ _) fk Tryz.func449 (loopsL_nil (by kernel_rfl)) (boxesL_none (by kernel_rfl)) e_q117
theorem RH:FK Gs:=fun _ _ h=>h.cons Gs (by kernel_rfl) Wh.q117_v YI
def Kn:iq:=⟨447,[.v (.lst I8)],[.v (.own I3)],Wh.q98,Wh.q98'⟩
def Md:Cx:=⟨en,[Gs.entry],false,Gl⟩
def Nl:b8:=kS ⟨[(4,.leaf I6),(0,.leaf (.lst I8)),(3,.whole z0 I3)],[(z0,false,.rows I3)]⟩ [((.exit 0),⟨[(3,.whole z0 I3)],[(z0,false,.rows I3)]⟩)] Wh.Vm Wh.E9
def Nn:b8:=kS ⟨[(5,.leaf I6),(3,.whole z0 I3)],[(z0,false,.rows I3)]⟩ [((.exit 2),⟨[(3,.whole z0 I3)],[(z0,false,.rows I3)]⟩)] Wh.Vn Wh.E_
def Oo:LT:=[(3,Nl),(7,Nn)]
theorem abB:∀x,round Md Oo (jo Tryz.f447 0) Nl x=Wh.E9 x:=by intro x;kernel_rfl
theorem abC:∀x,round Md Oo (jo Tryz.f447 1) Nn x=Wh.E_ x:=by intro x;kernel_rfl
theorem e_q98:EV Md Oo Tryz.f447 [.v (.lst I8)] [.v (.own I3)] Wh.q98:=by intro xs;kernel_rfl
theorem ok_q98:CO Kn:=con_ok (Ls:=[Nl,Nn]) mixed (e_ _ _) (RH _ fk) Tryz.func447 (loopsL_cons (by kernel_rfl) (loopD_ok abB) (loopsL_cons (by kernel_rfl) (loopD_ok abC) (loopsL_nil (by kernel_rfl)))) (boxesL_none (by kernel_rfl)) e_q98
theorem fk_q98:FK Kn:=fun _ _ h=>h.cons Kn (by kernel_rfl) Wh.q98_v ok_q98
def JZ:iq:=⟨448,[],[.v (.own I3)],Wh.q71,Wh.q71'⟩
def C_q71:Cx:=⟨en,[],false,Gl⟩
def lt_q71:LT:=[]
theorem e_q71:EV C_q71 lt_q71 Tryz.f448 [] [.v (.own I3)] Wh.q71:=by intro xs;kernel_rfl
theorem ok_q71:CO JZ:=con_ok (Ls:=[]) mixed (e_ _ _) fk Tryz.func448 (loopsL_nil (by kernel_rfl)) (boxesL_none (by kernel_rfl)) e_q71
theorem fk_q71:FK JZ:=fun _ _ h=>h.cons JZ (by kernel_rfl) Wh.q71_v ok_q71
def Km:iq:=⟨424,[.v (.lst I3),.v (.lst I8)],[.v (.own I3)],Wh.q96,Wh.q96'⟩
def Iq:Cx:=⟨en,[Gs.entry,JZ.entry,Kn.entry],false,Gl⟩
def Nc:b8:=kS ⟨[(7,.whole z0 I3),(8,.leaf I6),(5,.whole z1 I3),(6,.whole z2 I3),(0,.leaf (.lst I3))],[(z0,false,.rows I3),(z1,false,.rows I3),(z2,false,.rows I3)]⟩ [((.exit 0),⟨[(7,.whole z0 I3),(0,.leaf (.lst I3))],[(z0,false,.rows I3)]⟩)] Wh.Vk Wh.E8
def Nd:b8:=kS ⟨[(14,.leaf I6),(7,.whole z0 I3),(5,.whole z1 I3),(6,.whole z2 I3),(0,.leaf (.lst I3)),(8,.leaf I6),(13,.leaf I3),(12,.leaf I3),(11,.leaf I3)],[(z0,false,.rows I3),(z1,false,.rows I3),(z2,false,.rows I3)]⟩ [((.exit 2),⟨[(7,.whole z0 I3),(5,.whole z1 I3),(6,.whole z2 I3),(0,.leaf (.lst I3)),(8,.leaf I6),(13,.leaf I3),(12,.leaf I3),(11,.leaf I3)],[(z0,false,.rows I3),(z1,false,.rows I3),(z2,false,.rows I3)]⟩)] Wh.QL Wh.HC
def Nf:b8:=kS ⟨[(16,.leaf I6),(7,.whole z0 I3),(0,.leaf (.lst I3)),(15,.whole z1 I3)],[(z0,false,.rows I3),(z1,false,.rows I3)]⟩ [((.exit 4),⟨[(15,.whole z0 I3)],[(z0,false,.rows I3)]⟩)] Wh.Vl Wh.HD
def K3:LT:=[(5,Nc),(13,Nd),(20,Nf)]
theorem abt:∀x,round Iq K3 (jo Tryz.f424 0) Nc x=Wh.E8 x:=by intro x;kernel_rfl
theorem abu:∀x,round Iq K3 (jo Tryz.f424 1) Nd x=Wh.HC x:=by intro x;kernel_rfl
theorem abv:∀x,round Iq K3 (jo Tryz.f424 2) Nf x=Wh.HD x:=by intro x;kernel_rfl
theorem e_q96:EV Iq K3 Tryz.f424 [.v (.lst I3),.v (.lst I8)] [.v (.own I3)] Wh.q96:=by intro xs;kernel_rfl
theorem ok_q96:CO Km:=con_ok (Ls:=[Nc,Nd,Nf]) mixed (e_ _ _) (RH _ (fk_q71 _ (fk_q98 _ fk))) Tryz.func424 (loopsL_cons (by kernel_rfl) (loopD_ok abt) (loopsL_cons (by kernel_rfl) (loopD_ok abu) (loopsL_cons (by kernel_rfl) (loopD_ok abv) (loopsL_nil (by kernel_rfl))))) (boxesL_none (by kernel_rfl)) e_q96
theorem fk_q96:FK Km:=fun _ _ h=>h.cons Km (by kernel_rfl) Wh.q96_v ok_q96
def I5:iq:=⟨375,[.v .str],[.v .str],Wh.ET,Wh.PE⟩
def L_:Cx:=⟨en,[Km.entry,J0.entry],false,Gl⟩
def Nj:b8:=kS ⟨[(5,.leaf I6),(4,.whole z0 I8),(3,.whole z1 I3)],[(z0,false,.rows I8),(z1,false,.rows I3)]⟩ [((.exit 0),⟨[(3,.whole z0 I3)],[(z0,false,.rows I3)]⟩)] Wh.Uv Wh.Dp
def Nk:b8:=kS ⟨[(7,.leaf I6),(3,.whole z0 I3),(6,.whole z1 I8)],[(z0,false,.rows I3),(z1,false,.rows I8)]⟩ [((.exit 2),⟨[(6,.whole z0 I8)],[(z0,false,.rows I8)]⟩)] Wh.Uw Wh.Hs
def Ok:LT:=[(4,Nj),(9,Nk)]
theorem abz:∀x,round L_ Ok (jo Tryz.f375 0) Nj x=Wh.Dp x:=by intro x;kernel_rfl
theorem abA:∀x,round L_ Ok (jo Tryz.f375 1) Nk x=Wh.Hs x:=by intro x;kernel_rfl
theorem e_q141:EV L_ Ok Tryz.f375 [.v .str] [.v .str] Wh.ET:=by intro xs;kernel_rfl
theorem Y6:CO I5:=con_ok (Ls:=[Nj,Nk]) mixed (e_ _ _) (fk_q96 _ (fk_q72 _ fk)) Tryz.func375 (loopsL_cons (by kernel_rfl) (loopD_ok abz) (loopsL_cons (by kernel_rfl) (loopD_ok abA) (loopsL_nil (by kernel_rfl)))) (boxesL_none (by kernel_rfl)) e_q141
theorem WO:FK I5:=fun _ _ h=>h.cons I5 (by kernel_rfl) Wh.Ux Y6
def I4:iq:=⟨374,[.v .str],[.v .str],Wh.Dm,Wh.Lv⟩
def Rh:Cx:=⟨en,[],false,Gl⟩
def Ng:b8:=kS ⟨[(4,.leaf I6),(0,.leaf .str),(3,.whole z0 I8)],[(z0,false,.rows I8)]⟩ [((.exit 0),⟨[(3,.whole z0 I8)],[(z0,false,.rows I8)]⟩)] Wh.Uu Wh.Dn
def S0:LT:=[(3,Ng)]
theorem abw:∀x,round Rh S0 (jo Tryz.f374 0) Ng x=Wh.Dn x:=by intro x;kernel_rfl
theorem e_q140:EV Rh S0 Tryz.f374 [.v .str] [.v .str] Wh.Dm:=by intro xs;kernel_rfl
theorem Y5:CO I4:=con_ok (Ls:=[Ng]) mixed (e_ _ _) fk Tryz.func374 (loopsL_cons (by kernel_rfl) (loopD_ok abw) (loopsL_nil (by kernel_rfl))) (boxesL_none (by kernel_rfl)) e_q140
theorem WN:FK I4:=fun _ _ h=>h.cons I4 (by kernel_rfl) Wh.PD Y5
def Kh:iq:=⟨328,[.v .str],[.v .str],Wh.q91,Wh.DP⟩
def C_q91:Cx:=⟨en,[I4.entry,I5.entry],false,Gl⟩
def lt_q91:LT:=[]
theorem e_q91:EV C_q91 lt_q91 Tryz.f328 [.v .str] [.v .str] Wh.q91:=by intro xs;kernel_rfl
theorem ok_q91:CO Kh:=con_ok (Ls:=[]) mixed (e_ _ _) (WN _ (WO _ fk)) Tryz.func328 (loopsL_nil (by kernel_rfl)) (boxesL_none (by kernel_rfl)) e_q91
theorem fk_q91:FK Kh:=fun _ _ h=>h.cons Kh (by kernel_rfl) Wh.q91_v ok_q91
def Gu:iq:=⟨258,[.v I6,.v .str],[.v .str],Wh.De,Wh.Hp⟩
def C_q120:Cx:=⟨en,[Kh.entry,GA.entry],false,Gl⟩
def XU:LT:=[]
theorem e_q120:EV C_q120 XU Tryz.f258 [.v I6,.v .str] [.v .str] Wh.De:=by intro xs;kernel_rfl
theorem YL:CO Gu:=con_ok (Ls:=[]) mixed (e_ _ _) (fk_q91 _ (RQ _ fk)) Tryz.func258 (loopsL_nil (by kernel_rfl)) (boxesL_none (by kernel_rfl)) e_q120
theorem RJ:FK Gu:=fun _ _ h=>h.cons Gu (by kernel_rfl) Wh.Lh YL
def IN:iq:=⟨150,[.v .str,.v I6,.v I6],[.v .str,.v I6],Wh.Cj,Wh.Pb⟩
def C_q121:Cx:=⟨en,[Gu.entry,Af.entry,GB.entry,Gt.entry],false,Gl⟩
def XV:LT:=[]
theorem e_q121:EV C_q121 XV Tryz.f150 [.v .str,.v I6,.v I6] [.v .str,.v I6] Wh.Cj:=by intro xs;kernel_rfl
theorem YM:CO IN:=con_ok (Ls:=[]) mixed (e_ _ _) (RJ _ (A3 _ (RR _ (RI _ fk)))) Tryz.func150 (loopsL_nil (by kernel_rfl)) (boxesL_none (by kernel_rfl)) e_q121
theorem WB:FK IN:=fun _ _ h=>h.cons IN (by kernel_rfl) Wh.Pc YM
def D4:iq:=⟨60,[.v .str],[.v (.own .str),.v I6],Wh.Ba,Wh.FX⟩
def Rb:Cx:=⟨en,[IN.entry],false,Gl⟩
def Ns:b8:=kS ⟨[(5,.leaf I6),(4,.whole z0 .str),(0,.leaf .str)],[(z0,false,.rows .str)]⟩ [(.ret,⟨[(2,.whole z0 .str),(3,.leaf I6)],[(z0,false,.rows .str)]⟩)] Wh.Ud Wh.Df
def SU:LT:=[(3,Ns)]
theorem abH:∀x,round Rb SU (jo Tryz.f60 0) Ns x=Wh.Df x:=by intro x;kernel_rfl
theorem e_q122:EV Rb SU Tryz.f60 [.v .str] [.v (.own .str),.v I6] Wh.Ba:=by intro xs;kernel_rfl
theorem YN:CO D4:=con_ok (Ls:=[Ns]) mixed (e_ _ _) (WB _ fk) Tryz.func60 (loopsL_cons (by kernel_rfl) (loopD_ok abH) (loopsL_nil (by kernel_rfl))) (boxesL_none (by kernel_rfl)) e_q122
theorem KF:FK D4:=fun _ _ h=>h.cons D4 (by kernel_rfl) Wh.Hq YN
def IL:iq:=⟨179,[.v .str,.v I8],[.v (.own .str)],Wh.Ci,Wh.O7⟩
def Q_:Cx:=⟨en,[],false,Gl⟩
def No:b8:=kS ⟨[(7,.leaf I6),(6,.leaf I6),(0,.leaf .str),(5,.whole z0 .str),(1,.leaf I8)],[(z0,false,.rows .str)]⟩ [((.exit 0),⟨[(6,.leaf I6),(0,.leaf .str),(5,.whole z0 .str)],[(z0,false,.rows .str)]⟩)] Wh.Ub Wh.zC
def SQ:LT:=[(4,No)]
theorem abD:∀x,round Q_ SQ (jo Tryz.f179 0) No x=Wh.zC x:=by intro x;kernel_rfl
theorem e_q118:EV Q_ SQ Tryz.f179 [.v .str,.v I8] [.v (.own .str)] Wh.Ci:=by intro xs;kernel_rfl
theorem YJ:CO IL:=con_ok (Ls:=[No]) mixed (e_ _ _) fk Tryz.func179 (loopsL_cons (by kernel_rfl) (loopD_ok abD) (loopsL_nil (by kernel_rfl))) (boxesL_none (by kernel_rfl)) e_q118
theorem WA:FK IL:=fun _ _ h=>h.cons IL (by kernel_rfl) Wh.O9 YJ
def II:iq:=⟨200,[.v .str],[.v .bool],Wh.ED,Wh.O0⟩
def Q9:Cx:=⟨en,[Af.entry],false,Gl⟩
def M4:b8:=kS ⟨[(3,.leaf I6),(0,.leaf .str)],[]⟩ [(.ret,⟨[(2,.leaf .bool)],[]⟩),((.exit 0),⟨[(0,.leaf .str)],[]⟩)] Wh.T5 Wh.Ch
def SP:LT:=[(2,M4)]
theorem abj:∀x,round Q9 SP (jo Tryz.f200 0) M4 x=Wh.Ch x:=by intro x;kernel_rfl
theorem e_q114:EV Q9 SP Tryz.f200 [.v .str] [.v .bool] Wh.ED:=by intro xs;kernel_rfl
theorem YF:CO II:=con_ok (Ls:=[M4]) mixed (e_ _ _) (A3 _ fk) Tryz.func200 (loopsL_cons (by kernel_rfl) (loopD_ok abj) (loopsL_nil (by kernel_rfl))) (boxesL_none (by kernel_rfl)) e_q114
theorem Wx:FK II:=fun _ _ h=>h.cons II (by kernel_rfl) Wh.T6 YF
def Ft:iq:=⟨185,[.v an],[.v .bool],Wh.BK,Wh.F2⟩
def C_q147:Cx:=⟨en,[II.entry,Af.entry],false,Gl⟩
def X9:LT:=[]
theorem e_q147:EV C_q147 X9 Tryz.f185 [.v an] [.v .bool] Wh.BK:=by intro xs;kernel_rfl
theorem Zb:CO Ft:=con_ok (Ls:=[]) mixed (e_ _ _) (Wx _ (A3 _ fk)) Tryz.func185 (loopsL_nil (by kernel_rfl)) (boxesL_none (by kernel_rfl)) e_q147
theorem NM:FK Ft:=fun _ _ h=>h.cons Ft (by kernel_rfl) Wh.Dt Zb
def GH:iq:=⟨103,[.v I6,.v .str,.v .str],[.v .str],Wh.CD,Wh.LD⟩
def C_q41:Cx:=⟨en,[GA.entry,Ft.entry],false,Gl⟩
def lt_q41:LT:=[]
theorem e_q41:EV C_q41 lt_q41 Tryz.f103 [.v I6,.v .str,.v .str] [.v .str] Wh.CD:=by intro xs;kernel_rfl
theorem ok_q41:CO GH:=con_ok (Ls:=[]) mixed (e_ _ _) (RQ _ (NM _ fk)) Tryz.func103 (loopsL_nil (by kernel_rfl)) (boxesL_none (by kernel_rfl)) e_q41
theorem RX:FK GH:=fun _ _ h=>h.cons GH (by kernel_rfl) Wh.LF ok_q41
def Gw:iq:=⟨272,[.v an,.v I6,.v .str],[.v .bool],Wh.EH,Wh.Ll⟩
def C_q125:Cx:=⟨en,[],false,Gl⟩
def XY:LT:=[]
theorem e_q125:EV C_q125 XY Tryz.f272 [.v an,.v I6,.v .str] [.v .bool] Wh.EH:=by intro xs;kernel_rfl
theorem YQ:CO Gw:=con_ok (Ls:=[]) mixed (e_ _ _) fk Tryz.func272 (loopsL_nil (by kernel_rfl)) (boxesL_none (by kernel_rfl)) e_q125
theorem RM:FK Gw:=fun _ _ h=>h.cons Gw (by kernel_rfl) Wh.Lm YQ
def Gp:iq:=⟨187,[.v (.lst an),.v I6],[.v I6],Wh.Da,Wh.Ld⟩
def Q7:Cx:=⟨en,[],false,Gl⟩
def Nu:b8:=kS ⟨[(6,.leaf I6),(0,.leaf (.lst an)),(5,.leaf I6),(1,.leaf I6)],[]⟩ [((.exit 0),⟨[(5,.leaf I6)],[]⟩)] Wh.TR Wh.Ce
def SN:LT:=[(3,Nu)]
theorem abJ:∀x,round Q7 SN (jo Tryz.f187 0) Nu x=Wh.Ce x:=by intro x;kernel_rfl
theorem e_q100:EV Q7 SN Tryz.f187 [.v (.lst an),.v I6] [.v I6] Wh.Da:=by intro xs;kernel_rfl
theorem Yq:CO Gp:=con_ok (Ls:=[Nu]) mixed (e_ _ _) fk Tryz.func187 (loopsL_cons (by kernel_rfl) (loopD_ok abJ) (loopsL_nil (by kernel_rfl))) (boxesL_none (by kernel_rfl)) e_q100
theorem RE:FK Gp:=fun _ _ h=>h.cons Gp (by kernel_rfl) Wh.Le Yq
def Gz:iq:=⟨184,[.v bx],[.v .bool],Wh.Dj,Wh.Lr⟩
def Ip:Cx:=⟨en,[Gp.entry,Gw.entry,Ft.entry,Af.entry],false,Gl⟩
def MZ:b8:=kS ⟨[(1,.aZ z0 []),(3,.leaf I6)],[(z0,false,.var bx (.leaf bx))]⟩ [(.ret,⟨[(2,.leaf .bool)],[]⟩),((.exit 0),⟨[(1,.aZ z0 [])],[(z0,false,.var bx (.leaf bx))]⟩)] Wh.Up Wh.Cn
def M1:b8:=kS ⟨[(5,.leaf I6),(4,.aZ z0 []),(1,.aZ z1 []),(3,.leaf I6)],[(z0,false,.var an (.leaf an)),(z1,false,.var bx (.leaf bx))]⟩ [(.ret,⟨[(2,.leaf .bool)],[]⟩),((.exit 2),⟨[(1,.aZ z0 []),(3,.leaf I6)],[(z0,false,.var bx (.leaf bx))]⟩)] Wh.Uq Wh.Dk
def M3:b8:=kS ⟨[(6,.leaf I6),(1,.aZ z0 [])],[(z0,false,.var bx (.leaf bx))]⟩ [(.ret,⟨[(2,.leaf .bool)],[]⟩),((.exit 4),⟨[],[]⟩)] Wh.Ur Wh.EO
def K0:LT:=[(4,MZ),(10,M1),(15,M3)]
theorem abg:∀x,round Ip K0 (jo Tryz.f184 0) MZ x=Wh.Cn x:=by intro x;kernel_rfl
theorem abh:∀x,round Ip K0 (jo Tryz.f184 1) M1 x=Wh.Dk x:=by intro x;kernel_rfl
theorem abi:∀x,round Ip K0 (jo Tryz.f184 2) M3 x=Wh.EO x:=by intro x;kernel_rfl
theorem e_q135:EV Ip K0 Tryz.f184 [.v bx] [.v .bool] Wh.Dj:=by intro xs;kernel_rfl
theorem Y0:CO Gz:=con_ok (Ls:=[MZ,M1,M3]) mixed (e_ _ _) (RE _ (RM _ (NM _ (A3 _ fk)))) Tryz.func184 (loopsL_cons (by kernel_rfl) (loopD_ok abg) (loopsL_cons (by kernel_rfl) (loopD_ok abh) (loopsL_cons (by kernel_rfl) (loopD_ok abi) (loopsL_nil (by kernel_rfl))))) (boxesL_none (by kernel_rfl)) e_q135
theorem RP:FK Gz:=fun _ _ h=>h.cons Gz (by kernel_rfl) Wh.F0 Y0
def GC:iq:=⟨186,[.v bx,.v I6,.v .str],[.v I6],Wh.Bd,Wh.Lx⟩
def Rl:Cx:=⟨en,[],false,Gl⟩
def Nt:b8:=kS ⟨[(7,.leaf I6),(2,.leaf .str),(3,.aZ z0 []),(1,.leaf I6)],[(z0,false,.var bx (.leaf bx))]⟩ [(.ret,⟨[(6,.leaf I6)],[]⟩),((.exit 0),⟨[],[]⟩)] Wh.UD Wh.Cr
def S4:LT:=[(2,Nt)]
theorem abI:∀x,round Rl S4 (jo Tryz.f186 0) Nt x=Wh.Cr x:=by intro x;kernel_rfl
theorem e_q146:EV Rl S4 Tryz.f186 [.v bx,.v I6,.v .str] [.v I6] Wh.Bd:=by intro xs;kernel_rfl
theorem Za:CO GC:=con_ok (Ls:=[Nt]) mixed (e_ _ _) fk Tryz.func186 (loopsL_cons (by kernel_rfl) (loopD_ok abI) (loopsL_nil (by kernel_rfl))) (boxesL_none (by kernel_rfl)) e_q146
theorem RS:FK GC:=fun _ _ h=>h.cons GC (by kernel_rfl) Wh.Hv Za
def Fq:iq:=⟨170,[.v bx],[.v (.pair I6 (.pair (.own an) .unit))],Wh.Bb,Wh.EG⟩
def C_q123:Cx:=⟨en,[],false,Gl⟩
def XW:LT:=[]
theorem e_q123:EV C_q123 XW Tryz.f170 [.v bx] [.v (.pair I6 (.pair (.own an) .unit))] Wh.Bb:=by intro xs;kernel_rfl
theorem YO:CO Fq:=con_ok (Ls:=[]) mixed (e_ _ _) fk Tryz.func170 (loopsL_nil (by kernel_rfl)) (boxesL_none (by kernel_rfl)) e_q123
theorem NK:FK Fq:=fun _ _ h=>h.cons Fq (by kernel_rfl) Wh.FY YO
def IP:iq:=⟨270,[.v bx,.v I6],[.v (.pair I6 (.pair (.own an) .unit))],Wh.EI,Wh.Pe⟩
def C_q126:Cx:=⟨en,[],false,Gl⟩
def XZ:LT:=[]
theorem e_q126:EV C_q126 XZ Tryz.f270 [.v bx,.v I6] [.v (.pair I6 (.pair (.own an) .unit))] Wh.EI:=by intro xs;kernel_rfl
theorem YR:CO IP:=con_ok (Ls:=[]) mixed (e_ _ _) fk Tryz.func270 (loopsL_nil (by kernel_rfl)) (boxesL_none (by kernel_rfl)) e_q126
theorem WC:FK IP:=fun _ _ h=>h.cons IP (by kernel_rfl) Wh.Ue YR
def Kg:iq:=⟨181,[.v bx,.v I6,.v .str],[.v (.pair I6 (.pair (.own an) .unit)),.v I6],Wh.q90,Wh.LM⟩
def C_q90:Cx:=⟨en,[IP.entry,Fq.entry,GC.entry,Gz.entry],false,Gl⟩
def lt_q90:LT:=[]
theorem e_q90:EV C_q90 lt_q90 Tryz.f181 [.v bx,.v I6,.v .str] [.v (.pair I6 (.pair (.own an) .unit)),.v I6] Wh.q90:=by intro xs;kernel_rfl
theorem ok_q90:CO Kg:=con_ok (Ls:=[]) mixed (e_ _ _) (WC _ (NK _ (RS _ (RP _ fk)))) Tryz.func181 (loopsL_nil (by kernel_rfl)) (boxesL_none (by kernel_rfl)) e_q90
theorem fk_q90:FK Kg:=fun _ _ h=>h.cons Kg (by kernel_rfl) Wh.q90_v ok_q90
def I9:iq:=⟨188,[.v bx,.v an],[.v (.pair I6 (.pair (.own an) .unit))],Wh.EW,Wh.PK⟩
def Rk:Cx:=⟨en,[Gw.entry],false,Gl⟩
def Nw:b8:=kS ⟨[(5,.leaf I6),(4,.aZ z0 []),(2,.aZ z1 []),(3,.aZ z2 [])],[(z0,false,.var bx (.pair (.leaf I6) (.pair (.whole z3 an) (.leaf .unit)))),(z1,false,.var bx (.leaf bx)),(z2,false,.var an (.leaf an)),(z3,false,.rows an)]⟩ [((.exit 0),⟨[(4,.aZ z0 []),(5,.leaf I6),(2,.aZ z1 []),(3,.aZ z2 [])],[(z0,false,.var bx (.pair (.leaf I6) (.pair (.whole z3 an) (.leaf .unit)))),(z1,false,.var bx (.leaf bx)),(z2,false,.var an (.leaf an)),(z3,false,.rows an)]⟩)] Wh.UA Wh.Cq
def S3:LT:=[(2,Nw)]
theorem abL:∀x,round Rk S3 (jo Tryz.f188 0) Nw x=Wh.Cq x:=by intro x;kernel_rfl
theorem e_q144:EV Rk S3 Tryz.f188 [.v bx,.v an] [.v (.pair I6 (.pair (.own an) .unit))] Wh.EW:=by intro xs;kernel_rfl
theorem Y9:CO I9:=con_ok (Ls:=[Nw]) mixed (e_ _ _) (RM _ fk) Tryz.func188 (loopsL_cons (by kernel_rfl) (loopD_ok abL) (loopsL_nil (by kernel_rfl))) (boxesL_none (by kernel_rfl)) e_q144
theorem WR:FK I9:=fun _ _ h=>h.cons I9 (by kernel_rfl) Wh.UC Y9
def Gr:iq:=⟨101,[.v bx,.v I6,.v .str,.v .str],[.v (.pair I6 (.pair (.own an) .unit)),.v I6],Wh.BD,Wh.Hl⟩
def C_q112:Cx:=⟨en,[I9.entry,Gp.entry,GC.entry,Fq.entry,Ft.entry,Gz.entry],false,Gl⟩
def XQ:LT:=[]
theorem e_q112:EV C_q112 XQ Tryz.f101 [.v bx,.v I6,.v .str,.v .str] [.v (.pair I6 (.pair (.own an) .unit)),.v I6] Wh.BD:=by intro xs;kernel_rfl
theorem YD:CO Gr:=con_ok (Ls:=[]) mixed (e_ _ _) (WR _ (RE _ (RS _ (NK _ (NM _ (RP _ fk)))))) Tryz.func101 (loopsL_nil (by kernel_rfl)) (boxesL_none (by kernel_rfl)) e_q112
theorem RG:FK Gr:=fun _ _ h=>h.cons Gr (by kernel_rfl) Wh.OY YD
def Gv:iq:=⟨98,[.v bx,.v .str],[.v (.pair I6 (.pair (.own an) .unit)),.v .bool],Wh.BI,Wh.Li⟩
def C_q124:Cx:=⟨en,[Gr.entry,Kg.entry,GH.entry,GB.entry,IL.entry,Gt.entry],false,Gl⟩
def XX:LT:=[]
theorem e_q124:EV C_q124 XX Tryz.f98 [.v bx,.v .str] [.v (.pair I6 (.pair (.own an) .unit)),.v .bool] Wh.BI:=by intro xs;kernel_rfl
theorem YP:CO Gv:=con_ok (Ls:=[]) mixed (e_ _ _) (RG _ (fk_q90 _ (RX _ (RR _ (WA _ (RI _ fk)))))) Tryz.func98 (loopsL_nil (by kernel_rfl)) (boxesL_none (by kernel_rfl)) e_q124
theorem RL:FK Gv:=fun _ _ h=>h.cons Gv (by kernel_rfl) Wh.Lj YP
def Gy:iq:=⟨61,[.v (.lst .str)],[.v (.pair I6 (.pair (.own an) .unit)),.v .bool],Wh.Dh,Wh.Lq⟩
def Rf:Cx:=⟨en,[Gv.entry],false,Gl⟩
def MY:b8:=kS ⟨[(2,.aZ z0 []),(5,.leaf I6),(4,.aZ z1 []),(0,.leaf (.lst .str))],[(z0,false,.var bx (.pair (.leaf I6) (.pair (.whole z2 an) (.leaf .unit)))),(z1,false,.var bx (.pair (.leaf I6) (.pair (.whole z3 an) (.leaf .unit)))),(z2,false,.rows an),(z3,false,.rows an)]⟩ [(.ret,⟨[(2,.aZ z0 []),(3,.leaf .bool)],[(z0,false,.var bx (.pair (.leaf I6) (.pair (.whole z1 an) (.leaf .unit)))),(z1,false,.rows an)]⟩),((.exit 0),⟨[(2,.aZ z0 []),(4,.aZ z1 [])],[(z0,false,.var bx (.pair (.leaf I6) (.pair (.whole z2 an) (.leaf .unit)))),(z1,false,.var bx (.pair (.leaf I6) (.pair (.whole z3 an) (.leaf .unit)))),(z2,false,.rows an),(z3,false,.rows an)]⟩)] Wh.Uo Wh.Cm
def SY:LT:=[(3,MY)]
theorem abf:∀x,round Rf SY (jo Tryz.f61 0) MY x=Wh.Cm x:=by intro x;kernel_rfl
theorem e_q134:EV Rf SY Tryz.f61 [.v (.lst .str)] [.v (.pair I6 (.pair (.own an) .unit)),.v .bool] Wh.Dh:=by intro xs;kernel_rfl
theorem YZ:CO Gy:=con_ok (Ls:=[MY]) mixed (e_ _ _) (RL _ fk) Tryz.func61 (loopsL_cons (by kernel_rfl) (loopD_ok abf) (loopsL_nil (by kernel_rfl))) (boxesL_none (by kernel_rfl)) e_q134
theorem RO:FK Gy:=fun _ _ h=>h.cons Gy (by kernel_rfl) Wh.Pt YZ
def Kl:iq:=⟨59,[.v ct],[.v .bool],Wh.q95,Wh.q95'⟩
def C_q95:Cx:=⟨en,[Gy.entry,D4.entry],false,Gl⟩
def lt_q95:LT:=[]
theorem e_q95:EV C_q95 lt_q95 Tryz.f59 [.v ct] [.v .bool] Wh.q95:=by intro xs;kernel_rfl
theorem ok_q95:CO Kl:=con_ok (Ls:=[]) mixed (e_ _ _) (RO _ (KF _ fk)) Tryz.func59 (loopsL_nil (by kernel_rfl)) (boxesL_none (by kernel_rfl)) e_q95
theorem fk_q95:FK Kl:=fun _ _ h=>h.cons Kl (by kernel_rfl) Wh.q95_v ok_q95
def Kk:iq:=⟨62,[.v bx,.v bx],[.v .bool],Wh.CJ,Wh.q94'⟩
def C_q94:Cx:=⟨en,[],false,Gl⟩
def Na:b8:=kS ⟨[(5,.leaf I6),(3,.aZ z0 []),(2,.aZ z1 [])],[(z0,false,.var bx (.leaf bx)),(z1,false,.var bx (.leaf bx))]⟩ [(.ret,⟨[(4,.leaf .bool)],[]⟩),((.exit 0),⟨[],[]⟩)] Wh.Vj Wh.CK
def Tu:LT:=[(4,Na)]
theorem abq:∀x,round C_q94 Tu (jo Tryz.f62 0) Na x=Wh.CK x:=by intro x;kernel_rfl
theorem e_q94:EV C_q94 Tu Tryz.f62 [.v bx,.v bx] [.v .bool] Wh.CJ:=by intro xs;kernel_rfl
theorem ok_q94:CO Kk:=con_ok (Ls:=[Na]) mixed (e_ _ _) fk Tryz.func62 (loopsL_cons (by kernel_rfl) (loopD_ok abq) (loopsL_nil (by kernel_rfl))) (boxesL_none (by kernel_rfl)) e_q94
theorem fk_q94:FK Kk:=fun _ _ h=>h.cons Kk (by kernel_rfl) Wh.q94_v ok_q94
def IZ:iq:=⟨151,[.v eA],[.v .bool],Wh.Dl,Wh.PA⟩
def C_q138:Cx:=⟨en,[Af.entry],false,Gl⟩
def X6:LT:=[]
theorem e_q138:EV C_q138 X6 Tryz.f151 [.v eA] [.v .bool] Wh.Dl:=by intro xs;kernel_rfl
theorem Y3:CO IZ:=con_ok (Ls:=[]) mixed (e_ _ _) (A3 _ fk) Tryz.func151 (loopsL_nil (by kernel_rfl)) (boxesL_none (by kernel_rfl)) e_q138
theorem WM:FK IZ:=fun _ _ h=>h.cons IZ (by kernel_rfl) Wh.Lt Y3
def IY:iq:=⟨152,[.v gd,.v I6],[.v I6],Wh.ER,Wh.Py⟩
def Rg:Cx:=⟨en,[],false,Gl⟩
def M_:b8:=kS ⟨[(6,.leaf I6),(5,.leaf I6),(1,.leaf I6),(2,.aZ z0 [])],[(z0,false,.var gd (.leaf gd))]⟩ [((.exit 0),⟨[(5,.leaf I6)],[]⟩)] Wh.Ut Wh.Co
def SZ:LT:=[(3,M_)]
theorem abp:∀x,round Rg SZ (jo Tryz.f152 0) M_ x=Wh.Co x:=by intro x;kernel_rfl
theorem e_q137:EV Rg SZ Tryz.f152 [.v gd,.v I6] [.v I6] Wh.ER:=by intro xs;kernel_rfl
theorem Y2:CO IY:=con_ok (Ls:=[M_]) mixed (e_ _ _) fk Tryz.func152 (loopsL_cons (by kernel_rfl) (loopD_ok abp) (loopsL_nil (by kernel_rfl))) (boxesL_none (by kernel_rfl)) e_q137
theorem WL:FK IY:=fun _ _ h=>h.cons IY (by kernel_rfl) Wh.F1 Y2
def IJ:iq:=⟨63,[.v gd],[.v .bool],Wh.Dd,Wh.O2⟩
def Io:Cx:=⟨en,[IY.entry,IZ.entry,Af.entry],false,Gl⟩
def M5:b8:=kS ⟨[(1,.aZ z0 []),(3,.leaf I6)],[(z0,false,.var gd (.leaf gd))]⟩ [(.ret,⟨[(2,.leaf .bool)],[]⟩),((.exit 0),⟨[(1,.aZ z0 [])],[(z0,false,.var gd (.leaf gd))]⟩)] Wh.T7 Wh.BE
def M6:b8:=kS ⟨[(4,.leaf I6),(1,.aZ z0 []),(3,.leaf I6)],[(z0,false,.var gd (.leaf gd))]⟩ [(.ret,⟨[(2,.leaf .bool)],[]⟩),((.exit 2),⟨[(1,.aZ z0 []),(3,.leaf I6)],[(z0,false,.var gd (.leaf gd))]⟩)] Wh.T8 Wh.As
def M7:b8:=kS ⟨[(5,.leaf I6),(1,.aZ z0 [])],[(z0,false,.var gd (.leaf gd))]⟩ [(.ret,⟨[(2,.leaf .bool)],[]⟩),((.exit 4),⟨[],[]⟩)] Wh.T9 Wh.BF
def KZ:LT:=[(4,M5),(9,M6),(14,M7)]
theorem abk:∀x,round Io KZ (jo Tryz.f63 0) M5 x=Wh.BE x:=by intro x;kernel_rfl
theorem abl:∀x,round Io KZ (jo Tryz.f63 1) M6 x=Wh.As x:=by intro x;kernel_rfl
theorem abm:∀x,round Io KZ (jo Tryz.f63 2) M7 x=Wh.BF x:=by intro x;kernel_rfl
theorem e_q115:EV Io KZ Tryz.f63 [.v gd] [.v .bool] Wh.Dd:=by intro xs;kernel_rfl
theorem YG:CO IJ:=con_ok (Ls:=[M5,M6,M7]) mixed (e_ _ _) (WL _ (WM _ (A3 _ fk))) Tryz.func63 (loopsL_cons (by kernel_rfl) (loopD_ok abk) (loopsL_cons (by kernel_rfl) (loopD_ok abl) (loopsL_cons (by kernel_rfl) (loopD_ok abm) (loopsL_nil (by kernel_rfl))))) (boxesL_none (by kernel_rfl)) e_q115
theorem Wy:FK IJ:=fun _ _ h=>h.cons IJ (by kernel_rfl) Wh.T_ YG
def GI:iq:=⟨65,[.v bx,.v I6],[.v an,.v .bool],Wh.q44,Wh.LG⟩
def C_q44:Cx:=⟨en,[],false,Gl⟩
def Nv:b8:=kS ⟨[(4,.aZ z0 []),(6,.leaf I6),(2,.aZ z1 []),(1,.leaf I6)],[(z0,false,.var an (.pair (.leaf I6) (.pair (.leaf .str) (.pair (.leaf I6) (.pair (.leaf .str) (.leaf .unit)))))),(z1,false,.var bx (.leaf bx))]⟩ [(.ret,⟨[(4,.aZ z0 []),(5,.leaf .bool)],[(z0,false,.var an (.leaf an))]⟩),((.exit 0),⟨[(4,.aZ z0 [])],[(z0,false,.var an (.pair (.leaf I6) (.pair (.leaf .str) (.pair (.leaf I6) (.pair (.leaf .str) (.leaf .unit))))))]⟩)] Wh.UU Wh.CE
def Th:LT:=[(2,Nv)]
theorem abK:∀x,round C_q44 Th (jo Tryz.f65 0) Nv x=Wh.CE x:=by intro x;kernel_rfl
theorem e_q44:EV C_q44 Th Tryz.f65 [.v bx,.v I6] [.v an,.v .bool] Wh.q44:=by intro xs;kernel_rfl
theorem ok_q44:CO GI:=con_ok (Ls:=[Nv]) mixed (e_ _ _) fk Tryz.func65 (loopsL_cons (by kernel_rfl) (loopD_ok abK) (loopsL_nil (by kernel_rfl))) (boxesL_none (by kernel_rfl)) e_q44
theorem RY:FK GI:=fun _ _ h=>h.cons GI (by kernel_rfl) Wh.DD ok_q44
def JY:iq:=⟨138,[.v I6],[.v I6],Wh.q70,Wh.q70'⟩
def C_q70:Cx:=⟨en,[],false,Gl⟩
def lt_q70:LT:=[]
theorem e_q70:EV C_q70 lt_q70 Tryz.f138 [.v I6] [.v I6] Wh.q70:=by intro xs;kernel_rfl
theorem ok_q70:CO JY:=con_ok (Ls:=[]) mixed (e_ _ _) fk Tryz.func138 (loopsL_nil (by kernel_rfl)) (boxesL_none (by kernel_rfl)) e_q70
theorem fk_q70:FK JY:=fun _ _ h=>h.cons JY (by kernel_rfl) Wh.Qv ok_q70
def Jz:iq:=⟨64,[.v ct],[.v .bool],Wh.q43,Wh.q43'⟩
def C_q43:Cx:=⟨en,[JY.entry,GI.entry,Af.entry],false,Gl⟩
def Nb:b8:=kS ⟨[(3,.leaf I6),(1,.aZ z0 [])],[(z0,false,.var ct (.leaf ct))]⟩ [(.ret,⟨[(2,.leaf .bool)],[]⟩),((.exit 0),⟨[],[]⟩)] Wh.UT Wh.BL
def Tg:LT:=[(2,Nb)]
theorem abr:∀x,round C_q43 Tg (jo Tryz.f64 0) Nb x=Wh.BL x:=by intro x;kernel_rfl
theorem e_q43:EV C_q43 Tg Tryz.f64 [.v ct] [.v .bool] Wh.q43:=by intro xs;kernel_rfl
theorem ok_q43:CO Jz:=con_ok (Ls:=[Nb]) mixed (e_ _ _) (fk_q70 _ (RY _ (A3 _ fk))) Tryz.func64 (loopsL_cons (by kernel_rfl) (loopD_ok abr) (loopsL_nil (by kernel_rfl))) (boxesL_none (by kernel_rfl)) e_q43
theorem fk_q43:FK Jz:=fun _ _ h=>h.cons Jz (by kernel_rfl) Wh.q43_v ok_q43
def GO:iq:=⟨66,[.v yA],[.v I6],Wh.BR,Wh.F9⟩
def C_q99:Cx:=⟨en,[],false,Gl⟩
def lt_q99:LT:=[]
theorem e_q99:EV C_q99 lt_q99 Tryz.f66 [.v yA] [.v I6] Wh.BR:=by intro xs;kernel_rfl
theorem ok_q99:CO GO:=con_ok (Ls:=[]) mixed (e_ _ _) fk Tryz.func66 (loopsL_nil (by kernel_rfl)) (boxesL_none (by kernel_rfl)) e_q99
theorem R4:FK GO:=fun _ _ h=>h.cons GO (by kernel_rfl) Wh.CL ok_q99
def I7:iq:=⟨67,[.v I6],[.v (.pair I6 (.pair I6 (.pair (.own I6) (.pair (.own I6) .unit))))],Wh.Dq,Wh.Ht⟩
def Ri:Cx:=⟨en,[GO.entry],false,Gl⟩
def Np:b8:=kS ⟨[(3,.aZ z0 []),(2,.aZ z1 [])],[(z0,false,.var yA (.pair (.leaf I6) (.pair (.leaf I6) (.pair (.whole z2 I6) (.pair (.whole z3 I6) (.leaf .unit)))))),(z1,false,.var yA (.pair (.leaf I6) (.pair (.leaf I6) (.pair (.whole 500000004 I6) (.pair (.whole 500000005 I6) (.leaf .unit)))))),(z2,false,.rows I6),(z3,false,.rows I6),(500000004,false,.rows I6),(500000005,false,.rows I6)]⟩ [((.exit 0),⟨[(2,.aZ z0 []),(3,.aZ z1 [])],[(z0,false,.var yA (.pair (.leaf I6) (.pair (.leaf I6) (.pair (.whole z2 I6) (.pair (.whole z3 I6) (.leaf .unit)))))),(z1,false,.var yA (.pair (.leaf I6) (.pair (.leaf I6) (.pair (.whole 500000004 I6) (.pair (.whole 500000005 I6) (.leaf .unit)))))),(z2,false,.rows I6),(z3,false,.rows I6),(500000004,false,.rows I6),(500000005,false,.rows I6)]⟩)] Wh.Uy Wh.Cp
def S1:LT:=[(2,Np)]
theorem abE:∀x,round Ri S1 (jo Tryz.f67 0) Np x=Wh.Cp x:=by intro x;kernel_rfl
theorem e_q142:EV Ri S1 Tryz.f67 [.v I6] [.v (.pair I6 (.pair I6 (.pair (.own I6) (.pair (.own I6) .unit))))] Wh.Dq:=by intro xs;kernel_rfl
theorem Y7:CO I7:=con_ok (Ls:=[Np]) mixed (e_ _ _) (R4 _ fk) Tryz.func67 (loopsL_cons (by kernel_rfl) (loopD_ok abE) (loopsL_nil (by kernel_rfl))) (boxesL_none (by kernel_rfl)) e_q142
theorem WQ:FK I7:=fun _ _ h=>h.cons I7 (by kernel_rfl) Wh.Lw Y7
def JV:iq:=⟨68,[.v fN],[.v .bool],Wh.q68,Wh.q68'⟩
def C_q68:Cx:=⟨en,[Af.entry],false,Gl⟩
def lt_q68:LT:=[]
theorem e_q68:EV C_q68 lt_q68 Tryz.f68 [.v fN] [.v .bool] Wh.q68:=by intro xs;kernel_rfl
theorem ok_q68:CO JV:=con_ok (Ls:=[]) mixed (e_ _ _) (A3 _ fk) Tryz.func68 (loopsL_nil (by kernel_rfl)) (boxesL_none (by kernel_rfl)) e_q68
theorem fk_q68:FK JV:=fun _ _ h=>h.cons JV (by kernel_rfl) Wh.q68_v ok_q68
def JW:iq:=⟨15,[.v ct],[.v .bool],Wh.q69,Wh.q69'⟩
def Mb:Cx:=⟨en,[JV.entry,GO.entry,I7.entry,GI.entry,Jz.entry,IJ.entry,Kk.entry,Gy.entry,D4.entry,Kl.entry,Af.entry],false,Gl⟩
def M8:b8:=kS ⟨[(7,.leaf I6),(1,.aZ z0 [])],[(z0,false,.var ct (.leaf ct))]⟩ [(.ret,⟨[(2,.leaf .bool)],[]⟩),((.exit 0),⟨[(1,.aZ z0 [])],[(z0,false,.var ct (.leaf ct))]⟩)] Wh.Va Wh.AH
def M9:b8:=kS ⟨[(10,.leaf I6),(1,.aZ z0 [])],[(z0,false,.var ct (.leaf ct))]⟩ [(.ret,⟨[(2,.leaf .bool)],[]⟩),((.exit 2),⟨[],[]⟩)] Wh.Vb Wh.CG
def Om:LT:=[(10,M8),(16,M9)]
theorem abn:∀x,round Mb Om (jo Tryz.f15 0) M8 x=Wh.AH x:=by intro x;kernel_rfl
theorem abo:∀x,round Mb Om (jo Tryz.f15 1) M9 x=Wh.CG x:=by intro x;kernel_rfl
theorem e_q69:EV Mb Om Tryz.f15 [.v ct] [.v .bool] Wh.q69:=by intro xs;kernel_rfl
theorem ok_q69:CO JW:=con_ok (Ls:=[M8,M9]) mixed (e_ _ _) (fk_q68 _ (R4 _ (WQ _ (RY _ (fk_q43 _ (Wy _ (fk_q94 _ (RO _ (KF _ (fk_q95 _ (A3 _ fk))))))))))) Tryz.func15 (loopsL_cons (by kernel_rfl) (loopD_ok abn) (loopsL_cons (by kernel_rfl) (loopD_ok abo) (loopsL_nil (by kernel_rfl)))) (boxesL_none (by kernel_rfl)) e_q69
theorem fk_q69:FK JW:=fun _ _ h=>h.cons JW (by kernel_rfl) Wh.Qu ok_q69
def Av:iq:=⟨73,[.v I6,.v I6,.v I6],[.v .bool],Wh.yc,Wh.yK⟩
def C_q105:Cx:=⟨en,[],false,Gl⟩
def XJ:LT:=[]
theorem e_q105:EV C_q105 XJ Tryz.f73 [.v I6,.v I6,.v I6] [.v .bool] Wh.yc:=by intro xs;kernel_rfl
theorem Yw:CO Av:=con_ok (Ls:=[]) mixed (e_ _ _) fk Tryz.func73 (loopsL_nil (by kernel_rfl)) (boxesL_none (by kernel_rfl)) e_q105
theorem Bl:FK Av:=fun _ _ h=>h.cons Av (by kernel_rfl) Wh.zo Yw
def Iy:iq:=⟨389,[.v I3,.v I6],[.v I3],Wh.z8,Wh.AD⟩
def C_q104:Cx:=⟨en,[],false,Gl⟩
def XI:LT:=[]
theorem e_q104:EV C_q104 XI Tryz.f389 [.v I3,.v I6] [.v I3] Wh.z8:=by intro xs;kernel_rfl
theorem Yv:CO Iy:=con_ok (Ls:=[]) mixed (e_ _ _) fk Tryz.func389 (loopsL_nil (by kernel_rfl)) (boxesL_none (by kernel_rfl)) e_q104
theorem Wo:FK Iy:=fun _ _ h=>h.cons Iy (by kernel_rfl) Wh.q104_v Yv
def JG:iq:=⟨334,[.v .str],[.v .str],Wh.q53,Wh.q53'⟩
def CV:Cx:=⟨en,[Iy.entry],false,Gl⟩
def Ms:b8:=kS ⟨[(4,.whole z0 I8),(3,.aZ z1 []),(0,.leaf .str)],[(z0,false,.rows I8),(z1,false,.var (.arr 8 I3) (.leaf (.arr 8 I3)))]⟩ [((.exit 0),⟨[(4,.whole z0 I8),(3,.aZ z1 []),(0,.leaf .str)],[(z0,false,.rows I8),(z1,false,.var (.arr 8 I3) (.leaf (.arr 8 I3)))]⟩)] Wh.UZ Wh.DF
def Mt:b8:=kS ⟨[(6,.leaf I6),(5,.leaf (.int .u64)),(4,.whole z0 I8),(3,.aZ z1 [])],[(z0,false,.rows I8),(z1,false,.var (.arr 8 I3) (.leaf (.arr 8 I3)))]⟩ [((.exit 2),⟨[(4,.whole z0 I8),(3,.aZ z1 [])],[(z0,false,.rows I8),(z1,false,.var (.arr 8 I3) (.leaf (.arr 8 I3)))]⟩)] Wh.U0 Wh.EY
def Mu:b8:=kS ⟨[(4,.piece z0 I8),(3,.aZ z1 [])],[(z0,false,.rows I8),(z1,false,.var (.arr 8 I3) (.leaf (.arr 8 I3)))]⟩ [((.exit 4),⟨[(3,.aZ z0 [])],[(z0,false,.var (.arr 8 I3) (.leaf (.arr 8 I3)))]⟩)] Wh.U1 Wh.DG
def Mv:b8:=kS ⟨[(54,.leaf I6),(7,.aZ z0 []),(4,.piece z1 I8),(3,.aZ z2 [])],[(z0,false,.var (.arr 64 I3) (.leaf (.arr 64 I3))),(z1,false,.rows I8),(z2,false,.var (.arr 8 I3) (.leaf (.arr 8 I3)))]⟩ [((.exit 6),⟨[(7,.aZ z0 []),(3,.aZ z1 []),(4,.piece z2 I8)],[(z0,false,.var (.arr 64 I3) (.leaf (.arr 64 I3))),(z1,false,.var (.arr 8 I3) (.leaf (.arr 8 I3))),(z2,false,.rows I8)]⟩)] Wh.U2 Wh.DH
def Mw:b8:=kS ⟨[(133,.leaf I6),(11,.aZ z0 []),(7,.aZ z1 []),(3,.aZ z2 []),(4,.piece z3 I8)],[(z0,false,.var (.arr 8 I3) (.leaf (.arr 8 I3))),(z1,false,.var (.arr 64 I3) (.leaf (.arr 64 I3))),(z2,false,.var (.arr 8 I3) (.leaf (.arr 8 I3))),(z3,false,.rows I8)]⟩ [((.exit 8),⟨[(3,.aZ z0 []),(11,.aZ z1 []),(4,.piece z2 I8)],[(z0,false,.var (.arr 8 I3) (.leaf (.arr 8 I3))),(z1,false,.var (.arr 8 I3) (.leaf (.arr 8 I3))),(z2,false,.rows I8)]⟩)] Wh.U3 Wh.EZ
def Mx:b8:=kS ⟨[(213,.leaf I6),(3,.aZ z0 []),(11,.aZ z1 []),(4,.piece z2 I8)],[(z0,false,.var (.arr 8 I3) (.leaf (.arr 8 I3))),(z1,false,.var (.arr 8 I3) (.leaf (.arr 8 I3))),(z2,false,.rows I8)]⟩ [((.exit 10),⟨[(3,.aZ z0 []),(4,.piece z1 I8)],[(z0,false,.var (.arr 8 I3) (.leaf (.arr 8 I3))),(z1,false,.rows I8)]⟩)] Wh.U4 Wh.Hx
def My:b8:=kS ⟨[(227,.leaf I6),(18,.whole z0 I8),(226,.leaf (.arr 8 I3))],[(z0,false,.rows I8)]⟩ [((.exit 12),⟨[(18,.whole z0 I8)],[(z0,false,.rows I8)]⟩)] Wh.U5 Wh.Hy
def C9:LT:=[(3,Ms),(7,Mt),(10,Mu),(14,Mv),(23,Mw),(31,Mx),(37,My)]
theorem aaL:∀x,round CV C9 (jo Tryz.f334 0) Ms x=Wh.DF x:=by intro x;kernel_rfl
theorem aaM:∀x,round CV C9 (jo Tryz.f334 1) Mt x=Wh.EY x:=by intro x;kernel_rfl
theorem aaN:∀x,round CV C9 (jo Tryz.f334 2) Mu x=Wh.DG x:=by intro x;kernel_rfl
theorem aaO:∀x,round CV C9 (jo Tryz.f334 3) Mv x=Wh.DH x:=by intro x;kernel_rfl
theorem aaP:∀x,round CV C9 (jo Tryz.f334 4) Mw x=Wh.EZ x:=by intro x;kernel_rfl
theorem aaQ:∀x,round CV C9 (jo Tryz.f334 5) Mx x=Wh.Hx x:=by intro x;kernel_rfl
theorem aaR:∀x,round CV C9 (jo Tryz.f334 6) My x=Wh.Hy x:=by intro x;kernel_rfl
theorem e_q53:EV CV C9 Tryz.f334 [.v .str] [.v .str] Wh.q53:=by intro xs;kernel_rfl
theorem ok_q53:CO JG:=con_ok (Ls:=[Ms,Mt,Mu,Mv,Mw,Mx,My]) mixed (e_ _ _) (Wo _ fk) Tryz.func334 (loopsL_cons (by kernel_rfl) (loopD_ok aaL) (loopsL_cons (by kernel_rfl) (loopD_ok aaM) (loopsL_cons (by kernel_rfl) (loopD_ok aaN) (loopsL_cons (by kernel_rfl) (loopD_ok aaO) (loopsL_cons (by kernel_rfl) (loopD_ok aaP) (loopsL_cons (by kernel_rfl) (loopD_ok aaQ) (loopsL_cons (by kernel_rfl) (loopD_ok aaR) (loopsL_nil (by kernel_rfl))))))))) (boxesL_none (by kernel_rfl)) e_q53
theorem fk_q53:FK JG:=fun _ _ h=>h.cons JG (by kernel_rfl) Wh.q53_v ok_q53
def IT:iq:=⟨333,[.v .str],[.v .str],Wh.FZ,Wh.Pk⟩
def Re:Cx:=⟨en,[],false,Gl⟩
def Mq:b8:=kS ⟨[(4,.leaf I6),(0,.leaf .str),(3,.whole z0 I8)],[(z0,false,.rows I8)]⟩ [((.exit 0),⟨[(3,.whole z0 I8)],[(z0,false,.rows I8)]⟩)] Wh.Uj Wh.Ln
def SX:LT:=[(3,Mq)]
theorem aaJ:∀x,round Re SX (jo Tryz.f333 0) Mq x=Wh.Ln x:=by intro x;kernel_rfl
theorem e_q129:EV Re SX Tryz.f333 [.v .str] [.v .str] Wh.FZ:=by intro xs;kernel_rfl
theorem YU:CO IT:=con_ok (Ls:=[Mq]) mixed (e_ _ _) fk Tryz.func333 (loopsL_cons (by kernel_rfl) (loopD_ok aaJ) (loopsL_nil (by kernel_rfl))) (boxesL_none (by kernel_rfl)) e_q129
theorem WG:FK IT:=fun _ _ h=>h.cons IT (by kernel_rfl) Wh.Uk YU
def J1:iq:=⟨263,[.v .str],[.v .str],Wh.q74,Wh.DM⟩
def C_q74:Cx:=⟨en,[IT.entry,JG.entry],false,Gl⟩
def lt_q74:LT:=[]
theorem e_q74:EV C_q74 lt_q74 Tryz.f263 [.v .str] [.v .str] Wh.q74:=by intro xs;kernel_rfl
theorem ok_q74:CO J1:=con_ok (Ls:=[]) mixed (e_ _ _) (WG _ (fk_q53 _ fk)) Tryz.func263 (loopsL_nil (by kernel_rfl)) (boxesL_none (by kernel_rfl)) e_q74
theorem fk_q74:FK J1:=fun _ _ h=>h.cons J1 (by kernel_rfl) Wh.q74_v ok_q74
def GN:iq:=⟨159,[.v I6,.v .str],[.v .str],Wh.q79,Wh.HB⟩
def C_q79:Cx:=⟨en,[J1.entry,Fv.entry],false,Gl⟩
def lt_q79:LT:=[]
theorem e_q79:EV C_q79 lt_q79 Tryz.f159 [.v I6,.v .str] [.v .str] Wh.q79:=by intro xs;kernel_rfl
theorem ok_q79:CO GN:=con_ok (Ls:=[]) mixed (e_ _ _) (fk_q74 _ (NO _ fk)) Tryz.func159 (loopsL_nil (by kernel_rfl)) (boxesL_none (by kernel_rfl)) e_q79
theorem R3:FK GN:=fun _ _ h=>h.cons GN (by kernel_rfl) Wh.LL ok_q79
def JN:iq:=⟨243,[.v .str,.v .str],[.v .bool],Wh.q6,Wh.q6'⟩
def C_q6:Cx:=⟨en,[],false,Gl⟩
def lt_q6:LT:=[]
theorem e_q6:EV C_q6 lt_q6 Tryz.f243 [.v .str,.v .str] [.v .bool] Wh.q6:=by intro xs;kernel_rfl
theorem ok_q6:CO JN:=con_ok (Ls:=[]) mixed (e_ _ _) fk Tryz.func243 (loopsL_nil (by kernel_rfl)) (boxesL_none (by kernel_rfl)) e_q6
theorem fk_q6:FK JN:=fun _ _ h=>h.cons JN (by kernel_rfl) Wh.q6_v ok_q6
def ID:iq:=⟨140,[.v .str,.v .str],[.v .bool],Wh.q11,Wh.q11'⟩
def C_q11:Cx:=⟨en,[JN.entry],false,Gl⟩
def lt_q11:LT:=[]
theorem e_q11:EV C_q11 lt_q11 Tryz.f140 [.v .str,.v .str] [.v .bool] Wh.q11:=by intro xs;kernel_rfl
theorem ok_q11:CO ID:=con_ok (Ls:=[]) mixed (e_ _ _) (fk_q6 _ fk) Tryz.func140 (loopsL_nil (by kernel_rfl)) (boxesL_none (by kernel_rfl)) e_q11
theorem fk_q11:FK ID:=fun _ _ h=>h.cons ID (by kernel_rfl) Wh.Pa ok_q11
def GM:iq:=⟨74,[.v .str],[.v (.own .str),.v I6],Wh.CH,Wh.LK⟩
def C_q75:Cx:=⟨en,[ID.entry,GN.entry,Av.entry,Fv.entry,Gn.entry,GP.entry],false,Gl⟩
def Mh:b8:=kS ⟨[(5,.leaf I6),(4,.whole z0 .str),(0,.leaf .str)],[(z0,false,.rows .str)]⟩ [(.ret,⟨[(2,.whole z0 .str),(3,.leaf I6)],[(z0,false,.rows .str)]⟩)] Wh.Ve Wh.BQ
def To:LT:=[(3,Mh)]
theorem aaA:∀x,round C_q75 To (jo Tryz.f74 0) Mh x=Wh.BQ x:=by intro x;kernel_rfl
theorem e_q75:EV C_q75 To Tryz.f74 [.v .str] [.v (.own .str),.v I6] Wh.CH:=by intro xs;kernel_rfl
theorem ok_q75:CO GM:=con_ok (Ls:=[Mh]) mixed (e_ _ _) (fk_q11 _ (R3 _ (Bl _ (NO _ (RD _ (R5 _ fk)))))) Tryz.func74 (loopsL_cons (by kernel_rfl) (loopD_ok aaA) (loopsL_nil (by kernel_rfl))) (boxesL_none (by kernel_rfl)) e_q75
theorem R2:FK GM:=fun _ _ h=>h.cons GM (by kernel_rfl) Wh.QA ok_q75
def Fs:iq:=⟨233,[.v I6],[.v .bool],Wh.AE,Wh.Hr⟩
def C_q130:Cx:=⟨en,[Av.entry],false,Gl⟩
def X1:LT:=[]
theorem e_q130:EV C_q130 X1 Tryz.f233 [.v I6] [.v .bool] Wh.AE:=by intro xs;kernel_rfl
theorem YV:CO Fs:=con_ok (Ls:=[]) mixed (e_ _ _) (Bl _ fk) Tryz.func233 (loopsL_nil (by kernel_rfl)) (boxesL_none (by kernel_rfl)) e_q130
theorem NL:FK Fs:=fun _ _ h=>h.cons Fs (by kernel_rfl) Wh.Lp YV
def Gq:iq:=⟨213,[.v .str],[.v .bool],Wh.Db,Wh.Lf⟩
def Q8:Cx:=⟨en,[Av.entry],false,Gl⟩
def Mi:b8:=kS ⟨[(6,.leaf I6),(0,.leaf .str),(5,.leaf I6)],[]⟩ [(.ret,⟨[(2,.leaf .bool)],[]⟩),((.exit 0),⟨[(0,.leaf .str)],[]⟩)] Wh.TT Wh.Cf
def SO:LT:=[(2,Mi)]
theorem aaB:∀x,round Q8 SO (jo Tryz.f213 0) Mi x=Wh.Cf x:=by intro x;kernel_rfl
theorem e_q102:EV Q8 SO Tryz.f213 [.v .str] [.v .bool] Wh.Db:=by intro xs;kernel_rfl
theorem Yt:CO Gq:=con_ok (Ls:=[Mi]) mixed (e_ _ _) (Bl _ fk) Tryz.func213 (loopsL_cons (by kernel_rfl) (loopD_ok aaB) (loopsL_nil (by kernel_rfl))) (boxesL_none (by kernel_rfl)) e_q102
theorem RF:FK Gq:=fun _ _ h=>h.cons Gq (by kernel_rfl) Wh.OK Yt
def GF:iq:=⟨192,[.v I6,.v .str,.v .str],[.v .str],Wh.q29,Wh.LA⟩
def C_q29:Cx:=⟨en,[Fv.entry,Gq.entry,Fs.entry],false,Gl⟩
def lt_q29:LT:=[]
theorem e_q29:EV C_q29 lt_q29 Tryz.f192 [.v I6,.v .str,.v .str] [.v .str] Wh.q29:=by intro xs;kernel_rfl
theorem ok_q29:CO GF:=con_ok (Ls:=[]) mixed (e_ _ _) (NO _ (RF _ (NL _ fk))) Tryz.func192 (loopsL_nil (by kernel_rfl)) (boxesL_none (by kernel_rfl)) e_q29
theorem RU:FK GF:=fun _ _ h=>h.cons GF (by kernel_rfl) Wh.LB ok_q29
def Fu:iq:=⟨267,[.v bx],[.v (.pair I6 (.pair (.own an) .unit))],Wh.BN,Wh.F5⟩
def C_q51:Cx:=⟨en,[],false,Gl⟩
def lt_q51:LT:=[]
theorem e_q51:EV C_q51 lt_q51 Tryz.f267 [.v bx] [.v (.pair I6 (.pair (.own an) .unit))] Wh.BN:=by intro xs;kernel_rfl
theorem ok_q51:CO Fu:=con_ok (Ls:=[]) mixed (e_ _ _) fk Tryz.func267 (loopsL_nil (by kernel_rfl)) (boxesL_none (by kernel_rfl)) e_q51
theorem NN:FK Fu:=fun _ _ h=>h.cons Fu (by kernel_rfl) Wh.DE ok_q51
def Jd:iq:=⟨276,[.v an,.v (.ref I6),.v (.ref .str)],[.v .bool],Wh.q19,Wh.q19'⟩
def C_q19:Cx:=⟨en,[],false,Gl⟩
def lt_q19:LT:=[]
theorem e_q19:EV C_q19 lt_q19 Tryz.f276 [.v an,.v (.ref I6),.v (.ref .str)] [.v .bool] Wh.q19:=by intro xs;kernel_rfl
theorem ok_q19:CO Jd:=con_ok (Ls:=[]) mixed (e_ _ _) fk Tryz.func276 (loopsL_nil (by kernel_rfl)) (boxesL_none (by kernel_rfl)) e_q19
theorem fk_q19:FK Jd:=fun _ _ h=>h.cons Jd (by kernel_rfl) Wh.PR ok_q19
def Jm:iq:=⟨165,[.v (.lst an),.f 276 (.pair (.ref I6) (.pair (.ref .str) .unit))],[.v I6],Wh.q3,Wh.q3'⟩
def C_q3:Cx:=⟨en,[Jd.entry],false,Gl⟩
def MU:b8:=kS ⟨[(8,.leaf I6),(0,.leaf (.lst an)),(1,.fn 276 (.bB (.leaf (.ref I6)) (.bB (.leaf (.ref .str)) (.b7)))),(7,.leaf I6)],[]⟩ [(.ret,⟨[(4,.leaf I6)],[]⟩),((.exit 0),⟨[],[]⟩)] Wh.UR Wh.CC
def lt_q3:LT:=[(2,MU)]
theorem abb:∀x,round C_q3 lt_q3 (jo Tryz.f165 0) MU x=Wh.CC x:=by intro x;kernel_rfl
theorem e_q3:EV C_q3 lt_q3 Tryz.f165 [.v (.lst an),.f 276 (.pair (.ref I6) (.pair (.ref .str) .unit))] [.v I6] Wh.q3:=by intro xs;kernel_rfl
theorem ok_q3:CO Jm:=con_ok (Ls:=[MU]) mixed (e_ _ _) (fk_q19 _ fk) Tryz.func165 (loopsL_cons (by kernel_rfl) (loopD_ok abb) (loopsL_nil (by kernel_rfl))) (boxesL_none (by kernel_rfl)) e_q3
theorem fk_q3:FK Jm:=fun _ _ h=>h.cons Jm (by kernel_rfl) Wh.q3_v ok_q3
def GJ:iq:=⟨193,[.v bx,.v I6,.v .str],[.v I6],Wh.Be,Wh.LI⟩
def C_q47:Cx:=⟨en,[Jm.entry],false,Gl⟩
def lt_q47:LT:=[]
theorem e_q47:EV C_q47 lt_q47 Tryz.f193 [.v bx,.v I6,.v .str] [.v I6] Wh.Be:=by intro xs;kernel_rfl
theorem ok_q47:CO GJ:=con_ok (Ls:=[]) mixed (e_ _ _) (fk_q3 _ fk) Tryz.func193 (loopsL_nil (by kernel_rfl)) (boxesL_none (by kernel_rfl)) e_q47
theorem RZ:FK GJ:=fun _ _ h=>h.cons GJ (by kernel_rfl) Wh.Hw ok_q47
def Kf:iq:=⟨277,[.k (.own an),.v I6,.v I6],[.v (.own an)],Wh.E7,Wh.q9'⟩
def C_q9:Cx:=⟨en,[],false,Gl⟩
def lt_q9:LT:=[]
theorem e_q9:EV C_q9 lt_q9 Tryz.f277 [.k (.own an),.v I6,.v I6] [.v (.own an)] Wh.E7:=by intro xs;kernel_rfl
theorem ok_q9:CO Kf:=con_ok (Ls:=[]) mixed (e_ _ _) fk Tryz.func277 (loopsL_nil (by kernel_rfl)) (boxesL_none (by kernel_rfl)) e_q9
theorem fk_q9:FK Kf:=fun _ _ h=>h.cons Kf (by kernel_rfl) Wh.q9_v ok_q9
def JC:iq:=⟨194,[.v bx,.v I6,.v .str],[.v (.pair I6 (.pair (.own an) .unit)),.v I6],Wh.q48,Wh.q48'⟩
def C_q48:Cx:=⟨en,[Kf.entry,GJ.entry,Fu.entry],false,Gl⟩
def lt_q48:LT:=[]
theorem e_q48:EV C_q48 lt_q48 Tryz.f194 [.v bx,.v I6,.v .str] [.v (.pair I6 (.pair (.own an) .unit)),.v I6] Wh.q48:=by intro xs;kernel_rfl
theorem ok_q48:CO JC:=con_ok (Ls:=[]) mixed (e_ _ _) (fk_q9 _ (RZ _ (NN _ fk))) Tryz.func194 (loopsL_nil (by kernel_rfl)) (boxesL_none (by kernel_rfl)) e_q48
theorem fk_q48:FK JC:=fun _ _ h=>h.cons JC (by kernel_rfl) Wh.q48_v ok_q48
def I_:iq:=⟨130,[.v I6,.v .str,.v .str],[.v .bool],Wh.q15,Wh.q15'⟩
def C_q15:Cx:=⟨en,[Av.entry,Gq.entry,Fs.entry],false,Gl⟩
def lt_q15:LT:=[]
theorem e_q15:EV C_q15 lt_q15 Tryz.f130 [.v I6,.v .str,.v .str] [.v .bool] Wh.q15:=by intro xs;kernel_rfl
theorem ok_q15:CO I_:=con_ok (Ls:=[]) mixed (e_ _ _) (Bl _ (RF _ (NL _ fk))) Tryz.func130 (loopsL_nil (by kernel_rfl)) (boxesL_none (by kernel_rfl)) e_q15
theorem fk_q15:FK I_:=fun _ _ h=>h.cons I_ (by kernel_rfl) Wh.Ly ok_q15
def Jo:iq:=⟨273,[.v bx,.v I6],[.v I6],Wh.q31,Wh.q31'⟩
def C_q31:Cx:=⟨en,[],false,Gl⟩
def Mg:b8:=kS ⟨[(11,.leaf I6),(5,.leaf I6),(1,.leaf I6),(9,.leaf (.lst an)),(10,.leaf I6)],[]⟩ [((.exit 0),⟨[(5,.leaf I6)],[]⟩)] Wh.UM Wh.Cz
def Ta:LT:=[(3,Mg)]
theorem aaz:∀x,round C_q31 Ta (jo Tryz.f273 0) Mg x=Wh.Cz x:=by intro x;kernel_rfl
theorem e_q31:EV C_q31 Ta Tryz.f273 [.v bx,.v I6] [.v I6] Wh.q31:=by intro xs;kernel_rfl
theorem ok_q31:CO Jo:=con_ok (Ls:=[Mg]) mixed (e_ _ _) fk Tryz.func273 (loopsL_cons (by kernel_rfl) (loopD_ok aaz) (loopsL_nil (by kernel_rfl))) (boxesL_none (by kernel_rfl)) e_q31
theorem fk_q31:FK Jo:=fun _ _ h=>h.cons Jo (by kernel_rfl) Wh.q31_v ok_q31
def JA:iq:=⟨398,[.v I6],[.v .bool],Wh.q45,Wh.LH⟩
def C_q45:Cx:=⟨en,[],false,Gl⟩
def lt_q45:LT:=[]
theorem e_q45:EV C_q45 lt_q45 Tryz.f398 [.v I6] [.v .bool] Wh.q45:=by intro xs;kernel_rfl
theorem ok_q45:CO JA:=con_ok (Ls:=[]) mixed (e_ _ _) fk Tryz.func398 (loopsL_nil (by kernel_rfl)) (boxesL_none (by kernel_rfl)) e_q45
theorem fk_q45:FK JA:=fun _ _ h=>h.cons JA (by kernel_rfl) Wh.q45_v ok_q45
def Jc:iq:=⟨337,[.v I6,.v I6],[.v I6],Wh.q18,Wh.q18'⟩
def C_q18:Cx:=⟨en,[JA.entry],false,Gl⟩
def lt_q18:LT:=[]
theorem e_q18:EV C_q18 lt_q18 Tryz.f337 [.v I6,.v I6] [.v I6] Wh.q18:=by intro xs;kernel_rfl
theorem ok_q18:CO Jc:=con_ok (Ls:=[]) mixed (e_ _ _) (fk_q45 _ fk) Tryz.func337 (loopsL_nil (by kernel_rfl)) (boxesL_none (by kernel_rfl)) e_q18
theorem fk_q18:FK Jc:=fun _ _ h=>h.cons Jc (by kernel_rfl) Wh.q18_v ok_q18
def IM:iq:=⟨399,[.v .str],[.v .bool],Wh.q12,Wh.Lg⟩
def C_q12:Cx:=⟨en,[],false,Gl⟩
def lt_q12:LT:=[]
theorem e_q12:EV C_q12 lt_q12 Tryz.f399 [.v .str] [.v .bool] Wh.q12:=by intro xs;kernel_rfl
theorem ok_q12:CO IM:=con_ok (Ls:=[]) mixed (e_ _ _) fk Tryz.func399 (loopsL_nil (by kernel_rfl)) (boxesL_none (by kernel_rfl)) e_q12
theorem fk_q12:FK IM:=fun _ _ h=>h.cons IM (by kernel_rfl) Wh.q12_v ok_q12
def JX:iq:=⟨338,[.v .str,.v .str],[.v I6],Wh.q7,Wh.q7'⟩
def C_q7:Cx:=⟨en,[IM.entry],false,Gl⟩
def lt_q7:LT:=[]
theorem e_q7:EV C_q7 lt_q7 Tryz.f338 [.v .str,.v .str] [.v I6] Wh.q7:=by intro xs;kernel_rfl
theorem ok_q7:CO JX:=con_ok (Ls:=[]) mixed (e_ _ _) (fk_q12 _ fk) Tryz.func338 (loopsL_nil (by kernel_rfl)) (boxesL_none (by kernel_rfl)) e_q7
theorem fk_q7:FK JX:=fun _ _ h=>h.cons JX (by kernel_rfl) Wh.q7_v ok_q7
def IQ:iq:=⟨336,[.v (.lst I6)],[.v I6],Wh.EJ,Wh.Pf⟩
def Rc:Cx:=⟨en,[],false,Gl⟩
def Me:b8:=kS ⟨[(8,.leaf I6),(3,.leaf I6),(6,.leaf (.lst I6)),(7,.leaf I6)],[]⟩ [(.ret,⟨[(2,.leaf I6)],[]⟩),((.exit 0),⟨[(3,.leaf I6)],[]⟩)] Wh.Uf Wh.Dg
def SV:LT:=[(3,Me)]
theorem aax:∀x,round Rc SV (jo Tryz.f336 0) Me x=Wh.Dg x:=by intro x;kernel_rfl
theorem e_q127:EV Rc SV Tryz.f336 [.v (.lst I6)] [.v I6] Wh.EJ:=by intro xs;kernel_rfl
theorem YS:CO IQ:=con_ok (Ls:=[Me]) mixed (e_ _ _) fk Tryz.func336 (loopsL_cons (by kernel_rfl) (loopD_ok aax) (loopsL_nil (by kernel_rfl))) (boxesL_none (by kernel_rfl)) e_q127
theorem WD:FK IQ:=fun _ _ h=>h.cons IQ (by kernel_rfl) Wh.Ug YS
def GG:iq:=⟨275,[.v an,.v an],[.v I6],Wh.q35,Wh.q35'⟩
def C_q35:Cx:=⟨en,[IQ.entry,JX.entry,Jc.entry],false,Gl⟩
def lt_q35:LT:=[]
theorem e_q35:EV C_q35 lt_q35 Tryz.f275 [.v an,.v an] [.v I6] Wh.q35:=by intro xs;kernel_rfl
theorem ok_q35:CO GG:=con_ok (Ls:=[]) mixed (e_ _ _) (WD _ (fk_q7 _ (fk_q18 _ fk))) Tryz.func275 (loopsL_nil (by kernel_rfl)) (boxesL_none (by kernel_rfl)) e_q35
theorem RW:FK GG:=fun _ _ h=>h.cons GG (by kernel_rfl) Wh.LC ok_q35
def Is:iq:=⟨390,[.m an,.v I6,.v I6,.f 275 .unit],[],Wh.q0,Wh.q0'⟩
def C_q0:Cx:=⟨en,[GG.entry],false,Gl⟩
def MV:b8:=kS ⟨[(0,.whole 900 an),(8,.leaf I6),(3,.fn 275 (.b7)),(1,.leaf I6),(2,.leaf I6)],[(900,false,.rows an)]⟩ [((.exit 0),⟨[],[(900,false,.rows an)]⟩)] Wh.TP Wh.A_
def MW:b8:=kS ⟨[(9,.leaf I6),(0,.whole 900 an),(3,.fn 275 (.b7)),(1,.leaf I6),(2,.leaf I6),(8,.leaf I6)],[(900,false,.rows an)]⟩ [((.exit 2),⟨[(0,.whole 900 an),(3,.fn 275 (.b7)),(1,.leaf I6),(2,.leaf I6),(8,.leaf I6)],[(900,false,.rows an)]⟩)] Wh.TQ Wh.Bz
def Oi:LT:=[(1,MV),(4,MW)]
theorem abc:∀x,round C_q0 Oi (jo Tryz.f390 0) MV x=Wh.A_ x:=by intro x;kernel_rfl
theorem abd:∀x,round C_q0 Oi (jo Tryz.f390 1) MW x=Wh.Bz x:=by intro x;kernel_rfl
theorem e_q0:EV C_q0 Oi Tryz.f390 [.m an,.v I6,.v I6,.f 275 .unit] [] Wh.q0:=by intro xs;kernel_rfl
theorem ok_q0:CO Is:=con_ok (Ls:=[MV,MW]) mixed (e_ _ _) (RW _ fk) Tryz.func390 (loopsL_cons (by kernel_rfl) (loopD_ok abc) (loopsL_cons (by kernel_rfl) (loopD_ok abd) (loopsL_nil (by kernel_rfl)))) (boxesL_none (by kernel_rfl)) e_q0
theorem fk_q0:FK Is:=fun _ _ h=>h.cons Is (by kernel_rfl) Wh.q0_v ok_q0
def Iu:iq:=⟨335,[.m an,.v I6,.v I6,.v I6,.f 275 .unit],[],Wh.q1,Wh.q1'⟩
def C_q1:Cx:=⟨en,[GG.entry,Is.entry],false,Gl⟩
def MX:b8:=kS ⟨[(4,.fn 275 (.b7)),(2,.leaf I6),(1,.leaf I6),(0,.whole 900 an),(11,.leaf .bool),(10,.leaf .bool),(3,.leaf I6)],[(900,false,.rows an)]⟩ [(.ret,⟨[],[(900,false,.rows an)]⟩)] Wh.UG Wh.F3
def lt_q1:LT:=[(2,MX)]
theorem abe:∀x,round C_q1 lt_q1 (jo Tryz.f335 0) MX x=Wh.F3 x:=by intro x;kernel_rfl
theorem e_q1:EV C_q1 lt_q1 Tryz.f335 [.m an,.v I6,.v I6,.v I6,.f 275 .unit] [] Wh.q1:=by intro xs;kernel_rfl
theorem ok_q1:CO Iu:=con_ok (Ls:=[MX]) mixed (e_ _ _) (RW _ (fk_q0 _ fk)) Tryz.func335 (loopsL_cons (by kernel_rfl) (loopD_ok abe) (loopsL_nil (by kernel_rfl))) (boxesL_none (by kernel_rfl)) e_q1
theorem fk_q1:FK Iu:=fun _ _ h=>h.cons Iu (by kernel_rfl) Wh.q1_v ok_q1
def Jw:iq:=⟨274,[.m an,.f 275 .unit],[],Wh.q4,Wh.q4'⟩
def C_q4:Cx:=⟨en,[Iu.entry,Ir.entry],false,Gl⟩
def lt_q4:LT:=[]
theorem e_q4:EV C_q4 lt_q4 Tryz.f274 [.m an,.f 275 .unit] [] Wh.q4:=by intro xs;kernel_rfl
theorem ok_q4:CO Jw:=con_ok (Ls:=[]) mixed (e_ _ _) (fk_q1 _ (Wl _ fk)) Tryz.func274 (loopsL_nil (by kernel_rfl)) (boxesL_none (by kernel_rfl)) e_q4
theorem fk_q4:FK Jw:=fun _ _ h=>h.cons Jw (by kernel_rfl) Wh.q4_v ok_q4
def GL:iq:=⟨190,[.v bx,.v I6,.v .str,.v .str],[.v (.pair I6 (.pair (.own an) .unit)),.v I6],Wh.BP,Wh.LJ⟩
def C_q73:Cx:=⟨en,[Jw.entry,Jo.entry,GJ.entry,I_.entry,Fu.entry],false,Gl⟩
def lt_q73:LT:=[]
theorem e_q73:EV C_q73 lt_q73 Tryz.f190 [.v bx,.v I6,.v .str,.v .str] [.v (.pair I6 (.pair (.own an) .unit)),.v I6] Wh.BP:=by intro xs;kernel_rfl
theorem ok_q73:CO GL:=con_ok (Ls:=[]) mixed (e_ _ _) (fk_q4 _ (fk_q31 _ (RZ _ (fk_q15 _ (NN _ fk))))) Tryz.func190 (loopsL_nil (by kernel_rfl)) (boxesL_none (by kernel_rfl)) e_q73
theorem R1:FK GL:=fun _ _ h=>h.cons GL (by kernel_rfl) Wh.Qy ok_q73
def Jn:iq:=⟨160,[.v bx,.v .str],[.v (.pair I6 (.pair (.own an) .unit)),.v .bool],Wh.q30,Wh.q30'⟩
def C_q30:Cx:=⟨en,[GL.entry,JC.entry,GF.entry,Gn.entry,GP.entry],false,Gl⟩
def lt_q30:LT:=[]
theorem e_q30:EV C_q30 lt_q30 Tryz.f160 [.v bx,.v .str] [.v (.pair I6 (.pair (.own an) .unit)),.v .bool] Wh.q30:=by intro xs;kernel_rfl
theorem ok_q30:CO Jn:=con_ok (Ls:=[]) mixed (e_ _ _) (R1 _ (fk_q48 _ (RU _ (RD _ (R5 _ fk))))) Tryz.func160 (loopsL_nil (by kernel_rfl)) (boxesL_none (by kernel_rfl)) e_q30
theorem fk_q30:FK Jn:=fun _ _ h=>h.cons Jn (by kernel_rfl) Wh.P1 ok_q30
def IS:iq:=⟨75,[.v (.lst .str)],[.v (.pair I6 (.pair (.own an) .unit)),.v .bool],Wh.EK,Wh.Ph⟩
def Rd:Cx:=⟨en,[Jn.entry],false,Gl⟩
def Mf:b8:=kS ⟨[(2,.aZ z0 []),(13,.leaf I6),(4,.aZ z1 []),(11,.leaf (.lst .str)),(12,.leaf I6)],[(z0,false,.var bx (.pair (.leaf I6) (.pair (.whole z2 an) (.leaf .unit)))),(z1,false,.var bx (.pair (.leaf I6) (.pair (.whole z3 an) (.leaf .unit)))),(z2,false,.rows an),(z3,false,.rows an)]⟩ [(.ret,⟨[(2,.aZ z0 []),(3,.leaf .bool)],[(z0,false,.var bx (.pair (.leaf I6) (.pair (.whole z1 an) (.leaf .unit)))),(z1,false,.rows an)]⟩),((.exit 0),⟨[(2,.aZ z0 []),(4,.aZ z1 [])],[(z0,false,.var bx (.pair (.leaf I6) (.pair (.whole z2 an) (.leaf .unit)))),(z1,false,.var bx (.pair (.leaf I6) (.pair (.whole z3 an) (.leaf .unit)))),(z2,false,.rows an),(z3,false,.rows an)]⟩)] Wh.Uh Wh.Ck
def SW:LT:=[(3,Mf)]
theorem aay:∀x,round Rd SW (jo Tryz.f75 0) Mf x=Wh.Ck x:=by intro x;kernel_rfl
theorem e_q128:EV Rd SW Tryz.f75 [.v (.lst .str)] [.v (.pair I6 (.pair (.own an) .unit)),.v .bool] Wh.EK:=by intro xs;kernel_rfl
theorem YT:CO IS:=con_ok (Ls:=[Mf]) mixed (e_ _ _) (fk_q30 _ fk) Tryz.func75 (loopsL_cons (by kernel_rfl) (loopD_ok aay) (loopsL_nil (by kernel_rfl))) (boxesL_none (by kernel_rfl)) e_q128
theorem WE:FK IS:=fun _ _ h=>h.cons IS (by kernel_rfl) Wh.Ui YT
def Iv:iq:=⟨161,[.v (.lst an),.v (.lst an)],[.v .bool],Wh.q10,Wh.q10'⟩
def C_q10:Cx:=⟨en,[],false,Gl⟩
def MS:b8:=kS ⟨[(13,.leaf I6),(1,.leaf (.lst an)),(0,.leaf (.lst an)),(12,.leaf I6)],[]⟩ [(.ret,⟨[(4,.leaf .bool)],[]⟩),((.exit 0),⟨[],[]⟩)] Wh.TZ Wh.Cg
def SM:LT:=[(4,MS)]
theorem aa_:∀x,round C_q10 SM (jo Tryz.f161 0) MS x=Wh.Cg x:=by intro x;kernel_rfl
theorem e_q10:EV C_q10 SM Tryz.f161 [.v (.lst an),.v (.lst an)] [.v .bool] Wh.q10:=by intro xs;kernel_rfl
theorem ok_q10:CO Iv:=con_ok (Ls:=[MS]) mixed (e_ _ _) fk Tryz.func161 (loopsL_cons (by kernel_rfl) (loopD_ok aa_) (loopsL_nil (by kernel_rfl))) (boxesL_none (by kernel_rfl)) e_q10
theorem fk_q10:FK Iv:=fun _ _ h=>h.cons Iv (by kernel_rfl) Wh.q10_v ok_q10
def J6:iq:=⟨76,[.v bx,.v bx],[.v .bool],Wh.q80,Wh.q80'⟩
def C_q80:Cx:=⟨en,[Iv.entry],false,Gl⟩
def lt_q80:LT:=[]
theorem e_q80:EV C_q80 lt_q80 Tryz.f76 [.v bx,.v bx] [.v .bool] Wh.q80:=by intro xs;kernel_rfl
theorem ok_q80:CO J6:=con_ok (Ls:=[]) mixed (e_ _ _) (fk_q10 _ fk) Tryz.func76 (loopsL_nil (by kernel_rfl)) (boxesL_none (by kernel_rfl)) e_q80
theorem fk_q80:FK J6:=fun _ _ h=>h.cons J6 (by kernel_rfl) Wh.q80_v ok_q80
def Jp:iq:=⟨264,[.v gd,.v I6,.v I6],[.v I6],Wh.q32,Wh.q32'⟩
def C_q32:Cx:=⟨en,[],false,Gl⟩
def Mm:b8:=kS ⟨[(12,.leaf I6),(2,.leaf I6),(1,.leaf I6),(10,.leaf (.lst eA)),(11,.leaf I6)],[]⟩ [(.ret,⟨[(6,.leaf I6)],[]⟩),((.exit 0),⟨[],[]⟩)] Wh.UN Wh.CA
def Tb:LT:=[(2,Mm)]
theorem aaF:∀x,round C_q32 Tb (jo Tryz.f264 0) Mm x=Wh.CA x:=by intro x;kernel_rfl
theorem e_q32:EV C_q32 Tb Tryz.f264 [.v gd,.v I6,.v I6] [.v I6] Wh.q32:=by intro xs;kernel_rfl
theorem ok_q32:CO Jp:=con_ok (Ls:=[Mm]) mixed (e_ _ _) fk Tryz.func264 (loopsL_cons (by kernel_rfl) (loopD_ok aaF) (loopsL_nil (by kernel_rfl))) (boxesL_none (by kernel_rfl)) e_q32
theorem fk_q32:FK Jp:=fun _ _ h=>h.cons Jp (by kernel_rfl) Wh.q32_v ok_q32
def J3:iq:=⟨265,[.v gd,.v I6],[.v I6],Wh.q77,Wh.q77'⟩
def C_q77:Cx:=⟨en,[],false,Gl⟩
def Mn:b8:=kS ⟨[(11,.leaf I6),(5,.leaf I6),(1,.leaf I6),(9,.leaf (.lst eA)),(10,.leaf I6)],[]⟩ [((.exit 0),⟨[(5,.leaf I6)],[]⟩)] Wh.Vg Wh.CI
def Tq:LT:=[(3,Mn)]
theorem aaG:∀x,round C_q77 Tq (jo Tryz.f265 0) Mn x=Wh.CI x:=by intro x;kernel_rfl
theorem e_q77:EV C_q77 Tq Tryz.f265 [.v gd,.v I6] [.v I6] Wh.q77:=by intro xs;kernel_rfl
theorem ok_q77:CO J3:=con_ok (Ls:=[Mn]) mixed (e_ _ _) fk Tryz.func265 (loopsL_cons (by kernel_rfl) (loopD_ok aaG) (loopsL_nil (by kernel_rfl))) (boxesL_none (by kernel_rfl)) e_q77
theorem fk_q77:FK J3:=fun _ _ h=>h.cons J3 (by kernel_rfl) Wh.F7 ok_q77
def Ix:iq:=⟨162,[.v gd],[.v .bool],Wh.Dc,Wh.OL⟩
def L9:Cx:=⟨en,[J3.entry,Jp.entry,Fs.entry,Av.entry],false,Gl⟩
def Mk:b8:=kS ⟨[(19,.leaf I6),(1,.aZ z0 []),(17,.leaf (.lst eA)),(18,.leaf I6)],[(z0,false,.var gd (.leaf gd))]⟩ [(.ret,⟨[(2,.leaf .bool)],[]⟩),((.exit 0),⟨[(1,.aZ z0 [])],[(z0,false,.var gd (.leaf gd))]⟩)] Wh.TU Wh.BA
def Ml:b8:=kS ⟨[(63,.leaf I6),(1,.aZ z0 [])],[(z0,false,.var gd (.leaf gd))]⟩ [(.ret,⟨[(2,.leaf .bool)],[]⟩),((.exit 2),⟨[],[]⟩)] Wh.TV Wh.BB
def Oj:LT:=[(4,Mk),(13,Ml)]
theorem aaD:∀x,round L9 Oj (jo Tryz.f162 0) Mk x=Wh.BA x:=by intro x;kernel_rfl
theorem aaE:∀x,round L9 Oj (jo Tryz.f162 1) Ml x=Wh.BB x:=by intro x;kernel_rfl
theorem e_q103:EV L9 Oj Tryz.f162 [.v gd] [.v .bool] Wh.Dc:=by intro xs;kernel_rfl
theorem Yu:CO Ix:=con_ok (Ls:=[Mk,Ml]) mixed (e_ _ _) (fk_q77 _ (fk_q32 _ (NL _ (Bl _ fk)))) Tryz.func162 (loopsL_cons (by kernel_rfl) (loopD_ok aaD) (loopsL_cons (by kernel_rfl) (loopD_ok aaE) (loopsL_nil (by kernel_rfl)))) (boxesL_none (by kernel_rfl)) e_q103
theorem Wn:FK Ix:=fun _ _ h=>h.cons Ix (by kernel_rfl) Wh.OO Yu
def J5:iq:=⟨166,[.v an,.v (.ref I6)],[.v .bool],Wh.F8,Wh.q8'⟩
def C_q8:Cx:=⟨en,[],false,Gl⟩
def lt_q8:LT:=[]
theorem e_q8:EV C_q8 lt_q8 Tryz.f166 [.v an,.v (.ref I6)] [.v .bool] Wh.F8:=by intro xs;kernel_rfl
theorem ok_q8:CO J5:=con_ok (Ls:=[]) mixed (e_ _ _) fk Tryz.func166 (loopsL_nil (by kernel_rfl)) (boxesL_none (by kernel_rfl)) e_q8
theorem fk_q8:FK J5:=fun _ _ h=>h.cons J5 (by kernel_rfl) Wh.q8_v ok_q8
def Je:iq:=⟨165,[.v (.lst an),.f 166 (.pair (.ref I6) .unit)],[.v I6],Wh.q2,Wh.Cs⟩
def C_q2:Cx:=⟨en,[J5.entry],false,Gl⟩
def MT:b8:=kS ⟨[(8,.leaf I6),(0,.leaf (.lst an)),(1,.fn 166 (.bB (.leaf (.ref I6)) (.b7))),(7,.leaf I6)],[]⟩ [(.ret,⟨[(4,.leaf I6)],[]⟩),((.exit 0),⟨[],[]⟩)] Wh.UL Wh.Cy
def lt_q2:LT:=[(2,MT)]
theorem aba:∀x,round C_q2 lt_q2 (jo Tryz.f165 0) MT x=Wh.Cy x:=by intro x;kernel_rfl
theorem e_q2:EV C_q2 lt_q2 Tryz.f165 [.v (.lst an),.f 166 (.pair (.ref I6) .unit)] [.v I6] Wh.q2:=by intro xs;kernel_rfl
theorem ok_q2:CO Je:=con_ok (Ls:=[MT]) mixed (e_ _ _) (fk_q8 _ fk) Tryz.func165 (loopsL_cons (by kernel_rfl) (loopD_ok aba) (loopsL_nil (by kernel_rfl))) (boxesL_none (by kernel_rfl)) e_q2
theorem fk_q2:FK Je:=fun _ _ h=>h.cons Je (by kernel_rfl) Wh.q2_v ok_q2
def Gx:iq:=⟨80,[.v bx,.v I6],[.v I6],Wh.Cl,Wh.Lo⟩
def C_q13:Cx:=⟨en,[Je.entry],false,Gl⟩
def lt_q13:LT:=[]
theorem e_q13:EV C_q13 lt_q13 Tryz.f80 [.v bx,.v I6] [.v I6] Wh.Cl:=by intro xs;kernel_rfl
theorem ok_q13:CO Gx:=con_ok (Ls:=[]) mixed (e_ _ _) (fk_q2 _ fk) Tryz.func80 (loopsL_nil (by kernel_rfl)) (boxesL_none (by kernel_rfl)) e_q13
theorem RN:FK Gx:=fun _ _ h=>h.cons Gx (by kernel_rfl) Wh.ES ok_q13
def GD:iq:=⟨164,[.v yA],[.v I6],Wh.Cu,Wh.F4⟩
def C_q20:Cx:=⟨en,[],false,Gl⟩
def lt_q20:LT:=[]
theorem e_q20:EV C_q20 lt_q20 Tryz.f164 [.v yA] [.v I6] Wh.Cu:=by intro xs;kernel_rfl
theorem ok_q20:CO GD:=con_ok (Ls:=[]) mixed (e_ _ _) fk Tryz.func164 (loopsL_nil (by kernel_rfl)) (boxesL_none (by kernel_rfl)) e_q20
theorem RT:FK GD:=fun _ _ h=>h.cons GD (by kernel_rfl) Wh.q20_v ok_q20
def J2:iq:=⟨163,[.v I6],[.v (.pair I6 (.pair I6 (.pair (.own I6) (.pair (.own I6) .unit))))],Wh.q76,Wh.q76'⟩
def C_q76:Cx:=⟨en,[GD.entry,Av.entry],false,Gl⟩
def Mj:b8:=kS ⟨[(3,.aZ z0 []),(2,.aZ z1 [])],[(z0,false,.var yA (.pair (.leaf I6) (.pair (.leaf I6) (.pair (.whole z2 I6) (.pair (.whole z3 I6) (.leaf .unit)))))),(z1,false,.var yA (.pair (.leaf I6) (.pair (.leaf I6) (.pair (.whole 500000004 I6) (.pair (.whole 500000005 I6) (.leaf .unit)))))),(z2,false,.rows I6),(z3,false,.rows I6),(500000004,false,.rows I6),(500000005,false,.rows I6)]⟩ [((.exit 0),⟨[(2,.aZ z0 []),(3,.aZ z1 [])],[(z0,false,.var yA (.pair (.leaf I6) (.pair (.leaf I6) (.pair (.whole z2 I6) (.pair (.whole z3 I6) (.leaf .unit)))))),(z1,false,.var yA (.pair (.leaf I6) (.pair (.leaf I6) (.pair (.whole 500000004 I6) (.pair (.whole 500000005 I6) (.leaf .unit)))))),(z2,false,.rows I6),(z3,false,.rows I6),(500000004,false,.rows I6),(500000005,false,.rows I6)]⟩)] Wh.Vf Wh.HA
def Tp:LT:=[(4,Mj)]
theorem aaC:∀x,round C_q76 Tp (jo Tryz.f163 0) Mj x=Wh.HA x:=by intro x;kernel_rfl
theorem e_q76:EV C_q76 Tp Tryz.f163 [.v I6] [.v (.pair I6 (.pair I6 (.pair (.own I6) (.pair (.own I6) .unit))))] Wh.q76:=by intro xs;kernel_rfl
theorem ok_q76:CO J2:=con_ok (Ls:=[Mj]) mixed (e_ _ _) (RT _ (Bl _ fk)) Tryz.func163 (loopsL_cons (by kernel_rfl) (loopD_ok aaC) (loopsL_nil (by kernel_rfl))) (boxesL_none (by kernel_rfl)) e_q76
theorem fk_q76:FK J2:=fun _ _ h=>h.cons J2 (by kernel_rfl) Wh.q76_v ok_q76
def JF:iq:=⟨77,[.v gd,.v bx],[.v .bool],Wh.q52,Wh.q52'⟩
def C_q52:Cx:=⟨en,[GD.entry,J2.entry,Gx.entry,Ix.entry],false,Gl⟩
def Mr:b8:=kS ⟨[(14,.leaf I6),(3,.aZ z0 []),(12,.leaf (.lst eA)),(13,.leaf I6)],[(z0,false,.var bx (.leaf bx))]⟩ [(.ret,⟨[(4,.leaf .bool)],[]⟩),((.exit 0),⟨[],[]⟩)] Wh.UY Wh.AG
def Ti:LT:=[(4,Mr)]
theorem aaK:∀x,round C_q52 Ti (jo Tryz.f77 0) Mr x=Wh.AG x:=by intro x;kernel_rfl
theorem e_q52:EV C_q52 Ti Tryz.f77 [.v gd,.v bx] [.v .bool] Wh.q52:=by intro xs;kernel_rfl
theorem ok_q52:CO JF:=con_ok (Ls:=[Mr]) mixed (e_ _ _) (RT _ (fk_q76 _ (RN _ (Wn _ fk)))) Tryz.func77 (loopsL_cons (by kernel_rfl) (loopD_ok aaK) (loopsL_nil (by kernel_rfl))) (boxesL_none (by kernel_rfl)) e_q52
theorem fk_q52:FK JF:=fun _ _ h=>h.cons JF (by kernel_rfl) Wh.q52_v ok_q52
def JB:iq:=⟨78,[.v fN],[.v .bool],Wh.q46,Wh.q46'⟩
def C_q46:Cx:=⟨en,[Av.entry],false,Gl⟩
def lt_q46:LT:=[]
theorem e_q46:EV C_q46 lt_q46 Tryz.f78 [.v fN] [.v .bool] Wh.q46:=by intro xs;kernel_rfl
theorem ok_q46:CO JB:=con_ok (Ls:=[]) mixed (e_ _ _) (Bl _ fk) Tryz.func78 (loopsL_nil (by kernel_rfl)) (boxesL_none (by kernel_rfl)) e_q46
theorem fk_q46:FK JB:=fun _ _ h=>h.cons JB (by kernel_rfl) Wh.q46_v ok_q46
def JE:iq:=⟨79,[.v I6],[.v .bool],Wh.q50,Wh.q50'⟩
def C_q50:Cx:=⟨en,[Av.entry],false,Gl⟩
def lt_q50:LT:=[]
theorem e_q50:EV C_q50 lt_q50 Tryz.f79 [.v I6] [.v .bool] Wh.q50:=by intro xs;kernel_rfl
theorem ok_q50:CO JE:=con_ok (Ls:=[]) mixed (e_ _ _) (Bl _ fk) Tryz.func79 (loopsL_nil (by kernel_rfl)) (boxesL_none (by kernel_rfl)) e_q50
theorem fk_q50:FK JE:=fun _ _ h=>h.cons JE (by kernel_rfl) Wh.Qd ok_q50
def J4:iq:=⟨81,[.v I6],[.v I6],Wh.q78,Wh.q78'⟩
def C_q78:Cx:=⟨en,[],false,Gl⟩
def lt_q78:LT:=[]
theorem e_q78:EV C_q78 lt_q78 Tryz.f81 [.v I6] [.v I6] Wh.q78:=by intro xs;kernel_rfl
theorem ok_q78:CO J4:=con_ok (Ls:=[]) mixed (e_ _ _) fk Tryz.func81 (loopsL_nil (by kernel_rfl)) (boxesL_none (by kernel_rfl)) e_q78
theorem fk_q78:FK J4:=fun _ _ h=>h.cons J4 (by kernel_rfl) Wh.QD ok_q78
def JD:iq:=⟨17,[.v ct],[.v .bool],Wh.q49,Wh.q49'⟩
def Ma:Cx:=⟨en,[J4.entry,Gx.entry,JE.entry,JB.entry,JF.entry,J6.entry,IS.entry,GM.entry,Av.entry],false,Gl⟩
def Mo:b8:=kS ⟨[(105,.leaf I6),(1,.aZ z0 []),(103,.leaf (.lst fN)),(104,.leaf I6)],[(z0,false,.var ct (.leaf ct))]⟩ [(.ret,⟨[(2,.leaf .bool)],[]⟩),((.exit 0),⟨[(1,.aZ z0 [])],[(z0,false,.var ct (.leaf ct))]⟩)] Wh.UW Wh.CF
def Mp:b8:=kS ⟨[(133,.leaf I6),(1,.aZ z0 []),(131,.leaf (.lst fT)),(132,.leaf I6)],[(z0,false,.var ct (.leaf ct))]⟩ [(.ret,⟨[(2,.leaf .bool)],[]⟩),((.exit 2),⟨[],[]⟩)] Wh.UX Wh.BM
def Ol:LT:=[(13,Mo),(19,Mp)]
theorem aaH:∀x,round Ma Ol (jo Tryz.f17 0) Mo x=Wh.CF x:=by intro x;kernel_rfl
theorem aaI:∀x,round Ma Ol (jo Tryz.f17 1) Mp x=Wh.BM x:=by intro x;kernel_rfl
theorem e_q49:EV Ma Ol Tryz.f17 [.v ct] [.v .bool] Wh.q49:=by intro xs;kernel_rfl
theorem ok_q49:CO JD:=con_ok (Ls:=[Mo,Mp]) mixed (e_ _ _) (fk_q78 _ (RN _ (fk_q50 _ (fk_q46 _ (fk_q52 _ (fk_q80 _ (WE _ (R2 _ (Bl _ fk))))))))) Tryz.func17 (loopsL_cons (by kernel_rfl) (loopD_ok aaH) (loopsL_cons (by kernel_rfl) (loopD_ok aaI) (loopsL_nil (by kernel_rfl)))) (boxesL_none (by kernel_rfl)) e_q49
theorem fk_q49:FK JD:=fun _ _ h=>h.cons JD (by kernel_rfl) Wh.Qc ok_q49
def Iz:iq:=⟨235,[.v an,.v an],[.v .bool],Wh.Ew,Wh.OP⟩
def C_q106:Cx:=⟨en,[],false,Gl⟩
def XK:LT:=[]
theorem e_q106:EV C_q106 XK Tryz.f235 [.v an,.v an] [.v .bool] Wh.Ew:=by intro xs;kernel_rfl
theorem Yx:CO Iz:=con_ok (Ls:=[]) mixed (e_ _ _) fk Tryz.func235 (loopsL_nil (by kernel_rfl)) (boxesL_none (by kernel_rfl)) e_q106
theorem Wp:FK Iz:=fun _ _ h=>h.cons Iz (by kernel_rfl) Wh.TW Yx
def J8:iq:=⟨133,[.v (.lst an),.v (.lst an)],[.v .bool],Wh.q82,Wh.q82'⟩
def C_q82:Cx:=⟨en,[Iz.entry],false,Gl⟩
def MB:b8:=kS ⟨[(5,.leaf I6),(1,.leaf (.lst an)),(0,.leaf (.lst an))],[]⟩ [(.ret,⟨[(4,.leaf .bool)],[]⟩),((.exit 0),⟨[],[]⟩)] Wh.Vh Wh.E6
def Tr:LT:=[(4,MB)]
theorem aaU:∀x,round C_q82 Tr (jo Tryz.f133 0) MB x=Wh.E6 x:=by intro x;kernel_rfl
theorem e_q82:EV C_q82 Tr Tryz.f133 [.v (.lst an),.v (.lst an)] [.v .bool] Wh.q82:=by intro xs;kernel_rfl
theorem ok_q82:CO J8:=con_ok (Ls:=[MB]) mixed (e_ _ _) (Wp _ fk) Tryz.func133 (loopsL_cons (by kernel_rfl) (loopD_ok aaU) (loopsL_nil (by kernel_rfl))) (boxesL_none (by kernel_rfl)) e_q82
theorem fk_q82:FK J8:=fun _ _ h=>h.cons J8 (by kernel_rfl) Wh.q82_v ok_q82
def IU:iq:=⟨82,[.v bx,.v bx],[.v .bool],Wh.EL,Wh.Pn⟩
def C_q131:Cx:=⟨en,[J8.entry],false,Gl⟩
def X2:LT:=[]
theorem e_q131:EV C_q131 X2 Tryz.f82 [.v bx,.v bx] [.v .bool] Wh.EL:=by intro xs;kernel_rfl
theorem YW:CO IU:=con_ok (Ls:=[]) mixed (e_ _ _) (fk_q82 _ fk) Tryz.func82 (loopsL_nil (by kernel_rfl)) (boxesL_none (by kernel_rfl)) e_q131
theorem WH:FK IU:=fun _ _ h=>h.cons IU (by kernel_rfl) Wh.Ul YW
def J7:iq:=⟨266,[.v eA,.v eA],[.v .bool],Wh.q81,Wh.q81'⟩
def C_q81:Cx:=⟨en,[],false,Gl⟩
def lt_q81:LT:=[]
theorem e_q81:EV C_q81 lt_q81 Tryz.f266 [.v eA,.v eA] [.v .bool] Wh.q81:=by intro xs;kernel_rfl
theorem ok_q81:CO J7:=con_ok (Ls:=[]) mixed (e_ _ _) fk Tryz.func266 (loopsL_nil (by kernel_rfl)) (boxesL_none (by kernel_rfl)) e_q81
theorem fk_q81:FK J7:=fun _ _ h=>h.cons J7 (by kernel_rfl) Wh.q81_v ok_q81
def JI:iq:=⟨167,[.v (.lst eA),.v (.lst eA)],[.v .bool],Wh.q55,Wh.q55'⟩
def C_q55:Cx:=⟨en,[J7.entry],false,Gl⟩
def MA:b8:=kS ⟨[(5,.leaf I6),(1,.leaf (.lst eA)),(0,.leaf (.lst eA))],[]⟩ [(.ret,⟨[(4,.leaf .bool)],[]⟩),((.exit 0),⟨[],[]⟩)] Wh.U6 Wh.E0
def Tj:LT:=[(4,MA)]
theorem aaT:∀x,round C_q55 Tj (jo Tryz.f167 0) MA x=Wh.E0 x:=by intro x;kernel_rfl
theorem e_q55:EV C_q55 Tj Tryz.f167 [.v (.lst eA),.v (.lst eA)] [.v .bool] Wh.q55:=by intro xs;kernel_rfl
theorem ok_q55:CO JI:=con_ok (Ls:=[MA]) mixed (e_ _ _) (fk_q81 _ fk) Tryz.func167 (loopsL_cons (by kernel_rfl) (loopD_ok aaT) (loopsL_nil (by kernel_rfl))) (boxesL_none (by kernel_rfl)) e_q55
theorem fk_q55:FK JI:=fun _ _ h=>h.cons JI (by kernel_rfl) Wh.q55_v ok_q55
def IA:iq:=⟨83,[.v gd,.v gd],[.v .bool],Wh.Ey,Wh.OQ⟩
def C_q107:Cx:=⟨en,[JI.entry],false,Gl⟩
def XL:LT:=[]
theorem e_q107:EV C_q107 XL Tryz.f83 [.v gd,.v gd] [.v .bool] Wh.Ey:=by intro xs;kernel_rfl
theorem Yy:CO IA:=con_ok (Ls:=[]) mixed (e_ _ _) (fk_q55 _ fk) Tryz.func83 (loopsL_nil (by kernel_rfl)) (boxesL_none (by kernel_rfl)) e_q107
theorem Wq:FK IA:=fun _ _ h=>h.cons IA (by kernel_rfl) Wh.TX Yy
def JH:iq:=⟨168,[.v fN,.v fN],[.v .bool],Wh.q54,Wh.q54'⟩
def C_q54:Cx:=⟨en,[],false,Gl⟩
def lt_q54:LT:=[]
theorem e_q54:EV C_q54 lt_q54 Tryz.f168 [.v fN,.v fN] [.v .bool] Wh.q54:=by intro xs;kernel_rfl
theorem ok_q54:CO JH:=con_ok (Ls:=[]) mixed (e_ _ _) fk Tryz.func168 (loopsL_nil (by kernel_rfl)) (boxesL_none (by kernel_rfl)) e_q54
theorem fk_q54:FK JH:=fun _ _ h=>h.cons JH (by kernel_rfl) Wh.q54_v ok_q54
def Js:iq:=⟨84,[.v (.lst fN),.v (.lst fN)],[.v .bool],Wh.q36,Wh.q36'⟩
def C_q36:Cx:=⟨en,[JH.entry],false,Gl⟩
def Mz:b8:=kS ⟨[(5,.leaf I6),(1,.leaf (.lst fN)),(0,.leaf (.lst fN))],[]⟩ [(.ret,⟨[(4,.leaf .bool)],[]⟩),((.exit 0),⟨[],[]⟩)] Wh.UO Wh.EX
def Tc:LT:=[(4,Mz)]
theorem aaS:∀x,round C_q36 Tc (jo Tryz.f84 0) Mz x=Wh.EX x:=by intro x;kernel_rfl
theorem e_q36:EV C_q36 Tc Tryz.f84 [.v (.lst fN),.v (.lst fN)] [.v .bool] Wh.q36:=by intro xs;kernel_rfl
theorem ok_q36:CO Js:=con_ok (Ls:=[Mz]) mixed (e_ _ _) (fk_q54 _ fk) Tryz.func84 (loopsL_cons (by kernel_rfl) (loopD_ok aaS) (loopsL_nil (by kernel_rfl))) (boxesL_none (by kernel_rfl)) e_q36
theorem fk_q36:FK Js:=fun _ _ h=>h.cons Js (by kernel_rfl) Wh.q36_v ok_q36
def J9:iq:=⟨169,[.v fT,.v fT],[.v .bool],Wh.q83,Wh.q83'⟩
def C_q83:Cx:=⟨en,[],false,Gl⟩
def lt_q83:LT:=[]
theorem e_q83:EV C_q83 lt_q83 Tryz.f169 [.v fT,.v fT] [.v .bool] Wh.q83:=by intro xs;kernel_rfl
theorem ok_q83:CO J9:=con_ok (Ls:=[]) mixed (e_ _ _) fk Tryz.func169 (loopsL_nil (by kernel_rfl)) (boxesL_none (by kernel_rfl)) e_q83
theorem fk_q83:FK J9:=fun _ _ h=>h.cons J9 (by kernel_rfl) Wh.q83_v ok_q83
def JJ:iq:=⟨85,[.v (.lst fT),.v (.lst fT)],[.v .bool],Wh.q56,Wh.q56'⟩
def C_q56:Cx:=⟨en,[J9.entry],false,Gl⟩
def MC:b8:=kS ⟨[(5,.leaf I6),(1,.leaf (.lst fT)),(0,.leaf (.lst fT))],[]⟩ [(.ret,⟨[(4,.leaf .bool)],[]⟩),((.exit 0),⟨[],[]⟩)] Wh.U7 Wh.E3
def Tk:LT:=[(4,MC)]
theorem aaV:∀x,round C_q56 Tk (jo Tryz.f85 0) MC x=Wh.E3 x:=by intro x;kernel_rfl
theorem e_q56:EV C_q56 Tk Tryz.f85 [.v (.lst fT),.v (.lst fT)] [.v .bool] Wh.q56:=by intro xs;kernel_rfl
theorem ok_q56:CO JJ:=con_ok (Ls:=[MC]) mixed (e_ _ _) (fk_q83 _ fk) Tryz.func85 (loopsL_cons (by kernel_rfl) (loopD_ok aaV) (loopsL_nil (by kernel_rfl))) (boxesL_none (by kernel_rfl)) e_q56
theorem fk_q56:FK JJ:=fun _ _ h=>h.cons JJ (by kernel_rfl) Wh.q56_v ok_q56
def JK:iq:=⟨18,[.v ct,.v ct],[.v .bool],Wh.Bf,Wh.Hz⟩
def C_q57:Cx:=⟨en,[JJ.entry,Js.entry,IA.entry,IU.entry],false,Gl⟩
def lt_q57:LT:=[]
theorem e_q57:EV C_q57 lt_q57 Tryz.f18 [.v ct,.v ct] [.v .bool] Wh.Bf:=by intro xs;kernel_rfl
theorem ok_q57:CO JK:=con_ok (Ls:=[]) mixed (e_ _ _) (fk_q56 _ (fk_q36 _ (Wq _ (WH _ fk)))) Tryz.func18 (loopsL_nil (by kernel_rfl)) (boxesL_none (by kernel_rfl)) e_q57
theorem fk_q57:FK JK:=fun _ _ h=>h.cons JK (by kernel_rfl) Wh.Qo ok_q57
def Ki:iq:=⟨171,[.v gd],[.v (.pair (.own eA) (.pair I6 .unit))],Wh.q92,Wh.q92'⟩
def C_q92:Cx:=⟨en,[],false,Gl⟩
def lt_q92:LT:=[]
theorem e_q92:EV C_q92 lt_q92 Tryz.f171 [.v gd] [.v (.pair (.own eA) (.pair I6 .unit))] Wh.q92:=by intro xs;kernel_rfl
theorem ok_q92:CO Ki:=con_ok (Ls:=[]) mixed (e_ _ _) fk Tryz.func171 (loopsL_nil (by kernel_rfl)) (boxesL_none (by kernel_rfl)) e_q92
theorem fk_q92:FK Ki:=fun _ _ h=>h.cons Ki (by kernel_rfl) Wh.q92_v ok_q92
def Kj:iq:=⟨86,[.v ct],[.v (.pair .bool (.pair I6 (.pair .str (.pair (.pair I6 (.pair (.own an) .unit)) (.pair (.pair (.own eA) (.pair I6 .unit)) (.pair (.own fN) (.pair (.own fT) .unit)))))))],Wh.q93,Wh.q93'⟩
def C_q93:Cx:=⟨en,[Ki.entry,Fq.entry],false,Gl⟩
def lt_q93:LT:=[]
theorem e_q93:EV C_q93 lt_q93 Tryz.f86 [.v ct] [.v (.pair .bool (.pair I6 (.pair .str (.pair (.pair I6 (.pair (.own an) .unit)) (.pair (.pair (.own eA) (.pair I6 .unit)) (.pair (.own fN) (.pair (.own fT) .unit)))))))] Wh.q93:=by intro xs;kernel_rfl
theorem ok_q93:CO Kj:=con_ok (Ls:=[]) mixed (e_ _ _) (fk_q92 _ (NK _ fk)) Tryz.func86 (loopsL_nil (by kernel_rfl)) (boxesL_none (by kernel_rfl)) e_q93
theorem fk_q93:FK Kj:=fun _ _ h=>h.cons Kj (by kernel_rfl) Wh.q93_v ok_q93
def Jr:iq:=⟨268,[.v gd],[.v (.pair (.own eA) (.pair I6 .unit))],Wh.q34,Wh.q34'⟩
def C_q34:Cx:=⟨en,[],false,Gl⟩
def lt_q34:LT:=[]
theorem e_q34:EV C_q34 lt_q34 Tryz.f268 [.v gd] [.v (.pair (.own eA) (.pair I6 .unit))] Wh.q34:=by intro xs;kernel_rfl
theorem ok_q34:CO Jr:=con_ok (Ls:=[]) mixed (e_ _ _) fk Tryz.func268 (loopsL_nil (by kernel_rfl)) (boxesL_none (by kernel_rfl)) e_q34
theorem fk_q34:FK Jr:=fun _ _ h=>h.cons Jr (by kernel_rfl) Wh.q34_v ok_q34
def I1:iq:=⟨172,[.v ct],[.v (.pair .bool (.pair I6 (.pair .str (.pair (.pair I6 (.pair (.own an) .unit)) (.pair (.pair (.own eA) (.pair I6 .unit)) (.pair (.own fN) (.pair (.own fT) .unit)))))))],Wh.q14,Wh.q14'⟩
def C_q14:Cx:=⟨en,[Jr.entry,Fu.entry],false,Gl⟩
def lt_q14:LT:=[]
theorem e_q14:EV C_q14 lt_q14 Tryz.f172 [.v ct] [.v (.pair .bool (.pair I6 (.pair .str (.pair (.pair I6 (.pair (.own an) .unit)) (.pair (.pair (.own eA) (.pair I6 .unit)) (.pair (.own fN) (.pair (.own fT) .unit)))))))] Wh.q14:=by intro xs;kernel_rfl
theorem ok_q14:CO I1:=con_ok (Ls:=[]) mixed (e_ _ _) (fk_q34 _ (NN _ fk)) Tryz.func172 (loopsL_nil (by kernel_rfl)) (boxesL_none (by kernel_rfl)) e_q14
theorem fk_q14:FK I1:=fun _ _ h=>h.cons I1 (by kernel_rfl) Wh.q14_v ok_q14
def GK:iq:=⟨121,[.v I6],[.v .str],Wh.AX,Wh.E4⟩
def C_q60:Cx:=⟨en,[],false,Gl⟩
def MM:b8:=kS ⟨[(0,.leaf I6),(3,.leaf .str)],[]⟩ [((.exit 0),⟨[(3,.leaf .str)],[]⟩)] Wh.U8 Wh.DI
def Tl:LT:=[(4,MM)]
theorem aa4:∀x,round C_q60 Tl (jo Tryz.f121 0) MM x=Wh.DI x:=by intro x;kernel_rfl
theorem e_q60:EV C_q60 Tl Tryz.f121 [.v I6] [.v .str] Wh.AX:=by intro xs;kernel_rfl
theorem ok_q60:CO GK:=con_ok (Ls:=[MM]) mixed (e_ _ _) fk Tryz.func121 (loopsL_cons (by kernel_rfl) (loopD_ok aa4) (loopsL_nil (by kernel_rfl))) (boxesL_none (by kernel_rfl)) e_q60
theorem R0:FK GK:=fun _ _ h=>h.cons GK (by kernel_rfl) Wh.F6 ok_q60
def Ju:iq:=⟨174,[.d (.lst an),.v I6],[.v I6],Wh.q38,Wh.q38'⟩
def C_q38:Cx:=⟨en,[GK.entry],true,Gl⟩
def MK:b8:=kS ⟨[(5,.leaf I6),(0,.whole 950 an),(1,.leaf I6)],[(950,false,.rows an)]⟩ [((.exit 0),⟨[(1,.leaf I6)],[(950,false,.rows an)]⟩)] Wh.UQ Wh.DB
def Te:LT:=[(2,MK)]
theorem aa2:∀x,round C_q38 Te (jo Tryz.f174 0) MK x=Wh.DB x:=by intro x;kernel_rfl
theorem e_q38:EV C_q38 Te Tryz.f174 [.d (.lst an),.v I6] [.v I6] Wh.q38:=by intro xs;kernel_rfl
theorem ok_q38:CO Ju:=con_ok (Ls:=[MK]) mixed (e_ _ _) (R0 _ Cc) Tryz.func174 (loopsL_cons (by kernel_rfl) (loopD_ok aa2) (loopsL_nil (by kernel_rfl))) (boxesL_none (by kernel_rfl)) e_q38
theorem fk_q38:FK Ju:=fun _ _ h=>h.cons Ju (by kernel_rfl) Wh.q38_v ok_q38
def Ka:iq:=⟨90,[.d bx,.v I6],[.v I6],Wh.q85,Wh.q85'⟩
def C_q85:Cx:=⟨en,[Ju.entry],true,Gl⟩
def lt_q85:LT:=[]
theorem e_q85:EV C_q85 lt_q85 Tryz.f90 [.d bx,.v I6] [.v I6] Wh.q85:=by intro xs;kernel_rfl
theorem ok_q85:CO Ka:=con_ok (Ls:=[]) mixed (e_ _ _) (fk_q38 _ Cc) Tryz.func90 (loopsL_nil (by kernel_rfl)) (boxesL_none (by kernel_rfl)) e_q85
theorem fk_q85:FK Ka:=fun _ _ h=>h.cons Ka (by kernel_rfl) Wh.q85_v ok_q85
def Jj:iq:=⟨175,[.d (.lst eA),.v I6],[.v I6],Wh.q25,Wh.q25'⟩
def C_q25:Cx:=⟨en,[],true,Gl⟩
def MJ:b8:=kS ⟨[(5,.leaf I6),(0,.whole 950 eA),(1,.leaf I6)],[(950,false,.rows eA)]⟩ [((.exit 0),⟨[(1,.leaf I6)],[(950,false,.rows eA)]⟩)] Wh.UJ Wh.Dy
def S9:LT:=[(2,MJ)]
theorem aa1:∀x,round C_q25 S9 (jo Tryz.f175 0) MJ x=Wh.Dy x:=by intro x;kernel_rfl
theorem e_q25:EV C_q25 S9 Tryz.f175 [.d (.lst eA),.v I6] [.v I6] Wh.q25:=by intro xs;kernel_rfl
theorem ok_q25:CO Jj:=con_ok (Ls:=[MJ]) mixed (e_ _ _) Cc Tryz.func175 (loopsL_cons (by kernel_rfl) (loopD_ok aa1) (loopsL_nil (by kernel_rfl))) (boxesL_none (by kernel_rfl)) e_q25
theorem fk_q25:FK Jj:=fun _ _ h=>h.cons Jj (by kernel_rfl) Wh.q25_v ok_q25
def JM:iq:=⟨91,[.d gd,.v I6],[.v I6],Wh.q59,Wh.q59'⟩
def C_q59:Cx:=⟨en,[Jj.entry],true,Gl⟩
def lt_q59:LT:=[]
theorem e_q59:EV C_q59 lt_q59 Tryz.f91 [.d gd,.v I6] [.v I6] Wh.q59:=by intro xs;kernel_rfl
theorem ok_q59:CO JM:=con_ok (Ls:=[]) mixed (e_ _ _) (fk_q25 _ Cc) Tryz.func91 (loopsL_nil (by kernel_rfl)) (boxesL_none (by kernel_rfl)) e_q59
theorem fk_q59:FK JM:=fun _ _ h=>h.cons JM (by kernel_rfl) Wh.q59_v ok_q59
def Jb:iq:=⟨92,[.d (.lst fN),.v I6],[.v I6],Wh.q17,Wh.q17'⟩
def C_q17:Cx:=⟨en,[],true,Gl⟩
def MI:b8:=kS ⟨[(5,.leaf I6),(0,.whole 950 fN),(1,.leaf I6)],[(950,false,.rows fN)]⟩ [((.exit 0),⟨[(1,.leaf I6)],[(950,false,.rows fN)]⟩)] Wh.UF Wh.Dv
def S6:LT:=[(2,MI)]
theorem aa0:∀x,round C_q17 S6 (jo Tryz.f92 0) MI x=Wh.Dv x:=by intro x;kernel_rfl
theorem e_q17:EV C_q17 S6 Tryz.f92 [.d (.lst fN),.v I6] [.v I6] Wh.q17:=by intro xs;kernel_rfl
theorem ok_q17:CO Jb:=con_ok (Ls:=[MI]) mixed (e_ _ _) Cc Tryz.func92 (loopsL_cons (by kernel_rfl) (loopD_ok aa0) (loopsL_nil (by kernel_rfl))) (boxesL_none (by kernel_rfl)) e_q17
theorem fk_q17:FK Jb:=fun _ _ h=>h.cons Jb (by kernel_rfl) Wh.q17_v ok_q17
def Jk:iq:=⟨93,[.d (.lst fT),.v I6],[.v I6],Wh.q26,Wh.q26'⟩
def C_q26:Cx:=⟨en,[],true,Gl⟩
def ML:b8:=kS ⟨[(5,.leaf I6),(0,.whole 950 fT),(1,.leaf I6)],[(950,false,.rows fT)]⟩ [((.exit 0),⟨[(1,.leaf I6)],[(950,false,.rows fT)]⟩)] Wh.UK Wh.Dz
def S_:LT:=[(2,ML)]
theorem aa3:∀x,round C_q26 S_ (jo Tryz.f93 0) ML x=Wh.Dz x:=by intro x;kernel_rfl
theorem e_q26:EV C_q26 S_ Tryz.f93 [.d (.lst fT),.v I6] [.v I6] Wh.q26:=by intro xs;kernel_rfl
theorem ok_q26:CO Jk:=con_ok (Ls:=[ML]) mixed (e_ _ _) Cc Tryz.func93 (loopsL_cons (by kernel_rfl) (loopD_ok aa3) (loopsL_nil (by kernel_rfl))) (boxesL_none (by kernel_rfl)) e_q26
theorem fk_q26:FK Jk:=fun _ _ h=>h.cons Jk (by kernel_rfl) Wh.q26_v ok_q26
def Jl:iq:=⟨21,[.d ct,.v I6],[.v I6],Wh.Cw,Wh.Lz⟩
def C_q27:Cx:=⟨en,[Jk.entry,Jb.entry,JM.entry,Ka.entry],true,Gl⟩
def lt_q27:LT:=[]
theorem e_q27:EV C_q27 lt_q27 Tryz.f21 [.d ct,.v I6] [.v I6] Wh.Cw:=by intro xs;kernel_rfl
theorem ok_q27:CO Jl:=con_ok (Ls:=[]) mixed (e_ _ _) (fk_q26 _ (fk_q17 _ (fk_q59 _ (fk_q85 _ Cc)))) Tryz.func21 (loopsL_nil (by kernel_rfl)) (boxesL_none (by kernel_rfl)) e_q27
theorem fk_q27:FK Jl:=fun _ _ h=>h.cons Jl (by kernel_rfl) Wh.PZ ok_q27
def Jt:iq:=⟨176,[.v (.lst an),.v I6],[.v I6],Wh.q37,Wh.q37'⟩
def C_q37:Cx:=⟨en,[GK.entry],false,Gl⟩
def MG:b8:=kS ⟨[(5,.leaf I6),(0,.leaf (.lst an)),(1,.leaf I6)],[]⟩ [(.ret,⟨[(4,.leaf I6)],[]⟩),((.exit 0),⟨[(1,.leaf I6)],[]⟩)] Wh.UP Wh.DA
def Td:LT:=[(2,MG)]
theorem aaY:∀x,round C_q37 Td (jo Tryz.f176 0) MG x=Wh.DA x:=by intro x;kernel_rfl
theorem e_q37:EV C_q37 Td Tryz.f176 [.v (.lst an),.v I6] [.v I6] Wh.q37:=by intro xs;kernel_rfl
theorem ok_q37:CO Jt:=con_ok (Ls:=[MG]) mixed (e_ _ _) (R0 _ fk) Tryz.func176 (loopsL_cons (by kernel_rfl) (loopD_ok aaY) (loopsL_nil (by kernel_rfl))) (boxesL_none (by kernel_rfl)) e_q37
theorem fk_q37:FK Jt:=fun _ _ h=>h.cons Jt (by kernel_rfl) Wh.q37_v ok_q37
def J_:iq:=⟨94,[.v bx,.v I6],[.v I6],Wh.q84,Wh.q84'⟩
def C_q84:Cx:=⟨en,[Jt.entry],false,Gl⟩
def lt_q84:LT:=[]
theorem e_q84:EV C_q84 lt_q84 Tryz.f94 [.v bx,.v I6] [.v I6] Wh.q84:=by intro xs;kernel_rfl
theorem ok_q84:CO J_:=con_ok (Ls:=[]) mixed (e_ _ _) (fk_q37 _ fk) Tryz.func94 (loopsL_nil (by kernel_rfl)) (boxesL_none (by kernel_rfl)) e_q84
theorem fk_q84:FK J_:=fun _ _ h=>h.cons J_ (by kernel_rfl) Wh.q84_v ok_q84
def Jg:iq:=⟨177,[.v (.lst eA),.v I6],[.v I6],Wh.q22,Wh.q22'⟩
def C_q22:Cx:=⟨en,[],false,Gl⟩
def ME:b8:=kS ⟨[(5,.leaf I6),(0,.leaf (.lst eA)),(1,.leaf I6)],[]⟩ [(.ret,⟨[(4,.leaf I6)],[]⟩),((.exit 0),⟨[(1,.leaf I6)],[]⟩)] Wh.UH Wh.Dw
def S7:LT:=[(2,ME)]
theorem aaX:∀x,round C_q22 S7 (jo Tryz.f177 0) ME x=Wh.Dw x:=by intro x;kernel_rfl
theorem e_q22:EV C_q22 S7 Tryz.f177 [.v (.lst eA),.v I6] [.v I6] Wh.q22:=by intro xs;kernel_rfl
theorem ok_q22:CO Jg:=con_ok (Ls:=[ME]) mixed (e_ _ _) fk Tryz.func177 (loopsL_cons (by kernel_rfl) (loopD_ok aaX) (loopsL_nil (by kernel_rfl))) (boxesL_none (by kernel_rfl)) e_q22
theorem fk_q22:FK Jg:=fun _ _ h=>h.cons Jg (by kernel_rfl) Wh.q22_v ok_q22
def JL:iq:=⟨95,[.v gd,.v I6],[.v I6],Wh.q58,Wh.q58'⟩
def C_q58:Cx:=⟨en,[Jg.entry],false,Gl⟩
def lt_q58:LT:=[]
theorem e_q58:EV C_q58 lt_q58 Tryz.f95 [.v gd,.v I6] [.v I6] Wh.q58:=by intro xs;kernel_rfl
theorem ok_q58:CO JL:=con_ok (Ls:=[]) mixed (e_ _ _) (fk_q22 _ fk) Tryz.func95 (loopsL_nil (by kernel_rfl)) (boxesL_none (by kernel_rfl)) e_q58
theorem fk_q58:FK JL:=fun _ _ h=>h.cons JL (by kernel_rfl) Wh.q58_v ok_q58
def Ja:iq:=⟨96,[.v (.lst fN),.v I6],[.v I6],Wh.q16,Wh.q16'⟩
def C_q16:Cx:=⟨en,[],false,Gl⟩
def MD:b8:=kS ⟨[(5,.leaf I6),(0,.leaf (.lst fN)),(1,.leaf I6)],[]⟩ [(.ret,⟨[(4,.leaf I6)],[]⟩),((.exit 0),⟨[(1,.leaf I6)],[]⟩)] Wh.UE Wh.Du
def S5:LT:=[(2,MD)]
theorem aaW:∀x,round C_q16 S5 (jo Tryz.f96 0) MD x=Wh.Du x:=by intro x;kernel_rfl
theorem e_q16:EV C_q16 S5 Tryz.f96 [.v (.lst fN),.v I6] [.v I6] Wh.q16:=by intro xs;kernel_rfl
theorem ok_q16:CO Ja:=con_ok (Ls:=[MD]) mixed (e_ _ _) fk Tryz.func96 (loopsL_cons (by kernel_rfl) (loopD_ok aaW) (loopsL_nil (by kernel_rfl))) (boxesL_none (by kernel_rfl)) e_q16
theorem fk_q16:FK Ja:=fun _ _ h=>h.cons Ja (by kernel_rfl) Wh.q16_v ok_q16
def Jh:iq:=⟨97,[.v (.lst fT),.v I6],[.v I6],Wh.q23,Wh.q23'⟩
def C_q23:Cx:=⟨en,[],false,Gl⟩
def MH:b8:=kS ⟨[(5,.leaf I6),(0,.leaf (.lst fT)),(1,.leaf I6)],[]⟩ [(.ret,⟨[(4,.leaf I6)],[]⟩),((.exit 0),⟨[(1,.leaf I6)],[]⟩)] Wh.UI Wh.Dx
def S8:LT:=[(2,MH)]
theorem aaZ:∀x,round C_q23 S8 (jo Tryz.f97 0) MH x=Wh.Dx x:=by intro x;kernel_rfl
theorem e_q23:EV C_q23 S8 Tryz.f97 [.v (.lst fT),.v I6] [.v I6] Wh.q23:=by intro xs;kernel_rfl
theorem ok_q23:CO Jh:=con_ok (Ls:=[MH]) mixed (e_ _ _) fk Tryz.func97 (loopsL_cons (by kernel_rfl) (loopD_ok aaZ) (loopsL_nil (by kernel_rfl))) (boxesL_none (by kernel_rfl)) e_q23
theorem fk_q23:FK Jh:=fun _ _ h=>h.cons Jh (by kernel_rfl) Wh.q23_v ok_q23
def Ji:iq:=⟨22,[.v ct,.v I6],[.v I6],Wh.Cv,Wh.q24'⟩
def C_q24:Cx:=⟨en,[Jh.entry,Ja.entry,JL.entry,J_.entry],false,Gl⟩
def lt_q24:LT:=[]
theorem e_q24:EV C_q24 lt_q24 Tryz.f22 [.v ct,.v I6] [.v I6] Wh.Cv:=by intro xs;kernel_rfl
theorem ok_q24:CO Ji:=con_ok (Ls:=[]) mixed (e_ _ _) (fk_q23 _ (fk_q16 _ (fk_q58 _ (fk_q84 _ fk)))) Tryz.func22 (loopsL_nil (by kernel_rfl)) (boxesL_none (by kernel_rfl)) e_q24
theorem fk_q24:FK Ji:=fun _ _ h=>h.cons Ji (by kernel_rfl) Wh.q24_v ok_q24
def IX:iq:=⟨271,[.v .str],[.v .bool],Wh.EP,Wh.Px⟩
def C_q136:Cx:=⟨en,[D4.entry],false,Gl⟩
def X5:LT:=[]
theorem e_q136:EV C_q136 X5 Tryz.f271 [.v .str] [.v .bool] Wh.EP:=by intro xs;kernel_rfl
theorem Y1:CO IX:=con_ok (Ls:=[]) mixed (e_ _ _) (KF _ fk) Tryz.func271 (loopsL_nil (by kernel_rfl)) (boxesL_none (by kernel_rfl)) e_q136
theorem WK:FK IX:=fun _ _ h=>h.cons IX (by kernel_rfl) Wh.Us Y1
def IG:iq:=⟨182,[.v .str,.v .str],[.v .str,.v .bool],Wh.EC,Wh.OZ⟩
def C_q113:Cx:=⟨en,[Gu.entry,Af.entry,IX.entry,D4.entry],false,Gl⟩
def XR:LT:=[]
theorem e_q113:EV C_q113 XR Tryz.f182 [.v .str,.v .str] [.v .str,.v .bool] Wh.EC:=by intro xs;kernel_rfl
theorem YE:CO IG:=con_ok (Ls:=[]) mixed (e_ _ _) (RJ _ (A3 _ (WK _ (KF _ fk)))) Tryz.func182 (loopsL_nil (by kernel_rfl)) (boxesL_none (by kernel_rfl)) e_q113
theorem Ww:FK IG:=fun _ _ h=>h.cons IG (by kernel_rfl) Wh.T4 YE
def Iw:iq:=⟨191,[.v .str,.v .str],[.v .str,.v .bool],Wh.Ev,Wh.OI⟩
def C_q101:Cx:=⟨en,[GN.entry,Av.entry,GM.entry],false,Gl⟩
def XH:LT:=[]
theorem e_q101:EV C_q101 XH Tryz.f191 [.v .str,.v .str] [.v .str,.v .bool] Wh.Ev:=by intro xs;kernel_rfl
theorem Yr:CO Iw:=con_ok (Ls:=[]) mixed (e_ _ _) (R3 _ (Bl _ (R2 _ fk))) Tryz.func191 (loopsL_nil (by kernel_rfl)) (boxesL_none (by kernel_rfl)) e_q101
theorem Wm:FK Iw:=fun _ _ h=>h.cons Iw (by kernel_rfl) Wh.TS Yr
def IK:iq:=⟨102,[.v ct,.v .str],[.v ct,.v I6],Wh.EE,Wh.O6⟩
def C_q116:Cx:=⟨en,[Gv.entry,IG.entry],false,Gl⟩
def XS:LT:=[]
theorem e_q116:EV C_q116 XS Tryz.f102 [.v ct,.v .str] [.v ct,.v I6] Wh.EE:=by intro xs;kernel_rfl
theorem YH:CO IK:=con_ok (Ls:=[]) mixed (e_ _ _) (RL _ (Ww _ fk)) Tryz.func102 (loopsL_nil (by kernel_rfl)) (boxesL_none (by kernel_rfl)) e_q116
theorem Wz:FK IK:=fun _ _ h=>h.cons IK (by kernel_rfl) Wh.Ua YH
def Jy:iq:=⟨25,[.v ct,.v I6,.v .str,.v .str],[.v ct,.v I6],Wh.q42,Wh.q42'⟩
def C_q42:Cx:=⟨en,[IK.entry,GH.entry,Gr.entry,Kj.entry,JW.entry],false,Gl⟩
def lt_q42:LT:=[]
theorem e_q42:EV C_q42 lt_q42 Tryz.f25 [.v ct,.v I6,.v .str,.v .str] [.v ct,.v I6] Wh.q42:=by intro xs;kernel_rfl
theorem ok_q42:CO Jy:=con_ok (Ls:=[]) mixed (e_ _ _) (Wz _ (RX _ (RG _ (fk_q93 _ (fk_q69 _ fk))))) Tryz.func25 (loopsL_nil (by kernel_rfl)) (boxesL_none (by kernel_rfl)) e_q42
theorem fk_q42:FK Jy:=fun _ _ h=>h.cons Jy (by kernel_rfl) Wh.q42_v ok_q42
def Jf:iq:=⟨104,[.v ct,.v I6,.v .str,.v .str],[.d ct,.v I6],Wh.q21,Wh.q21'⟩
def C_q21:Cx:=⟨en,[Iw.entry,GF.entry,GL.entry,I1.entry],true,Gl⟩
def lt_q21:LT:=[]
theorem e_q21:EV C_q21 lt_q21 Tryz.f104 [.v ct,.v I6,.v .str,.v .str] [.d ct,.v I6] Wh.q21:=by intro xs;kernel_rfl
theorem ok_q21:CO Jf:=con_ok (Ls:=[]) mixed (e_ _ _) (Wm _ (RU _ (R1 _ (fk_q14 _ Cc)))) Tryz.func104 (loopsL_nil (by kernel_rfl)) (boxesL_none (by kernel_rfl)) e_q21
theorem fk_q21:FK Jf:=fun _ _ h=>h.cons Jf (by kernel_rfl) Wh.q21_v ok_q21
def Jq:iq:=⟨26,[.v ct,.v I6,.v .str,.v .str],[.d ct,.v I6],Wh.CB,Wh.q33'⟩
def C_q33:Cx:=⟨en,[Jf.entry,JD.entry],true,Gl⟩
def lt_q33:LT:=[]
theorem e_q33:EV C_q33 lt_q33 Tryz.f26 [.v ct,.v I6,.v .str,.v .str] [.d ct,.v I6] Wh.CB:=by intro xs;kernel_rfl
theorem ok_q33:CO Jq:=con_ok (Ls:=[]) mixed (e_ _ _) (fk_q21 _ (fk_q49 _ Cc)) Tryz.func26 (loopsL_nil (by kernel_rfl)) (boxesL_none (by kernel_rfl)) e_q33
theorem fk_q33:FK Jq:=fun _ _ h=>h.cons Jq (by kernel_rfl) Wh.q33_v ok_q33
def K_q5:iq:=⟨6,[.v ct,.v I6,.v .str,.v .str],[.v .bool],Wh.q5,Wh.q5'⟩
def C_q5:Cx:=⟨en,[Ji.entry,Jl.entry,JK.entry,Jq.entry,Jy.entry,JU.entry,JQ.entry],false,Gl⟩
def lt_q5:LT:=[]
theorem e_q5:EV C_q5 lt_q5 Tryz.f6 [.v ct,.v I6,.v .str,.v .str] [.v .bool] Wh.q5:=by intro xs;kernel_rfl
theorem ok_q5:CO K_q5:=con_ok (Ls:=[]) mixed (e_ _ _) (fk_q24 _ (fk_q27 _ (fk_q57 _ (fk_q33 _ (fk_q42 _ (fk_q67 _ (fk_q63 _ fk))))))) Tryz.func6 (loopsL_nil (by kernel_rfl)) (boxesL_none (by kernel_rfl)) e_q5
end
end Go.Proofs.AN
