import Derived.Test.YtfeoanopdlpabaaGreatDoorX12
import Derived.Test.YtfeoanopdlpabaaGreatDoorProg
import Derived.KernelRfl
open Go Go.Ab
namespace Go.Proofs.AL
noncomputable section
def cx:List (Nat×TI):=[(2,⟨(.int .i64),0⟩),(3,⟨(.int .i64),0⟩),(4,⟨.bool,0⟩),(5,⟨(.int .u8),0⟩),(6,⟨(.int .u8),0⟩),(7,⟨QA,1⟩),(8,⟨QA,1⟩),(9,⟨.str,0⟩),(10,⟨.str,0⟩),(11,⟨.str,0⟩),(12,⟨(.int .u64),0⟩),(13,⟨QB,0⟩),(14,⟨QB,0⟩),(21,⟨(.int .i32),0⟩),(455,⟨(.int .i32),0⟩),(454,⟨(.int .i32),0⟩),(422,⟨(.ref (.int .u8)),0⟩),(452,⟨(.int .u8),0⟩),(451,⟨(.int .u8),0⟩),(345,⟨(.int .u32),0⟩),(118,⟨an,1⟩),(260,⟨an,1⟩),(22,⟨(.lst an),0⟩),(23,⟨cr,0⟩),(24,⟨cr,0⟩),(122,⟨e_,1⟩),(282,⟨e_,1⟩),(25,⟨(.lst e_),0⟩),(26,⟨gd,0⟩),(27,⟨gd,0⟩),(126,⟨fN,1⟩),(204,⟨fN,1⟩),(28,⟨(.lst fN),0⟩),(134,⟨fT,1⟩),(206,⟨fT,1⟩),(29,⟨(.lst fT),0⟩),(30,⟨ct,0⟩),(31,⟨ct,0⟩),(119,⟨an,1⟩),(34,⟨(.lst an),0⟩),(35,⟨cr,0⟩),(36,⟨cr,0⟩),(123,⟨e_,1⟩),(37,⟨(.lst e_),0⟩),(38,⟨gd,0⟩),(39,⟨gd,0⟩),(127,⟨fN,1⟩),(40,⟨(.lst fN),0⟩),(135,⟨fT,1⟩),(41,⟨(.lst fT),0⟩),(42,⟨ct,0⟩),(43,⟨ct,0⟩),(56,⟨(.lst (.int .i64)),0⟩),(57,⟨yA,0⟩),(58,⟨yA,0⟩),(320,⟨F1,0⟩),(340,⟨F1,0⟩),(59,⟨(.lst F1),0⟩),(60,⟨E_,0⟩),(61,⟨E_,0⟩),(62,⟨E9,0⟩),(63,⟨E9,0⟩),(64,⟨CK,0⟩),(65,⟨CK,0⟩),(66,⟨HD,1⟩),(67,⟨HD,1⟩),(70,⟨yA,0⟩),(321,⟨F1,0⟩),(71,⟨(.lst F1),0⟩),(72,⟨E_,0⟩),(73,⟨E_,0⟩),(74,⟨E9,0⟩),(75,⟨E9,0⟩),(76,⟨CK,0⟩),(77,⟨CK,0⟩),(82,⟨HD,1⟩),(78,⟨(.lst HD),0⟩),(89,⟨(.lst CK),0⟩),(174,⟨F2,1⟩),(258,⟨F2,1⟩),(90,⟨(.lst F2),0⟩),(91,⟨HE,0⟩),(92,⟨HE,0⟩),(95,⟨(.lst CK),0⟩),(175,⟨F2,1⟩),(96,⟨(.lst F2),0⟩),(97,⟨HE,0⟩),(98,⟨HE,0⟩),(111,⟨(.lst .str),0⟩),(192,⟨LI,1⟩),(193,⟨LI,1⟩),(189,⟨(.lst LI),0⟩),(256,⟨(.lst (.int .u8)),0⟩),(314,⟨(.ref ct),0⟩),(331,⟨(.int .u64),0⟩),(332,⟨(.ref e_),0⟩),(357,⟨(.int .i64),0⟩),(366,⟨(.int .u64),0⟩),(369,⟨(.int .i64),0⟩),(375,⟨(.arr 24 (.int .u8)),0⟩),(379,⟨(.arr 8 (.int .u32)),0⟩),(380,⟨(.arr 64 (.int .u32)),0⟩),(399,⟨(.int .u64),0⟩),(403,⟨(.ref (.int .i64)),0⟩),(405,⟨(.lst (.int .u32)),0⟩),(416,⟨(.arr 20 (.int .u64)),0⟩),(417,⟨(.arr 65 (.int .u8)),0⟩),(425,⟨(.ref (.int .u64)),0⟩),(432,⟨xT,1⟩),(433,⟨xT,1⟩),(431,⟨(.ref xT),0⟩),(440,⟨(.arr 32 (.int .u8)),0⟩),(441,⟨(.arr 64 (.int .u8)),0⟩),(442,⟨(.arr 256 (.int .u8)),0⟩),(443,⟨QC,1⟩),(444,⟨QC,1⟩)]
theorem tab_ok:cn (fun x=>(cK Tryz.prog x.2.t).1 x.1&&(!(Nat.beq x.2.e 1) || eqB Tryz.prog x.1)) cx=true:=by kernel_rfl
theorem eA (fns:List (Nat×List Ab.Mode×(List Arg→Option Res))) (dp:Bool):bH Tryz.prog ⟨cx,fns,dp,Gl⟩:=cxOk_of tab_ok
theorem mixed:Tryz.prog.follows .mixedOrders=true:=by kernel_rfl
abbrev FT:Type:=List (Nat×List Ab.Mode×(List Arg→Option Res))
abbrev FK (c:iq):Prop:=∀(fns:FT) {dp:Bool},dD Tryz.prog Gb ⟨cx,fns,dp,Gl⟩→dD Tryz.prog Gb ⟨cx,c.entry::fns,dp,Gl⟩
abbrev EV (C:Cx) (lt:List (Nat×b8)) (f:Func) (ps:List PT) (ws:List Want) (g:gE ps→Option (jr ws×ij ps)):Prop:=∀xs,evT C lt f ps ws xs=g xs
abbrev CO (c:iq):Prop:=ConOk Tryz.prog Gb c
abbrev LT:Type:=List (Nat×b8)
abbrev z0:Nat:=500000000
abbrev z1:Nat:=500000001
abbrev z2:Nat:=500000002
abbrev z3:Nat:=500000003
abbrev I6:Ty:=.int .i64
abbrev I8:Ty:=.int .u8
abbrev I3:Ty:=.int .u32
theorem fe:dD Tryz.prog Gb ⟨cx,[],false,Gl⟩:=dD.nil cx false gl_ok
theorem B6:dD Tryz.prog Gb ⟨cx,[],true,Gl⟩:=dD.nil cx true gl_ok
def Ik:iq:=⟨229,[.v an,.v I6],[.v I6],Wh.Ep,Wh.Oy⟩
def C_q106:Cx:=⟨cx,[],false,Gl⟩
def Xm:LT:=[]
theorem e_q106:EV C_q106 Xm Tryz.f229 [.v an,.v I6] [.v I6] Wh.Ep:=by intro xs;kernel_rfl
theorem X6:CO Ik:=con_ok (Ls:=[]) mixed (eA _ _) fe Tryz.func229 (loopsL_nil (by kernel_rfl)) (boxesL_none (by kernel_rfl)) e_q106
theorem V3:FK Ik:=fun _ _ h=>h.cons Ik (by kernel_rfl) Wh.Oz X6
def JY:iq:=⟨125,[.v (.lst an),.v I6],[.v I6],Wh.q85,Wh.q85'⟩
def C_q85:Cx:=⟨cx,[Ik.entry],false,Gl⟩
def Mv:b8:=kS ⟨[(5,.leaf I6),(1,.leaf I6),(0,.leaf (.lst an))],[]⟩ [(.ret,⟨[(4,.leaf I6)],[]⟩),((.exit 0),⟨[(1,.leaf I6)],[]⟩)] Wh.Ql Wh.DH
def S7:LT:=[(5,Mv)]
theorem aaA:∀x,round C_q85 S7 (jo Tryz.f125 0) Mv x=Wh.DH x:=by intro x;kernel_rfl
theorem e_q85:EV C_q85 S7 Tryz.f125 [.v (.lst an),.v I6] [.v I6] Wh.q85:=by intro xs;kernel_rfl
theorem ok_q85:CO JY:=con_ok (Ls:=[Mv]) mixed (eA _ _) (V3 _ fe) Tryz.func125 (loopsL_cons (by kernel_rfl) (loopD_ok aaA) (loopsL_nil (by kernel_rfl))) (boxesL_none (by kernel_rfl)) e_q85
theorem fk_q85:FK JY:=fun _ _ h=>h.cons JY (by kernel_rfl) Wh.q85_v ok_q85
def ID:iq:=⟨54,[.v cr,.v I6],[.v I6],Wh.EB,Wh.O2⟩
def C_q129:Cx:=⟨cx,[JY.entry],false,Gl⟩
def XB:LT:=[]
theorem e_q129:EV C_q129 XB Tryz.f54 [.v cr,.v I6] [.v I6] Wh.EB:=by intro xs;kernel_rfl
theorem Yt:CO ID:=con_ok (Ls:=[]) mixed (eA _ _) (fk_q85 _ fe) Tryz.func54 (loopsL_nil (by kernel_rfl)) (boxesL_none (by kernel_rfl)) e_q129
theorem Wi:FK ID:=fun _ _ h=>h.cons ID (by kernel_rfl) Wh.TY Yt
def Jx:iq:=⟨149,[.v (.lst e_),.v I6],[.v I6],Wh.q59,Wh.q59'⟩
def C_q59:Cx:=⟨cx,[],false,Gl⟩
def lt_q59:LT:=[]
theorem e_q59:EV C_q59 lt_q59 Tryz.f149 [.v (.lst e_),.v I6] [.v I6] Wh.q59:=by intro xs;kernel_rfl
theorem ok_q59:CO Jx:=con_ok (Ls:=[]) mixed (eA _ _) fe Tryz.func149 (loopsL_nil (by kernel_rfl)) (boxesL_none (by kernel_rfl)) e_q59
theorem fk_q59:FK Jx:=fun _ _ h=>h.cons Jx (by kernel_rfl) Wh.q59_v ok_q59
def Il:iq:=⟨55,[.v gd,.v I6],[.v I6],Wh.Er,Wh.OA⟩
def C_q107:Cx:=⟨cx,[Jx.entry],false,Gl⟩
def Xn:LT:=[]
theorem e_q107:EV C_q107 Xn Tryz.f55 [.v gd,.v I6] [.v I6] Wh.Er:=by intro xs;kernel_rfl
theorem X7:CO Il:=con_ok (Ls:=[]) mixed (eA _ _) (fk_q59 _ fe) Tryz.func55 (loopsL_nil (by kernel_rfl)) (boxesL_none (by kernel_rfl)) e_q107
theorem V4:FK Il:=fun _ _ h=>h.cons Il (by kernel_rfl) Wh.Tx X7
def Jf:iq:=⟨56,[.v (.lst fN),.v I6],[.v I6],Wh.q38,Wh.q38'⟩
def C_q38:Cx:=⟨cx,[],false,Gl⟩
def lt_q38:LT:=[]
theorem e_q38:EV C_q38 lt_q38 Tryz.f56 [.v (.lst fN),.v I6] [.v I6] Wh.q38:=by intro xs;kernel_rfl
theorem ok_q38:CO Jf:=con_ok (Ls:=[]) mixed (eA _ _) fe Tryz.func56 (loopsL_nil (by kernel_rfl)) (boxesL_none (by kernel_rfl)) e_q38
theorem fk_q38:FK Jf:=fun _ _ h=>h.cons Jf (by kernel_rfl) Wh.q38_v ok_q38
def Jz:iq:=⟨57,[.v (.lst fT),.v I6],[.v I6],Wh.q60,Wh.q60'⟩
def C_q60:Cx:=⟨cx,[],false,Gl⟩
def lt_q60:LT:=[]
theorem e_q60:EV C_q60 lt_q60 Tryz.f57 [.v (.lst fT),.v I6] [.v I6] Wh.q60:=by intro xs;kernel_rfl
theorem ok_q60:CO Jz:=con_ok (Ls:=[]) mixed (eA _ _) fe Tryz.func57 (loopsL_nil (by kernel_rfl)) (boxesL_none (by kernel_rfl)) e_q60
theorem fk_q60:FK Jz:=fun _ _ h=>h.cons Jz (by kernel_rfl) Wh.q60_v ok_q60
def JA:iq:=⟨14,[.v ct,.v I6],[.v I6],Wh.q61,Wh.q61'⟩
def C_q61:Cx:=⟨cx,[Jz.entry,Jf.entry,Il.entry,ID.entry],false,Gl⟩
def lt_q61:LT:=[]
theorem e_q61:EV C_q61 lt_q61 Tryz.f14 [.v ct,.v I6] [.v I6] Wh.q61:=by intro xs;kernel_rfl
theorem ok_q61:CO JA:=con_ok (Ls:=[]) mixed (eA _ _) (fk_q60 _ (fk_q38 _ (V4 _ (Wi _ fe)))) Tryz.func14 (loopsL_nil (by kernel_rfl)) (boxesL_none (by kernel_rfl)) e_q61
theorem fk_q61:FK JA:=fun _ _ h=>h.cons JA (by kernel_rfl) Wh.q61_v ok_q61
def Im:iq:=⟨232,[.v an],[.v an],Wh.FM,Wh.OB⟩
def C_q108:Cx:=⟨cx,[],false,Gl⟩
def Xo:LT:=[]
theorem e_q108:EV C_q108 Xo Tryz.f232 [.v an] [.v an] Wh.FM:=by intro xs;kernel_rfl
theorem X8:CO Im:=con_ok (Ls:=[]) mixed (eA _ _) fe Tryz.func232 (loopsL_nil (by kernel_rfl)) (boxesL_none (by kernel_rfl)) e_q108
theorem V5:FK Im:=fun _ _ h=>h.cons Im (by kernel_rfl) Wh.Tz X8
def J0:iq:=⟨129,[.v (.lst an)],[.v (.own an)],Wh.q87,Wh.q87'⟩
def C_q87:Cx:=⟨cx,[Im.entry],false,Gl⟩
def My:b8:=kS ⟨[(4,.leaf I6),(0,.leaf (.lst an)),(3,.whole z0 an)],[(z0,false,.rows an)]⟩ [((.exit 0),⟨[(3,.whole z0 an)],[(z0,false,.rows an)]⟩)] Wh.UW Wh.DI
def S8:LT:=[(3,My)]
theorem aaD:∀x,round C_q87 S8 (jo Tryz.f129 0) My x=Wh.DI x:=by intro x;kernel_rfl
theorem e_q87:EV C_q87 S8 Tryz.f129 [.v (.lst an)] [.v (.own an)] Wh.q87:=by intro xs;kernel_rfl
theorem ok_q87:CO J0:=con_ok (Ls:=[My]) mixed (eA _ _) (V5 _ fe) Tryz.func129 (loopsL_cons (by kernel_rfl) (loopD_ok aaD) (loopsL_nil (by kernel_rfl))) (boxesL_none (by kernel_rfl)) e_q87
theorem fk_q87:FK J0:=fun _ _ h=>h.cons J0 (by kernel_rfl) Wh.q87_v ok_q87
def IE:iq:=⟨69,[.v cr],[.v (.pair I6 (.pair (.own an) .unit))],Wh.EC,Wh.O3⟩
def C_q130:Cx:=⟨cx,[J0.entry],false,Gl⟩
def XC:LT:=[]
theorem e_q130:EV C_q130 XC Tryz.f69 [.v cr] [.v (.pair I6 (.pair (.own an) .unit))] Wh.EC:=by intro xs;kernel_rfl
theorem Yu:CO IE:=con_ok (Ls:=[]) mixed (eA _ _) (fk_q87 _ fe) Tryz.func69 (loopsL_nil (by kernel_rfl)) (boxesL_none (by kernel_rfl)) e_q130
theorem Wj:FK IE:=fun _ _ h=>h.cons IE (by kernel_rfl) Wh.TZ Yu
def JZ:iq:=⟨259,[.v e_],[.v e_],Wh.q86,Wh.q86'⟩
def C_q86:Cx:=⟨cx,[],false,Gl⟩
def lt_q86:LT:=[]
theorem e_q86:EV C_q86 lt_q86 Tryz.f259 [.v e_] [.v e_] Wh.q86:=by intro xs;kernel_rfl
theorem ok_q86:CO JZ:=con_ok (Ls:=[]) mixed (eA _ _) fe Tryz.func259 (loopsL_nil (by kernel_rfl)) (boxesL_none (by kernel_rfl)) e_q86
theorem fk_q86:FK JZ:=fun _ _ h=>h.cons JZ (by kernel_rfl) Wh.q86_v ok_q86
def JC:iq:=⟨153,[.v (.lst e_)],[.v (.own e_)],Wh.q63,Wh.q63'⟩
def C_q63:Cx:=⟨cx,[JZ.entry],false,Gl⟩
def Mx:b8:=kS ⟨[(4,.leaf I6),(0,.leaf (.lst e_)),(3,.whole z0 e_)],[(z0,false,.rows e_)]⟩ [((.exit 0),⟨[(3,.whole z0 e_)],[(z0,false,.rows e_)]⟩)] Wh.UL Wh.DD
def S1:LT:=[(3,Mx)]
theorem aaC:∀x,round C_q63 S1 (jo Tryz.f153 0) Mx x=Wh.DD x:=by intro x;kernel_rfl
theorem e_q63:EV C_q63 S1 Tryz.f153 [.v (.lst e_)] [.v (.own e_)] Wh.q63:=by intro xs;kernel_rfl
theorem ok_q63:CO JC:=con_ok (Ls:=[Mx]) mixed (eA _ _) (fk_q86 _ fe) Tryz.func153 (loopsL_cons (by kernel_rfl) (loopD_ok aaC) (loopsL_nil (by kernel_rfl))) (boxesL_none (by kernel_rfl)) e_q63
theorem fk_q63:FK JC:=fun _ _ h=>h.cons JC (by kernel_rfl) Wh.q63_v ok_q63
def Io:iq:=⟨70,[.v gd],[.v (.pair (.own e_) (.pair I6 .unit))],Wh.Es,Wh.OC⟩
def C_q109:Cx:=⟨cx,[JC.entry],false,Gl⟩
def Xp:LT:=[]
theorem e_q109:EV C_q109 Xp Tryz.f70 [.v gd] [.v (.pair (.own e_) (.pair I6 .unit))] Wh.Es:=by intro xs;kernel_rfl
theorem X9:CO Io:=con_ok (Ls:=[]) mixed (eA _ _) (fk_q63 _ fe) Tryz.func70 (loopsL_nil (by kernel_rfl)) (boxesL_none (by kernel_rfl)) e_q109
theorem V6:FK Io:=fun _ _ h=>h.cons Io (by kernel_rfl) Wh.TA X9
def JB:iq:=⟨154,[.v fN],[.v fN],Wh.q62,Wh.q62'⟩
def C_q62:Cx:=⟨cx,[],false,Gl⟩
def lt_q62:LT:=[]
theorem e_q62:EV C_q62 lt_q62 Tryz.f154 [.v fN] [.v fN] Wh.q62:=by intro xs;kernel_rfl
theorem ok_q62:CO JB:=con_ok (Ls:=[]) mixed (eA _ _) fe Tryz.func154 (loopsL_nil (by kernel_rfl)) (boxesL_none (by kernel_rfl)) e_q62
theorem fk_q62:FK JB:=fun _ _ h=>h.cons JB (by kernel_rfl) Wh.q62_v ok_q62
def Jg:iq:=⟨71,[.v (.lst fN)],[.v (.own fN)],Wh.q39,Wh.q39'⟩
def C_q39:Cx:=⟨cx,[JB.entry],false,Gl⟩
def Mw:b8:=kS ⟨[(4,.leaf I6),(0,.leaf (.lst fN)),(3,.whole z0 fN)],[(z0,false,.rows fN)]⟩ [((.exit 0),⟨[(3,.whole z0 fN)],[(z0,false,.rows fN)]⟩)] Wh.Ut Wh.Dx
def SU:LT:=[(3,Mw)]
theorem aaB:∀x,round C_q39 SU (jo Tryz.f71 0) Mw x=Wh.Dx x:=by intro x;kernel_rfl
theorem e_q39:EV C_q39 SU Tryz.f71 [.v (.lst fN)] [.v (.own fN)] Wh.q39:=by intro xs;kernel_rfl
theorem ok_q39:CO Jg:=con_ok (Ls:=[Mw]) mixed (eA _ _) (fk_q62 _ fe) Tryz.func71 (loopsL_cons (by kernel_rfl) (loopD_ok aaB) (loopsL_nil (by kernel_rfl))) (boxesL_none (by kernel_rfl)) e_q39
theorem fk_q39:FK Jg:=fun _ _ h=>h.cons Jg (by kernel_rfl) Wh.q39_v ok_q39
def J1:iq:=⟨155,[.v fT],[.v fT],Wh.q88,Wh.q88'⟩
def C_q88:Cx:=⟨cx,[],false,Gl⟩
def lt_q88:LT:=[]
theorem e_q88:EV C_q88 lt_q88 Tryz.f155 [.v fT] [.v fT] Wh.q88:=by intro xs;kernel_rfl
theorem ok_q88:CO J1:=con_ok (Ls:=[]) mixed (eA _ _) fe Tryz.func155 (loopsL_nil (by kernel_rfl)) (boxesL_none (by kernel_rfl)) e_q88
theorem fk_q88:FK J1:=fun _ _ h=>h.cons J1 (by kernel_rfl) Wh.q88_v ok_q88
def JD:iq:=⟨72,[.v (.lst fT)],[.v (.own fT)],Wh.q64,Wh.q64'⟩
def C_q64:Cx:=⟨cx,[J1.entry],false,Gl⟩
def Mz:b8:=kS ⟨[(4,.leaf I6),(0,.leaf (.lst fT)),(3,.whole z0 fT)],[(z0,false,.rows fT)]⟩ [((.exit 0),⟨[(3,.whole z0 fT)],[(z0,false,.rows fT)]⟩)] Wh.UM Wh.DE
def S2:LT:=[(3,Mz)]
theorem aaE:∀x,round C_q64 S2 (jo Tryz.f72 0) Mz x=Wh.DE x:=by intro x;kernel_rfl
theorem e_q64:EV C_q64 S2 Tryz.f72 [.v (.lst fT)] [.v (.own fT)] Wh.q64:=by intro xs;kernel_rfl
theorem ok_q64:CO JD:=con_ok (Ls:=[Mz]) mixed (eA _ _) (fk_q88 _ fe) Tryz.func72 (loopsL_cons (by kernel_rfl) (loopD_ok aaE) (loopsL_nil (by kernel_rfl))) (boxesL_none (by kernel_rfl)) e_q64
theorem fk_q64:FK JD:=fun _ _ h=>h.cons JD (by kernel_rfl) Wh.q64_v ok_q64
def JE:iq:=⟨16,[.v ct],[.v (.pair .bool (.pair I6 (.pair .str (.pair (.pair I6 (.pair (.own an) .unit)) (.pair (.pair (.own e_) (.pair I6 .unit)) (.pair (.own fN) (.pair (.own fT) .unit)))))))],Wh.BI,Wh.q65'⟩
def C_q65:Cx:=⟨cx,[JD.entry,Jg.entry,Io.entry,IE.entry],false,Gl⟩
def lt_q65:LT:=[]
theorem e_q65:EV C_q65 lt_q65 Tryz.f16 [.v ct] [.v (.pair .bool (.pair I6 (.pair .str (.pair (.pair I6 (.pair (.own an) .unit)) (.pair (.pair (.own e_) (.pair I6 .unit)) (.pair (.own fN) (.pair (.own fT) .unit)))))))] Wh.BI:=by intro xs;kernel_rfl
theorem ok_q65:CO JE:=con_ok (Ls:=[]) mixed (eA _ _) (fk_q64 _ (fk_q39 _ (V6 _ (Wj _ fe)))) Tryz.func16 (loopsL_nil (by kernel_rfl)) (boxesL_none (by kernel_rfl)) e_q65
theorem fk_q65:FK JE:=fun _ _ h=>h.cons JE (by kernel_rfl) Wh.q65_v ok_q65
def Ad:iq:=⟨58,[.v I6,.v I6,.v I6],[.v .bool],Wh.xW,Wh.yh⟩
def C_q142:Cx:=⟨cx,[],false,Gl⟩
def XG:LT:=[]
theorem e_q142:EV C_q142 XG Tryz.f58 [.v I6,.v I6,.v I6] [.v .bool] Wh.xW:=by intro xs;kernel_rfl
theorem YG:CO Ad:=con_ok (Ls:=[]) mixed (eA _ _) fe Tryz.func58 (loopsL_nil (by kernel_rfl)) (boxesL_none (by kernel_rfl)) e_q142
theorem AZ:FK Ad:=fun _ _ h=>h.cons Ad (by kernel_rfl) Wh.y9 YG
def Gg:iq:=⟨178,[.v .str,.v I6,.v I8],[.v I6],Wh.yZ,Wh.G5⟩
def QM:Cx:=⟨cx,[],false,Gl⟩
def M9:b8:=kS ⟨[(7,.leaf I6),(2,.leaf I8),(0,.leaf .str)],[]⟩ [(.ret,⟨[(6,.leaf I6)],[]⟩),((.exit 0),⟨[],[]⟩)] Wh.TN Wh.Bz
def Su:LT:=[(2,M9)]
theorem aba:∀x,round QM Su (jo Tryz.f178 0) M9 x=Wh.Bz x:=by intro x;kernel_rfl
theorem e_q116:EV QM Su Tryz.f178 [.v .str,.v I6,.v I8] [.v I6] Wh.yZ:=by intro xs;kernel_rfl
theorem Yf:CO Gg:=con_ok (Ls:=[M9]) mixed (eA _ _) fe Tryz.func178 (loopsL_cons (by kernel_rfl) (loopD_ok aba) (loopsL_nil (by kernel_rfl))) (boxesL_none (by kernel_rfl)) e_q116
theorem Rl:FK Gg:=fun _ _ h=>h.cons Gg (by kernel_rfl) Wh.BA Yf
def Gr:iq:=⟨180,[.v .str],[.v I6],Wh.AD,Wh.Hf⟩
def QY:Cx:=⟨cx,[Ad.entry],false,Gl⟩
def M8:b8:=kS ⟨[(4,.leaf I6),(0,.leaf .str),(3,.leaf I6)],[]⟩ [(.ret,⟨[(2,.leaf I6)],[]⟩),((.exit 0),⟨[(3,.leaf I6)],[]⟩)] Wh.Uc Wh.Dl
def SE:LT:=[(5,M8)]
theorem aa_:∀x,round QY SE (jo Tryz.f180 0) M8 x=Wh.Dl x:=by intro x;kernel_rfl
theorem e_q140:EV QY SE Tryz.f180 [.v .str] [.v I6] Wh.AD:=by intro xs;kernel_rfl
theorem YE:CO Gr:=con_ok (Ls:=[M8]) mixed (eA _ _) (AZ _ fe) Tryz.func180 (loopsL_cons (by kernel_rfl) (loopD_ok aa_) (loopsL_nil (by kernel_rfl))) (boxesL_none (by kernel_rfl)) e_q140
theorem Ru:FK Gr:=fun _ _ h=>h.cons Gr (by kernel_rfl) Wh.EJ YE
def Gq:iq:=⟨189,[.v I6],[.v .str],Wh.BE,Wh.A8⟩
def Gc (g:((Int))→Option (((List UInt8))×(Unit))) (g':((Int))→((List UInt8))×(Unit)):iq:=⟨189,[.v I6],[.v .str],g,g'⟩
def C_q136 (g:((Int))→Option (((List UInt8))×(Unit))) (g':((Int))→((List UInt8))×(Unit)):Cx:=⟨cx,[(Gc g g').entry],false,Gl⟩
def XF:LT:=[]
theorem e_q136 (g:((Int))→Option (((List UInt8))×(Unit))) (g':((Int))→((List UInt8))×(Unit)):∀xs,evT (C_q136 g g') XF Tryz.f189 [.v I6] [.v .str] xs=Wh.q29 g g' xs:=by intro xs;kernel_rfl
theorem s_q136 (g:((Int))→Option (((List UInt8))×(Unit))) (g':((Int))→((List UInt8))×(Unit)) (hv:∀x y,g x=some y→g' x=y) (h:CO (Gc g g')):CO (Gc (Wh.q29 g g') (fun x=>match Wh.q29 g g' x with | some y=>y|none=>default)):=con_ok (Ls:=[]) mixed (eA _ _) (dD.cons fe (Gc g g') (by kernel_rfl) hv h) Tryz.func189 (loopsL_nil (by kernel_rfl)) (boxesL_none (by kernel_rfl)) (e_q136 g g')
theorem n_q136 (n:Nat):CO (Gc (Wh.AG n) (fun x=>match Wh.AG n x with | some y=>y|none=>default)):=by
 induction n with
 |zero=>intro xs y h;exact absurd (show none=some y from h) (by simp)
 |succ n ih=>
  rw[Wh.Pc n]
  exact s_q136 _ _ (fun x y h=>by simp only[h]) ih
theorem YA:CO Gq:=n_q136 20
theorem Rt:FK Gq:=fun _ _ h=>h.cons Gq (by kernel_rfl) Wh.Lb YA
def JK:iq:=⟨423,[.v .str],[.v (.own I8)],Wh.q70,Wh.q70'⟩
def LW:Cx:=⟨cx,[],false,Gl⟩
def MY:b8:=kS ⟨[(3,.whole z0 I8),(0,.leaf .str)],[(z0,false,.rows I8)]⟩ [((.exit 0),⟨[(3,.whole z0 I8),(0,.leaf .str)],[(z0,false,.rows I8)]⟩)] Wh.UP Wh.DF
def MZ:b8:=kS ⟨[(5,.leaf I6),(4,.leaf I6),(3,.whole z0 I8)],[(z0,false,.rows I8)]⟩ [((.exit 2),⟨[(3,.whole z0 I8)],[(z0,false,.rows I8)]⟩)] Wh.UQ Wh.ET
def N7:LT:=[(2,MY),(6,MZ)]
theorem aa2:∀x,round LW N7 (jo Tryz.f423 0) MY x=Wh.DF x:=by intro x;kernel_rfl
theorem aa3:∀x,round LW N7 (jo Tryz.f423 1) MZ x=Wh.ET x:=by intro x;kernel_rfl
theorem e_q70:EV LW N7 Tryz.f423 [.v .str] [.v (.own I8)] Wh.q70:=by intro xs;kernel_rfl
theorem ok_q70:CO JK:=con_ok (Ls:=[MY,MZ]) mixed (eA _ _) fe Tryz.func423 (loopsL_cons (by kernel_rfl) (loopD_ok aa2) (loopsL_cons (by kernel_rfl) (loopD_ok aa3) (loopsL_nil (by kernel_rfl)))) (boxesL_none (by kernel_rfl)) e_q70
theorem fk_q70:FK JK:=fun _ _ h=>h.cons JK (by kernel_rfl) Wh.q70_v ok_q70
def Gf:iq:=⟨449,[.v I3,.v I6],[.v I3],Wh.yc,Wh.zh⟩
def C_q114:Cx:=⟨cx,[],false,Gl⟩
def Xs:LT:=[]
theorem e_q114:EV C_q114 Xs Tryz.f449 [.v I3,.v I6] [.v I3] Wh.yc:=by intro xs;kernel_rfl
theorem Yd:CO Gf:=con_ok (Ls:=[]) mixed (eA _ _) fe Tryz.func449 (loopsL_nil (by kernel_rfl)) (boxesL_none (by kernel_rfl)) e_q114
theorem Rk:FK Gf:=fun _ _ h=>h.cons Gf (by kernel_rfl) Wh.q114_v Yd
def J9:iq:=⟨447,[.v (.lst I8)],[.v (.own I3)],Wh.q96,Wh.q96'⟩
def LX:Cx:=⟨cx,[Gf.entry],false,Gl⟩
def M4:b8:=kS ⟨[(4,.leaf I6),(0,.leaf (.lst I8)),(3,.whole z0 I3)],[(z0,false,.rows I3)]⟩ [((.exit 0),⟨[(3,.whole z0 I3)],[(z0,false,.rows I3)]⟩)] Wh.U0 Wh.EY
def M5:b8:=kS ⟨[(5,.leaf I6),(3,.whole z0 I3)],[(z0,false,.rows I3)]⟩ [((.exit 2),⟨[(3,.whole z0 I3)],[(z0,false,.rows I3)]⟩)] Wh.U1 Wh.EZ
def N8:LT:=[(3,M4),(7,M5)]
theorem aa6:∀x,round LX N8 (jo Tryz.f447 0) M4 x=Wh.EY x:=by intro x;kernel_rfl
theorem aa7:∀x,round LX N8 (jo Tryz.f447 1) M5 x=Wh.EZ x:=by intro x;kernel_rfl
theorem e_q96:EV LX N8 Tryz.f447 [.v (.lst I8)] [.v (.own I3)] Wh.q96:=by intro xs;kernel_rfl
theorem ok_q96:CO J9:=con_ok (Ls:=[M4,M5]) mixed (eA _ _) (Rk _ fe) Tryz.func447 (loopsL_cons (by kernel_rfl) (loopD_ok aa6) (loopsL_cons (by kernel_rfl) (loopD_ok aa7) (loopsL_nil (by kernel_rfl)))) (boxesL_none (by kernel_rfl)) e_q96
theorem fk_q96:FK J9:=fun _ _ h=>h.cons J9 (by kernel_rfl) Wh.q96_v ok_q96
def JI:iq:=⟨448,[],[.v (.own I3)],Wh.q69,Wh.q69'⟩
def C_q69:Cx:=⟨cx,[],false,Gl⟩
def lt_q69:LT:=[]
theorem e_q69:EV C_q69 lt_q69 Tryz.f448 [] [.v (.own I3)] Wh.q69:=by intro xs;kernel_rfl
theorem ok_q69:CO JI:=con_ok (Ls:=[]) mixed (eA _ _) fe Tryz.func448 (loopsL_nil (by kernel_rfl)) (boxesL_none (by kernel_rfl)) e_q69
theorem fk_q69:FK JI:=fun _ _ h=>h.cons JI (by kernel_rfl) Wh.q69_v ok_q69
def J8:iq:=⟨424,[.v (.lst I3),.v (.lst I8)],[.v (.own I3)],Wh.q94,Wh.q94'⟩
def H_:Cx:=⟨cx,[Gf.entry,JI.entry,J9.entry],false,Gl⟩
def MU:b8:=kS ⟨[(7,.whole z0 I3),(8,.leaf I6),(5,.whole z1 I3),(6,.whole z2 I3),(0,.leaf (.lst I3))],[(z0,false,.rows I3),(z1,false,.rows I3),(z2,false,.rows I3)]⟩ [((.exit 0),⟨[(7,.whole z0 I3),(0,.leaf (.lst I3))],[(z0,false,.rows I3)]⟩)] Wh.UY Wh.EX
def MV:b8:=kS ⟨[(14,.leaf I6),(7,.whole z0 I3),(5,.whole z1 I3),(6,.whole z2 I3),(0,.leaf (.lst I3)),(8,.leaf I6),(13,.leaf I3),(12,.leaf I3),(11,.leaf I3)],[(z0,false,.rows I3),(z1,false,.rows I3),(z2,false,.rows I3)]⟩ [((.exit 2),⟨[(7,.whole z0 I3),(5,.whole z1 I3),(6,.whole z2 I3),(0,.leaf (.lst I3)),(8,.leaf I6),(13,.leaf I3),(12,.leaf I3),(11,.leaf I3)],[(z0,false,.rows I3),(z1,false,.rows I3),(z2,false,.rows I3)]⟩)] Wh.Qq Wh.Hr
def MW:b8:=kS ⟨[(16,.leaf I6),(7,.whole z0 I3),(0,.leaf (.lst I3)),(15,.whole z1 I3)],[(z0,false,.rows I3),(z1,false,.rows I3)]⟩ [((.exit 4),⟨[(15,.whole z0 I3)],[(z0,false,.rows I3)]⟩)] Wh.UZ Wh.Hs
def KL:LT:=[(5,MU),(13,MV),(20,MW)]
theorem aaY:∀x,round H_ KL (jo Tryz.f424 0) MU x=Wh.EX x:=by intro x;kernel_rfl
theorem aaZ:∀x,round H_ KL (jo Tryz.f424 1) MV x=Wh.Hr x:=by intro x;kernel_rfl
theorem aa0:∀x,round H_ KL (jo Tryz.f424 2) MW x=Wh.Hs x:=by intro x;kernel_rfl
theorem e_q94:EV H_ KL Tryz.f424 [.v (.lst I3),.v (.lst I8)] [.v (.own I3)] Wh.q94:=by intro xs;kernel_rfl
theorem ok_q94:CO J8:=con_ok (Ls:=[MU,MV,MW]) mixed (eA _ _) (Rk _ (fk_q69 _ (fk_q96 _ fe))) Tryz.func424 (loopsL_cons (by kernel_rfl) (loopD_ok aaY) (loopsL_cons (by kernel_rfl) (loopD_ok aaZ) (loopsL_cons (by kernel_rfl) (loopD_ok aa0) (loopsL_nil (by kernel_rfl))))) (boxesL_none (by kernel_rfl)) e_q94
theorem fk_q94:FK J8:=fun _ _ h=>h.cons J8 (by kernel_rfl) Wh.q94_v ok_q94
def IK:iq:=⟨375,[.v .str],[.v .str],Wh.EH,Wh.Pf⟩
def LS:Cx:=⟨cx,[J8.entry,JK.entry],false,Gl⟩
def M1:b8:=kS ⟨[(5,.leaf I6),(4,.whole z0 I8),(3,.whole z1 I3)],[(z0,false,.rows I8),(z1,false,.rows I3)]⟩ [((.exit 0),⟨[(3,.whole z0 I3)],[(z0,false,.rows I3)]⟩)] Wh.T9 Wh.Dj
def M3:b8:=kS ⟨[(7,.leaf I6),(3,.whole z0 I3),(6,.whole z1 I8)],[(z0,false,.rows I3),(z1,false,.rows I8)]⟩ [((.exit 2),⟨[(6,.whole z0 I8)],[(z0,false,.rows I8)]⟩)] Wh.T_ Wh.G_
def N4:LT:=[(4,M1),(9,M3)]
theorem aa4:∀x,round LS N4 (jo Tryz.f375 0) M1 x=Wh.Dj x:=by intro x;kernel_rfl
theorem aa5:∀x,round LS N4 (jo Tryz.f375 1) M3 x=Wh.G_ x:=by intro x;kernel_rfl
theorem e_q138:EV LS N4 Tryz.f375 [.v .str] [.v .str] Wh.EH:=by intro xs;kernel_rfl
theorem YC:CO IK:=con_ok (Ls:=[M1,M3]) mixed (eA _ _) (fk_q94 _ (fk_q70 _ fe)) Tryz.func375 (loopsL_cons (by kernel_rfl) (loopD_ok aa4) (loopsL_cons (by kernel_rfl) (loopD_ok aa5) (loopsL_nil (by kernel_rfl)))) (boxesL_none (by kernel_rfl)) e_q138
theorem Wo:FK IK:=fun _ _ h=>h.cons IK (by kernel_rfl) Wh.Ua YC
def IJ:iq:=⟨374,[.v .str],[.v .str],Wh.Dg,Wh.Lc⟩
def QW:Cx:=⟨cx,[],false,Gl⟩
def MX:b8:=kS ⟨[(4,.leaf I6),(0,.leaf .str),(3,.whole z0 I8)],[(z0,false,.rows I8)]⟩ [((.exit 0),⟨[(3,.whole z0 I8)],[(z0,false,.rows I8)]⟩)] Wh.T8 Wh.Dh
def SC:LT:=[(3,MX)]
theorem aa1:∀x,round QW SC (jo Tryz.f374 0) MX x=Wh.Dh x:=by intro x;kernel_rfl
theorem e_q137:EV QW SC Tryz.f374 [.v .str] [.v .str] Wh.Dg:=by intro xs;kernel_rfl
theorem YB:CO IJ:=con_ok (Ls:=[MX]) mixed (eA _ _) fe Tryz.func374 (loopsL_cons (by kernel_rfl) (loopD_ok aa1) (loopsL_nil (by kernel_rfl))) (boxesL_none (by kernel_rfl)) e_q137
theorem Wn:FK IJ:=fun _ _ h=>h.cons IJ (by kernel_rfl) Wh.Pe YB
def J4:iq:=⟨328,[.v .str],[.v .str],Wh.q90,Wh.DJ⟩
def C_q90:Cx:=⟨cx,[IJ.entry,IK.entry],false,Gl⟩
def lt_q90:LT:=[]
theorem e_q90:EV C_q90 lt_q90 Tryz.f328 [.v .str] [.v .str] Wh.q90:=by intro xs;kernel_rfl
theorem ok_q90:CO J4:=con_ok (Ls:=[]) mixed (eA _ _) (Wn _ (Wo _ fe)) Tryz.func328 (loopsL_nil (by kernel_rfl)) (boxesL_none (by kernel_rfl)) e_q90
theorem fk_q90:FK J4:=fun _ _ h=>h.cons J4 (by kernel_rfl) Wh.q90_v ok_q90
def Gh:iq:=⟨258,[.v I6,.v .str],[.v .str],Wh.C_,Wh.G6⟩
def C_q117:Cx:=⟨cx,[J4.entry,Gq.entry],false,Gl⟩
def Xt:LT:=[]
theorem e_q117:EV C_q117 Xt Tryz.f258 [.v I6,.v .str] [.v .str] Wh.C_:=by intro xs;kernel_rfl
theorem Yg:CO Gh:=con_ok (Ls:=[]) mixed (eA _ _) (fk_q90 _ (Rt _ fe)) Tryz.func258 (loopsL_nil (by kernel_rfl)) (boxesL_none (by kernel_rfl)) e_q117
theorem Rm:FK Gh:=fun _ _ h=>h.cons Gh (by kernel_rfl) Wh.KY Yg
def Iw:iq:=⟨150,[.v .str,.v I6,.v I6],[.v .str,.v I6],Wh.Cc,Wh.OP⟩
def C_q118:Cx:=⟨cx,[Gh.entry,Ad.entry,Gr.entry,Gg.entry],false,Gl⟩
def Xu:LT:=[]
theorem e_q118:EV C_q118 Xu Tryz.f150 [.v .str,.v I6,.v I6] [.v .str,.v I6] Wh.Cc:=by intro xs;kernel_rfl
theorem Yh:CO Iw:=con_ok (Ls:=[]) mixed (eA _ _) (Rm _ (AZ _ (Ru _ (Rl _ fe)))) Tryz.func150 (loopsL_nil (by kernel_rfl)) (boxesL_none (by kernel_rfl)) e_q118
theorem Wb:FK Iw:=fun _ _ h=>h.cons Iw (by kernel_rfl) Wh.OQ Yh
def DU:iq:=⟨60,[.v .str],[.v (.own .str),.v I6],Wh.A7,Wh.FN⟩
def QN:Cx:=⟨cx,[Iw.entry],false,Gl⟩
def M_:b8:=kS ⟨[(5,.leaf I6),(4,.whole z0 .str),(0,.leaf .str)],[(z0,false,.rows .str)]⟩ [(.ret,⟨[(2,.whole z0 .str),(3,.leaf I6)],[(z0,false,.rows .str)]⟩)] Wh.TP Wh.Da
def Sw:LT:=[(3,M_)]
theorem abb:∀x,round QN Sw (jo Tryz.f60 0) M_ x=Wh.Da x:=by intro x;kernel_rfl
theorem e_q119:EV QN Sw Tryz.f60 [.v .str] [.v (.own .str),.v I6] Wh.A7:=by intro xs;kernel_rfl
theorem Yi:CO DU:=con_ok (Ls:=[M_]) mixed (eA _ _) (Wb _ fe) Tryz.func60 (loopsL_cons (by kernel_rfl) (loopD_ok abb) (loopsL_nil (by kernel_rfl))) (boxesL_none (by kernel_rfl)) e_q119
theorem Km:FK DU:=fun _ _ h=>h.cons DU (by kernel_rfl) Wh.G7 Yi
def Iv:iq:=⟨179,[.v .str,.v I8],[.v (.own .str)],Wh.Cb,Wh.OL⟩
def QL:Cx:=⟨cx,[],false,Gl⟩
def M6:b8:=kS ⟨[(7,.leaf I6),(6,.leaf I6),(0,.leaf .str),(5,.whole z0 .str),(1,.leaf I8)],[(z0,false,.rows .str)]⟩ [((.exit 0),⟨[(6,.leaf I6),(0,.leaf .str),(5,.whole z0 .str)],[(z0,false,.rows .str)]⟩)] Wh.TM Wh.zo
def Ss:LT:=[(4,M6)]
theorem aa8:∀x,round QL Ss (jo Tryz.f179 0) M6 x=Wh.zo x:=by intro x;kernel_rfl
theorem e_q115:EV QL Ss Tryz.f179 [.v .str,.v I8] [.v (.own .str)] Wh.Cb:=by intro xs;kernel_rfl
theorem Ye:CO Iv:=con_ok (Ls:=[M6]) mixed (eA _ _) fe Tryz.func179 (loopsL_cons (by kernel_rfl) (loopD_ok aa8) (loopsL_nil (by kernel_rfl))) (boxesL_none (by kernel_rfl)) e_q115
theorem Wa:FK Iv:=fun _ _ h=>h.cons Iv (by kernel_rfl) Wh.ON Ye
def Is:iq:=⟨200,[.v .str],[.v .bool],Wh.Eu,Wh.OF⟩
def QK:Cx:=⟨cx,[Ad.entry],false,Gl⟩
def ML:b8:=kS ⟨[(3,.leaf I6),(0,.leaf .str)],[]⟩ [(.ret,⟨[(2,.leaf .bool)],[]⟩),((.exit 0),⟨[(0,.leaf .str)],[]⟩)] Wh.TF Wh.Ca
def Sr:LT:=[(2,ML)]
theorem aaP:∀x,round QK Sr (jo Tryz.f200 0) ML x=Wh.Ca x:=by intro x;kernel_rfl
theorem e_q112:EV QK Sr Tryz.f200 [.v .str] [.v .bool] Wh.Eu:=by intro xs;kernel_rfl
theorem Yb:CO Is:=con_ok (Ls:=[ML]) mixed (eA _ _) (AZ _ fe) Tryz.func200 (loopsL_cons (by kernel_rfl) (loopD_ok aaP) (loopsL_nil (by kernel_rfl))) (boxesL_none (by kernel_rfl)) e_q112
theorem V9:FK Is:=fun _ _ h=>h.cons Is (by kernel_rfl) Wh.TG Yb
def Fk:iq:=⟨185,[.v an],[.v .bool],Wh.BF,Wh.FU⟩
def C_q144:Cx:=⟨cx,[Is.entry,Ad.entry],false,Gl⟩
def XH:LT:=[]
theorem e_q144:EV C_q144 XH Tryz.f185 [.v an] [.v .bool] Wh.BF:=by intro xs;kernel_rfl
theorem YI:CO Fk:=con_ok (Ls:=[]) mixed (eA _ _) (V9 _ (AZ _ fe)) Tryz.func185 (loopsL_nil (by kernel_rfl)) (boxesL_none (by kernel_rfl)) e_q144
theorem Nw:FK Fk:=fun _ _ h=>h.cons Fk (by kernel_rfl) Wh.Dm YI
def Ji:iq:=⟨103,[.v I6,.v .str,.v .str],[.v .str],Wh.q40,Wh.q40'⟩
def C_q40:Cx:=⟨cx,[Gq.entry,Fk.entry],false,Gl⟩
def lt_q40:LT:=[]
theorem e_q40:EV C_q40 lt_q40 Tryz.f103 [.v I6,.v .str,.v .str] [.v .str] Wh.q40:=by intro xs;kernel_rfl
theorem ok_q40:CO Ji:=con_ok (Ls:=[]) mixed (eA _ _) (Rt _ (Nw _ fe)) Tryz.func103 (loopsL_nil (by kernel_rfl)) (boxesL_none (by kernel_rfl)) e_q40
theorem fk_q40:FK Ji:=fun _ _ h=>h.cons Ji (by kernel_rfl) Wh.PK ok_q40
def Gk:iq:=⟨272,[.v an,.v I6,.v .str],[.v .bool],Wh.Ev,Wh.K4⟩
def C_q122:Cx:=⟨cx,[],false,Gl⟩
def Xx:LT:=[]
theorem e_q122:EV C_q122 Xx Tryz.f272 [.v an,.v I6,.v .str] [.v .bool] Wh.Ev:=by intro xs;kernel_rfl
theorem Yl:CO Gk:=con_ok (Ls:=[]) mixed (eA _ _) fe Tryz.func272 (loopsL_nil (by kernel_rfl)) (boxesL_none (by kernel_rfl)) e_q122
theorem Rp:FK Gk:=fun _ _ h=>h.cons Gk (by kernel_rfl) Wh.K5 Yl
def GD:iq:=⟨187,[.v (.lst an),.v I6],[.v I6],Wh.q98,Wh.Lr⟩
def C_q98:Cx:=⟨cx,[],false,Gl⟩
def Nb:b8:=kS ⟨[(6,.leaf I6),(0,.leaf (.lst an)),(5,.leaf I6),(1,.leaf I6)],[]⟩ [((.exit 0),⟨[(5,.leaf I6)],[]⟩)] Wh.U2 Wh.CH
def S_:LT:=[(3,Nb)]
theorem abd:∀x,round C_q98 S_ (jo Tryz.f187 0) Nb x=Wh.CH x:=by intro x;kernel_rfl
theorem e_q98:EV C_q98 S_ Tryz.f187 [.v (.lst an),.v I6] [.v I6] Wh.q98:=by intro xs;kernel_rfl
theorem ok_q98:CO GD:=con_ok (Ls:=[Nb]) mixed (eA _ _) fe Tryz.func187 (loopsL_cons (by kernel_rfl) (loopD_ok abd) (loopsL_nil (by kernel_rfl))) (boxesL_none (by kernel_rfl)) e_q98
theorem RG:FK GD:=fun _ _ h=>h.cons GD (by kernel_rfl) Wh.Lt ok_q98
def Gp:iq:=⟨184,[.v cr],[.v .bool],Wh.Dd,Wh.K_⟩
def H9:Cx:=⟨cx,[GD.entry,Gk.entry,Fk.entry,Ad.entry],false,Gl⟩
def MI:b8:=kS ⟨[(1,.aZ z0 []),(3,.leaf I6)],[(z0,false,.var cr (.leaf cr))]⟩ [(.ret,⟨[(2,.leaf .bool)],[]⟩),((.exit 0),⟨[(1,.aZ z0 [])],[(z0,false,.var cr (.leaf cr))]⟩)] Wh.T3 Wh.Cg
def MJ:b8:=kS ⟨[(5,.leaf I6),(4,.aZ z0 []),(1,.aZ z1 []),(3,.leaf I6)],[(z0,false,.var an (.leaf an)),(z1,false,.var cr (.leaf cr))]⟩ [(.ret,⟨[(2,.leaf .bool)],[]⟩),((.exit 2),⟨[(1,.aZ z0 []),(3,.leaf I6)],[(z0,false,.var cr (.leaf cr))]⟩)] Wh.T4 Wh.De
def MK:b8:=kS ⟨[(6,.leaf I6),(1,.aZ z0 [])],[(z0,false,.var cr (.leaf cr))]⟩ [(.ret,⟨[(2,.leaf .bool)],[]⟩),((.exit 4),⟨[],[]⟩)] Wh.T5 Wh.ED
def KK:LT:=[(4,MI),(10,MJ),(15,MK)]
theorem aaM:∀x,round H9 KK (jo Tryz.f184 0) MI x=Wh.Cg x:=by intro x;kernel_rfl
theorem aaN:∀x,round H9 KK (jo Tryz.f184 1) MJ x=Wh.De x:=by intro x;kernel_rfl
theorem aaO:∀x,round H9 KK (jo Tryz.f184 2) MK x=Wh.ED x:=by intro x;kernel_rfl
theorem e_q132:EV H9 KK Tryz.f184 [.v cr] [.v .bool] Wh.Dd:=by intro xs;kernel_rfl
theorem Yw:CO Gp:=con_ok (Ls:=[MI,MJ,MK]) mixed (eA _ _) (RG _ (Rp _ (Nw _ (AZ _ fe)))) Tryz.func184 (loopsL_cons (by kernel_rfl) (loopD_ok aaM) (loopsL_cons (by kernel_rfl) (loopD_ok aaN) (loopsL_cons (by kernel_rfl) (loopD_ok aaO) (loopsL_nil (by kernel_rfl))))) (boxesL_none (by kernel_rfl)) e_q132
theorem Rs:FK Gp:=fun _ _ h=>h.cons Gp (by kernel_rfl) Wh.FQ Yw
def Gs:iq:=⟨186,[.v cr,.v I6,.v .str],[.v I6],Wh.A9,Wh.Le⟩
def Q0:Cx:=⟨cx,[],false,Gl⟩
def Na:b8:=kS ⟨[(7,.leaf I6),(2,.leaf .str),(3,.aZ z0 []),(1,.leaf I6)],[(z0,false,.var cr (.leaf cr))]⟩ [(.ret,⟨[(6,.leaf I6)],[]⟩),((.exit 0),⟨[],[]⟩)] Wh.Uf Wh.Ck
def SG:LT:=[(2,Na)]
theorem abc:∀x,round Q0 SG (jo Tryz.f186 0) Na x=Wh.Ck x:=by intro x;kernel_rfl
theorem e_q143:EV Q0 SG Tryz.f186 [.v cr,.v I6,.v .str] [.v I6] Wh.A9:=by intro xs;kernel_rfl
theorem YH:CO Gs:=con_ok (Ls:=[Na]) mixed (eA _ _) fe Tryz.func186 (loopsL_cons (by kernel_rfl) (loopD_ok abc) (loopsL_nil (by kernel_rfl))) (boxesL_none (by kernel_rfl)) e_q143
theorem Rv:FK Gs:=fun _ _ h=>h.cons Gs (by kernel_rfl) Wh.Hg YH
def Gi:iq:=⟨170,[.v cr],[.v (.pair I6 (.pair (.own an) .unit))],Wh.BB,Wh.FO⟩
def C_q120:Cx:=⟨cx,[],false,Gl⟩
def Xv:LT:=[]
theorem e_q120:EV C_q120 Xv Tryz.f170 [.v cr] [.v (.pair I6 (.pair (.own an) .unit))] Wh.BB:=by intro xs;kernel_rfl
theorem Yj:CO Gi:=con_ok (Ls:=[]) mixed (eA _ _) fe Tryz.func170 (loopsL_nil (by kernel_rfl)) (boxesL_none (by kernel_rfl)) e_q120
theorem Rn:FK Gi:=fun _ _ h=>h.cons Gi (by kernel_rfl) Wh.G8 Yj
def Iy:iq:=⟨270,[.v cr,.v I6],[.v (.pair I6 (.pair (.own an) .unit))],Wh.Ew,Wh.OT⟩
def C_q123:Cx:=⟨cx,[],false,Gl⟩
def Xy:LT:=[]
theorem e_q123:EV C_q123 Xy Tryz.f270 [.v cr,.v I6] [.v (.pair I6 (.pair (.own an) .unit))] Wh.Ew:=by intro xs;kernel_rfl
theorem Ym:CO Iy:=con_ok (Ls:=[]) mixed (eA _ _) fe Tryz.func270 (loopsL_nil (by kernel_rfl)) (boxesL_none (by kernel_rfl)) e_q123
theorem Wc:FK Iy:=fun _ _ h=>h.cons Iy (by kernel_rfl) Wh.TQ Ym
def J2:iq:=⟨181,[.v cr,.v I6,.v .str],[.v (.pair I6 (.pair (.own an) .unit)),.v I6],Wh.q89,Wh.Lq⟩
def C_q89:Cx:=⟨cx,[Iy.entry,Gi.entry,Gs.entry,Gp.entry],false,Gl⟩
def lt_q89:LT:=[]
theorem e_q89:EV C_q89 lt_q89 Tryz.f181 [.v cr,.v I6,.v .str] [.v (.pair I6 (.pair (.own an) .unit)),.v I6] Wh.q89:=by intro xs;kernel_rfl
theorem ok_q89:CO J2:=con_ok (Ls:=[]) mixed (eA _ _) (Wc _ (Rn _ (Rv _ (Rs _ fe)))) Tryz.func181 (loopsL_nil (by kernel_rfl)) (boxesL_none (by kernel_rfl)) e_q89
theorem fk_q89:FK J2:=fun _ _ h=>h.cons J2 (by kernel_rfl) Wh.q89_v ok_q89
def IN:iq:=⟨188,[.v cr,.v an],[.v (.pair I6 (.pair (.own an) .unit))],Wh.EK,Wh.Pm⟩
def QZ:Cx:=⟨cx,[Gk.entry],false,Gl⟩
def Nd:b8:=kS ⟨[(5,.leaf I6),(4,.aZ z0 []),(2,.aZ z1 []),(3,.aZ z2 [])],[(z0,false,.var cr (.pair (.leaf I6) (.pair (.whole z3 an) (.leaf .unit)))),(z1,false,.var cr (.leaf cr)),(z2,false,.var an (.leaf an)),(z3,false,.rows an)]⟩ [((.exit 0),⟨[(4,.aZ z0 []),(5,.leaf I6),(2,.aZ z1 []),(3,.aZ z2 [])],[(z0,false,.var cr (.pair (.leaf I6) (.pair (.whole z3 an) (.leaf .unit)))),(z1,false,.var cr (.leaf cr)),(z2,false,.var an (.leaf an)),(z3,false,.rows an)]⟩)] Wh.Ud Wh.Cj
def SF:LT:=[(2,Nd)]
theorem abf:∀x,round QZ SF (jo Tryz.f188 0) Nd x=Wh.Cj x:=by intro x;kernel_rfl
theorem e_q141:EV QZ SF Tryz.f188 [.v cr,.v an] [.v (.pair I6 (.pair (.own an) .unit))] Wh.EK:=by intro xs;kernel_rfl
theorem YF:CO IN:=con_ok (Ls:=[Nd]) mixed (eA _ _) (Rp _ fe) Tryz.func188 (loopsL_cons (by kernel_rfl) (loopD_ok abf) (loopsL_nil (by kernel_rfl))) (boxesL_none (by kernel_rfl)) e_q141
theorem Wq:FK IN:=fun _ _ h=>h.cons IN (by kernel_rfl) Wh.Ue YF
def Iq:iq:=⟨101,[.v cr,.v I6,.v .str,.v .str],[.v (.pair I6 (.pair (.own an) .unit)),.v I6],Wh.B_,Wh.KX⟩
def C_q110:Cx:=⟨cx,[IN.entry,GD.entry,Gs.entry,Gi.entry,Fk.entry,Gp.entry],false,Gl⟩
def Xq:LT:=[]
theorem e_q110:EV C_q110 Xq Tryz.f101 [.v cr,.v I6,.v .str,.v .str] [.v (.pair I6 (.pair (.own an) .unit)),.v I6] Wh.B_:=by intro xs;kernel_rfl
theorem X_:CO Iq:=con_ok (Ls:=[]) mixed (eA _ _) (Wq _ (RG _ (Rv _ (Rn _ (Nw _ (Rs _ fe)))))) Tryz.func101 (loopsL_nil (by kernel_rfl)) (boxesL_none (by kernel_rfl)) e_q110
theorem V7:FK Iq:=fun _ _ h=>h.cons Iq (by kernel_rfl) Wh.TD X_
def Gj:iq:=⟨98,[.v cr,.v .str],[.v (.pair I6 (.pair (.own an) .unit)),.v .bool],Wh.BD,Wh.K0⟩
def C_q121:Cx:=⟨cx,[Iq.entry,J2.entry,Ji.entry,Gr.entry,Iv.entry,Gg.entry],false,Gl⟩
def Xw:LT:=[]
theorem e_q121:EV C_q121 Xw Tryz.f98 [.v cr,.v .str] [.v (.pair I6 (.pair (.own an) .unit)),.v .bool] Wh.BD:=by intro xs;kernel_rfl
theorem Yk:CO Gj:=con_ok (Ls:=[]) mixed (eA _ _) (V7 _ (fk_q89 _ (fk_q40 _ (Ru _ (Wa _ (Rl _ fe)))))) Tryz.func98 (loopsL_nil (by kernel_rfl)) (boxesL_none (by kernel_rfl)) e_q121
theorem Ro:FK Gj:=fun _ _ h=>h.cons Gj (by kernel_rfl) Wh.K3 Yk
def Gn:iq:=⟨61,[.v (.lst .str)],[.v (.pair I6 (.pair (.own an) .unit)),.v .bool],Wh.Dc,Wh.K9⟩
def QU:Cx:=⟨cx,[Gj.entry],false,Gl⟩
def MH:b8:=kS ⟨[(2,.aZ z0 []),(5,.leaf I6),(4,.aZ z1 []),(0,.leaf (.lst .str))],[(z0,false,.var cr (.pair (.leaf I6) (.pair (.whole z2 an) (.leaf .unit)))),(z1,false,.var cr (.pair (.leaf I6) (.pair (.whole z3 an) (.leaf .unit)))),(z2,false,.rows an),(z3,false,.rows an)]⟩ [(.ret,⟨[(2,.aZ z0 []),(3,.leaf .bool)],[(z0,false,.var cr (.pair (.leaf I6) (.pair (.whole z1 an) (.leaf .unit)))),(z1,false,.rows an)]⟩),((.exit 0),⟨[(2,.aZ z0 []),(4,.aZ z1 [])],[(z0,false,.var cr (.pair (.leaf I6) (.pair (.whole z2 an) (.leaf .unit)))),(z1,false,.var cr (.pair (.leaf I6) (.pair (.whole z3 an) (.leaf .unit)))),(z2,false,.rows an),(z3,false,.rows an)]⟩)] Wh.T0 Wh.Cf
def SA:LT:=[(3,MH)]
theorem aaL:∀x,round QU SA (jo Tryz.f61 0) MH x=Wh.Cf x:=by intro x;kernel_rfl
theorem e_q131:EV QU SA Tryz.f61 [.v (.lst .str)] [.v (.pair I6 (.pair (.own an) .unit)),.v .bool] Wh.Dc:=by intro xs;kernel_rfl
theorem Yv:CO Gn:=con_ok (Ls:=[MH]) mixed (eA _ _) (Ro _ fe) Tryz.func61 (loopsL_cons (by kernel_rfl) (loopD_ok aaL) (loopsL_nil (by kernel_rfl))) (boxesL_none (by kernel_rfl)) e_q131
theorem Rr:FK Gn:=fun _ _ h=>h.cons Gn (by kernel_rfl) Wh.O5 Yv
def J7:iq:=⟨59,[.v ct],[.v .bool],Wh.q93,Wh.q93'⟩
def C_q93:Cx:=⟨cx,[Gn.entry,DU.entry],false,Gl⟩
def lt_q93:LT:=[]
theorem e_q93:EV C_q93 lt_q93 Tryz.f59 [.v ct] [.v .bool] Wh.q93:=by intro xs;kernel_rfl
theorem ok_q93:CO J7:=con_ok (Ls:=[]) mixed (eA _ _) (Rr _ (Km _ fe)) Tryz.func59 (loopsL_nil (by kernel_rfl)) (boxesL_none (by kernel_rfl)) e_q93
theorem fk_q93:FK J7:=fun _ _ h=>h.cons J7 (by kernel_rfl) Wh.q93_v ok_q93
def J6:iq:=⟨62,[.v cr,.v cr],[.v .bool],Wh.CE,Wh.q92'⟩
def C_q92:Cx:=⟨cx,[],false,Gl⟩
def MS:b8:=kS ⟨[(5,.leaf I6),(3,.aZ z0 []),(2,.aZ z1 [])],[(z0,false,.var cr (.leaf cr)),(z1,false,.var cr (.leaf cr))]⟩ [(.ret,⟨[(4,.leaf .bool)],[]⟩),((.exit 0),⟨[],[]⟩)] Wh.UX Wh.CF
def S9:LT:=[(4,MS)]
theorem aaW:∀x,round C_q92 S9 (jo Tryz.f62 0) MS x=Wh.CF x:=by intro x;kernel_rfl
theorem e_q92:EV C_q92 S9 Tryz.f62 [.v cr,.v cr] [.v .bool] Wh.CE:=by intro xs;kernel_rfl
theorem ok_q92:CO J6:=con_ok (Ls:=[MS]) mixed (eA _ _) fe Tryz.func62 (loopsL_cons (by kernel_rfl) (loopD_ok aaW) (loopsL_nil (by kernel_rfl))) (boxesL_none (by kernel_rfl)) e_q92
theorem fk_q92:FK J6:=fun _ _ h=>h.cons J6 (by kernel_rfl) Wh.q92_v ok_q92
def II:iq:=⟨151,[.v e_],[.v .bool],Wh.Df,Wh.Pb⟩
def C_q135:Cx:=⟨cx,[Ad.entry],false,Gl⟩
def XE:LT:=[]
theorem e_q135:EV C_q135 XE Tryz.f151 [.v e_] [.v .bool] Wh.Df:=by intro xs;kernel_rfl
theorem Yz:CO II:=con_ok (Ls:=[]) mixed (eA _ _) (AZ _ fe) Tryz.func151 (loopsL_nil (by kernel_rfl)) (boxesL_none (by kernel_rfl)) e_q135
theorem Wm:FK II:=fun _ _ h=>h.cons II (by kernel_rfl) Wh.La Yz
def IG:iq:=⟨152,[.v gd,.v I6],[.v I6],Wh.EG,Wh.O_⟩
def QV:Cx:=⟨cx,[],false,Gl⟩
def MR:b8:=kS ⟨[(6,.leaf I6),(5,.leaf I6),(1,.leaf I6),(2,.aZ z0 [])],[(z0,false,.var gd (.leaf gd))]⟩ [((.exit 0),⟨[(5,.leaf I6)],[]⟩)] Wh.T7 Wh.Ch
def SB:LT:=[(3,MR)]
theorem aaV:∀x,round QV SB (jo Tryz.f152 0) MR x=Wh.Ch x:=by intro x;kernel_rfl
theorem e_q134:EV QV SB Tryz.f152 [.v gd,.v I6] [.v I6] Wh.EG:=by intro xs;kernel_rfl
theorem Yy:CO IG:=con_ok (Ls:=[MR]) mixed (eA _ _) fe Tryz.func152 (loopsL_cons (by kernel_rfl) (loopD_ok aaV) (loopsL_nil (by kernel_rfl))) (boxesL_none (by kernel_rfl)) e_q134
theorem Wl:FK IG:=fun _ _ h=>h.cons IG (by kernel_rfl) Wh.FR Yy
def Iu:iq:=⟨63,[.v gd],[.v .bool],Wh.C9,Wh.OH⟩
def H8:Cx:=⟨cx,[IG.entry,II.entry,Ad.entry],false,Gl⟩
def MM:b8:=kS ⟨[(1,.aZ z0 []),(3,.leaf I6)],[(z0,false,.var gd (.leaf gd))]⟩ [(.ret,⟨[(2,.leaf .bool)],[]⟩),((.exit 0),⟨[(1,.aZ z0 [])],[(z0,false,.var gd (.leaf gd))]⟩)] Wh.TH Wh.Bx
def MN:b8:=kS ⟨[(4,.leaf I6),(1,.aZ z0 []),(3,.leaf I6)],[(z0,false,.var gd (.leaf gd))]⟩ [(.ret,⟨[(2,.leaf .bool)],[]⟩),((.exit 2),⟨[(1,.aZ z0 []),(3,.leaf I6)],[(z0,false,.var gd (.leaf gd))]⟩)] Wh.TJ Wh.Aq
def MO:b8:=kS ⟨[(5,.leaf I6),(1,.aZ z0 [])],[(z0,false,.var gd (.leaf gd))]⟩ [(.ret,⟨[(2,.leaf .bool)],[]⟩),((.exit 4),⟨[],[]⟩)] Wh.TK Wh.By
def KJ:LT:=[(4,MM),(9,MN),(14,MO)]
theorem aaQ:∀x,round H8 KJ (jo Tryz.f63 0) MM x=Wh.Bx x:=by intro x;kernel_rfl
theorem aaR:∀x,round H8 KJ (jo Tryz.f63 1) MN x=Wh.Aq x:=by intro x;kernel_rfl
theorem aaS:∀x,round H8 KJ (jo Tryz.f63 2) MO x=Wh.By x:=by intro x;kernel_rfl
theorem e_q113:EV H8 KJ Tryz.f63 [.v gd] [.v .bool] Wh.C9:=by intro xs;kernel_rfl
theorem Yc:CO Iu:=con_ok (Ls:=[MM,MN,MO]) mixed (eA _ _) (Wl _ (Wm _ (AZ _ fe))) Tryz.func63 (loopsL_cons (by kernel_rfl) (loopD_ok aaQ) (loopsL_cons (by kernel_rfl) (loopD_ok aaR) (loopsL_cons (by kernel_rfl) (loopD_ok aaS) (loopsL_nil (by kernel_rfl))))) (boxesL_none (by kernel_rfl)) e_q113
theorem V_:FK Iu:=fun _ _ h=>h.cons Iu (by kernel_rfl) Wh.TL Yc
def Gw:iq:=⟨65,[.v cr,.v I6],[.v an,.v .bool],Wh.q42,Wh.Ll⟩
def C_q42:Cx:=⟨cx,[],false,Gl⟩
def Nc:b8:=kS ⟨[(4,.aZ z0 []),(6,.leaf I6),(2,.aZ z1 []),(1,.leaf I6)],[(z0,false,.var an (.pair (.leaf I6) (.pair (.leaf .str) (.pair (.leaf I6) (.pair (.leaf .str) (.leaf .unit)))))),(z1,false,.var cr (.leaf cr))]⟩ [(.ret,⟨[(4,.aZ z0 []),(5,.leaf .bool)],[(z0,false,.var an (.leaf an))]⟩),((.exit 0),⟨[(4,.aZ z0 [])],[(z0,false,.var an (.pair (.leaf I6) (.pair (.leaf .str) (.pair (.leaf I6) (.pair (.leaf .str) (.leaf .unit))))))]⟩)] Wh.Uw Wh.Cw
def SW:LT:=[(2,Nc)]
theorem abe:∀x,round C_q42 SW (jo Tryz.f65 0) Nc x=Wh.Cw x:=by intro x;kernel_rfl
theorem e_q42:EV C_q42 SW Tryz.f65 [.v cr,.v I6] [.v an,.v .bool] Wh.q42:=by intro xs;kernel_rfl
theorem ok_q42:CO Gw:=con_ok (Ls:=[Nc]) mixed (eA _ _) fe Tryz.func65 (loopsL_cons (by kernel_rfl) (loopD_ok abe) (loopsL_nil (by kernel_rfl))) (boxesL_none (by kernel_rfl)) e_q42
theorem Rz:FK Gw:=fun _ _ h=>h.cons Gw (by kernel_rfl) Wh.Dy ok_q42
def JH:iq:=⟨138,[.v I6],[.v I6],Wh.q68,Wh.q68'⟩
def C_q68:Cx:=⟨cx,[],false,Gl⟩
def lt_q68:LT:=[]
theorem e_q68:EV C_q68 lt_q68 Tryz.f138 [.v I6] [.v I6] Wh.q68:=by intro xs;kernel_rfl
theorem ok_q68:CO JH:=con_ok (Ls:=[]) mixed (eA _ _) fe Tryz.func138 (loopsL_nil (by kernel_rfl)) (boxesL_none (by kernel_rfl)) e_q68
theorem fk_q68:FK JH:=fun _ _ h=>h.cons JH (by kernel_rfl) Wh.Qb ok_q68
def Jj:iq:=⟨64,[.v ct],[.v .bool],Wh.q41,Wh.q41'⟩
def C_q41:Cx:=⟨cx,[JH.entry,Gw.entry,Ad.entry],false,Gl⟩
def MT:b8:=kS ⟨[(3,.leaf I6),(1,.aZ z0 [])],[(z0,false,.var ct (.leaf ct))]⟩ [(.ret,⟨[(2,.leaf .bool)],[]⟩),((.exit 0),⟨[],[]⟩)] Wh.Uv Wh.BG
def SV:LT:=[(2,MT)]
theorem aaX:∀x,round C_q41 SV (jo Tryz.f64 0) MT x=Wh.BG x:=by intro x;kernel_rfl
theorem e_q41:EV C_q41 SV Tryz.f64 [.v ct] [.v .bool] Wh.q41:=by intro xs;kernel_rfl
theorem ok_q41:CO Jj:=con_ok (Ls:=[MT]) mixed (eA _ _) (fk_q68 _ (Rz _ (AZ _ fe))) Tryz.func64 (loopsL_cons (by kernel_rfl) (loopD_ok aaX) (loopsL_nil (by kernel_rfl))) (boxesL_none (by kernel_rfl)) e_q41
theorem fk_q41:FK Jj:=fun _ _ h=>h.cons Jj (by kernel_rfl) Wh.q41_v ok_q41
def GC:iq:=⟨66,[.v yA],[.v I6],Wh.BK,Wh.F0⟩
def C_q97:Cx:=⟨cx,[],false,Gl⟩
def lt_q97:LT:=[]
theorem e_q97:EV C_q97 lt_q97 Tryz.f66 [.v yA] [.v I6] Wh.BK:=by intro xs;kernel_rfl
theorem ok_q97:CO GC:=con_ok (Ls:=[]) mixed (eA _ _) fe Tryz.func66 (loopsL_nil (by kernel_rfl)) (boxesL_none (by kernel_rfl)) e_q97
theorem RF:FK GC:=fun _ _ h=>h.cons GC (by kernel_rfl) Wh.CG ok_q97
def IL:iq:=⟨67,[.v I6],[.v (.pair I6 (.pair I6 (.pair (.own I6) (.pair (.own I6) .unit))))],Wh.Dk,Wh.He⟩
def QX:Cx:=⟨cx,[GC.entry],false,Gl⟩
def M7:b8:=kS ⟨[(3,.aZ z0 []),(2,.aZ z1 [])],[(z0,false,.var yA (.pair (.leaf I6) (.pair (.leaf I6) (.pair (.whole z2 I6) (.pair (.whole z3 I6) (.leaf .unit)))))),(z1,false,.var yA (.pair (.leaf I6) (.pair (.leaf I6) (.pair (.whole 500000004 I6) (.pair (.whole 500000005 I6) (.leaf .unit)))))),(z2,false,.rows I6),(z3,false,.rows I6),(500000004,false,.rows I6),(500000005,false,.rows I6)]⟩ [((.exit 0),⟨[(2,.aZ z0 []),(3,.aZ z1 [])],[(z0,false,.var yA (.pair (.leaf I6) (.pair (.leaf I6) (.pair (.whole z2 I6) (.pair (.whole z3 I6) (.leaf .unit)))))),(z1,false,.var yA (.pair (.leaf I6) (.pair (.leaf I6) (.pair (.whole 500000004 I6) (.pair (.whole 500000005 I6) (.leaf .unit)))))),(z2,false,.rows I6),(z3,false,.rows I6),(500000004,false,.rows I6),(500000005,false,.rows I6)]⟩)] Wh.Ub Wh.Ci
def SD:LT:=[(2,M7)]
theorem aa9:∀x,round QX SD (jo Tryz.f67 0) M7 x=Wh.Ci x:=by intro x;kernel_rfl
theorem e_q139:EV QX SD Tryz.f67 [.v I6] [.v (.pair I6 (.pair I6 (.pair (.own I6) (.pair (.own I6) .unit))))] Wh.Dk:=by intro xs;kernel_rfl
theorem YD:CO IL:=con_ok (Ls:=[M7]) mixed (eA _ _) (RF _ fe) Tryz.func67 (loopsL_cons (by kernel_rfl) (loopD_ok aa9) (loopsL_nil (by kernel_rfl))) (boxesL_none (by kernel_rfl)) e_q139
theorem Wp:FK IL:=fun _ _ h=>h.cons IL (by kernel_rfl) Wh.Ld YD
def JF:iq:=⟨68,[.v fN],[.v .bool],Wh.q66,Wh.q66'⟩
def C_q66:Cx:=⟨cx,[Ad.entry],false,Gl⟩
def lt_q66:LT:=[]
theorem e_q66:EV C_q66 lt_q66 Tryz.f68 [.v fN] [.v .bool] Wh.q66:=by intro xs;kernel_rfl
theorem ok_q66:CO JF:=con_ok (Ls:=[]) mixed (eA _ _) (AZ _ fe) Tryz.func68 (loopsL_nil (by kernel_rfl)) (boxesL_none (by kernel_rfl)) e_q66
theorem fk_q66:FK JF:=fun _ _ h=>h.cons JF (by kernel_rfl) Wh.q66_v ok_q66
def JG:iq:=⟨15,[.v ct],[.v .bool],Wh.q67,Wh.q67'⟩
def LV:Cx:=⟨cx,[JF.entry,GC.entry,IL.entry,Gw.entry,Jj.entry,Iu.entry,J6.entry,Gn.entry,DU.entry,J7.entry,Ad.entry],false,Gl⟩
def MP:b8:=kS ⟨[(7,.leaf I6),(1,.aZ z0 [])],[(z0,false,.var ct (.leaf ct))]⟩ [(.ret,⟨[(2,.leaf .bool)],[]⟩),((.exit 0),⟨[(1,.aZ z0 [])],[(z0,false,.var ct (.leaf ct))]⟩)] Wh.UN Wh.AF
def MQ:b8:=kS ⟨[(10,.leaf I6),(1,.aZ z0 [])],[(z0,false,.var ct (.leaf ct))]⟩ [(.ret,⟨[(2,.leaf .bool)],[]⟩),((.exit 2),⟨[],[]⟩)] Wh.UO Wh.CA
def N6:LT:=[(10,MP),(16,MQ)]
theorem aaT:∀x,round LV N6 (jo Tryz.f15 0) MP x=Wh.AF x:=by intro x;kernel_rfl
theorem aaU:∀x,round LV N6 (jo Tryz.f15 1) MQ x=Wh.CA x:=by intro x;kernel_rfl
theorem e_q67:EV LV N6 Tryz.f15 [.v ct] [.v .bool] Wh.q67:=by intro xs;kernel_rfl
theorem ok_q67:CO JG:=con_ok (Ls:=[MP,MQ]) mixed (eA _ _) (fk_q66 _ (RF _ (Wp _ (Rz _ (fk_q41 _ (V_ _ (fk_q92 _ (Rr _ (Km _ (fk_q93 _ (AZ _ fe))))))))))) Tryz.func15 (loopsL_cons (by kernel_rfl) (loopD_ok aaT) (loopsL_cons (by kernel_rfl) (loopD_ok aaU) (loopsL_nil (by kernel_rfl)))) (boxesL_none (by kernel_rfl)) e_q67
theorem fk_q67:FK JG:=fun _ _ h=>h.cons JG (by kernel_rfl) Wh.Qa ok_q67
def At:iq:=⟨73,[.v I6,.v I6,.v I6],[.v .bool],Wh.x9,Wh.yI⟩
def C_q103:Cx:=⟨cx,[],false,Gl⟩
def Xj:LT:=[]
theorem e_q103:EV C_q103 Xj Tryz.f73 [.v I6,.v I6,.v I6] [.v .bool] Wh.x9:=by intro xs;kernel_rfl
theorem X3:CO At:=con_ok (Ls:=[]) mixed (eA _ _) fe Tryz.func73 (loopsL_nil (by kernel_rfl)) (boxesL_none (by kernel_rfl)) e_q103
theorem Bg:FK At:=fun _ _ h=>h.cons At (by kernel_rfl) Wh.zg X3
def Ih:iq:=⟨389,[.v I3,.v I6],[.v I3],Wh.z6,Wh.AA⟩
def C_q102:Cx:=⟨cx,[],false,Gl⟩
def Xi:LT:=[]
theorem e_q102:EV C_q102 Xi Tryz.f389 [.v I3,.v I6] [.v I3] Wh.z6:=by intro xs;kernel_rfl
theorem X2:CO Ih:=con_ok (Ls:=[]) mixed (eA _ _) fe Tryz.func389 (loopsL_nil (by kernel_rfl)) (boxesL_none (by kernel_rfl)) e_q102
theorem V0:FK Ih:=fun _ _ h=>h.cons Ih (by kernel_rfl) Wh.q102_v X2
def Jq:iq:=⟨334,[.v .str],[.v .str],Wh.q51,Wh.q51'⟩
def CQ:Cx:=⟨cx,[Ih.entry],false,Gl⟩
def Mb:b8:=kS ⟨[(4,.whole z0 I8),(3,.aZ z1 []),(0,.leaf .str)],[(z0,false,.rows I8),(z1,false,.var (.arr 8 I3) (.leaf (.arr 8 I3)))]⟩ [((.exit 0),⟨[(4,.whole z0 I8),(3,.aZ z1 []),(0,.leaf .str)],[(z0,false,.rows I8),(z1,false,.var (.arr 8 I3) (.leaf (.arr 8 I3)))]⟩)] Wh.UA Wh.Dz
def Mc:b8:=kS ⟨[(6,.leaf I6),(5,.leaf (.int .u64)),(4,.whole z0 I8),(3,.aZ z1 [])],[(z0,false,.rows I8),(z1,false,.var (.arr 8 I3) (.leaf (.arr 8 I3)))]⟩ [((.exit 2),⟨[(4,.whole z0 I8),(3,.aZ z1 [])],[(z0,false,.rows I8),(z1,false,.var (.arr 8 I3) (.leaf (.arr 8 I3)))]⟩)] Wh.UC Wh.EN
def Md:b8:=kS ⟨[(4,.piece z0 I8),(3,.aZ z1 [])],[(z0,false,.rows I8),(z1,false,.var (.arr 8 I3) (.leaf (.arr 8 I3)))]⟩ [((.exit 4),⟨[(3,.aZ z0 [])],[(z0,false,.var (.arr 8 I3) (.leaf (.arr 8 I3)))]⟩)] Wh.UD Wh.DA
def Me:b8:=kS ⟨[(54,.leaf I6),(7,.aZ z0 []),(4,.piece z1 I8),(3,.aZ z2 [])],[(z0,false,.var (.arr 64 I3) (.leaf (.arr 64 I3))),(z1,false,.rows I8),(z2,false,.var (.arr 8 I3) (.leaf (.arr 8 I3)))]⟩ [((.exit 6),⟨[(7,.aZ z0 []),(3,.aZ z1 []),(4,.piece z2 I8)],[(z0,false,.var (.arr 64 I3) (.leaf (.arr 64 I3))),(z1,false,.var (.arr 8 I3) (.leaf (.arr 8 I3))),(z2,false,.rows I8)]⟩)] Wh.UE Wh.DB
def Mf:b8:=kS ⟨[(133,.leaf I6),(11,.aZ z0 []),(7,.aZ z1 []),(3,.aZ z2 []),(4,.piece z3 I8)],[(z0,false,.var (.arr 8 I3) (.leaf (.arr 8 I3))),(z1,false,.var (.arr 64 I3) (.leaf (.arr 64 I3))),(z2,false,.var (.arr 8 I3) (.leaf (.arr 8 I3))),(z3,false,.rows I8)]⟩ [((.exit 8),⟨[(3,.aZ z0 []),(11,.aZ z1 []),(4,.piece z2 I8)],[(z0,false,.var (.arr 8 I3) (.leaf (.arr 8 I3))),(z1,false,.var (.arr 8 I3) (.leaf (.arr 8 I3))),(z2,false,.rows I8)]⟩)] Wh.UF Wh.EO
def Mg:b8:=kS ⟨[(213,.leaf I6),(3,.aZ z0 []),(11,.aZ z1 []),(4,.piece z2 I8)],[(z0,false,.var (.arr 8 I3) (.leaf (.arr 8 I3))),(z1,false,.var (.arr 8 I3) (.leaf (.arr 8 I3))),(z2,false,.rows I8)]⟩ [((.exit 10),⟨[(3,.aZ z0 []),(4,.piece z1 I8)],[(z0,false,.var (.arr 8 I3) (.leaf (.arr 8 I3))),(z1,false,.rows I8)]⟩)] Wh.UG Wh.Hj
def Mh:b8:=kS ⟨[(227,.leaf I6),(18,.whole z0 I8),(226,.leaf (.arr 8 I3))],[(z0,false,.rows I8)]⟩ [((.exit 12),⟨[(18,.whole z0 I8)],[(z0,false,.rows I8)]⟩)] Wh.UH Wh.Hl
def C4:LT:=[(3,Mb),(7,Mc),(10,Md),(14,Me),(23,Mf),(31,Mg),(37,Mh)]
theorem aag:∀x,round CQ C4 (jo Tryz.f334 0) Mb x=Wh.Dz x:=by intro x;kernel_rfl
theorem aah:∀x,round CQ C4 (jo Tryz.f334 1) Mc x=Wh.EN x:=by intro x;kernel_rfl
theorem aai:∀x,round CQ C4 (jo Tryz.f334 2) Md x=Wh.DA x:=by intro x;kernel_rfl
theorem aaj:∀x,round CQ C4 (jo Tryz.f334 3) Me x=Wh.DB x:=by intro x;kernel_rfl
theorem aak:∀x,round CQ C4 (jo Tryz.f334 4) Mf x=Wh.EO x:=by intro x;kernel_rfl
theorem aal:∀x,round CQ C4 (jo Tryz.f334 5) Mg x=Wh.Hj x:=by intro x;kernel_rfl
theorem aam:∀x,round CQ C4 (jo Tryz.f334 6) Mh x=Wh.Hl x:=by intro x;kernel_rfl
theorem e_q51:EV CQ C4 Tryz.f334 [.v .str] [.v .str] Wh.q51:=by intro xs;kernel_rfl
theorem ok_q51:CO Jq:=con_ok (Ls:=[Mb,Mc,Md,Me,Mf,Mg,Mh]) mixed (eA _ _) (V0 _ fe) Tryz.func334 (loopsL_cons (by kernel_rfl) (loopD_ok aag) (loopsL_cons (by kernel_rfl) (loopD_ok aah) (loopsL_cons (by kernel_rfl) (loopD_ok aai) (loopsL_cons (by kernel_rfl) (loopD_ok aaj) (loopsL_cons (by kernel_rfl) (loopD_ok aak) (loopsL_cons (by kernel_rfl) (loopD_ok aal) (loopsL_cons (by kernel_rfl) (loopD_ok aam) (loopsL_nil (by kernel_rfl))))))))) (boxesL_none (by kernel_rfl)) e_q51
theorem fk_q51:FK Jq:=fun _ _ h=>h.cons Jq (by kernel_rfl) Wh.q51_v ok_q51
def IB:iq:=⟨333,[.v .str],[.v .str],Wh.FP,Wh.OZ⟩
def QT:Cx:=⟨cx,[],false,Gl⟩
def L_:b8:=kS ⟨[(4,.leaf I6),(0,.leaf .str),(3,.whole z0 I8)],[(z0,false,.rows I8)]⟩ [((.exit 0),⟨[(3,.whole z0 I8)],[(z0,false,.rows I8)]⟩)] Wh.TV Wh.K6
def Sz:LT:=[(3,L_)]
theorem aae:∀x,round QT Sz (jo Tryz.f333 0) L_ x=Wh.K6 x:=by intro x;kernel_rfl
theorem e_q126:EV QT Sz Tryz.f333 [.v .str] [.v .str] Wh.FP:=by intro xs;kernel_rfl
theorem Yp:CO IB:=con_ok (Ls:=[L_]) mixed (eA _ _) fe Tryz.func333 (loopsL_cons (by kernel_rfl) (loopD_ok aae) (loopsL_nil (by kernel_rfl))) (boxesL_none (by kernel_rfl)) e_q126
theorem Wf:FK IB:=fun _ _ h=>h.cons IB (by kernel_rfl) Wh.TW Yp
def JM:iq:=⟨263,[.v .str],[.v .str],Wh.q72,Wh.DG⟩
def C_q72:Cx:=⟨cx,[IB.entry,Jq.entry],false,Gl⟩
def lt_q72:LT:=[]
theorem e_q72:EV C_q72 lt_q72 Tryz.f263 [.v .str] [.v .str] Wh.q72:=by intro xs;kernel_rfl
theorem ok_q72:CO JM:=con_ok (Ls:=[]) mixed (eA _ _) (Wf _ (fk_q51 _ fe)) Tryz.func263 (loopsL_nil (by kernel_rfl)) (boxesL_none (by kernel_rfl)) e_q72
theorem fk_q72:FK JM:=fun _ _ h=>h.cons JM (by kernel_rfl) Wh.q72_v ok_q72
def GB:iq:=⟨159,[.v I6,.v .str],[.v .str],Wh.q78,Wh.Hq⟩
def C_q78:Cx:=⟨cx,[JM.entry,Fl.entry],false,Gl⟩
def lt_q78:LT:=[]
theorem e_q78:EV C_q78 lt_q78 Tryz.f159 [.v I6,.v .str] [.v .str] Wh.q78:=by intro xs;kernel_rfl
theorem ok_q78:CO GB:=con_ok (Ls:=[]) mixed (eA _ _) (fk_q72 _ (Nx _ fe)) Tryz.func159 (loopsL_nil (by kernel_rfl)) (boxesL_none (by kernel_rfl)) e_q78
theorem RE:FK GB:=fun _ _ h=>h.cons GB (by kernel_rfl) Wh.Lp ok_q78
def Jy:iq:=⟨243,[.v .str,.v .str],[.v .bool],Wh.q6,Wh.q6'⟩
def C_q6:Cx:=⟨cx,[],false,Gl⟩
def lt_q6:LT:=[]
theorem e_q6:EV C_q6 lt_q6 Tryz.f243 [.v .str,.v .str] [.v .bool] Wh.q6:=by intro xs;kernel_rfl
theorem ok_q6:CO Jy:=con_ok (Ls:=[]) mixed (eA _ _) fe Tryz.func243 (loopsL_nil (by kernel_rfl)) (boxesL_none (by kernel_rfl)) e_q6
theorem fk_q6:FK Jy:=fun _ _ h=>h.cons Jy (by kernel_rfl) Wh.q6_v ok_q6
def Ip:iq:=⟨140,[.v .str,.v .str],[.v .bool],Wh.q11,Wh.q11'⟩
def C_q11:Cx:=⟨cx,[Jy.entry],false,Gl⟩
def lt_q11:LT:=[]
theorem e_q11:EV C_q11 lt_q11 Tryz.f140 [.v .str,.v .str] [.v .bool] Wh.q11:=by intro xs;kernel_rfl
theorem ok_q11:CO Ip:=con_ok (Ls:=[]) mixed (eA _ _) (fk_q6 _ fe) Tryz.func140 (loopsL_nil (by kernel_rfl)) (boxesL_none (by kernel_rfl)) e_q11
theorem fk_q11:FK Ip:=fun _ _ h=>h.cons Ip (by kernel_rfl) Wh.OS ok_q11
def GA:iq:=⟨74,[.v .str],[.v (.own .str),.v I6],Wh.CC,Wh.Lo⟩
def C_q73:Cx:=⟨cx,[Ip.entry,GB.entry,At.entry,Fl.entry,Gd.entry,GF.entry],false,Gl⟩
def L1:b8:=kS ⟨[(5,.leaf I6),(4,.whole z0 .str),(0,.leaf .str)],[(z0,false,.rows .str)]⟩ [(.ret,⟨[(2,.whole z0 .str),(3,.leaf I6)],[(z0,false,.rows .str)]⟩)] Wh.UR Wh.BJ
def S3:LT:=[(3,L1)]
theorem Z6:∀x,round C_q73 S3 (jo Tryz.f74 0) L1 x=Wh.BJ x:=by intro x;kernel_rfl
theorem e_q73:EV C_q73 S3 Tryz.f74 [.v .str] [.v (.own .str),.v I6] Wh.CC:=by intro xs;kernel_rfl
theorem ok_q73:CO GA:=con_ok (Ls:=[L1]) mixed (eA _ _) (fk_q11 _ (RE _ (Bg _ (Nx _ (Ri _ (RH _ fe)))))) Tryz.func74 (loopsL_cons (by kernel_rfl) (loopD_ok Z6) (loopsL_nil (by kernel_rfl))) (boxesL_none (by kernel_rfl)) e_q73
theorem RD:FK GA:=fun _ _ h=>h.cons GA (by kernel_rfl) Wh.Qf ok_q73
def Fj:iq:=⟨233,[.v I6],[.v .bool],Wh.AB,Wh.G9⟩
def C_q127:Cx:=⟨cx,[At.entry],false,Gl⟩
def Xz:LT:=[]
theorem e_q127:EV C_q127 Xz Tryz.f233 [.v I6] [.v .bool] Wh.AB:=by intro xs;kernel_rfl
theorem Yq:CO Fj:=con_ok (Ls:=[]) mixed (eA _ _) (Bg _ fe) Tryz.func233 (loopsL_nil (by kernel_rfl)) (boxesL_none (by kernel_rfl)) e_q127
theorem Nv:FK Fj:=fun _ _ h=>h.cons Fj (by kernel_rfl) Wh.K7 Yq
def Ge:iq:=⟨213,[.v .str],[.v .bool],Wh.C7,Wh.KW⟩
def QJ:Cx:=⟨cx,[At.entry],false,Gl⟩
def L2:b8:=kS ⟨[(6,.leaf I6),(0,.leaf .str),(5,.leaf I6)],[]⟩ [(.ret,⟨[(2,.leaf .bool)],[]⟩),((.exit 0),⟨[(0,.leaf .str)],[]⟩)] Wh.Ts Wh.B8
def Sq:LT:=[(2,L2)]
theorem Z7:∀x,round QJ Sq (jo Tryz.f213 0) L2 x=Wh.B8 x:=by intro x;kernel_rfl
theorem e_q100:EV QJ Sq Tryz.f213 [.v .str] [.v .bool] Wh.C7:=by intro xs;kernel_rfl
theorem XZ:CO Ge:=con_ok (Ls:=[L2]) mixed (eA _ _) (Bg _ fe) Tryz.func213 (loopsL_cons (by kernel_rfl) (loopD_ok Z7) (loopsL_nil (by kernel_rfl))) (boxesL_none (by kernel_rfl)) e_q100
theorem Rj:FK Ge:=fun _ _ h=>h.cons Ge (by kernel_rfl) Wh.Oo XZ
def I_:iq:=⟨192,[.v I6,.v .str,.v .str],[.v .str],Wh.q30,Wh.q30'⟩
def C_q30:Cx:=⟨cx,[Fl.entry,Ge.entry,Fj.entry],false,Gl⟩
def lt_q30:LT:=[]
theorem e_q30:EV C_q30 lt_q30 Tryz.f192 [.v I6,.v .str,.v .str] [.v .str] Wh.q30:=by intro xs;kernel_rfl
theorem ok_q30:CO I_:=con_ok (Ls:=[]) mixed (eA _ _) (Nx _ (Rj _ (Nv _ fe))) Tryz.func192 (loopsL_nil (by kernel_rfl)) (boxesL_none (by kernel_rfl)) e_q30
theorem fk_q30:FK I_:=fun _ _ h=>h.cons I_ (by kernel_rfl) Wh.PB ok_q30
def Gy:iq:=⟨267,[.v cr],[.v (.pair I6 (.pair (.own an) .unit))],Wh.Cz,Wh.Hi⟩
def C_q49:Cx:=⟨cx,[],false,Gl⟩
def lt_q49:LT:=[]
theorem e_q49:EV C_q49 lt_q49 Tryz.f267 [.v cr] [.v (.pair I6 (.pair (.own an) .unit))] Wh.Cz:=by intro xs;kernel_rfl
theorem ok_q49:CO Gy:=con_ok (Ls:=[]) mixed (eA _ _) fe Tryz.func267 (loopsL_nil (by kernel_rfl)) (boxesL_none (by kernel_rfl)) e_q49
theorem RB:FK Gy:=fun _ _ h=>h.cons Gy (by kernel_rfl) Wh.EM ok_q49
def IU:iq:=⟨276,[.v an,.v (.ref I6),.v (.ref .str)],[.v .bool],Wh.q19,Wh.q19'⟩
def C_q19:Cx:=⟨cx,[],false,Gl⟩
def lt_q19:LT:=[]
theorem e_q19:EV C_q19 lt_q19 Tryz.f276 [.v an,.v (.ref I6),.v (.ref .str)] [.v .bool] Wh.q19:=by intro xs;kernel_rfl
theorem ok_q19:CO IU:=con_ok (Ls:=[]) mixed (eA _ _) fe Tryz.func276 (loopsL_nil (by kernel_rfl)) (boxesL_none (by kernel_rfl)) e_q19
theorem fk_q19:FK IU:=fun _ _ h=>h.cons IU (by kernel_rfl) Wh.Pt ok_q19
def I9:iq:=⟨165,[.v (.lst an),.f 276 (.pair (.ref I6) (.pair (.ref .str) .unit))],[.v I6],Wh.q3,Wh.q3'⟩
def C_q3:Cx:=⟨cx,[IU.entry],false,Gl⟩
def MC:b8:=kS ⟨[(8,.leaf I6),(0,.leaf (.lst an)),(1,.fn 276 (.bB (.leaf (.ref I6)) (.bB (.leaf (.ref .str)) (.b7)))),(7,.leaf I6)],[]⟩ [(.ret,⟨[(4,.leaf I6)],[]⟩),((.exit 0),⟨[],[]⟩)] Wh.Uu Wh.Cv
def lt_q3:LT:=[(2,MC)]
theorem aaH:∀x,round C_q3 lt_q3 (jo Tryz.f165 0) MC x=Wh.Cv x:=by intro x;kernel_rfl
theorem e_q3:EV C_q3 lt_q3 Tryz.f165 [.v (.lst an),.f 276 (.pair (.ref I6) (.pair (.ref .str) .unit))] [.v I6] Wh.q3:=by intro xs;kernel_rfl
theorem ok_q3:CO I9:=con_ok (Ls:=[MC]) mixed (eA _ _) (fk_q19 _ fe) Tryz.func165 (loopsL_cons (by kernel_rfl) (loopD_ok aaH) (loopsL_nil (by kernel_rfl))) (boxesL_none (by kernel_rfl)) e_q3
theorem fk_q3:FK I9:=fun _ _ h=>h.cons I9 (by kernel_rfl) Wh.q3_v ok_q3
def Gx:iq:=⟨193,[.v cr,.v I6,.v .str],[.v I6],Wh.A_,Wh.Ln⟩
def C_q45:Cx:=⟨cx,[I9.entry],false,Gl⟩
def lt_q45:LT:=[]
theorem e_q45:EV C_q45 lt_q45 Tryz.f193 [.v cr,.v I6,.v .str] [.v I6] Wh.A_:=by intro xs;kernel_rfl
theorem ok_q45:CO Gx:=con_ok (Ls:=[]) mixed (eA _ _) (fk_q3 _ fe) Tryz.func193 (loopsL_nil (by kernel_rfl)) (boxesL_none (by kernel_rfl)) e_q45
theorem RA:FK Gx:=fun _ _ h=>h.cons Gx (by kernel_rfl) Wh.Hh ok_q45
def J3:iq:=⟨277,[.k (.own an),.v I6,.v I6],[.v (.own an)],Wh.EW,Wh.q9'⟩
def C_q9:Cx:=⟨cx,[],false,Gl⟩
def lt_q9:LT:=[]
theorem e_q9:EV C_q9 lt_q9 Tryz.f277 [.k (.own an),.v I6,.v I6] [.v (.own an)] Wh.EW:=by intro xs;kernel_rfl
theorem ok_q9:CO J3:=con_ok (Ls:=[]) mixed (eA _ _) fe Tryz.func277 (loopsL_nil (by kernel_rfl)) (boxesL_none (by kernel_rfl)) e_q9
theorem fk_q9:FK J3:=fun _ _ h=>h.cons J3 (by kernel_rfl) Wh.q9_v ok_q9
def Jm:iq:=⟨194,[.v cr,.v I6,.v .str],[.v (.pair I6 (.pair (.own an) .unit)),.v I6],Wh.q46,Wh.q46'⟩
def C_q46:Cx:=⟨cx,[J3.entry,Gx.entry,Gy.entry],false,Gl⟩
def lt_q46:LT:=[]
theorem e_q46:EV C_q46 lt_q46 Tryz.f194 [.v cr,.v I6,.v .str] [.v (.pair I6 (.pair (.own an) .unit)),.v I6] Wh.q46:=by intro xs;kernel_rfl
theorem ok_q46:CO Jm:=con_ok (Ls:=[]) mixed (eA _ _) (fk_q9 _ (RA _ (RB _ fe))) Tryz.func194 (loopsL_nil (by kernel_rfl)) (boxesL_none (by kernel_rfl)) e_q46
theorem fk_q46:FK Jm:=fun _ _ h=>h.cons Jm (by kernel_rfl) Wh.q46_v ok_q46
def IP:iq:=⟨130,[.v I6,.v .str,.v .str],[.v .bool],Wh.q15,Wh.q15'⟩
def C_q15:Cx:=⟨cx,[At.entry,Ge.entry,Fj.entry],false,Gl⟩
def lt_q15:LT:=[]
theorem e_q15:EV C_q15 lt_q15 Tryz.f130 [.v I6,.v .str,.v .str] [.v .bool] Wh.q15:=by intro xs;kernel_rfl
theorem ok_q15:CO IP:=con_ok (Ls:=[]) mixed (eA _ _) (Bg _ (Rj _ (Nv _ fe))) Tryz.func130 (loopsL_nil (by kernel_rfl)) (boxesL_none (by kernel_rfl)) e_q15
theorem fk_q15:FK IP:=fun _ _ h=>h.cons IP (by kernel_rfl) Wh.Lf ok_q15
def Ja:iq:=⟨273,[.v cr,.v I6],[.v I6],Wh.q32,Wh.q32'⟩
def C_q32:Cx:=⟨cx,[],false,Gl⟩
def L0:b8:=kS ⟨[(11,.leaf I6),(5,.leaf I6),(1,.leaf I6),(9,.leaf (.lst an)),(10,.leaf I6)],[]⟩ [((.exit 0),⟨[(5,.leaf I6)],[]⟩)] Wh.Uo Wh.Cs
def SN:LT:=[(3,L0)]
theorem Z5:∀x,round C_q32 SN (jo Tryz.f273 0) L0 x=Wh.Cs x:=by intro x;kernel_rfl
theorem e_q32:EV C_q32 SN Tryz.f273 [.v cr,.v I6] [.v I6] Wh.q32:=by intro xs;kernel_rfl
theorem ok_q32:CO Ja:=con_ok (Ls:=[L0]) mixed (eA _ _) fe Tryz.func273 (loopsL_cons (by kernel_rfl) (loopD_ok Z5) (loopsL_nil (by kernel_rfl))) (boxesL_none (by kernel_rfl)) e_q32
theorem fk_q32:FK Ja:=fun _ _ h=>h.cons Ja (by kernel_rfl) Wh.q32_v ok_q32
def Jk:iq:=⟨398,[.v I6],[.v .bool],Wh.q43,Wh.Lm⟩
def C_q43:Cx:=⟨cx,[],false,Gl⟩
def lt_q43:LT:=[]
theorem e_q43:EV C_q43 lt_q43 Tryz.f398 [.v I6] [.v .bool] Wh.q43:=by intro xs;kernel_rfl
theorem ok_q43:CO Jk:=con_ok (Ls:=[]) mixed (eA _ _) fe Tryz.func398 (loopsL_nil (by kernel_rfl)) (boxesL_none (by kernel_rfl)) e_q43
theorem fk_q43:FK Jk:=fun _ _ h=>h.cons Jk (by kernel_rfl) Wh.q43_v ok_q43
def IT:iq:=⟨337,[.v I6,.v I6],[.v I6],Wh.q18,Wh.q18'⟩
def C_q18:Cx:=⟨cx,[Jk.entry],false,Gl⟩
def lt_q18:LT:=[]
theorem e_q18:EV C_q18 lt_q18 Tryz.f337 [.v I6,.v I6] [.v I6] Wh.q18:=by intro xs;kernel_rfl
theorem ok_q18:CO IT:=con_ok (Ls:=[]) mixed (eA _ _) (fk_q43 _ fe) Tryz.func337 (loopsL_nil (by kernel_rfl)) (boxesL_none (by kernel_rfl)) e_q18
theorem fk_q18:FK IT:=fun _ _ h=>h.cons IT (by kernel_rfl) Wh.q18_v ok_q18
def Ix:iq:=⟨399,[.v .str],[.v .bool],Wh.q12,Wh.KZ⟩
def C_q12:Cx:=⟨cx,[],false,Gl⟩
def lt_q12:LT:=[]
theorem e_q12:EV C_q12 lt_q12 Tryz.f399 [.v .str] [.v .bool] Wh.q12:=by intro xs;kernel_rfl
theorem ok_q12:CO Ix:=con_ok (Ls:=[]) mixed (eA _ _) fe Tryz.func399 (loopsL_nil (by kernel_rfl)) (boxesL_none (by kernel_rfl)) e_q12
theorem fk_q12:FK Ix:=fun _ _ h=>h.cons Ix (by kernel_rfl) Wh.q12_v ok_q12
def JJ:iq:=⟨338,[.v .str,.v .str],[.v I6],Wh.q7,Wh.q7'⟩
def C_q7:Cx:=⟨cx,[Ix.entry],false,Gl⟩
def lt_q7:LT:=[]
theorem e_q7:EV C_q7 lt_q7 Tryz.f338 [.v .str,.v .str] [.v I6] Wh.q7:=by intro xs;kernel_rfl
theorem ok_q7:CO JJ:=con_ok (Ls:=[]) mixed (eA _ _) (fk_q12 _ fe) Tryz.func338 (loopsL_nil (by kernel_rfl)) (boxesL_none (by kernel_rfl)) e_q7
theorem fk_q7:FK JJ:=fun _ _ h=>h.cons JJ (by kernel_rfl) Wh.q7_v ok_q7
def Iz:iq:=⟨336,[.v (.lst I6)],[.v I6],Wh.Ey,Wh.OU⟩
def QO:Cx:=⟨cx,[],false,Gl⟩
def LY:b8:=kS ⟨[(8,.leaf I6),(3,.leaf I6),(6,.leaf (.lst I6)),(7,.leaf I6)],[]⟩ [(.ret,⟨[(2,.leaf I6)],[]⟩),((.exit 0),⟨[(3,.leaf I6)],[]⟩)] Wh.TR Wh.Db
def Sx:LT:=[(3,LY)]
theorem Z3:∀x,round QO Sx (jo Tryz.f336 0) LY x=Wh.Db x:=by intro x;kernel_rfl
theorem e_q124:EV QO Sx Tryz.f336 [.v (.lst I6)] [.v I6] Wh.Ey:=by intro xs;kernel_rfl
theorem Yn:CO Iz:=con_ok (Ls:=[LY]) mixed (eA _ _) fe Tryz.func336 (loopsL_cons (by kernel_rfl) (loopD_ok Z3) (loopsL_nil (by kernel_rfl))) (boxesL_none (by kernel_rfl)) e_q124
theorem Wd:FK Iz:=fun _ _ h=>h.cons Iz (by kernel_rfl) Wh.TS Yn
def Gv:iq:=⟨275,[.v an,.v an],[.v I6],Wh.q34,Wh.q34'⟩
def C_q34:Cx:=⟨cx,[Iz.entry,JJ.entry,IT.entry],false,Gl⟩
def lt_q34:LT:=[]
theorem e_q34:EV C_q34 lt_q34 Tryz.f275 [.v an,.v an] [.v I6] Wh.q34:=by intro xs;kernel_rfl
theorem ok_q34:CO Gv:=con_ok (Ls:=[]) mixed (eA _ _) (Wd _ (fk_q7 _ (fk_q18 _ fe))) Tryz.func275 (loopsL_nil (by kernel_rfl)) (boxesL_none (by kernel_rfl)) e_q34
theorem Ry:FK Gv:=fun _ _ h=>h.cons Gv (by kernel_rfl) Wh.Lj ok_q34
def Ib:iq:=⟨390,[.m an,.v I6,.v I6,.f 275 .unit],[],Wh.q0,Wh.q0'⟩
def C_q0:Cx:=⟨cx,[Gv.entry],false,Gl⟩
def MD:b8:=kS ⟨[(0,.whole 900 an),(8,.leaf I6),(3,.fn 275 (.b7)),(1,.leaf I6),(2,.leaf I6)],[(900,false,.rows an)]⟩ [((.exit 0),⟨[],[(900,false,.rows an)]⟩)] Wh.Tq Wh.A6
def ME:b8:=kS ⟨[(9,.leaf I6),(0,.whole 900 an),(3,.fn 275 (.b7)),(1,.leaf I6),(2,.leaf I6),(8,.leaf I6)],[(900,false,.rows an)]⟩ [((.exit 2),⟨[(0,.whole 900 an),(3,.fn 275 (.b7)),(1,.leaf I6),(2,.leaf I6),(8,.leaf I6)],[(900,false,.rows an)]⟩)] Wh.Tr Wh.Br
def N2:LT:=[(1,MD),(4,ME)]
theorem aaI:∀x,round C_q0 N2 (jo Tryz.f390 0) MD x=Wh.A6 x:=by intro x;kernel_rfl
theorem aaJ:∀x,round C_q0 N2 (jo Tryz.f390 1) ME x=Wh.Br x:=by intro x;kernel_rfl
theorem e_q0:EV C_q0 N2 Tryz.f390 [.m an,.v I6,.v I6,.f 275 .unit] [] Wh.q0:=by intro xs;kernel_rfl
theorem ok_q0:CO Ib:=con_ok (Ls:=[MD,ME]) mixed (eA _ _) (Ry _ fe) Tryz.func390 (loopsL_cons (by kernel_rfl) (loopD_ok aaI) (loopsL_cons (by kernel_rfl) (loopD_ok aaJ) (loopsL_nil (by kernel_rfl)))) (boxesL_none (by kernel_rfl)) e_q0
theorem fk_q0:FK Ib:=fun _ _ h=>h.cons Ib (by kernel_rfl) Wh.q0_v ok_q0
def Ic:iq:=⟨335,[.m an,.v I6,.v I6,.v I6,.f 275 .unit],[],Wh.q1,Wh.q1'⟩
def C_q1:Cx:=⟨cx,[Gv.entry,Ib.entry],false,Gl⟩
def MG:b8:=kS ⟨[(4,.fn 275 (.b7)),(2,.leaf I6),(1,.leaf I6),(0,.whole 900 an),(11,.leaf .bool),(10,.leaf .bool),(3,.leaf I6)],[(900,false,.rows an)]⟩ [(.ret,⟨[],[(900,false,.rows an)]⟩)] Wh.Ui Wh.FV
def lt_q1:LT:=[(2,MG)]
theorem aaK:∀x,round C_q1 lt_q1 (jo Tryz.f335 0) MG x=Wh.FV x:=by intro x;kernel_rfl
theorem e_q1:EV C_q1 lt_q1 Tryz.f335 [.m an,.v I6,.v I6,.v I6,.f 275 .unit] [] Wh.q1:=by intro xs;kernel_rfl
theorem ok_q1:CO Ic:=con_ok (Ls:=[MG]) mixed (eA _ _) (Ry _ (fk_q0 _ fe)) Tryz.func335 (loopsL_cons (by kernel_rfl) (loopD_ok aaK) (loopsL_nil (by kernel_rfl))) (boxesL_none (by kernel_rfl)) e_q1
theorem fk_q1:FK Ic:=fun _ _ h=>h.cons Ic (by kernel_rfl) Wh.q1_v ok_q1
def Jh:iq:=⟨274,[.m an,.f 275 .unit],[],Wh.q4,Wh.q4'⟩
def C_q4:Cx:=⟨cx,[Ic.entry,Ia.entry],false,Gl⟩
def lt_q4:LT:=[]
theorem e_q4:EV C_q4 lt_q4 Tryz.f274 [.m an,.f 275 .unit] [] Wh.q4:=by intro xs;kernel_rfl
theorem ok_q4:CO Jh:=con_ok (Ls:=[]) mixed (eA _ _) (fk_q1 _ (VY _ fe)) Tryz.func274 (loopsL_nil (by kernel_rfl)) (boxesL_none (by kernel_rfl)) e_q4
theorem fk_q4:FK Jh:=fun _ _ h=>h.cons Jh (by kernel_rfl) Wh.q4_v ok_q4
def JL:iq:=⟨190,[.v cr,.v I6,.v .str,.v .str],[.v (.pair I6 (.pair (.own an) .unit)),.v I6],Wh.CB,Wh.q71'⟩
def C_q71:Cx:=⟨cx,[Jh.entry,Ja.entry,Gx.entry,IP.entry,Gy.entry],false,Gl⟩
def lt_q71:LT:=[]
theorem e_q71:EV C_q71 lt_q71 Tryz.f190 [.v cr,.v I6,.v .str,.v .str] [.v (.pair I6 (.pair (.own an) .unit)),.v I6] Wh.CB:=by intro xs;kernel_rfl
theorem ok_q71:CO JL:=con_ok (Ls:=[]) mixed (eA _ _) (fk_q4 _ (fk_q32 _ (RA _ (fk_q15 _ (RB _ fe))))) Tryz.func190 (loopsL_nil (by kernel_rfl)) (boxesL_none (by kernel_rfl)) e_q71
theorem fk_q71:FK JL:=fun _ _ h=>h.cons JL (by kernel_rfl) Wh.q71_v ok_q71
def Gu:iq:=⟨160,[.v cr,.v .str],[.v (.pair I6 (.pair (.own an) .unit)),.v .bool],Wh.Cr,Wh.Lh⟩
def C_q31:Cx:=⟨cx,[JL.entry,Jm.entry,I_.entry,Gd.entry,GF.entry],false,Gl⟩
def lt_q31:LT:=[]
theorem e_q31:EV C_q31 lt_q31 Tryz.f160 [.v cr,.v .str] [.v (.pair I6 (.pair (.own an) .unit)),.v .bool] Wh.Cr:=by intro xs;kernel_rfl
theorem ok_q31:CO Gu:=con_ok (Ls:=[]) mixed (eA _ _) (fk_q71 _ (fk_q46 _ (fk_q30 _ (Ri _ (RH _ fe))))) Tryz.func160 (loopsL_nil (by kernel_rfl)) (boxesL_none (by kernel_rfl)) e_q31
theorem Rx:FK Gu:=fun _ _ h=>h.cons Gu (by kernel_rfl) Wh.Li ok_q31
def IA:iq:=⟨75,[.v (.lst .str)],[.v (.pair I6 (.pair (.own an) .unit)),.v .bool],Wh.Ez,Wh.OX⟩
def QS:Cx:=⟨cx,[Gu.entry],false,Gl⟩
def LZ:b8:=kS ⟨[(2,.aZ z0 []),(13,.leaf I6),(4,.aZ z1 []),(11,.leaf (.lst .str)),(12,.leaf I6)],[(z0,false,.var cr (.pair (.leaf I6) (.pair (.whole z2 an) (.leaf .unit)))),(z1,false,.var cr (.pair (.leaf I6) (.pair (.whole z3 an) (.leaf .unit)))),(z2,false,.rows an),(z3,false,.rows an)]⟩ [(.ret,⟨[(2,.aZ z0 []),(3,.leaf .bool)],[(z0,false,.var cr (.pair (.leaf I6) (.pair (.whole z1 an) (.leaf .unit)))),(z1,false,.rows an)]⟩),((.exit 0),⟨[(2,.aZ z0 []),(4,.aZ z1 [])],[(z0,false,.var cr (.pair (.leaf I6) (.pair (.whole z2 an) (.leaf .unit)))),(z1,false,.var cr (.pair (.leaf I6) (.pair (.whole z3 an) (.leaf .unit)))),(z2,false,.rows an),(z3,false,.rows an)]⟩)] Wh.TT Wh.Cd
def Sy:LT:=[(3,LZ)]
theorem Z4:∀x,round QS Sy (jo Tryz.f75 0) LZ x=Wh.Cd x:=by intro x;kernel_rfl
theorem e_q125:EV QS Sy Tryz.f75 [.v (.lst .str)] [.v (.pair I6 (.pair (.own an) .unit)),.v .bool] Wh.Ez:=by intro xs;kernel_rfl
theorem Yo:CO IA:=con_ok (Ls:=[LZ]) mixed (eA _ _) (Rx _ fe) Tryz.func75 (loopsL_cons (by kernel_rfl) (loopD_ok Z4) (loopsL_nil (by kernel_rfl))) (boxesL_none (by kernel_rfl)) e_q125
theorem We:FK IA:=fun _ _ h=>h.cons IA (by kernel_rfl) Wh.TU Yo
def Ie:iq:=⟨161,[.v (.lst an),.v (.lst an)],[.v .bool],Wh.q10,Wh.q10'⟩
def C_q10:Cx:=⟨cx,[],false,Gl⟩
def MA:b8:=kS ⟨[(13,.leaf I6),(1,.leaf (.lst an)),(0,.leaf (.lst an)),(12,.leaf I6)],[]⟩ [(.ret,⟨[(4,.leaf .bool)],[]⟩),((.exit 0),⟨[],[]⟩)] Wh.TC Wh.B9
def Sp:LT:=[(4,MA)]
theorem aaF:∀x,round C_q10 Sp (jo Tryz.f161 0) MA x=Wh.B9 x:=by intro x;kernel_rfl
theorem e_q10:EV C_q10 Sp Tryz.f161 [.v (.lst an),.v (.lst an)] [.v .bool] Wh.q10:=by intro xs;kernel_rfl
theorem ok_q10:CO Ie:=con_ok (Ls:=[MA]) mixed (eA _ _) fe Tryz.func161 (loopsL_cons (by kernel_rfl) (loopD_ok aaF) (loopsL_nil (by kernel_rfl))) (boxesL_none (by kernel_rfl)) e_q10
theorem fk_q10:FK Ie:=fun _ _ h=>h.cons Ie (by kernel_rfl) Wh.q10_v ok_q10
def JR:iq:=⟨76,[.v cr,.v cr],[.v .bool],Wh.q79,Wh.q79'⟩
def C_q79:Cx:=⟨cx,[Ie.entry],false,Gl⟩
def lt_q79:LT:=[]
theorem e_q79:EV C_q79 lt_q79 Tryz.f76 [.v cr,.v cr] [.v .bool] Wh.q79:=by intro xs;kernel_rfl
theorem ok_q79:CO JR:=con_ok (Ls:=[]) mixed (eA _ _) (fk_q10 _ fe) Tryz.func76 (loopsL_nil (by kernel_rfl)) (boxesL_none (by kernel_rfl)) e_q79
theorem fk_q79:FK JR:=fun _ _ h=>h.cons JR (by kernel_rfl) Wh.q79_v ok_q79
def Jb:iq:=⟨264,[.v gd,.v I6,.v I6],[.v I6],Wh.q33,Wh.q33'⟩
def C_q33:Cx:=⟨cx,[],false,Gl⟩
def L6:b8:=kS ⟨[(12,.leaf I6),(2,.leaf I6),(1,.leaf I6),(10,.leaf (.lst e_)),(11,.leaf I6)],[]⟩ [(.ret,⟨[(6,.leaf I6)],[]⟩),((.exit 0),⟨[],[]⟩)] Wh.Up Wh.Cu
def SO:LT:=[(2,L6)]
theorem aaa:∀x,round C_q33 SO (jo Tryz.f264 0) L6 x=Wh.Cu x:=by intro x;kernel_rfl
theorem e_q33:EV C_q33 SO Tryz.f264 [.v gd,.v I6,.v I6] [.v I6] Wh.q33:=by intro xs;kernel_rfl
theorem ok_q33:CO Jb:=con_ok (Ls:=[L6]) mixed (eA _ _) fe Tryz.func264 (loopsL_cons (by kernel_rfl) (loopD_ok aaa) (loopsL_nil (by kernel_rfl))) (boxesL_none (by kernel_rfl)) e_q33
theorem fk_q33:FK Jb:=fun _ _ h=>h.cons Jb (by kernel_rfl) Wh.q33_v ok_q33
def JP:iq:=⟨265,[.v gd,.v I6],[.v I6],Wh.q76,Wh.q76'⟩
def C_q76:Cx:=⟨cx,[],false,Gl⟩
def L7:b8:=kS ⟨[(11,.leaf I6),(5,.leaf I6),(1,.leaf I6),(9,.leaf (.lst e_)),(10,.leaf I6)],[]⟩ [((.exit 0),⟨[(5,.leaf I6)],[]⟩)] Wh.UT Wh.CD
def S5:LT:=[(3,L7)]
theorem aab:∀x,round C_q76 S5 (jo Tryz.f265 0) L7 x=Wh.CD x:=by intro x;kernel_rfl
theorem e_q76:EV C_q76 S5 Tryz.f265 [.v gd,.v I6] [.v I6] Wh.q76:=by intro xs;kernel_rfl
theorem ok_q76:CO JP:=con_ok (Ls:=[L7]) mixed (eA _ _) fe Tryz.func265 (loopsL_cons (by kernel_rfl) (loopD_ok aab) (loopsL_nil (by kernel_rfl))) (boxesL_none (by kernel_rfl)) e_q76
theorem fk_q76:FK JP:=fun _ _ h=>h.cons JP (by kernel_rfl) Wh.FY ok_q76
def Ig:iq:=⟨162,[.v gd],[.v .bool],Wh.C8,Wh.Oq⟩
def LR:Cx:=⟨cx,[JP.entry,Jb.entry,Fj.entry,At.entry],false,Gl⟩
def L4:b8:=kS ⟨[(19,.leaf I6),(1,.aZ z0 []),(17,.leaf (.lst e_)),(18,.leaf I6)],[(z0,false,.var gd (.leaf gd))]⟩ [(.ret,⟨[(2,.leaf .bool)],[]⟩),((.exit 0),⟨[(1,.aZ z0 [])],[(z0,false,.var gd (.leaf gd))]⟩)] Wh.Tt Wh.Bt
def L5:b8:=kS ⟨[(63,.leaf I6),(1,.aZ z0 [])],[(z0,false,.var gd (.leaf gd))]⟩ [(.ret,⟨[(2,.leaf .bool)],[]⟩),((.exit 2),⟨[],[]⟩)] Wh.Tu Wh.Bw
def N3:LT:=[(4,L4),(13,L5)]
theorem Z9:∀x,round LR N3 (jo Tryz.f162 0) L4 x=Wh.Bt x:=by intro x;kernel_rfl
theorem Z_:∀x,round LR N3 (jo Tryz.f162 1) L5 x=Wh.Bw x:=by intro x;kernel_rfl
theorem e_q101:EV LR N3 Tryz.f162 [.v gd] [.v .bool] Wh.C8:=by intro xs;kernel_rfl
theorem X1:CO Ig:=con_ok (Ls:=[L4,L5]) mixed (eA _ _) (fk_q76 _ (fk_q33 _ (Nv _ (Bg _ fe)))) Tryz.func162 (loopsL_cons (by kernel_rfl) (loopD_ok Z9) (loopsL_cons (by kernel_rfl) (loopD_ok Z_) (loopsL_nil (by kernel_rfl)))) (boxesL_none (by kernel_rfl)) e_q101
theorem VZ:FK Ig:=fun _ _ h=>h.cons Ig (by kernel_rfl) Wh.Ov X1
def JS:iq:=⟨166,[.v an,.v (.ref I6)],[.v .bool],Wh.FZ,Wh.q8'⟩
def C_q8:Cx:=⟨cx,[],false,Gl⟩
def lt_q8:LT:=[]
theorem e_q8:EV C_q8 lt_q8 Tryz.f166 [.v an,.v (.ref I6)] [.v .bool] Wh.FZ:=by intro xs;kernel_rfl
theorem ok_q8:CO JS:=con_ok (Ls:=[]) mixed (eA _ _) fe Tryz.func166 (loopsL_nil (by kernel_rfl)) (boxesL_none (by kernel_rfl)) e_q8
theorem fk_q8:FK JS:=fun _ _ h=>h.cons JS (by kernel_rfl) Wh.q8_v ok_q8
def IV:iq:=⟨165,[.v (.lst an),.f 166 (.pair (.ref I6) .unit)],[.v I6],Wh.q2,Wh.Cl⟩
def C_q2:Cx:=⟨cx,[JS.entry],false,Gl⟩
def MB:b8:=kS ⟨[(8,.leaf I6),(0,.leaf (.lst an)),(1,.fn 166 (.bB (.leaf (.ref I6)) (.b7))),(7,.leaf I6)],[]⟩ [(.ret,⟨[(4,.leaf I6)],[]⟩),((.exit 0),⟨[],[]⟩)] Wh.Un Wh.Cq
def lt_q2:LT:=[(2,MB)]
theorem aaG:∀x,round C_q2 lt_q2 (jo Tryz.f165 0) MB x=Wh.Cq x:=by intro x;kernel_rfl
theorem e_q2:EV C_q2 lt_q2 Tryz.f165 [.v (.lst an),.f 166 (.pair (.ref I6) .unit)] [.v I6] Wh.q2:=by intro xs;kernel_rfl
theorem ok_q2:CO IV:=con_ok (Ls:=[MB]) mixed (eA _ _) (fk_q8 _ fe) Tryz.func165 (loopsL_cons (by kernel_rfl) (loopD_ok aaG) (loopsL_nil (by kernel_rfl))) (boxesL_none (by kernel_rfl)) e_q2
theorem fk_q2:FK IV:=fun _ _ h=>h.cons IV (by kernel_rfl) Wh.q2_v ok_q2
def Gm:iq:=⟨80,[.v cr,.v I6],[.v I6],Wh.Ce,Wh.K8⟩
def C_q13:Cx:=⟨cx,[IV.entry],false,Gl⟩
def lt_q13:LT:=[]
theorem e_q13:EV C_q13 lt_q13 Tryz.f80 [.v cr,.v I6] [.v I6] Wh.Ce:=by intro xs;kernel_rfl
theorem ok_q13:CO Gm:=con_ok (Ls:=[]) mixed (eA _ _) (fk_q2 _ fe) Tryz.func80 (loopsL_nil (by kernel_rfl)) (boxesL_none (by kernel_rfl)) e_q13
theorem Rq:FK Gm:=fun _ _ h=>h.cons Gm (by kernel_rfl) Wh.EI ok_q13
def Gt:iq:=⟨164,[.v yA],[.v I6],Wh.Cm,Wh.FW⟩
def C_q20:Cx:=⟨cx,[],false,Gl⟩
def lt_q20:LT:=[]
theorem e_q20:EV C_q20 lt_q20 Tryz.f164 [.v yA] [.v I6] Wh.Cm:=by intro xs;kernel_rfl
theorem ok_q20:CO Gt:=con_ok (Ls:=[]) mixed (eA _ _) fe Tryz.func164 (loopsL_nil (by kernel_rfl)) (boxesL_none (by kernel_rfl)) e_q20
theorem Rw:FK Gt:=fun _ _ h=>h.cons Gt (by kernel_rfl) Wh.q20_v ok_q20
def JO:iq:=⟨163,[.v I6],[.v (.pair I6 (.pair I6 (.pair (.own I6) (.pair (.own I6) .unit))))],Wh.q75,Wh.q75'⟩
def C_q75:Cx:=⟨cx,[Gt.entry,At.entry],false,Gl⟩
def L3:b8:=kS ⟨[(3,.aZ z0 []),(2,.aZ z1 [])],[(z0,false,.var yA (.pair (.leaf I6) (.pair (.leaf I6) (.pair (.whole z2 I6) (.pair (.whole z3 I6) (.leaf .unit)))))),(z1,false,.var yA (.pair (.leaf I6) (.pair (.leaf I6) (.pair (.whole 500000004 I6) (.pair (.whole 500000005 I6) (.leaf .unit)))))),(z2,false,.rows I6),(z3,false,.rows I6),(500000004,false,.rows I6),(500000005,false,.rows I6)]⟩ [((.exit 0),⟨[(2,.aZ z0 []),(3,.aZ z1 [])],[(z0,false,.var yA (.pair (.leaf I6) (.pair (.leaf I6) (.pair (.whole z2 I6) (.pair (.whole z3 I6) (.leaf .unit)))))),(z1,false,.var yA (.pair (.leaf I6) (.pair (.leaf I6) (.pair (.whole 500000004 I6) (.pair (.whole 500000005 I6) (.leaf .unit)))))),(z2,false,.rows I6),(z3,false,.rows I6),(500000004,false,.rows I6),(500000005,false,.rows I6)]⟩)] Wh.US Wh.Hp
def S4:LT:=[(4,L3)]
theorem Z8:∀x,round C_q75 S4 (jo Tryz.f163 0) L3 x=Wh.Hp x:=by intro x;kernel_rfl
theorem e_q75:EV C_q75 S4 Tryz.f163 [.v I6] [.v (.pair I6 (.pair I6 (.pair (.own I6) (.pair (.own I6) .unit))))] Wh.q75:=by intro xs;kernel_rfl
theorem ok_q75:CO JO:=con_ok (Ls:=[L3]) mixed (eA _ _) (Rw _ (Bg _ fe)) Tryz.func163 (loopsL_cons (by kernel_rfl) (loopD_ok Z8) (loopsL_nil (by kernel_rfl))) (boxesL_none (by kernel_rfl)) e_q75
theorem fk_q75:FK JO:=fun _ _ h=>h.cons JO (by kernel_rfl) Wh.q75_v ok_q75
def Jp:iq:=⟨77,[.v gd,.v cr],[.v .bool],Wh.q50,Wh.q50'⟩
def C_q50:Cx:=⟨cx,[Gt.entry,JO.entry,Gm.entry,Ig.entry],false,Gl⟩
def Ma:b8:=kS ⟨[(14,.leaf I6),(3,.aZ z0 []),(12,.leaf (.lst e_)),(13,.leaf I6)],[(z0,false,.var cr (.leaf cr))]⟩ [(.ret,⟨[(4,.leaf .bool)],[]⟩),((.exit 0),⟨[],[]⟩)] Wh.Uz Wh.AE
def SX:LT:=[(4,Ma)]
theorem aaf:∀x,round C_q50 SX (jo Tryz.f77 0) Ma x=Wh.AE x:=by intro x;kernel_rfl
theorem e_q50:EV C_q50 SX Tryz.f77 [.v gd,.v cr] [.v .bool] Wh.q50:=by intro xs;kernel_rfl
theorem ok_q50:CO Jp:=con_ok (Ls:=[Ma]) mixed (eA _ _) (Rw _ (fk_q75 _ (Rq _ (VZ _ fe)))) Tryz.func77 (loopsL_cons (by kernel_rfl) (loopD_ok aaf) (loopsL_nil (by kernel_rfl))) (boxesL_none (by kernel_rfl)) e_q50
theorem fk_q50:FK Jp:=fun _ _ h=>h.cons Jp (by kernel_rfl) Wh.q50_v ok_q50
def Jl:iq:=⟨78,[.v fN],[.v .bool],Wh.q44,Wh.q44'⟩
def C_q44:Cx:=⟨cx,[At.entry],false,Gl⟩
def lt_q44:LT:=[]
theorem e_q44:EV C_q44 lt_q44 Tryz.f78 [.v fN] [.v .bool] Wh.q44:=by intro xs;kernel_rfl
theorem ok_q44:CO Jl:=con_ok (Ls:=[]) mixed (eA _ _) (Bg _ fe) Tryz.func78 (loopsL_nil (by kernel_rfl)) (boxesL_none (by kernel_rfl)) e_q44
theorem fk_q44:FK Jl:=fun _ _ h=>h.cons Jl (by kernel_rfl) Wh.q44_v ok_q44
def Jo:iq:=⟨79,[.v I6],[.v .bool],Wh.q48,Wh.q48'⟩
def C_q48:Cx:=⟨cx,[At.entry],false,Gl⟩
def lt_q48:LT:=[]
theorem e_q48:EV C_q48 lt_q48 Tryz.f79 [.v I6] [.v .bool] Wh.q48:=by intro xs;kernel_rfl
theorem ok_q48:CO Jo:=con_ok (Ls:=[]) mixed (eA _ _) (Bg _ fe) Tryz.func79 (loopsL_nil (by kernel_rfl)) (boxesL_none (by kernel_rfl)) e_q48
theorem fk_q48:FK Jo:=fun _ _ h=>h.cons Jo (by kernel_rfl) Wh.PU ok_q48
def JQ:iq:=⟨81,[.v I6],[.v I6],Wh.q77,Wh.q77'⟩
def C_q77:Cx:=⟨cx,[],false,Gl⟩
def lt_q77:LT:=[]
theorem e_q77:EV C_q77 lt_q77 Tryz.f81 [.v I6] [.v I6] Wh.q77:=by intro xs;kernel_rfl
theorem ok_q77:CO JQ:=con_ok (Ls:=[]) mixed (eA _ _) fe Tryz.func81 (loopsL_nil (by kernel_rfl)) (boxesL_none (by kernel_rfl)) e_q77
theorem fk_q77:FK JQ:=fun _ _ h=>h.cons JQ (by kernel_rfl) Wh.Qi ok_q77
def Jn:iq:=⟨17,[.v ct],[.v .bool],Wh.q47,Wh.q47'⟩
def LU:Cx:=⟨cx,[JQ.entry,Gm.entry,Jo.entry,Jl.entry,Jp.entry,JR.entry,IA.entry,GA.entry,At.entry],false,Gl⟩
def L8:b8:=kS ⟨[(105,.leaf I6),(1,.aZ z0 []),(103,.leaf (.lst fN)),(104,.leaf I6)],[(z0,false,.var ct (.leaf ct))]⟩ [(.ret,⟨[(2,.leaf .bool)],[]⟩),((.exit 0),⟨[(1,.aZ z0 [])],[(z0,false,.var ct (.leaf ct))]⟩)] Wh.Ux Wh.Cy
def L9:b8:=kS ⟨[(133,.leaf I6),(1,.aZ z0 []),(131,.leaf (.lst fT)),(132,.leaf I6)],[(z0,false,.var ct (.leaf ct))]⟩ [(.ret,⟨[(2,.leaf .bool)],[]⟩),((.exit 2),⟨[],[]⟩)] Wh.Uy Wh.BH
def N5:LT:=[(13,L8),(19,L9)]
theorem aac:∀x,round LU N5 (jo Tryz.f17 0) L8 x=Wh.Cy x:=by intro x;kernel_rfl
theorem aad:∀x,round LU N5 (jo Tryz.f17 1) L9 x=Wh.BH x:=by intro x;kernel_rfl
theorem e_q47:EV LU N5 Tryz.f17 [.v ct] [.v .bool] Wh.q47:=by intro xs;kernel_rfl
theorem ok_q47:CO Jn:=con_ok (Ls:=[L8,L9]) mixed (eA _ _) (fk_q77 _ (Rq _ (fk_q48 _ (fk_q44 _ (fk_q50 _ (fk_q79 _ (We _ (RD _ (Bg _ fe))))))))) Tryz.func17 (loopsL_cons (by kernel_rfl) (loopD_ok aac) (loopsL_cons (by kernel_rfl) (loopD_ok aad) (loopsL_nil (by kernel_rfl)))) (boxesL_none (by kernel_rfl)) e_q47
theorem fk_q47:FK Jn:=fun _ _ h=>h.cons Jn (by kernel_rfl) Wh.PR ok_q47
def Ii:iq:=⟨235,[.v an,.v an],[.v .bool],Wh.En,Wh.Ow⟩
def C_q104:Cx:=⟨cx,[],false,Gl⟩
def Xk:LT:=[]
theorem e_q104:EV C_q104 Xk Tryz.f235 [.v an,.v an] [.v .bool] Wh.En:=by intro xs;kernel_rfl
theorem X4:CO Ii:=con_ok (Ls:=[]) mixed (eA _ _) fe Tryz.func235 (loopsL_nil (by kernel_rfl)) (boxesL_none (by kernel_rfl)) e_q104
theorem V1:FK Ii:=fun _ _ h=>h.cons Ii (by kernel_rfl) Wh.Tv X4
def JU:iq:=⟨133,[.v (.lst an),.v (.lst an)],[.v .bool],Wh.q81,Wh.q81'⟩
def C_q81:Cx:=⟨cx,[Ii.entry],false,Gl⟩
def Mk:b8:=kS ⟨[(5,.leaf I6),(1,.leaf (.lst an)),(0,.leaf (.lst an))],[]⟩ [(.ret,⟨[(4,.leaf .bool)],[]⟩),((.exit 0),⟨[],[]⟩)] Wh.UU Wh.EU
def S6:LT:=[(4,Mk)]
theorem aap:∀x,round C_q81 S6 (jo Tryz.f133 0) Mk x=Wh.EU x:=by intro x;kernel_rfl
theorem e_q81:EV C_q81 S6 Tryz.f133 [.v (.lst an),.v (.lst an)] [.v .bool] Wh.q81:=by intro xs;kernel_rfl
theorem ok_q81:CO JU:=con_ok (Ls:=[Mk]) mixed (eA _ _) (V1 _ fe) Tryz.func133 (loopsL_cons (by kernel_rfl) (loopD_ok aap) (loopsL_nil (by kernel_rfl))) (boxesL_none (by kernel_rfl)) e_q81
theorem fk_q81:FK JU:=fun _ _ h=>h.cons JU (by kernel_rfl) Wh.q81_v ok_q81
def IC:iq:=⟨82,[.v cr,.v cr],[.v .bool],Wh.EA,Wh.O1⟩
def C_q128:Cx:=⟨cx,[JU.entry],false,Gl⟩
def XA:LT:=[]
theorem e_q128:EV C_q128 XA Tryz.f82 [.v cr,.v cr] [.v .bool] Wh.EA:=by intro xs;kernel_rfl
theorem Yr:CO IC:=con_ok (Ls:=[]) mixed (eA _ _) (fk_q81 _ fe) Tryz.func82 (loopsL_nil (by kernel_rfl)) (boxesL_none (by kernel_rfl)) e_q128
theorem Wg:FK IC:=fun _ _ h=>h.cons IC (by kernel_rfl) Wh.TX Yr
def JT:iq:=⟨266,[.v e_,.v e_],[.v .bool],Wh.q80,Wh.q80'⟩
def C_q80:Cx:=⟨cx,[],false,Gl⟩
def lt_q80:LT:=[]
theorem e_q80:EV C_q80 lt_q80 Tryz.f266 [.v e_,.v e_] [.v .bool] Wh.q80:=by intro xs;kernel_rfl
theorem ok_q80:CO JT:=con_ok (Ls:=[]) mixed (eA _ _) fe Tryz.func266 (loopsL_nil (by kernel_rfl)) (boxesL_none (by kernel_rfl)) e_q80
theorem fk_q80:FK JT:=fun _ _ h=>h.cons JT (by kernel_rfl) Wh.q80_v ok_q80
def Js:iq:=⟨167,[.v (.lst e_),.v (.lst e_)],[.v .bool],Wh.q53,Wh.q53'⟩
def C_q53:Cx:=⟨cx,[JT.entry],false,Gl⟩
def Mj:b8:=kS ⟨[(5,.leaf I6),(1,.leaf (.lst e_)),(0,.leaf (.lst e_))],[]⟩ [(.ret,⟨[(4,.leaf .bool)],[]⟩),((.exit 0),⟨[],[]⟩)] Wh.UI Wh.EP
def SY:LT:=[(4,Mj)]
theorem aao:∀x,round C_q53 SY (jo Tryz.f167 0) Mj x=Wh.EP x:=by intro x;kernel_rfl
theorem e_q53:EV C_q53 SY Tryz.f167 [.v (.lst e_),.v (.lst e_)] [.v .bool] Wh.q53:=by intro xs;kernel_rfl
theorem ok_q53:CO Js:=con_ok (Ls:=[Mj]) mixed (eA _ _) (fk_q80 _ fe) Tryz.func167 (loopsL_cons (by kernel_rfl) (loopD_ok aao) (loopsL_nil (by kernel_rfl))) (boxesL_none (by kernel_rfl)) e_q53
theorem fk_q53:FK Js:=fun _ _ h=>h.cons Js (by kernel_rfl) Wh.q53_v ok_q53
def Ij:iq:=⟨83,[.v gd,.v gd],[.v .bool],Wh.Eo,Wh.Ox⟩
def C_q105:Cx:=⟨cx,[Js.entry],false,Gl⟩
def Xl:LT:=[]
theorem e_q105:EV C_q105 Xl Tryz.f83 [.v gd,.v gd] [.v .bool] Wh.Eo:=by intro xs;kernel_rfl
theorem X5:CO Ij:=con_ok (Ls:=[]) mixed (eA _ _) (fk_q53 _ fe) Tryz.func83 (loopsL_nil (by kernel_rfl)) (boxesL_none (by kernel_rfl)) e_q105
theorem V2:FK Ij:=fun _ _ h=>h.cons Ij (by kernel_rfl) Wh.Tw X5
def Jr:iq:=⟨168,[.v fN,.v fN],[.v .bool],Wh.q52,Wh.q52'⟩
def C_q52:Cx:=⟨cx,[],false,Gl⟩
def lt_q52:LT:=[]
theorem e_q52:EV C_q52 lt_q52 Tryz.f168 [.v fN,.v fN] [.v .bool] Wh.q52:=by intro xs;kernel_rfl
theorem ok_q52:CO Jr:=con_ok (Ls:=[]) mixed (eA _ _) fe Tryz.func168 (loopsL_nil (by kernel_rfl)) (boxesL_none (by kernel_rfl)) e_q52
theorem fk_q52:FK Jr:=fun _ _ h=>h.cons Jr (by kernel_rfl) Wh.q52_v ok_q52
def Jc:iq:=⟨84,[.v (.lst fN),.v (.lst fN)],[.v .bool],Wh.q35,Wh.q35'⟩
def C_q35:Cx:=⟨cx,[Jr.entry],false,Gl⟩
def Mi:b8:=kS ⟨[(5,.leaf I6),(1,.leaf (.lst fN)),(0,.leaf (.lst fN))],[]⟩ [(.ret,⟨[(4,.leaf .bool)],[]⟩),((.exit 0),⟨[],[]⟩)] Wh.Uq Wh.EL
def SP:LT:=[(4,Mi)]
theorem aan:∀x,round C_q35 SP (jo Tryz.f84 0) Mi x=Wh.EL x:=by intro x;kernel_rfl
theorem e_q35:EV C_q35 SP Tryz.f84 [.v (.lst fN),.v (.lst fN)] [.v .bool] Wh.q35:=by intro xs;kernel_rfl
theorem ok_q35:CO Jc:=con_ok (Ls:=[Mi]) mixed (eA _ _) (fk_q52 _ fe) Tryz.func84 (loopsL_cons (by kernel_rfl) (loopD_ok aan) (loopsL_nil (by kernel_rfl))) (boxesL_none (by kernel_rfl)) e_q35
theorem fk_q35:FK Jc:=fun _ _ h=>h.cons Jc (by kernel_rfl) Wh.q35_v ok_q35
def JV:iq:=⟨169,[.v fT,.v fT],[.v .bool],Wh.q82,Wh.q82'⟩
def C_q82:Cx:=⟨cx,[],false,Gl⟩
def lt_q82:LT:=[]
theorem e_q82:EV C_q82 lt_q82 Tryz.f169 [.v fT,.v fT] [.v .bool] Wh.q82:=by intro xs;kernel_rfl
theorem ok_q82:CO JV:=con_ok (Ls:=[]) mixed (eA _ _) fe Tryz.func169 (loopsL_nil (by kernel_rfl)) (boxesL_none (by kernel_rfl)) e_q82
theorem fk_q82:FK JV:=fun _ _ h=>h.cons JV (by kernel_rfl) Wh.q82_v ok_q82
def Jt:iq:=⟨85,[.v (.lst fT),.v (.lst fT)],[.v .bool],Wh.q54,Wh.q54'⟩
def C_q54:Cx:=⟨cx,[JV.entry],false,Gl⟩
def Ml:b8:=kS ⟨[(5,.leaf I6),(1,.leaf (.lst fT)),(0,.leaf (.lst fT))],[]⟩ [(.ret,⟨[(4,.leaf .bool)],[]⟩),((.exit 0),⟨[],[]⟩)] Wh.UJ Wh.ER
def SZ:LT:=[(4,Ml)]
theorem aaq:∀x,round C_q54 SZ (jo Tryz.f85 0) Ml x=Wh.ER x:=by intro x;kernel_rfl
theorem e_q54:EV C_q54 SZ Tryz.f85 [.v (.lst fT),.v (.lst fT)] [.v .bool] Wh.q54:=by intro xs;kernel_rfl
theorem ok_q54:CO Jt:=con_ok (Ls:=[Ml]) mixed (eA _ _) (fk_q82 _ fe) Tryz.func85 (loopsL_cons (by kernel_rfl) (loopD_ok aaq) (loopsL_nil (by kernel_rfl))) (boxesL_none (by kernel_rfl)) e_q54
theorem fk_q54:FK Jt:=fun _ _ h=>h.cons Jt (by kernel_rfl) Wh.q54_v ok_q54
def Ju:iq:=⟨18,[.v ct,.v ct],[.v .bool],Wh.Ba,Wh.Ho⟩
def C_q55:Cx:=⟨cx,[Jt.entry,Jc.entry,Ij.entry,IC.entry],false,Gl⟩
def lt_q55:LT:=[]
theorem e_q55:EV C_q55 lt_q55 Tryz.f18 [.v ct,.v ct] [.v .bool] Wh.Ba:=by intro xs;kernel_rfl
theorem ok_q55:CO Ju:=con_ok (Ls:=[]) mixed (eA _ _) (fk_q54 _ (fk_q35 _ (V2 _ (Wg _ fe)))) Tryz.func18 (loopsL_nil (by kernel_rfl)) (boxesL_none (by kernel_rfl)) e_q55
theorem fk_q55:FK Ju:=fun _ _ h=>h.cons Ju (by kernel_rfl) Wh.P5 ok_q55
def Gz:iq:=⟨121,[.v I6],[.v .str],Wh.AV,Wh.ES⟩
def C_q58:Cx:=⟨cx,[],false,Gl⟩
def Mu:b8:=kS ⟨[(0,.leaf I6),(3,.leaf .str)],[]⟩ [((.exit 0),⟨[(3,.leaf .str)],[]⟩)] Wh.UK Wh.DC
def S0:LT:=[(4,Mu)]
theorem aaz:∀x,round C_q58 S0 (jo Tryz.f121 0) Mu x=Wh.DC x:=by intro x;kernel_rfl
theorem e_q58:EV C_q58 S0 Tryz.f121 [.v I6] [.v .str] Wh.AV:=by intro xs;kernel_rfl
theorem ok_q58:CO Gz:=con_ok (Ls:=[Mu]) mixed (eA _ _) fe Tryz.func121 (loopsL_cons (by kernel_rfl) (loopD_ok aaz) (loopsL_nil (by kernel_rfl))) (boxesL_none (by kernel_rfl)) e_q58
theorem RC:FK Gz:=fun _ _ h=>h.cons Gz (by kernel_rfl) Wh.FX ok_q58
def Je:iq:=⟨174,[.d (.lst an),.v I6],[.v I6],Wh.q37,Wh.q37'⟩
def C_q37:Cx:=⟨cx,[Gz.entry],true,Gl⟩
def Ms:b8:=kS ⟨[(5,.leaf I6),(0,.whole 950 an),(1,.leaf I6)],[(950,false,.rows an)]⟩ [((.exit 0),⟨[(1,.leaf I6)],[(950,false,.rows an)]⟩)] Wh.Us Wh.Dw
def SS:LT:=[(2,Ms)]
theorem aax:∀x,round C_q37 SS (jo Tryz.f174 0) Ms x=Wh.Dw x:=by intro x;kernel_rfl
theorem e_q37:EV C_q37 SS Tryz.f174 [.d (.lst an),.v I6] [.v I6] Wh.q37:=by intro xs;kernel_rfl
theorem ok_q37:CO Je:=con_ok (Ls:=[Ms]) mixed (eA _ _) (RC _ B6) Tryz.func174 (loopsL_cons (by kernel_rfl) (loopD_ok aax) (loopsL_nil (by kernel_rfl))) (boxesL_none (by kernel_rfl)) e_q37
theorem fk_q37:FK Je:=fun _ _ h=>h.cons Je (by kernel_rfl) Wh.q37_v ok_q37
def JX:iq:=⟨90,[.d cr,.v I6],[.v I6],Wh.q84,Wh.q84'⟩
def C_q84:Cx:=⟨cx,[Je.entry],true,Gl⟩
def lt_q84:LT:=[]
theorem e_q84:EV C_q84 lt_q84 Tryz.f90 [.d cr,.v I6] [.v I6] Wh.q84:=by intro xs;kernel_rfl
theorem ok_q84:CO JX:=con_ok (Ls:=[]) mixed (eA _ _) (fk_q37 _ B6) Tryz.func90 (loopsL_nil (by kernel_rfl)) (boxesL_none (by kernel_rfl)) e_q84
theorem fk_q84:FK JX:=fun _ _ h=>h.cons JX (by kernel_rfl) Wh.q84_v ok_q84
def I1:iq:=⟨175,[.d (.lst e_),.v I6],[.v I6],Wh.q25,Wh.q25'⟩
def C_q25:Cx:=⟨cx,[],true,Gl⟩
def Mr:b8:=kS ⟨[(5,.leaf I6),(0,.whole 950 e_),(1,.leaf I6)],[(950,false,.rows e_)]⟩ [((.exit 0),⟨[(1,.leaf I6)],[(950,false,.rows e_)]⟩)] Wh.Ul Wh.Dt
def SL:LT:=[(2,Mr)]
theorem aaw:∀x,round C_q25 SL (jo Tryz.f175 0) Mr x=Wh.Dt x:=by intro x;kernel_rfl
theorem e_q25:EV C_q25 SL Tryz.f175 [.d (.lst e_),.v I6] [.v I6] Wh.q25:=by intro xs;kernel_rfl
theorem ok_q25:CO I1:=con_ok (Ls:=[Mr]) mixed (eA _ _) B6 Tryz.func175 (loopsL_cons (by kernel_rfl) (loopD_ok aaw) (loopsL_nil (by kernel_rfl))) (boxesL_none (by kernel_rfl)) e_q25
theorem fk_q25:FK I1:=fun _ _ h=>h.cons I1 (by kernel_rfl) Wh.q25_v ok_q25
def Jw:iq:=⟨91,[.d gd,.v I6],[.v I6],Wh.q57,Wh.q57'⟩
def C_q57:Cx:=⟨cx,[I1.entry],true,Gl⟩
def lt_q57:LT:=[]
theorem e_q57:EV C_q57 lt_q57 Tryz.f91 [.d gd,.v I6] [.v I6] Wh.q57:=by intro xs;kernel_rfl
theorem ok_q57:CO Jw:=con_ok (Ls:=[]) mixed (eA _ _) (fk_q25 _ B6) Tryz.func91 (loopsL_nil (by kernel_rfl)) (boxesL_none (by kernel_rfl)) e_q57
theorem fk_q57:FK Jw:=fun _ _ h=>h.cons Jw (by kernel_rfl) Wh.q57_v ok_q57
def IS:iq:=⟨92,[.d (.lst fN),.v I6],[.v I6],Wh.q17,Wh.q17'⟩
def C_q17:Cx:=⟨cx,[],true,Gl⟩
def Mq:b8:=kS ⟨[(5,.leaf I6),(0,.whole 950 fN),(1,.leaf I6)],[(950,false,.rows fN)]⟩ [((.exit 0),⟨[(1,.leaf I6)],[(950,false,.rows fN)]⟩)] Wh.Uh Wh.Dp
def SI:LT:=[(2,Mq)]
theorem aav:∀x,round C_q17 SI (jo Tryz.f92 0) Mq x=Wh.Dp x:=by intro x;kernel_rfl
theorem e_q17:EV C_q17 SI Tryz.f92 [.d (.lst fN),.v I6] [.v I6] Wh.q17:=by intro xs;kernel_rfl
theorem ok_q17:CO IS:=con_ok (Ls:=[Mq]) mixed (eA _ _) B6 Tryz.func92 (loopsL_cons (by kernel_rfl) (loopD_ok aav) (loopsL_nil (by kernel_rfl))) (boxesL_none (by kernel_rfl)) e_q17
theorem fk_q17:FK IS:=fun _ _ h=>h.cons IS (by kernel_rfl) Wh.q17_v ok_q17
def I4:iq:=⟨93,[.d (.lst fT),.v I6],[.v I6],Wh.q26,Wh.q26'⟩
def C_q26:Cx:=⟨cx,[],true,Gl⟩
def Mt:b8:=kS ⟨[(5,.leaf I6),(0,.whole 950 fT),(1,.leaf I6)],[(950,false,.rows fT)]⟩ [((.exit 0),⟨[(1,.leaf I6)],[(950,false,.rows fT)]⟩)] Wh.Um Wh.Du
def SM:LT:=[(2,Mt)]
theorem aay:∀x,round C_q26 SM (jo Tryz.f93 0) Mt x=Wh.Du x:=by intro x;kernel_rfl
theorem e_q26:EV C_q26 SM Tryz.f93 [.d (.lst fT),.v I6] [.v I6] Wh.q26:=by intro xs;kernel_rfl
theorem ok_q26:CO I4:=con_ok (Ls:=[Mt]) mixed (eA _ _) B6 Tryz.func93 (loopsL_cons (by kernel_rfl) (loopD_ok aay) (loopsL_nil (by kernel_rfl))) (boxesL_none (by kernel_rfl)) e_q26
theorem fk_q26:FK I4:=fun _ _ h=>h.cons I4 (by kernel_rfl) Wh.q26_v ok_q26
def I5:iq:=⟨21,[.d ct,.v I6],[.v I6],Wh.Cp,Wh.Lg⟩
def C_q27:Cx:=⟨cx,[I4.entry,IS.entry,Jw.entry,JX.entry],true,Gl⟩
def lt_q27:LT:=[]
theorem e_q27:EV C_q27 lt_q27 Tryz.f21 [.d ct,.v I6] [.v I6] Wh.Cp:=by intro xs;kernel_rfl
theorem ok_q27:CO I5:=con_ok (Ls:=[]) mixed (eA _ _) (fk_q26 _ (fk_q17 _ (fk_q57 _ (fk_q84 _ B6)))) Tryz.func21 (loopsL_nil (by kernel_rfl)) (boxesL_none (by kernel_rfl)) e_q27
theorem fk_q27:FK I5:=fun _ _ h=>h.cons I5 (by kernel_rfl) Wh.Pz ok_q27
def Jd:iq:=⟨176,[.v (.lst an),.v I6],[.v I6],Wh.q36,Wh.q36'⟩
def C_q36:Cx:=⟨cx,[Gz.entry],false,Gl⟩
def Mo:b8:=kS ⟨[(5,.leaf I6),(0,.leaf (.lst an)),(1,.leaf I6)],[]⟩ [(.ret,⟨[(4,.leaf I6)],[]⟩),((.exit 0),⟨[(1,.leaf I6)],[]⟩)] Wh.Ur Wh.Dv
def SQ:LT:=[(2,Mo)]
theorem aat:∀x,round C_q36 SQ (jo Tryz.f176 0) Mo x=Wh.Dv x:=by intro x;kernel_rfl
theorem e_q36:EV C_q36 SQ Tryz.f176 [.v (.lst an),.v I6] [.v I6] Wh.q36:=by intro xs;kernel_rfl
theorem ok_q36:CO Jd:=con_ok (Ls:=[Mo]) mixed (eA _ _) (RC _ fe) Tryz.func176 (loopsL_cons (by kernel_rfl) (loopD_ok aat) (loopsL_nil (by kernel_rfl))) (boxesL_none (by kernel_rfl)) e_q36
theorem fk_q36:FK Jd:=fun _ _ h=>h.cons Jd (by kernel_rfl) Wh.q36_v ok_q36
def JW:iq:=⟨94,[.v cr,.v I6],[.v I6],Wh.q83,Wh.q83'⟩
def C_q83:Cx:=⟨cx,[Jd.entry],false,Gl⟩
def lt_q83:LT:=[]
theorem e_q83:EV C_q83 lt_q83 Tryz.f94 [.v cr,.v I6] [.v I6] Wh.q83:=by intro xs;kernel_rfl
theorem ok_q83:CO JW:=con_ok (Ls:=[]) mixed (eA _ _) (fk_q36 _ fe) Tryz.func94 (loopsL_nil (by kernel_rfl)) (boxesL_none (by kernel_rfl)) e_q83
theorem fk_q83:FK JW:=fun _ _ h=>h.cons JW (by kernel_rfl) Wh.q83_v ok_q83
def IX:iq:=⟨177,[.v (.lst e_),.v I6],[.v I6],Wh.q22,Wh.q22'⟩
def C_q22:Cx:=⟨cx,[],false,Gl⟩
def Mn:b8:=kS ⟨[(5,.leaf I6),(0,.leaf (.lst e_)),(1,.leaf I6)],[]⟩ [(.ret,⟨[(4,.leaf I6)],[]⟩),((.exit 0),⟨[(1,.leaf I6)],[]⟩)] Wh.Uj Wh.Dq
def SJ:LT:=[(2,Mn)]
theorem aas:∀x,round C_q22 SJ (jo Tryz.f177 0) Mn x=Wh.Dq x:=by intro x;kernel_rfl
theorem e_q22:EV C_q22 SJ Tryz.f177 [.v (.lst e_),.v I6] [.v I6] Wh.q22:=by intro xs;kernel_rfl
theorem ok_q22:CO IX:=con_ok (Ls:=[Mn]) mixed (eA _ _) fe Tryz.func177 (loopsL_cons (by kernel_rfl) (loopD_ok aas) (loopsL_nil (by kernel_rfl))) (boxesL_none (by kernel_rfl)) e_q22
theorem fk_q22:FK IX:=fun _ _ h=>h.cons IX (by kernel_rfl) Wh.q22_v ok_q22
def Jv:iq:=⟨95,[.v gd,.v I6],[.v I6],Wh.q56,Wh.q56'⟩
def C_q56:Cx:=⟨cx,[IX.entry],false,Gl⟩
def lt_q56:LT:=[]
theorem e_q56:EV C_q56 lt_q56 Tryz.f95 [.v gd,.v I6] [.v I6] Wh.q56:=by intro xs;kernel_rfl
theorem ok_q56:CO Jv:=con_ok (Ls:=[]) mixed (eA _ _) (fk_q22 _ fe) Tryz.func95 (loopsL_nil (by kernel_rfl)) (boxesL_none (by kernel_rfl)) e_q56
theorem fk_q56:FK Jv:=fun _ _ h=>h.cons Jv (by kernel_rfl) Wh.q56_v ok_q56
def IQ:iq:=⟨96,[.v (.lst fN),.v I6],[.v I6],Wh.q16,Wh.q16'⟩
def C_q16:Cx:=⟨cx,[],false,Gl⟩
def Mm:b8:=kS ⟨[(5,.leaf I6),(0,.leaf (.lst fN)),(1,.leaf I6)],[]⟩ [(.ret,⟨[(4,.leaf I6)],[]⟩),((.exit 0),⟨[(1,.leaf I6)],[]⟩)] Wh.Ug Wh.Dn
def SH:LT:=[(2,Mm)]
theorem aar:∀x,round C_q16 SH (jo Tryz.f96 0) Mm x=Wh.Dn x:=by intro x;kernel_rfl
theorem e_q16:EV C_q16 SH Tryz.f96 [.v (.lst fN),.v I6] [.v I6] Wh.q16:=by intro xs;kernel_rfl
theorem ok_q16:CO IQ:=con_ok (Ls:=[Mm]) mixed (eA _ _) fe Tryz.func96 (loopsL_cons (by kernel_rfl) (loopD_ok aar) (loopsL_nil (by kernel_rfl))) (boxesL_none (by kernel_rfl)) e_q16
theorem fk_q16:FK IQ:=fun _ _ h=>h.cons IQ (by kernel_rfl) Wh.q16_v ok_q16
def IY:iq:=⟨97,[.v (.lst fT),.v I6],[.v I6],Wh.q23,Wh.q23'⟩
def C_q23:Cx:=⟨cx,[],false,Gl⟩
def Mp:b8:=kS ⟨[(5,.leaf I6),(0,.leaf (.lst fT)),(1,.leaf I6)],[]⟩ [(.ret,⟨[(4,.leaf I6)],[]⟩),((.exit 0),⟨[(1,.leaf I6)],[]⟩)] Wh.Uk Wh.Dr
def SK:LT:=[(2,Mp)]
theorem aau:∀x,round C_q23 SK (jo Tryz.f97 0) Mp x=Wh.Dr x:=by intro x;kernel_rfl
theorem e_q23:EV C_q23 SK Tryz.f97 [.v (.lst fT),.v I6] [.v I6] Wh.q23:=by intro xs;kernel_rfl
theorem ok_q23:CO IY:=con_ok (Ls:=[Mp]) mixed (eA _ _) fe Tryz.func97 (loopsL_cons (by kernel_rfl) (loopD_ok aau) (loopsL_nil (by kernel_rfl))) (boxesL_none (by kernel_rfl)) e_q23
theorem fk_q23:FK IY:=fun _ _ h=>h.cons IY (by kernel_rfl) Wh.q23_v ok_q23
def IZ:iq:=⟨22,[.v ct,.v I6],[.v I6],Wh.Co,Wh.q24'⟩
def C_q24:Cx:=⟨cx,[IY.entry,IQ.entry,Jv.entry,JW.entry],false,Gl⟩
def lt_q24:LT:=[]
theorem e_q24:EV C_q24 lt_q24 Tryz.f22 [.v ct,.v I6] [.v I6] Wh.Co:=by intro xs;kernel_rfl
theorem ok_q24:CO IZ:=con_ok (Ls:=[]) mixed (eA _ _) (fk_q23 _ (fk_q16 _ (fk_q56 _ (fk_q83 _ fe)))) Tryz.func22 (loopsL_nil (by kernel_rfl)) (boxesL_none (by kernel_rfl)) e_q24
theorem fk_q24:FK IZ:=fun _ _ h=>h.cons IZ (by kernel_rfl) Wh.q24_v ok_q24
def IF:iq:=⟨271,[.v .str],[.v .bool],Wh.EE,Wh.O9⟩
def C_q133:Cx:=⟨cx,[DU.entry],false,Gl⟩
def XD:LT:=[]
theorem e_q133:EV C_q133 XD Tryz.f271 [.v .str] [.v .bool] Wh.EE:=by intro xs;kernel_rfl
theorem Yx:CO IF:=con_ok (Ls:=[]) mixed (eA _ _) (Km _ fe) Tryz.func271 (loopsL_nil (by kernel_rfl)) (boxesL_none (by kernel_rfl)) e_q133
theorem Wk:FK IF:=fun _ _ h=>h.cons IF (by kernel_rfl) Wh.T6 Yx
def Ir:iq:=⟨182,[.v .str,.v .str],[.v .str,.v .bool],Wh.Et,Wh.OE⟩
def C_q111:Cx:=⟨cx,[Gh.entry,Ad.entry,IF.entry,DU.entry],false,Gl⟩
def Xr:LT:=[]
theorem e_q111:EV C_q111 Xr Tryz.f182 [.v .str,.v .str] [.v .str,.v .bool] Wh.Et:=by intro xs;kernel_rfl
theorem Ya:CO Ir:=con_ok (Ls:=[]) mixed (eA _ _) (Rm _ (AZ _ (Wk _ (Km _ fe)))) Tryz.func182 (loopsL_nil (by kernel_rfl)) (boxesL_none (by kernel_rfl)) e_q111
theorem V8:FK Ir:=fun _ _ h=>h.cons Ir (by kernel_rfl) Wh.TE Ya
def J5:iq:=⟨99,[.v .str,.v .str,.v I6],[.v .str],Wh.q91,Wh.q91'⟩
def C_q91:Cx:=⟨cx,[Ir.entry],false,Gl⟩
def lt_q91:LT:=[]
theorem e_q91:EV C_q91 lt_q91 Tryz.f99 [.v .str,.v .str,.v I6] [.v .str] Wh.q91:=by intro xs;kernel_rfl
theorem ok_q91:CO J5:=con_ok (Ls:=[]) mixed (eA _ _) (V8 _ fe) Tryz.func99 (loopsL_nil (by kernel_rfl)) (boxesL_none (by kernel_rfl)) e_q91
theorem fk_q91:FK J5:=fun _ _ h=>h.cons J5 (by kernel_rfl) Wh.q91_v ok_q91
def I7:iq:=⟨23,[.v ct,.v .str,.v I6],[.v (.pair .bool (.pair I6 (.pair .str (.pair (.pair I6 (.pair (.own an) .unit)) (.pair (.pair (.own e_) (.pair I6 .unit)) (.pair (.own fN) (.pair (.own fT) .unit)))))))],Wh.q28,Wh.q28'⟩
def C_q28:Cx:=⟨cx,[J5.entry,Gj.entry,JG.entry],false,Gl⟩
def lt_q28:LT:=[]
theorem e_q28:EV C_q28 lt_q28 Tryz.f23 [.v ct,.v .str,.v I6] [.v (.pair .bool (.pair I6 (.pair .str (.pair (.pair I6 (.pair (.own an) .unit)) (.pair (.pair (.own e_) (.pair I6 .unit)) (.pair (.own fN) (.pair (.own fT) .unit)))))))] Wh.q28:=by intro xs;kernel_rfl
theorem ok_q28:CO I7:=con_ok (Ls:=[]) mixed (eA _ _) (fk_q91 _ (Ro _ (fk_q67 _ fe))) Tryz.func23 (loopsL_nil (by kernel_rfl)) (boxesL_none (by kernel_rfl)) e_q28
theorem fk_q28:FK I7:=fun _ _ h=>h.cons I7 (by kernel_rfl) Wh.q28_v ok_q28
def J_:iq:=⟨191,[.v .str,.v .str],[.v .str,.v .bool],Wh.q99,Wh.q99'⟩
def C_q99:Cx:=⟨cx,[GB.entry,At.entry,GA.entry],false,Gl⟩
def lt_q99:LT:=[]
theorem e_q99:EV C_q99 lt_q99 Tryz.f191 [.v .str,.v .str] [.v .str,.v .bool] Wh.q99:=by intro xs;kernel_rfl
theorem ok_q99:CO J_:=con_ok (Ls:=[]) mixed (eA _ _) (RE _ (Bg _ (RD _ fe))) Tryz.func191 (loopsL_nil (by kernel_rfl)) (boxesL_none (by kernel_rfl)) e_q99
theorem fk_q99:FK J_:=fun _ _ h=>h.cons J_ (by kernel_rfl) Wh.q99_v ok_q99
def JN:iq:=⟨183,[.v .str,.v .str,.v I6],[.v .str],Wh.q74,Wh.q74'⟩
def C_q74:Cx:=⟨cx,[J_.entry],false,Gl⟩
def lt_q74:LT:=[]
theorem e_q74:EV C_q74 lt_q74 Tryz.f183 [.v .str,.v .str,.v I6] [.v .str] Wh.q74:=by intro xs;kernel_rfl
theorem ok_q74:CO JN:=con_ok (Ls:=[]) mixed (eA _ _) (fk_q99 _ fe) Tryz.func183 (loopsL_nil (by kernel_rfl)) (boxesL_none (by kernel_rfl)) e_q74
theorem fk_q74:FK JN:=fun _ _ h=>h.cons JN (by kernel_rfl) Wh.q74_v ok_q74
def IM:iq:=⟨100,[.v ct,.v .str,.v I6],[.d ct],Wh.q14,Wh.q14'⟩
def C_q14:Cx:=⟨cx,[JN.entry,Gu.entry],true,Gl⟩
def lt_q14:LT:=[]
theorem e_q14:EV C_q14 lt_q14 Tryz.f100 [.v ct,.v .str,.v I6] [.d ct] Wh.q14:=by intro xs;kernel_rfl
theorem ok_q14:CO IM:=con_ok (Ls:=[]) mixed (eA _ _) (fk_q74 _ (Rx _ B6)) Tryz.func100 (loopsL_nil (by kernel_rfl)) (boxesL_none (by kernel_rfl)) e_q14
theorem fk_q14:FK IM:=fun _ _ h=>h.cons IM (by kernel_rfl) Wh.q14_v ok_q14
def IW:iq:=⟨24,[.v ct,.v .str,.v I6],[.d ct],Wh.Cn,Wh.q21'⟩
def C_q21:Cx:=⟨cx,[IM.entry,Jn.entry],true,Gl⟩
def lt_q21:LT:=[]
theorem e_q21:EV C_q21 lt_q21 Tryz.f24 [.v ct,.v .str,.v I6] [.d ct] Wh.Cn:=by intro xs;kernel_rfl
theorem ok_q21:CO IW:=con_ok (Ls:=[]) mixed (eA _ _) (fk_q14 _ (fk_q47 _ B6)) Tryz.func24 (loopsL_nil (by kernel_rfl)) (boxesL_none (by kernel_rfl)) e_q21
theorem fk_q21:FK IW:=fun _ _ h=>h.cons IW (by kernel_rfl) Wh.q21_v ok_q21
def K_q5:iq:=⟨5,[.v ct,.v .str,.v I6],[.v .bool],Wh.q5,Wh.q5'⟩
def C_q5:Cx:=⟨cx,[IZ.entry,I5.entry,Ju.entry,IW.entry,I7.entry,JE.entry,JA.entry],false,Gl⟩
def lt_q5:LT:=[]
theorem e_q5:EV C_q5 lt_q5 Tryz.f5 [.v ct,.v .str,.v I6] [.v .bool] Wh.q5:=by intro xs;kernel_rfl
theorem ok_q5:CO K_q5:=con_ok (Ls:=[]) mixed (eA _ _) (fk_q24 _ (fk_q27 _ (fk_q55 _ (fk_q21 _ (fk_q28 _ (fk_q65 _ (fk_q61 _ fe))))))) Tryz.func5 (loopsL_nil (by kernel_rfl)) (boxesL_none (by kernel_rfl)) e_q5
end
end Go.Proofs.AL
