import Derived.Test.YtfeoanopdlpabaaGreatDoorX12
import Derived.Test.YtfeoanopdlpabaaGreatDoorProg
import Derived.KernelRfl
open Go Go.Ab
namespace Go.Proofs.AF
noncomputable section
def eB:List (Nat×TI):=[(2,⟨(.int .i64),0⟩),(3,⟨(.int .i64),0⟩),(4,⟨.bool,0⟩),(5,⟨(.int .u8),0⟩),(6,⟨(.int .u8),0⟩),(7,⟨QY,1⟩),(8,⟨QY,1⟩),(9,⟨.str,0⟩),(10,⟨.str,0⟩),(11,⟨.str,0⟩),(12,⟨(.int .u64),0⟩),(13,⟨QZ,0⟩),(14,⟨QZ,0⟩),(21,⟨(.int .i32),0⟩),(455,⟨(.int .i32),0⟩),(454,⟨(.int .i32),0⟩),(422,⟨(.ref (.int .u8)),0⟩),(452,⟨(.int .u8),0⟩),(451,⟨(.int .u8),0⟩),(345,⟨(.int .u32),0⟩),(118,⟨an,1⟩),(260,⟨an,1⟩),(22,⟨(.lst an),0⟩),(23,⟨bx,0⟩),(24,⟨bx,0⟩),(122,⟨ct,1⟩),(282,⟨ct,1⟩),(25,⟨(.lst ct),0⟩),(26,⟨gv,0⟩),(27,⟨gv,0⟩),(126,⟨en,1⟩),(204,⟨en,1⟩),(28,⟨(.lst en),0⟩),(134,⟨fN,1⟩),(206,⟨fN,1⟩),(29,⟨(.lst fN),0⟩),(30,⟨cx,0⟩),(31,⟨cx,0⟩),(119,⟨an,1⟩),(34,⟨(.lst an),0⟩),(35,⟨bx,0⟩),(36,⟨bx,0⟩),(123,⟨ct,1⟩),(37,⟨(.lst ct),0⟩),(38,⟨gv,0⟩),(39,⟨gv,0⟩),(127,⟨en,1⟩),(40,⟨(.lst en),0⟩),(135,⟨fN,1⟩),(41,⟨(.lst fN),0⟩),(42,⟨cx,0⟩),(43,⟨cx,0⟩),(56,⟨(.lst (.int .i64)),0⟩),(57,⟨yp,0⟩),(58,⟨yp,0⟩),(320,⟨Gh,0⟩),(340,⟨Gh,0⟩),(59,⟨(.lst Gh),0⟩),(60,⟨Fl,0⟩),(61,⟨Fl,0⟩),(62,⟨Fk,0⟩),(63,⟨Fk,0⟩),(64,⟨CW,0⟩),(65,⟨CW,0⟩),(66,⟨HJ,1⟩),(67,⟨HJ,1⟩),(70,⟨yp,0⟩),(321,⟨Gh,0⟩),(71,⟨(.lst Gh),0⟩),(72,⟨Fl,0⟩),(73,⟨Fl,0⟩),(74,⟨Fk,0⟩),(75,⟨Fk,0⟩),(76,⟨CW,0⟩),(77,⟨CW,0⟩),(82,⟨HJ,1⟩),(78,⟨(.lst HJ),0⟩),(89,⟨(.lst CW),0⟩),(174,⟨Gi,1⟩),(258,⟨Gi,1⟩),(90,⟨(.lst Gi),0⟩),(91,⟨HK,0⟩),(92,⟨HK,0⟩),(95,⟨(.lst CW),0⟩),(175,⟨Gi,1⟩),(96,⟨(.lst Gi),0⟩),(97,⟨HK,0⟩),(98,⟨HK,0⟩),(111,⟨(.lst .str),0⟩),(192,⟨LX,1⟩),(193,⟨LX,1⟩),(189,⟨(.lst LX),0⟩),(256,⟨(.lst (.int .u8)),0⟩),(314,⟨(.ref cx),0⟩),(331,⟨(.int .u64),0⟩),(332,⟨(.ref ct),0⟩),(357,⟨(.int .i64),0⟩),(366,⟨(.int .u64),0⟩),(369,⟨(.int .i64),0⟩),(375,⟨(.arr 24 (.int .u8)),0⟩),(379,⟨(.arr 8 (.int .u32)),0⟩),(380,⟨(.arr 64 (.int .u32)),0⟩),(399,⟨(.int .u64),0⟩),(403,⟨(.ref (.int .i64)),0⟩),(405,⟨(.lst (.int .u32)),0⟩),(416,⟨(.arr 20 (.int .u64)),0⟩),(417,⟨(.arr 65 (.int .u8)),0⟩),(425,⟨(.ref (.int .u64)),0⟩),(432,⟨xV,1⟩),(433,⟨xV,1⟩),(431,⟨(.ref xV),0⟩),(440,⟨(.arr 32 (.int .u8)),0⟩),(441,⟨(.arr 64 (.int .u8)),0⟩),(442,⟨(.arr 256 (.int .u8)),0⟩),(443,⟨Q0,1⟩),(444,⟨Q0,1⟩)]
theorem tab_ok:cn (fun x=>(cK Tryz.prog x.2.t).1 x.1&&(!(Nat.beq x.2.e 1) || eqB Tryz.prog x.1)) eB=true:=by kernel_rfl
theorem fe (fns:List (Nat×List Ab.Mode×(List Arg→Option Res))) (dp:Bool):bH Tryz.prog ⟨eB,fns,dp,Gl⟩:=cxOk_of tab_ok
theorem mixed:Tryz.prog.follows .mixedOrders=true:=by kernel_rfl
abbrev FT:Type:=List (Nat×List Ab.Mode×(List Arg→Option Res))
abbrev FK (c:iq):Prop:=∀(fns:FT) {dp:Bool},dD Tryz.prog Gb ⟨eB,fns,dp,Gl⟩→dD Tryz.prog Gb ⟨eB,c.entry::fns,dp,Gl⟩
abbrev EV (C:Cx) (lt:List (Nat×b8)) (f:Func) (ps:List PT) (ws:List Want) (g:gE ps→Option (jr ws×ij ps)):Prop:=∀xs,evT C lt f ps ws xs=g xs
abbrev CO (c:iq):Prop:=ConOk Tryz.prog Gb c
abbrev LT:Type:=List (Nat×b8)
abbrev z0:Nat:=500000000
abbrev z1:Nat:=500000001
abbrev z2:Nat:=500000002
abbrev z3:Nat:=500000003
abbrev I6:Ty:=.int .i64
abbrev I8:Ty:=.int .u8
abbrev I3:Ty:=.int .u32
theorem gd:dD Tryz.prog Gb ⟨eB,[],false,Gl⟩:=dD.nil eB false gl_ok
theorem Cf:dD Tryz.prog Gb ⟨eB,[],true,Gl⟩:=dD.nil eB true gl_ok
def Iu:iq:=⟨229,[.v an,.v I6],[.v I6],Wh.ED,Wh.OP⟩
def C_q109:Cx:=⟨eB,[],false,Gl⟩
def XM:LT:=[]
theorem e_q109:EV C_q109 XM Tryz.f229 [.v an,.v I6] [.v I6] Wh.ED:=by intro xs;kernel_rfl
theorem Yy:CO Iu:=con_ok (Ls:=[]) mixed (fe _ _) gd Tryz.func229 (loopsL_nil (by kernel_rfl)) (boxesL_none (by kernel_rfl)) e_q109
theorem Wq:FK Iu:=fun _ _ h=>h.cons Iu (by kernel_rfl) Wh.OQ Yy
def Kb:iq:=⟨125,[.v (.lst an),.v I6],[.v I6],Wh.q88,Wh.q88'⟩
def C_q88:Cx:=⟨eB,[Iu.entry],false,Gl⟩
def ML:b8:=kS ⟨[(5,.leaf I6),(1,.leaf I6),(0,.leaf (.lst an))],[]⟩ [(.ret,⟨[(4,.leaf I6)],[]⟩),((.exit 0),⟨[(1,.leaf I6)],[]⟩)] Wh.QJ Wh.DT
def Tq:LT:=[(5,ML)]
theorem aa5:∀x,round C_q88 Tq (jo Tryz.f125 0) ML x=Wh.DT x:=by intro x;kernel_rfl
theorem e_q88:EV C_q88 Tq Tryz.f125 [.v (.lst an),.v I6] [.v I6] Wh.q88:=by intro xs;kernel_rfl
theorem ok_q88:CO Kb:=con_ok (Ls:=[ML]) mixed (fe _ _) (Wq _ gd) Tryz.func125 (loopsL_cons (by kernel_rfl) (loopD_ok aa5) (loopsL_nil (by kernel_rfl))) (boxesL_none (by kernel_rfl)) e_q88
theorem fk_q88:FK Kb:=fun _ _ h=>h.cons Kb (by kernel_rfl) Wh.q88_v ok_q88
def IP:iq:=⟨54,[.v bx,.v I6],[.v I6],Wh.ER,Wh.Pr⟩
def C_q133:Cx:=⟨eB,[Kb.entry],false,Gl⟩
def X2:LT:=[]
theorem e_q133:EV C_q133 X2 Tryz.f54 [.v bx,.v I6] [.v I6] Wh.ER:=by intro xs;kernel_rfl
theorem YW:CO IP:=con_ok (Ls:=[]) mixed (fe _ _) (fk_q88 _ gd) Tryz.func54 (loopsL_nil (by kernel_rfl)) (boxesL_none (by kernel_rfl)) e_q133
theorem WJ:FK IP:=fun _ _ h=>h.cons IP (by kernel_rfl) Wh.Up YW
def JL:iq:=⟨149,[.v (.lst ct),.v I6],[.v I6],Wh.q62,Wh.q62'⟩
def C_q62:Cx:=⟨eB,[],false,Gl⟩
def lt_q62:LT:=[]
theorem e_q62:EV C_q62 lt_q62 Tryz.f149 [.v (.lst ct),.v I6] [.v I6] Wh.q62:=by intro xs;kernel_rfl
theorem ok_q62:CO JL:=con_ok (Ls:=[]) mixed (fe _ _) gd Tryz.func149 (loopsL_nil (by kernel_rfl)) (boxesL_none (by kernel_rfl)) e_q62
theorem fk_q62:FK JL:=fun _ _ h=>h.cons JL (by kernel_rfl) Wh.q62_v ok_q62
def Iw:iq:=⟨55,[.v gv,.v I6],[.v I6],Wh.EE,Wh.OS⟩
def C_q110:Cx:=⟨eB,[JL.entry],false,Gl⟩
def XN:LT:=[]
theorem e_q110:EV C_q110 XN Tryz.f55 [.v gv,.v I6] [.v I6] Wh.EE:=by intro xs;kernel_rfl
theorem Yz:CO Iw:=con_ok (Ls:=[]) mixed (fe _ _) (fk_q62 _ gd) Tryz.func55 (loopsL_nil (by kernel_rfl)) (boxesL_none (by kernel_rfl)) e_q110
theorem Wr:FK Iw:=fun _ _ h=>h.cons Iw (by kernel_rfl) Wh.T3 Yz
def Jt:iq:=⟨56,[.v (.lst en),.v I6],[.v I6],Wh.q41,Wh.q41'⟩
def C_q41:Cx:=⟨eB,[],false,Gl⟩
def lt_q41:LT:=[]
theorem e_q41:EV C_q41 lt_q41 Tryz.f56 [.v (.lst en),.v I6] [.v I6] Wh.q41:=by intro xs;kernel_rfl
theorem ok_q41:CO Jt:=con_ok (Ls:=[]) mixed (fe _ _) gd Tryz.func56 (loopsL_nil (by kernel_rfl)) (boxesL_none (by kernel_rfl)) e_q41
theorem fk_q41:FK Jt:=fun _ _ h=>h.cons Jt (by kernel_rfl) Wh.q41_v ok_q41
def JM:iq:=⟨57,[.v (.lst fN),.v I6],[.v I6],Wh.q63,Wh.q63'⟩
def C_q63:Cx:=⟨eB,[],false,Gl⟩
def lt_q63:LT:=[]
theorem e_q63:EV C_q63 lt_q63 Tryz.f57 [.v (.lst fN),.v I6] [.v I6] Wh.q63:=by intro xs;kernel_rfl
theorem ok_q63:CO JM:=con_ok (Ls:=[]) mixed (fe _ _) gd Tryz.func57 (loopsL_nil (by kernel_rfl)) (boxesL_none (by kernel_rfl)) e_q63
theorem fk_q63:FK JM:=fun _ _ h=>h.cons JM (by kernel_rfl) Wh.q63_v ok_q63
def JN:iq:=⟨14,[.v cx,.v I6],[.v I6],Wh.q64,Wh.q64'⟩
def C_q64:Cx:=⟨eB,[JM.entry,Jt.entry,Iw.entry,IP.entry],false,Gl⟩
def lt_q64:LT:=[]
theorem e_q64:EV C_q64 lt_q64 Tryz.f14 [.v cx,.v I6] [.v I6] Wh.q64:=by intro xs;kernel_rfl
theorem ok_q64:CO JN:=con_ok (Ls:=[]) mixed (fe _ _) (fk_q63 _ (fk_q41 _ (Wr _ (WJ _ gd)))) Tryz.func14 (loopsL_nil (by kernel_rfl)) (boxesL_none (by kernel_rfl)) e_q64
theorem fk_q64:FK JN:=fun _ _ h=>h.cons JN (by kernel_rfl) Wh.q64_v ok_q64
def Ix:iq:=⟨232,[.v an],[.v an],Wh.F3,Wh.OT⟩
def C_q111:Cx:=⟨eB,[],false,Gl⟩
def XO:LT:=[]
theorem e_q111:EV C_q111 XO Tryz.f232 [.v an] [.v an] Wh.F3:=by intro xs;kernel_rfl
theorem YA:CO Ix:=con_ok (Ls:=[]) mixed (fe _ _) gd Tryz.func232 (loopsL_nil (by kernel_rfl)) (boxesL_none (by kernel_rfl)) e_q111
theorem Wt:FK Ix:=fun _ _ h=>h.cons Ix (by kernel_rfl) Wh.T4 YA
def Ke:iq:=⟨129,[.v (.lst an)],[.v (.own an)],Wh.q90,Wh.q90'⟩
def C_q90:Cx:=⟨eB,[Ix.entry],false,Gl⟩
def MO:b8:=kS ⟨[(4,.leaf I6),(0,.leaf (.lst an)),(3,.whole z0 an)],[(z0,false,.rows an)]⟩ [((.exit 0),⟨[(3,.whole z0 an)],[(z0,false,.rows an)]⟩)] Wh.Vl Wh.DU
def Tr:LT:=[(3,MO)]
theorem aa8:∀x,round C_q90 Tr (jo Tryz.f129 0) MO x=Wh.DU x:=by intro x;kernel_rfl
theorem e_q90:EV C_q90 Tr Tryz.f129 [.v (.lst an)] [.v (.own an)] Wh.q90:=by intro xs;kernel_rfl
theorem ok_q90:CO Ke:=con_ok (Ls:=[MO]) mixed (fe _ _) (Wt _ gd) Tryz.func129 (loopsL_cons (by kernel_rfl) (loopD_ok aa8) (loopsL_nil (by kernel_rfl))) (boxesL_none (by kernel_rfl)) e_q90
theorem fk_q90:FK Ke:=fun _ _ h=>h.cons Ke (by kernel_rfl) Wh.q90_v ok_q90
def IQ:iq:=⟨69,[.v bx],[.v (.pair I6 (.pair (.own an) .unit))],Wh.ES,Wh.Pt⟩
def C_q134:Cx:=⟨eB,[Ke.entry],false,Gl⟩
def X3:LT:=[]
theorem e_q134:EV C_q134 X3 Tryz.f69 [.v bx] [.v (.pair I6 (.pair (.own an) .unit))] Wh.ES:=by intro xs;kernel_rfl
theorem YX:CO IQ:=con_ok (Ls:=[]) mixed (fe _ _) (fk_q90 _ gd) Tryz.func69 (loopsL_nil (by kernel_rfl)) (boxesL_none (by kernel_rfl)) e_q134
theorem WK:FK IQ:=fun _ _ h=>h.cons IQ (by kernel_rfl) Wh.Uq YX
def Kc:iq:=⟨259,[.v ct],[.v ct],Wh.q89,Wh.q89'⟩
def C_q89:Cx:=⟨eB,[],false,Gl⟩
def lt_q89:LT:=[]
theorem e_q89:EV C_q89 lt_q89 Tryz.f259 [.v ct] [.v ct] Wh.q89:=by intro xs;kernel_rfl
theorem ok_q89:CO Kc:=con_ok (Ls:=[]) mixed (fe _ _) gd Tryz.func259 (loopsL_nil (by kernel_rfl)) (boxesL_none (by kernel_rfl)) e_q89
theorem fk_q89:FK Kc:=fun _ _ h=>h.cons Kc (by kernel_rfl) Wh.q89_v ok_q89
def JP:iq:=⟨153,[.v (.lst ct)],[.v (.own ct)],Wh.q66,Wh.q66'⟩
def C_q66:Cx:=⟨eB,[Kc.entry],false,Gl⟩
def MN:b8:=kS ⟨[(4,.leaf I6),(0,.leaf (.lst ct)),(3,.whole z0 ct)],[(z0,false,.rows ct)]⟩ [((.exit 0),⟨[(3,.whole z0 ct)],[(z0,false,.rows ct)]⟩)] Wh.Vb Wh.DP
def Tk:LT:=[(3,MN)]
theorem aa7:∀x,round C_q66 Tk (jo Tryz.f153 0) MN x=Wh.DP x:=by intro x;kernel_rfl
theorem e_q66:EV C_q66 Tk Tryz.f153 [.v (.lst ct)] [.v (.own ct)] Wh.q66:=by intro xs;kernel_rfl
theorem ok_q66:CO JP:=con_ok (Ls:=[MN]) mixed (fe _ _) (fk_q89 _ gd) Tryz.func153 (loopsL_cons (by kernel_rfl) (loopD_ok aa7) (loopsL_nil (by kernel_rfl))) (boxesL_none (by kernel_rfl)) e_q66
theorem fk_q66:FK JP:=fun _ _ h=>h.cons JP (by kernel_rfl) Wh.q66_v ok_q66
def Iy:iq:=⟨70,[.v gv],[.v (.pair (.own ct) (.pair I6 .unit))],Wh.EG,Wh.OU⟩
def C_q112:Cx:=⟨eB,[JP.entry],false,Gl⟩
def XP:LT:=[]
theorem e_q112:EV C_q112 XP Tryz.f70 [.v gv] [.v (.pair (.own ct) (.pair I6 .unit))] Wh.EG:=by intro xs;kernel_rfl
theorem YB:CO Iy:=con_ok (Ls:=[]) mixed (fe _ _) (fk_q66 _ gd) Tryz.func70 (loopsL_nil (by kernel_rfl)) (boxesL_none (by kernel_rfl)) e_q112
theorem Wu:FK Iy:=fun _ _ h=>h.cons Iy (by kernel_rfl) Wh.T5 YB
def JO:iq:=⟨154,[.v en],[.v en],Wh.q65,Wh.q65'⟩
def C_q65:Cx:=⟨eB,[],false,Gl⟩
def lt_q65:LT:=[]
theorem e_q65:EV C_q65 lt_q65 Tryz.f154 [.v en] [.v en] Wh.q65:=by intro xs;kernel_rfl
theorem ok_q65:CO JO:=con_ok (Ls:=[]) mixed (fe _ _) gd Tryz.func154 (loopsL_nil (by kernel_rfl)) (boxesL_none (by kernel_rfl)) e_q65
theorem fk_q65:FK JO:=fun _ _ h=>h.cons JO (by kernel_rfl) Wh.q65_v ok_q65
def Ju:iq:=⟨71,[.v (.lst en)],[.v (.own en)],Wh.q42,Wh.q42'⟩
def C_q42:Cx:=⟨eB,[JO.entry],false,Gl⟩
def MM:b8:=kS ⟨[(4,.leaf I6),(0,.leaf (.lst en)),(3,.whole z0 en)],[(z0,false,.rows en)]⟩ [((.exit 0),⟨[(3,.whole z0 en)],[(z0,false,.rows en)]⟩)] Wh.UW Wh.DI
def Td:LT:=[(3,MM)]
theorem aa6:∀x,round C_q42 Td (jo Tryz.f71 0) MM x=Wh.DI x:=by intro x;kernel_rfl
theorem e_q42:EV C_q42 Td Tryz.f71 [.v (.lst en)] [.v (.own en)] Wh.q42:=by intro xs;kernel_rfl
theorem ok_q42:CO Ju:=con_ok (Ls:=[MM]) mixed (fe _ _) (fk_q65 _ gd) Tryz.func71 (loopsL_cons (by kernel_rfl) (loopD_ok aa6) (loopsL_nil (by kernel_rfl))) (boxesL_none (by kernel_rfl)) e_q42
theorem fk_q42:FK Ju:=fun _ _ h=>h.cons Ju (by kernel_rfl) Wh.q42_v ok_q42
def Kf:iq:=⟨155,[.v fN],[.v fN],Wh.q91,Wh.q91'⟩
def C_q91:Cx:=⟨eB,[],false,Gl⟩
def lt_q91:LT:=[]
theorem e_q91:EV C_q91 lt_q91 Tryz.f155 [.v fN] [.v fN] Wh.q91:=by intro xs;kernel_rfl
theorem ok_q91:CO Kf:=con_ok (Ls:=[]) mixed (fe _ _) gd Tryz.func155 (loopsL_nil (by kernel_rfl)) (boxesL_none (by kernel_rfl)) e_q91
theorem fk_q91:FK Kf:=fun _ _ h=>h.cons Kf (by kernel_rfl) Wh.q91_v ok_q91
def JQ:iq:=⟨72,[.v (.lst fN)],[.v (.own fN)],Wh.q67,Wh.q67'⟩
def C_q67:Cx:=⟨eB,[Kf.entry],false,Gl⟩
def MP:b8:=kS ⟨[(4,.leaf I6),(0,.leaf (.lst fN)),(3,.whole z0 fN)],[(z0,false,.rows fN)]⟩ [((.exit 0),⟨[(3,.whole z0 fN)],[(z0,false,.rows fN)]⟩)] Wh.Vc Wh.DQ
def Tl:LT:=[(3,MP)]
theorem aa9:∀x,round C_q67 Tl (jo Tryz.f72 0) MP x=Wh.DQ x:=by intro x;kernel_rfl
theorem e_q67:EV C_q67 Tl Tryz.f72 [.v (.lst fN)] [.v (.own fN)] Wh.q67:=by intro xs;kernel_rfl
theorem ok_q67:CO JQ:=con_ok (Ls:=[MP]) mixed (fe _ _) (fk_q91 _ gd) Tryz.func72 (loopsL_cons (by kernel_rfl) (loopD_ok aa9) (loopsL_nil (by kernel_rfl))) (boxesL_none (by kernel_rfl)) e_q67
theorem fk_q67:FK JQ:=fun _ _ h=>h.cons JQ (by kernel_rfl) Wh.q67_v ok_q67
def JR:iq:=⟨16,[.v cx],[.v (.pair .bool (.pair I6 (.pair .str (.pair (.pair I6 (.pair (.own an) .unit)) (.pair (.pair (.own ct) (.pair I6 .unit)) (.pair (.own en) (.pair (.own fN) .unit)))))))],Wh.BM,Wh.q68'⟩
def C_q68:Cx:=⟨eB,[JQ.entry,Ju.entry,Iy.entry,IQ.entry],false,Gl⟩
def lt_q68:LT:=[]
theorem e_q68:EV C_q68 lt_q68 Tryz.f16 [.v cx] [.v (.pair .bool (.pair I6 (.pair .str (.pair (.pair I6 (.pair (.own an) .unit)) (.pair (.pair (.own ct) (.pair I6 .unit)) (.pair (.own en) (.pair (.own fN) .unit)))))))] Wh.BM:=by intro xs;kernel_rfl
theorem ok_q68:CO JR:=con_ok (Ls:=[]) mixed (fe _ _) (fk_q67 _ (fk_q42 _ (Wu _ (WK _ gd)))) Tryz.func16 (loopsL_nil (by kernel_rfl)) (boxesL_none (by kernel_rfl)) e_q68
theorem fk_q68:FK JR:=fun _ _ h=>h.cons JR (by kernel_rfl) Wh.q68_v ok_q68
def Am:iq:=⟨58,[.v I6,.v I6,.v I6],[.v .bool],Wh.xS,Wh.ym⟩
def C_q145:Cx:=⟨eB,[],false,Gl⟩
def X6:LT:=[]
theorem e_q145:EV C_q145 X6 Tryz.f58 [.v I6,.v I6,.v I6] [.v .bool] Wh.xS:=by intro xs;kernel_rfl
theorem Y8:CO Am:=con_ok (Ls:=[]) mixed (fe _ _) gd Tryz.func58 (loopsL_nil (by kernel_rfl)) (boxesL_none (by kernel_rfl)) e_q145
theorem Bj:FK Am:=fun _ _ h=>h.cons Am (by kernel_rfl) Wh.za Y8
def Gy:iq:=⟨178,[.v .str,.v I6,.v I8],[.v I6],Wh.yU,Wh.Hf⟩
def Ra:Cx:=⟨eB,[],false,Gl⟩
def Nq:b8:=kS ⟨[(7,.leaf I6),(2,.leaf I8),(0,.leaf .str)],[]⟩ [(.ret,⟨[(6,.leaf I6)],[]⟩),((.exit 0),⟨[],[]⟩)] Wh.Ue Wh.BF
def SN:LT:=[(2,Nq)]
theorem abH:∀x,round Ra SN (jo Tryz.f178 0) Nq x=Wh.BF x:=by intro x;kernel_rfl
theorem e_q119:EV Ra SN Tryz.f178 [.v .str,.v I6,.v I8] [.v I6] Wh.yU:=by intro xs;kernel_rfl
theorem YI:CO Gy:=con_ok (Ls:=[Nq]) mixed (fe _ _) gd Tryz.func178 (loopsL_cons (by kernel_rfl) (loopD_ok abH) (loopsL_nil (by kernel_rfl))) (boxesL_none (by kernel_rfl)) e_q119
theorem RJ:FK Gy:=fun _ _ h=>h.cons Gy (by kernel_rfl) Wh.BG YI
def GF:iq:=⟨180,[.v .str],[.v I6],Wh.Ax,Wh.Ho⟩
def Rk:Cx:=⟨eB,[Am.entry],false,Gl⟩
def Np:b8:=kS ⟨[(4,.leaf I6),(0,.leaf .str),(3,.leaf I6)],[]⟩ [(.ret,⟨[(2,.leaf I6)],[]⟩),((.exit 0),⟨[(3,.leaf I6)],[]⟩)] Wh.UC Wh.Dx
def SZ:LT:=[(5,Np)]
theorem abG:∀x,round Rk SZ (jo Tryz.f180 0) Np x=Wh.Dx x:=by intro x;kernel_rfl
theorem e_q143:EV Rk SZ Tryz.f180 [.v .str] [.v I6] Wh.Ax:=by intro xs;kernel_rfl
theorem Y6:CO GF:=con_ok (Ls:=[Np]) mixed (fe _ _) (Bj _ gd) Tryz.func180 (loopsL_cons (by kernel_rfl) (loopD_ok abG) (loopsL_nil (by kernel_rfl))) (boxesL_none (by kernel_rfl)) e_q143
theorem RQ:FK GF:=fun _ _ h=>h.cons GF (by kernel_rfl) Wh.EY Y6
def GD:iq:=⟨189,[.v I6],[.v .str],Wh.BH,Wh.A9⟩
def Gs (g:((Int))→Option (((List UInt8))×(Unit))) (g':((Int))→((List UInt8))×(Unit)):iq:=⟨189,[.v I6],[.v .str],g,g'⟩
def C_q139 (g:((Int))→Option (((List UInt8))×(Unit))) (g':((Int))→((List UInt8))×(Unit)):Cx:=⟨eB,[(Gs g g').entry],false,Gl⟩
def X5:LT:=[]
theorem e_q139 (g:((Int))→Option (((List UInt8))×(Unit))) (g':((Int))→((List UInt8))×(Unit)):∀xs,evT (C_q139 g g') X5 Tryz.f189 [.v I6] [.v .str] xs=Wh.q31 g g' xs:=by intro xs;kernel_rfl
theorem s_q139 (g:((Int))→Option (((List UInt8))×(Unit))) (g':((Int))→((List UInt8))×(Unit)) (hv:∀x y,g x=some y→g' x=y) (h:CO (Gs g g')):CO (Gs (Wh.q31 g g') (fun x=>match Wh.q31 g g' x with | some y=>y|none=>default)):=con_ok (Ls:=[]) mixed (fe _ _) (dD.cons gd (Gs g g') (by kernel_rfl) hv h) Tryz.func189 (loopsL_nil (by kernel_rfl)) (boxesL_none (by kernel_rfl)) (e_q139 g g')
theorem n_q139 (n:Nat):CO (Gs (Wh.AA n) (fun x=>match Wh.AA n x with | some y=>y|none=>default)):=by
 induction n with
 |zero=>intro xs y h;exact absurd (show none=some y from h) (by simp)
 |succ n ih=>
  rw[Wh.PB n]
  exact s_q139 _ _ (fun x y h=>by simp only[h]) ih
theorem Y2:CO GD:=n_q139 20
theorem RP:FK GD:=fun _ _ h=>h.cons GD (by kernel_rfl) Wh.Lw Y2
def JX:iq:=⟨423,[.v .str],[.v (.own I8)],Wh.q73,Wh.q73'⟩
def Ma:Cx:=⟨eB,[],false,Gl⟩
def Ng:b8:=kS ⟨[(3,.whole z0 I8),(0,.leaf .str)],[(z0,false,.rows I8)]⟩ [((.exit 0),⟨[(3,.whole z0 I8),(0,.leaf .str)],[(z0,false,.rows I8)]⟩)] Wh.Vf Wh.DR
def Nh:b8:=kS ⟨[(5,.leaf I6),(4,.leaf I6),(3,.whole z0 I8)],[(z0,false,.rows I8)]⟩ [((.exit 2),⟨[(3,.whole z0 I8)],[(z0,false,.rows I8)]⟩)] Wh.Vg Wh.E8
def Oj:LT:=[(2,Ng),(6,Nh)]
theorem aby:∀x,round Ma Oj (jo Tryz.f423 0) Ng x=Wh.DR x:=by intro x;kernel_rfl
theorem abz:∀x,round Ma Oj (jo Tryz.f423 1) Nh x=Wh.E8 x:=by intro x;kernel_rfl
theorem e_q73:EV Ma Oj Tryz.f423 [.v .str] [.v (.own I8)] Wh.q73:=by intro xs;kernel_rfl
theorem ok_q73:CO JX:=con_ok (Ls:=[Ng,Nh]) mixed (fe _ _) gd Tryz.func423 (loopsL_cons (by kernel_rfl) (loopD_ok aby) (loopsL_cons (by kernel_rfl) (loopD_ok abz) (loopsL_nil (by kernel_rfl)))) (boxesL_none (by kernel_rfl)) e_q73
theorem fk_q73:FK JX:=fun _ _ h=>h.cons JX (by kernel_rfl) Wh.q73_v ok_q73
def Gx:iq:=⟨449,[.v I3,.v I6],[.v I3],Wh.x6,Wh.y_⟩
def C_q117:Cx:=⟨eB,[],false,Gl⟩
def XS:LT:=[]
theorem e_q117:EV C_q117 XS Tryz.f449 [.v I3,.v I6] [.v I3] Wh.x6:=by intro xs;kernel_rfl
theorem YG:CO Gx:=con_ok (Ls:=[]) mixed (fe _ _) gd Tryz.func449 (loopsL_nil (by kernel_rfl)) (boxesL_none (by kernel_rfl)) e_q117
theorem RI:FK Gx:=fun _ _ h=>h.cons Gx (by kernel_rfl) Wh.q117_v YG
def Io:iq:=⟨447,[.v (.lst I8)],[.v (.own I3)],Wh.Ey,Wh.OD⟩
def L6:Cx:=⟨eB,[Gx.entry],false,Gl⟩
def Nk:b8:=kS ⟨[(4,.leaf I6),(0,.leaf (.lst I8)),(3,.whole z0 I3)],[(z0,false,.rows I3)]⟩ [((.exit 0),⟨[(3,.whole z0 I3)],[(z0,false,.rows I3)]⟩)] Wh.TR Wh.Ez
def Nl:b8:=kS ⟨[(5,.leaf I6),(3,.whole z0 I3)],[(z0,false,.rows I3)]⟩ [((.exit 2),⟨[(3,.whole z0 I3)],[(z0,false,.rows I3)]⟩)] Wh.TS Wh.EA
def Oe:LT:=[(3,Nk),(7,Nl)]
theorem abC:∀x,round L6 Oe (jo Tryz.f447 0) Nk x=Wh.Ez x:=by intro x;kernel_rfl
theorem abD:∀x,round L6 Oe (jo Tryz.f447 1) Nl x=Wh.EA x:=by intro x;kernel_rfl
theorem e_q100:EV L6 Oe Tryz.f447 [.v (.lst I8)] [.v (.own I3)] Wh.Ey:=by intro xs;kernel_rfl
theorem Yo:CO Io:=con_ok (Ls:=[Nk,Nl]) mixed (fe _ _) (RI _ gd) Tryz.func447 (loopsL_cons (by kernel_rfl) (loopD_ok abC) (loopsL_cons (by kernel_rfl) (loopD_ok abD) (loopsL_nil (by kernel_rfl)))) (boxesL_none (by kernel_rfl)) e_q100
theorem Wl:FK Io:=fun _ _ h=>h.cons Io (by kernel_rfl) Wh.TT Yo
def JW:iq:=⟨448,[],[.v (.own I3)],Wh.q72,Wh.q72'⟩
def C_q72:Cx:=⟨eB,[],false,Gl⟩
def lt_q72:LT:=[]
theorem e_q72:EV C_q72 lt_q72 Tryz.f448 [] [.v (.own I3)] Wh.q72:=by intro xs;kernel_rfl
theorem ok_q72:CO JW:=con_ok (Ls:=[]) mixed (fe _ _) gd Tryz.func448 (loopsL_nil (by kernel_rfl)) (boxesL_none (by kernel_rfl)) e_q72
theorem fk_q72:FK JW:=fun _ _ h=>h.cons JW (by kernel_rfl) Wh.q72_v ok_q72
def Km:iq:=⟨424,[.v (.lst I3),.v (.lst I8)],[.v (.own I3)],Wh.q98,Wh.q98'⟩
def Ii:Cx:=⟨eB,[Gx.entry,JW.entry,Io.entry],false,Gl⟩
def Nb:b8:=kS ⟨[(7,.whole z0 I3),(8,.leaf I6),(5,.whole z1 I3),(6,.whole z2 I3),(0,.leaf (.lst I3))],[(z0,false,.rows I3),(z1,false,.rows I3),(z2,false,.rows I3)]⟩ [((.exit 0),⟨[(7,.whole z0 I3),(0,.leaf (.lst I3))],[(z0,false,.rows I3)]⟩)] Wh.Vn Wh.Fa
def Nc:b8:=kS ⟨[(14,.leaf I6),(7,.whole z0 I3),(5,.whole z1 I3),(6,.whole z2 I3),(0,.leaf (.lst I3)),(8,.leaf I6),(13,.leaf I3),(12,.leaf I3),(11,.leaf I3)],[(z0,false,.rows I3),(z1,false,.rows I3),(z2,false,.rows I3)]⟩ [((.exit 2),⟨[(7,.whole z0 I3),(5,.whole z1 I3),(6,.whole z2 I3),(0,.leaf (.lst I3)),(8,.leaf I6),(13,.leaf I3),(12,.leaf I3),(11,.leaf I3)],[(z0,false,.rows I3),(z1,false,.rows I3),(z2,false,.rows I3)]⟩)] Wh.QO Wh.Hv
def Nd:b8:=kS ⟨[(16,.leaf I6),(7,.whole z0 I3),(0,.leaf (.lst I3)),(15,.whole z1 I3)],[(z0,false,.rows I3),(z1,false,.rows I3)]⟩ [((.exit 4),⟨[(15,.whole z0 I3)],[(z0,false,.rows I3)]⟩)] Wh.Vo Wh.Hw
def K3:LT:=[(5,Nb),(13,Nc),(20,Nd)]
theorem abu:∀x,round Ii K3 (jo Tryz.f424 0) Nb x=Wh.Fa x:=by intro x;kernel_rfl
theorem abv:∀x,round Ii K3 (jo Tryz.f424 1) Nc x=Wh.Hv x:=by intro x;kernel_rfl
theorem abw:∀x,round Ii K3 (jo Tryz.f424 2) Nd x=Wh.Hw x:=by intro x;kernel_rfl
theorem e_q98:EV Ii K3 Tryz.f424 [.v (.lst I3),.v (.lst I8)] [.v (.own I3)] Wh.q98:=by intro xs;kernel_rfl
theorem ok_q98:CO Km:=con_ok (Ls:=[Nb,Nc,Nd]) mixed (fe _ _) (RI _ (fk_q72 _ (Wl _ gd))) Tryz.func424 (loopsL_cons (by kernel_rfl) (loopD_ok abu) (loopsL_cons (by kernel_rfl) (loopD_ok abv) (loopsL_cons (by kernel_rfl) (loopD_ok abw) (loopsL_nil (by kernel_rfl))))) (boxesL_none (by kernel_rfl)) e_q98
theorem fk_q98:FK Km:=fun _ _ h=>h.cons Km (by kernel_rfl) Wh.q98_v ok_q98
def IW:iq:=⟨375,[.v .str],[.v .str],Wh.EX,Wh.PE⟩
def L8:Cx:=⟨eB,[Km.entry,JX.entry],false,Gl⟩
def Ni:b8:=kS ⟨[(5,.leaf I6),(4,.whole z0 I8),(3,.whole z1 I3)],[(z0,false,.rows I8),(z1,false,.rows I3)]⟩ [((.exit 0),⟨[(3,.whole z0 I3)],[(z0,false,.rows I3)]⟩)] Wh.Ux Wh.Dv
def Nj:b8:=kS ⟨[(7,.leaf I6),(3,.whole z0 I3),(6,.whole z1 I8)],[(z0,false,.rows I3),(z1,false,.rows I8)]⟩ [((.exit 2),⟨[(6,.whole z0 I8)],[(z0,false,.rows I8)]⟩)] Wh.Uy Wh.Hj
def Og:LT:=[(4,Ni),(9,Nj)]
theorem abA:∀x,round L8 Og (jo Tryz.f375 0) Ni x=Wh.Dv x:=by intro x;kernel_rfl
theorem abB:∀x,round L8 Og (jo Tryz.f375 1) Nj x=Wh.Hj x:=by intro x;kernel_rfl
theorem e_q141:EV L8 Og Tryz.f375 [.v .str] [.v .str] Wh.EX:=by intro xs;kernel_rfl
theorem Y4:CO IW:=con_ok (Ls:=[Ni,Nj]) mixed (fe _ _) (fk_q98 _ (fk_q73 _ gd)) Tryz.func375 (loopsL_cons (by kernel_rfl) (loopD_ok abA) (loopsL_cons (by kernel_rfl) (loopD_ok abB) (loopsL_nil (by kernel_rfl)))) (boxesL_none (by kernel_rfl)) e_q141
theorem WO:FK IW:=fun _ _ h=>h.cons IW (by kernel_rfl) Wh.Uz Y4
def IV:iq:=⟨374,[.v .str],[.v .str],Wh.Dt,Wh.Lx⟩
def Ri:Cx:=⟨eB,[],false,Gl⟩
def Nf:b8:=kS ⟨[(4,.leaf I6),(0,.leaf .str),(3,.whole z0 I8)],[(z0,false,.rows I8)]⟩ [((.exit 0),⟨[(3,.whole z0 I8)],[(z0,false,.rows I8)]⟩)] Wh.Uw Wh.Du
def SX:LT:=[(3,Nf)]
theorem abx:∀x,round Ri SX (jo Tryz.f374 0) Nf x=Wh.Du x:=by intro x;kernel_rfl
theorem e_q140:EV Ri SX Tryz.f374 [.v .str] [.v .str] Wh.Dt:=by intro xs;kernel_rfl
theorem Y3:CO IV:=con_ok (Ls:=[Nf]) mixed (fe _ _) gd Tryz.func374 (loopsL_cons (by kernel_rfl) (loopD_ok abx) (loopsL_nil (by kernel_rfl))) (boxesL_none (by kernel_rfl)) e_q140
theorem WN:FK IV:=fun _ _ h=>h.cons IV (by kernel_rfl) Wh.PD Y3
def Kh:iq:=⟨328,[.v .str],[.v .str],Wh.q93,Wh.DW⟩
def C_q93:Cx:=⟨eB,[IV.entry,IW.entry],false,Gl⟩
def lt_q93:LT:=[]
theorem e_q93:EV C_q93 lt_q93 Tryz.f328 [.v .str] [.v .str] Wh.q93:=by intro xs;kernel_rfl
theorem ok_q93:CO Kh:=con_ok (Ls:=[]) mixed (fe _ _) (WN _ (WO _ gd)) Tryz.func328 (loopsL_nil (by kernel_rfl)) (boxesL_none (by kernel_rfl)) e_q93
theorem fk_q93:FK Kh:=fun _ _ h=>h.cons Kh (by kernel_rfl) Wh.q93_v ok_q93
def IF:iq:=⟨258,[.v I6,.v .str],[.v .str],Wh.EJ,Wh.O8⟩
def C_q120:Cx:=⟨eB,[Kh.entry,GD.entry],false,Gl⟩
def XT:LT:=[]
theorem e_q120:EV C_q120 XT Tryz.f258 [.v I6,.v .str] [.v .str] Wh.EJ:=by intro xs;kernel_rfl
theorem YJ:CO IF:=con_ok (Ls:=[]) mixed (fe _ _) (fk_q93 _ (RP _ gd)) Tryz.func258 (loopsL_nil (by kernel_rfl)) (boxesL_none (by kernel_rfl)) e_q120
theorem WA:FK IF:=fun _ _ h=>h.cons IF (by kernel_rfl) Wh.O9 YJ
def IG:iq:=⟨150,[.v .str,.v I6,.v I6],[.v .str,.v I6],Wh.Cp,Wh.O_⟩
def C_q121:Cx:=⟨eB,[IF.entry,Am.entry,GF.entry,Gy.entry],false,Gl⟩
def XU:LT:=[]
theorem e_q121:EV C_q121 XU Tryz.f150 [.v .str,.v I6,.v I6] [.v .str,.v I6] Wh.Cp:=by intro xs;kernel_rfl
theorem YK:CO IG:=con_ok (Ls:=[]) mixed (fe _ _) (WA _ (Bj _ (RQ _ (RJ _ gd)))) Tryz.func150 (loopsL_nil (by kernel_rfl)) (boxesL_none (by kernel_rfl)) e_q121
theorem WB:FK IG:=fun _ _ h=>h.cons IG (by kernel_rfl) Wh.Pa YK
def Fv:iq:=⟨60,[.v .str],[.v (.own .str),.v I6],Wh.A7,Wh.Hg⟩
def Rb:Cx:=⟨eB,[IG.entry],false,Gl⟩
def Nr:b8:=kS ⟨[(5,.leaf I6),(4,.whole z0 .str),(0,.leaf .str)],[(z0,false,.rows .str)]⟩ [(.ret,⟨[(2,.whole z0 .str),(3,.leaf I6)],[(z0,false,.rows .str)]⟩)] Wh.Uf Wh.Dk
def SO:LT:=[(3,Nr)]
theorem abI:∀x,round Rb SO (jo Tryz.f60 0) Nr x=Wh.Dk x:=by intro x;kernel_rfl
theorem e_q122:EV Rb SO Tryz.f60 [.v .str] [.v (.own .str),.v I6] Wh.A7:=by intro xs;kernel_rfl
theorem YL:CO Fv:=con_ok (Ls:=[Nr]) mixed (fe _ _) (WB _ gd) Tryz.func60 (loopsL_cons (by kernel_rfl) (loopD_ok abI) (loopsL_nil (by kernel_rfl))) (boxesL_none (by kernel_rfl)) e_q122
theorem NJ:FK Fv:=fun _ _ h=>h.cons Fv (by kernel_rfl) Wh.Ll YL
def ID:iq:=⟨179,[.v .str,.v I8],[.v (.own .str)],Wh.Co,Wh.O3⟩
def Q_:Cx:=⟨eB,[],false,Gl⟩
def Nn:b8:=kS ⟨[(7,.leaf I6),(6,.leaf I6),(0,.leaf .str),(5,.whole z0 .str),(1,.leaf I8)],[(z0,false,.rows .str)]⟩ [((.exit 0),⟨[(6,.leaf I6),(0,.leaf .str),(5,.whole z0 .str)],[(z0,false,.rows .str)]⟩)] Wh.Ud Wh.zj
def SM:LT:=[(4,Nn)]
theorem abE:∀x,round Q_ SM (jo Tryz.f179 0) Nn x=Wh.zj x:=by intro x;kernel_rfl
theorem e_q118:EV Q_ SM Tryz.f179 [.v .str,.v I8] [.v (.own .str)] Wh.Co:=by intro xs;kernel_rfl
theorem YH:CO ID:=con_ok (Ls:=[Nn]) mixed (fe _ _) gd Tryz.func179 (loopsL_cons (by kernel_rfl) (loopD_ok abE) (loopsL_nil (by kernel_rfl))) (boxesL_none (by kernel_rfl)) e_q118
theorem Wz:FK ID:=fun _ _ h=>h.cons ID (by kernel_rfl) Wh.O5 YH
def IA:iq:=⟨200,[.v .str],[.v .bool],Wh.EH,Wh.OW⟩
def Q9:Cx:=⟨eB,[Am.entry],false,Gl⟩
def M1:b8:=kS ⟨[(3,.leaf I6),(0,.leaf .str)],[]⟩ [(.ret,⟨[(2,.leaf .bool)],[]⟩),((.exit 0),⟨[(0,.leaf .str)],[]⟩)] Wh.T7 Wh.Cn
def SL:LT:=[(2,M1)]
theorem abj:∀x,round Q9 SL (jo Tryz.f200 0) M1 x=Wh.Cn x:=by intro x;kernel_rfl
theorem e_q114:EV Q9 SL Tryz.f200 [.v .str] [.v .bool] Wh.EH:=by intro xs;kernel_rfl
theorem YD:CO IA:=con_ok (Ls:=[M1]) mixed (fe _ _) (Bj _ gd) Tryz.func200 (loopsL_cons (by kernel_rfl) (loopD_ok abj) (loopsL_nil (by kernel_rfl))) (boxesL_none (by kernel_rfl)) e_q114
theorem Ww:FK IA:=fun _ _ h=>h.cons IA (by kernel_rfl) Wh.T8 YD
def Fz:iq:=⟨185,[.v an],[.v .bool],Wh.BI,Wh.F8⟩
def C_q147:Cx:=⟨eB,[IA.entry,Am.entry],false,Gl⟩
def X7:LT:=[]
theorem e_q147:EV C_q147 X7 Tryz.f185 [.v an] [.v .bool] Wh.BI:=by intro xs;kernel_rfl
theorem Y_:CO Fz:=con_ok (Ls:=[]) mixed (fe _ _) (Ww _ (Bj _ gd)) Tryz.func185 (loopsL_nil (by kernel_rfl)) (boxesL_none (by kernel_rfl)) e_q147
theorem NN:FK Fz:=fun _ _ h=>h.cons Fz (by kernel_rfl) Wh.Dy Y_
def Jv:iq:=⟨103,[.v I6,.v .str,.v .str],[.v .str],Wh.q43,Wh.q43'⟩
def C_q43:Cx:=⟨eB,[GD.entry,Fz.entry],false,Gl⟩
def lt_q43:LT:=[]
theorem e_q43:EV C_q43 lt_q43 Tryz.f103 [.v I6,.v .str,.v .str] [.v .str] Wh.q43:=by intro xs;kernel_rfl
theorem ok_q43:CO Jv:=con_ok (Ls:=[]) mixed (fe _ _) (RP _ (NN _ gd)) Tryz.func103 (loopsL_nil (by kernel_rfl)) (boxesL_none (by kernel_rfl)) e_q43
theorem fk_q43:FK Jv:=fun _ _ h=>h.cons Jv (by kernel_rfl) Wh.Qa ok_q43
def Gz:iq:=⟨272,[.v an,.v I6,.v .str],[.v .bool],Wh.EL,Wh.Lm⟩
def C_q125:Cx:=⟨eB,[],false,Gl⟩
def XX:LT:=[]
theorem e_q125:EV C_q125 XX Tryz.f272 [.v an,.v I6,.v .str] [.v .bool] Wh.EL:=by intro xs;kernel_rfl
theorem YO:CO Gz:=con_ok (Ls:=[]) mixed (fe _ _) gd Tryz.func272 (loopsL_nil (by kernel_rfl)) (boxesL_none (by kernel_rfl)) e_q125
theorem RL:FK Gz:=fun _ _ h=>h.cons Gz (by kernel_rfl) Wh.Ln YO
def Gv:iq:=⟨187,[.v (.lst an),.v I6],[.v I6],Wh.Df,Wh.Lf⟩
def Q7:Cx:=⟨eB,[],false,Gl⟩
def Nt:b8:=kS ⟨[(6,.leaf I6),(0,.leaf (.lst an)),(5,.leaf I6),(1,.leaf I6)],[]⟩ [((.exit 0),⟨[(5,.leaf I6)],[]⟩)] Wh.TU Wh.Cj
def SJ:LT:=[(3,Nt)]
theorem abK:∀x,round Q7 SJ (jo Tryz.f187 0) Nt x=Wh.Cj x:=by intro x;kernel_rfl
theorem e_q102:EV Q7 SJ Tryz.f187 [.v (.lst an),.v I6] [.v I6] Wh.Df:=by intro xs;kernel_rfl
theorem Yq:CO Gv:=con_ok (Ls:=[Nt]) mixed (fe _ _) gd Tryz.func187 (loopsL_cons (by kernel_rfl) (loopD_ok abK) (loopsL_nil (by kernel_rfl))) (boxesL_none (by kernel_rfl)) e_q102
theorem RG:FK Gv:=fun _ _ h=>h.cons Gv (by kernel_rfl) Wh.Lg Yq
def GC:iq:=⟨184,[.v bx],[.v .bool],Wh.Dp,Wh.Lu⟩
def Ih:Cx:=⟨eB,[Gv.entry,Gz.entry,Fz.entry,Am.entry],false,Gl⟩
def MX:b8:=kS ⟨[(1,.aZ z0 []),(3,.leaf I6)],[(z0,false,.var bx (.leaf bx))]⟩ [(.ret,⟨[(2,.leaf .bool)],[]⟩),((.exit 0),⟨[(1,.aZ z0 [])],[(z0,false,.var bx (.leaf bx))]⟩)] Wh.Us Wh.Cw
def MY:b8:=kS ⟨[(5,.leaf I6),(4,.aZ z0 []),(1,.aZ z1 []),(3,.leaf I6)],[(z0,false,.var an (.leaf an)),(z1,false,.var bx (.leaf bx))]⟩ [(.ret,⟨[(2,.leaf .bool)],[]⟩),((.exit 2),⟨[(1,.aZ z0 []),(3,.leaf I6)],[(z0,false,.var bx (.leaf bx))]⟩)] Wh.Ut Wh.Dq
def MZ:b8:=kS ⟨[(6,.leaf I6),(1,.aZ z0 [])],[(z0,false,.var bx (.leaf bx))]⟩ [(.ret,⟨[(2,.leaf .bool)],[]⟩),((.exit 4),⟨[],[]⟩)] Wh.Uu Wh.ET
def K0:LT:=[(4,MX),(10,MY),(15,MZ)]
theorem abg:∀x,round Ih K0 (jo Tryz.f184 0) MX x=Wh.Cw x:=by intro x;kernel_rfl
theorem abh:∀x,round Ih K0 (jo Tryz.f184 1) MY x=Wh.Dq x:=by intro x;kernel_rfl
theorem abi:∀x,round Ih K0 (jo Tryz.f184 2) MZ x=Wh.ET x:=by intro x;kernel_rfl
theorem e_q136:EV Ih K0 Tryz.f184 [.v bx] [.v .bool] Wh.Dp:=by intro xs;kernel_rfl
theorem YZ:CO GC:=con_ok (Ls:=[MX,MY,MZ]) mixed (fe _ _) (RG _ (RL _ (NN _ (Bj _ gd)))) Tryz.func184 (loopsL_cons (by kernel_rfl) (loopD_ok abg) (loopsL_cons (by kernel_rfl) (loopD_ok abh) (loopsL_cons (by kernel_rfl) (loopD_ok abi) (loopsL_nil (by kernel_rfl))))) (boxesL_none (by kernel_rfl)) e_q136
theorem RO:FK GC:=fun _ _ h=>h.cons GC (by kernel_rfl) Wh.F6 YZ
def GG:iq:=⟨186,[.v bx,.v I6,.v .str],[.v I6],Wh.A_,Wh.Lz⟩
def Rm:Cx:=⟨eB,[],false,Gl⟩
def Ns:b8:=kS ⟨[(7,.leaf I6),(2,.leaf .str),(3,.aZ z0 []),(1,.leaf I6)],[(z0,false,.var bx (.leaf bx))]⟩ [(.ret,⟨[(6,.leaf I6)],[]⟩),((.exit 0),⟨[],[]⟩)] Wh.UF Wh.CB
def S1:LT:=[(2,Ns)]
theorem abJ:∀x,round Rm S1 (jo Tryz.f186 0) Ns x=Wh.CB x:=by intro x;kernel_rfl
theorem e_q146:EV Rm S1 Tryz.f186 [.v bx,.v I6,.v .str] [.v I6] Wh.A_:=by intro xs;kernel_rfl
theorem Y9:CO GG:=con_ok (Ls:=[Ns]) mixed (fe _ _) gd Tryz.func186 (loopsL_cons (by kernel_rfl) (loopD_ok abJ) (loopsL_nil (by kernel_rfl))) (boxesL_none (by kernel_rfl)) e_q146
theorem RR:FK GG:=fun _ _ h=>h.cons GG (by kernel_rfl) Wh.Hp Y9
def Fw:iq:=⟨170,[.v bx],[.v (.pair I6 (.pair (.own an) .unit))],Wh.A8,Wh.EK⟩
def C_q123:Cx:=⟨eB,[],false,Gl⟩
def XV:LT:=[]
theorem e_q123:EV C_q123 XV Tryz.f170 [.v bx] [.v (.pair I6 (.pair (.own an) .unit))] Wh.A8:=by intro xs;kernel_rfl
theorem YM:CO Fw:=con_ok (Ls:=[]) mixed (fe _ _) gd Tryz.func170 (loopsL_nil (by kernel_rfl)) (boxesL_none (by kernel_rfl)) e_q123
theorem NK:FK Fw:=fun _ _ h=>h.cons Fw (by kernel_rfl) Wh.F4 YM
def IJ:iq:=⟨270,[.v bx,.v I6],[.v (.pair I6 (.pair (.own an) .unit))],Wh.EM,Wh.Pe⟩
def C_q126:Cx:=⟨eB,[],false,Gl⟩
def XY:LT:=[]
theorem e_q126:EV C_q126 XY Tryz.f270 [.v bx,.v I6] [.v (.pair I6 (.pair (.own an) .unit))] Wh.EM:=by intro xs;kernel_rfl
theorem YP:CO IJ:=con_ok (Ls:=[]) mixed (fe _ _) gd Tryz.func270 (loopsL_nil (by kernel_rfl)) (boxesL_none (by kernel_rfl)) e_q126
theorem WD:FK IJ:=fun _ _ h=>h.cons IJ (by kernel_rfl) Wh.Ug YP
def Kg:iq:=⟨181,[.v bx,.v I6,.v .str],[.v (.pair I6 (.pair (.own an) .unit)),.v I6],Wh.q92,Wh.LI⟩
def C_q92:Cx:=⟨eB,[IJ.entry,Fw.entry,GG.entry,GC.entry],false,Gl⟩
def lt_q92:LT:=[]
theorem e_q92:EV C_q92 lt_q92 Tryz.f181 [.v bx,.v I6,.v .str] [.v (.pair I6 (.pair (.own an) .unit)),.v I6] Wh.q92:=by intro xs;kernel_rfl
theorem ok_q92:CO Kg:=con_ok (Ls:=[]) mixed (fe _ _) (WD _ (NK _ (RR _ (RO _ gd)))) Tryz.func181 (loopsL_nil (by kernel_rfl)) (boxesL_none (by kernel_rfl)) e_q92
theorem fk_q92:FK Kg:=fun _ _ h=>h.cons Kg (by kernel_rfl) Wh.q92_v ok_q92
def IY:iq:=⟨188,[.v bx,.v an],[.v (.pair I6 (.pair (.own an) .unit))],Wh.EZ,Wh.PK⟩
def Rl:Cx:=⟨eB,[Gz.entry],false,Gl⟩
def Nv:b8:=kS ⟨[(5,.leaf I6),(4,.aZ z0 []),(2,.aZ z1 []),(3,.aZ z2 [])],[(z0,false,.var bx (.pair (.leaf I6) (.pair (.whole z3 an) (.leaf .unit)))),(z1,false,.var bx (.leaf bx)),(z2,false,.var an (.leaf an)),(z3,false,.rows an)]⟩ [((.exit 0),⟨[(4,.aZ z0 []),(5,.leaf I6),(2,.aZ z1 []),(3,.aZ z2 [])],[(z0,false,.var bx (.pair (.leaf I6) (.pair (.whole z3 an) (.leaf .unit)))),(z1,false,.var bx (.leaf bx)),(z2,false,.var an (.leaf an)),(z3,false,.rows an)]⟩)] Wh.UD Wh.CA
def S0:LT:=[(2,Nv)]
theorem abM:∀x,round Rl S0 (jo Tryz.f188 0) Nv x=Wh.CA x:=by intro x;kernel_rfl
theorem e_q144:EV Rl S0 Tryz.f188 [.v bx,.v an] [.v (.pair I6 (.pair (.own an) .unit))] Wh.EZ:=by intro xs;kernel_rfl
theorem Y7:CO IY:=con_ok (Ls:=[Nv]) mixed (fe _ _) (RL _ gd) Tryz.func188 (loopsL_cons (by kernel_rfl) (loopD_ok abM) (loopsL_nil (by kernel_rfl))) (boxesL_none (by kernel_rfl)) e_q144
theorem WR:FK IY:=fun _ _ h=>h.cons IY (by kernel_rfl) Wh.UE Y7
def Iz:iq:=⟨101,[.v bx,.v I6,.v .str,.v .str],[.v (.pair I6 (.pair (.own an) .unit)),.v I6],Wh.Cm,Wh.Li⟩
def C_q113:Cx:=⟨eB,[IY.entry,Gv.entry,GG.entry,Fw.entry,Fz.entry,GC.entry],false,Gl⟩
def XQ:LT:=[]
theorem e_q113:EV C_q113 XQ Tryz.f101 [.v bx,.v I6,.v .str,.v .str] [.v (.pair I6 (.pair (.own an) .unit)),.v I6] Wh.Cm:=by intro xs;kernel_rfl
theorem YC:CO Iz:=con_ok (Ls:=[]) mixed (fe _ _) (WR _ (RG _ (RR _ (NK _ (NN _ (RO _ gd)))))) Tryz.func101 (loopsL_nil (by kernel_rfl)) (boxesL_none (by kernel_rfl)) e_q113
theorem Wv:FK Iz:=fun _ _ h=>h.cons Iz (by kernel_rfl) Wh.T6 YC
def II:iq:=⟨98,[.v bx,.v .str],[.v (.pair I6 (.pair (.own an) .unit)),.v .bool],Wh.Cq,Wh.Pc⟩
def C_q124:Cx:=⟨eB,[Iz.entry,Kg.entry,Jv.entry,GF.entry,ID.entry,Gy.entry],false,Gl⟩
def XW:LT:=[]
theorem e_q124:EV C_q124 XW Tryz.f98 [.v bx,.v .str] [.v (.pair I6 (.pair (.own an) .unit)),.v .bool] Wh.Cq:=by intro xs;kernel_rfl
theorem YN:CO II:=con_ok (Ls:=[]) mixed (fe _ _) (Wv _ (fk_q92 _ (fk_q43 _ (RQ _ (Wz _ (RJ _ gd)))))) Tryz.func98 (loopsL_nil (by kernel_rfl)) (boxesL_none (by kernel_rfl)) e_q124
theorem WC:FK II:=fun _ _ h=>h.cons II (by kernel_rfl) Wh.Pd YN
def Fy:iq:=⟨61,[.v (.lst .str)],[.v (.pair I6 (.pair (.own an) .unit)),.v .bool],Wh.Cu,Wh.Hi⟩
def Rg:Cx:=⟨eB,[II.entry],false,Gl⟩
def MW:b8:=kS ⟨[(2,.aZ z0 []),(5,.leaf I6),(4,.aZ z1 []),(0,.leaf (.lst .str))],[(z0,false,.var bx (.pair (.leaf I6) (.pair (.whole z2 an) (.leaf .unit)))),(z1,false,.var bx (.pair (.leaf I6) (.pair (.whole z3 an) (.leaf .unit)))),(z2,false,.rows an),(z3,false,.rows an)]⟩ [(.ret,⟨[(2,.aZ z0 []),(3,.leaf .bool)],[(z0,false,.var bx (.pair (.leaf I6) (.pair (.whole z1 an) (.leaf .unit)))),(z1,false,.rows an)]⟩),((.exit 0),⟨[(2,.aZ z0 []),(4,.aZ z1 [])],[(z0,false,.var bx (.pair (.leaf I6) (.pair (.whole z2 an) (.leaf .unit)))),(z1,false,.var bx (.pair (.leaf I6) (.pair (.whole z3 an) (.leaf .unit)))),(z2,false,.rows an),(z3,false,.rows an)]⟩)] Wh.Ur Wh.Cv
def SV:LT:=[(3,MW)]
theorem abf:∀x,round Rg SV (jo Tryz.f61 0) MW x=Wh.Cv x:=by intro x;kernel_rfl
theorem e_q135:EV Rg SV Tryz.f61 [.v (.lst .str)] [.v (.pair I6 (.pair (.own an) .unit)),.v .bool] Wh.Cu:=by intro xs;kernel_rfl
theorem YY:CO Fy:=con_ok (Ls:=[MW]) mixed (fe _ _) (WC _ gd) Tryz.func61 (loopsL_cons (by kernel_rfl) (loopD_ok abf) (loopsL_nil (by kernel_rfl))) (boxesL_none (by kernel_rfl)) e_q135
theorem NM:FK Fy:=fun _ _ h=>h.cons Fy (by kernel_rfl) Wh.Lt YY
def Kl:iq:=⟨59,[.v cx],[.v .bool],Wh.q97,Wh.q97'⟩
def C_q97:Cx:=⟨eB,[Fy.entry,Fv.entry],false,Gl⟩
def lt_q97:LT:=[]
theorem e_q97:EV C_q97 lt_q97 Tryz.f59 [.v cx] [.v .bool] Wh.q97:=by intro xs;kernel_rfl
theorem ok_q97:CO Kl:=con_ok (Ls:=[]) mixed (fe _ _) (NM _ (NJ _ gd)) Tryz.func59 (loopsL_nil (by kernel_rfl)) (boxesL_none (by kernel_rfl)) e_q97
theorem fk_q97:FK Kl:=fun _ _ h=>h.cons Kl (by kernel_rfl) Wh.q97_v ok_q97
def Kk:iq:=⟨62,[.v bx,.v bx],[.v .bool],Wh.CR,Wh.q96'⟩
def C_q96:Cx:=⟨eB,[],false,Gl⟩
def M_:b8:=kS ⟨[(5,.leaf I6),(3,.aZ z0 []),(2,.aZ z1 [])],[(z0,false,.var bx (.leaf bx)),(z1,false,.var bx (.leaf bx))]⟩ [(.ret,⟨[(4,.leaf .bool)],[]⟩),((.exit 0),⟨[],[]⟩)] Wh.Vm Wh.CS
def Ts:LT:=[(4,M_)]
theorem abr:∀x,round C_q96 Ts (jo Tryz.f62 0) M_ x=Wh.CS x:=by intro x;kernel_rfl
theorem e_q96:EV C_q96 Ts Tryz.f62 [.v bx,.v bx] [.v .bool] Wh.CR:=by intro xs;kernel_rfl
theorem ok_q96:CO Kk:=con_ok (Ls:=[M_]) mixed (fe _ _) gd Tryz.func62 (loopsL_cons (by kernel_rfl) (loopD_ok abr) (loopsL_nil (by kernel_rfl))) (boxesL_none (by kernel_rfl)) e_q96
theorem fk_q96:FK Kk:=fun _ _ h=>h.cons Kk (by kernel_rfl) Wh.q96_v ok_q96
def IT:iq:=⟨151,[.v ct],[.v .bool],Wh.Dr,Wh.PA⟩
def C_q138:Cx:=⟨eB,[Am.entry],false,Gl⟩
def X4:LT:=[]
theorem e_q138:EV C_q138 X4 Tryz.f151 [.v ct] [.v .bool] Wh.Dr:=by intro xs;kernel_rfl
theorem Y1:CO IT:=con_ok (Ls:=[]) mixed (fe _ _) (Bj _ gd) Tryz.func151 (loopsL_nil (by kernel_rfl)) (boxesL_none (by kernel_rfl)) e_q138
theorem WM:FK IT:=fun _ _ h=>h.cons IT (by kernel_rfl) Wh.Lv Y1
def IS:iq:=⟨152,[.v gv,.v I6],[.v I6],Wh.EU,Wh.Py⟩
def Rh:Cx:=⟨eB,[],false,Gl⟩
def M8:b8:=kS ⟨[(6,.leaf I6),(5,.leaf I6),(1,.leaf I6),(2,.aZ z0 [])],[(z0,false,.var gv (.leaf gv))]⟩ [((.exit 0),⟨[(5,.leaf I6)],[]⟩)] Wh.Uv Wh.Cy
def SW:LT:=[(3,M8)]
theorem abp:∀x,round Rh SW (jo Tryz.f152 0) M8 x=Wh.Cy x:=by intro x;kernel_rfl
theorem e_q137:EV Rh SW Tryz.f152 [.v gv,.v I6] [.v I6] Wh.EU:=by intro xs;kernel_rfl
theorem Y0:CO IS:=con_ok (Ls:=[M8]) mixed (fe _ _) gd Tryz.func152 (loopsL_cons (by kernel_rfl) (loopD_ok abp) (loopsL_nil (by kernel_rfl))) (boxesL_none (by kernel_rfl)) e_q137
theorem WL:FK IS:=fun _ _ h=>h.cons IS (by kernel_rfl) Wh.F7 Y0
def IB:iq:=⟨63,[.v gv],[.v .bool],Wh.Dj,Wh.OY⟩
def Ig:Cx:=⟨eB,[IS.entry,IT.entry,Am.entry],false,Gl⟩
def M3:b8:=kS ⟨[(1,.aZ z0 []),(3,.leaf I6)],[(z0,false,.var gv (.leaf gv))]⟩ [(.ret,⟨[(2,.leaf .bool)],[]⟩),((.exit 0),⟨[(1,.aZ z0 [])],[(z0,false,.var gv (.leaf gv))]⟩)] Wh.T9 Wh.BD
def M4:b8:=kS ⟨[(4,.leaf I6),(1,.aZ z0 []),(3,.leaf I6)],[(z0,false,.var gv (.leaf gv))]⟩ [(.ret,⟨[(2,.leaf .bool)],[]⟩),((.exit 2),⟨[(1,.aZ z0 []),(3,.leaf I6)],[(z0,false,.var gv (.leaf gv))]⟩)] Wh.T_ Wh.Aj
def M5:b8:=kS ⟨[(5,.leaf I6),(1,.aZ z0 [])],[(z0,false,.var gv (.leaf gv))]⟩ [(.ret,⟨[(2,.leaf .bool)],[]⟩),((.exit 4),⟨[],[]⟩)] Wh.Ua Wh.BE
def KZ:LT:=[(4,M3),(9,M4),(14,M5)]
theorem abk:∀x,round Ig KZ (jo Tryz.f63 0) M3 x=Wh.BD x:=by intro x;kernel_rfl
theorem abl:∀x,round Ig KZ (jo Tryz.f63 1) M4 x=Wh.Aj x:=by intro x;kernel_rfl
theorem abm:∀x,round Ig KZ (jo Tryz.f63 2) M5 x=Wh.BE x:=by intro x;kernel_rfl
theorem e_q115:EV Ig KZ Tryz.f63 [.v gv] [.v .bool] Wh.Dj:=by intro xs;kernel_rfl
theorem YE:CO IB:=con_ok (Ls:=[M3,M4,M5]) mixed (fe _ _) (WL _ (WM _ (Bj _ gd))) Tryz.func63 (loopsL_cons (by kernel_rfl) (loopD_ok abk) (loopsL_cons (by kernel_rfl) (loopD_ok abl) (loopsL_cons (by kernel_rfl) (loopD_ok abm) (loopsL_nil (by kernel_rfl))))) (boxesL_none (by kernel_rfl)) e_q115
theorem Wx:FK IB:=fun _ _ h=>h.cons IB (by kernel_rfl) Wh.Ub YE
def GJ:iq:=⟨65,[.v bx,.v I6],[.v an,.v .bool],Wh.q45,Wh.LD⟩
def C_q45:Cx:=⟨eB,[],false,Gl⟩
def Nu:b8:=kS ⟨[(4,.aZ z0 []),(6,.leaf I6),(2,.aZ z1 []),(1,.leaf I6)],[(z0,false,.var an (.pair (.leaf I6) (.pair (.leaf .str) (.pair (.leaf I6) (.pair (.leaf .str) (.leaf .unit)))))),(z1,false,.var bx (.leaf bx))]⟩ [(.ret,⟨[(4,.aZ z0 []),(5,.leaf .bool)],[(z0,false,.var an (.leaf an))]⟩),((.exit 0),⟨[(4,.aZ z0 [])],[(z0,false,.var an (.pair (.leaf I6) (.pair (.leaf .str) (.pair (.leaf I6) (.pair (.leaf .str) (.leaf .unit))))))]⟩)] Wh.UY Wh.CL
def Tf:LT:=[(2,Nu)]
theorem abL:∀x,round C_q45 Tf (jo Tryz.f65 0) Nu x=Wh.CL x:=by intro x;kernel_rfl
theorem e_q45:EV C_q45 Tf Tryz.f65 [.v bx,.v I6] [.v an,.v .bool] Wh.q45:=by intro xs;kernel_rfl
theorem ok_q45:CO GJ:=con_ok (Ls:=[Nu]) mixed (fe _ _) gd Tryz.func65 (loopsL_cons (by kernel_rfl) (loopD_ok abL) (loopsL_nil (by kernel_rfl))) (boxesL_none (by kernel_rfl)) e_q45
theorem RU:FK GJ:=fun _ _ h=>h.cons GJ (by kernel_rfl) Wh.DJ ok_q45
def JV:iq:=⟨138,[.v I6],[.v I6],Wh.q71,Wh.q71'⟩
def C_q71:Cx:=⟨eB,[],false,Gl⟩
def lt_q71:LT:=[]
theorem e_q71:EV C_q71 lt_q71 Tryz.f138 [.v I6] [.v I6] Wh.q71:=by intro xs;kernel_rfl
theorem ok_q71:CO JV:=con_ok (Ls:=[]) mixed (fe _ _) gd Tryz.func138 (loopsL_nil (by kernel_rfl)) (boxesL_none (by kernel_rfl)) e_q71
theorem fk_q71:FK JV:=fun _ _ h=>h.cons JV (by kernel_rfl) Wh.Qy ok_q71
def Jw:iq:=⟨64,[.v cx],[.v .bool],Wh.q44,Wh.q44'⟩
def C_q44:Cx:=⟨eB,[JV.entry,GJ.entry,Am.entry],false,Gl⟩
def Na:b8:=kS ⟨[(3,.leaf I6),(1,.aZ z0 [])],[(z0,false,.var cx (.leaf cx))]⟩ [(.ret,⟨[(2,.leaf .bool)],[]⟩),((.exit 0),⟨[],[]⟩)] Wh.UX Wh.BJ
def Te:LT:=[(2,Na)]
theorem abt:∀x,round C_q44 Te (jo Tryz.f64 0) Na x=Wh.BJ x:=by intro x;kernel_rfl
theorem e_q44:EV C_q44 Te Tryz.f64 [.v cx] [.v .bool] Wh.q44:=by intro xs;kernel_rfl
theorem ok_q44:CO Jw:=con_ok (Ls:=[Na]) mixed (fe _ _) (fk_q71 _ (RU _ (Bj _ gd))) Tryz.func64 (loopsL_cons (by kernel_rfl) (loopD_ok abt) (loopsL_nil (by kernel_rfl))) (boxesL_none (by kernel_rfl)) e_q44
theorem fk_q44:FK Jw:=fun _ _ h=>h.cons Jw (by kernel_rfl) Wh.q44_v ok_q44
def Gu:iq:=⟨66,[.v yp],[.v I6],Wh.Bz,Wh.F2⟩
def C_q101:Cx:=⟨eB,[],false,Gl⟩
def XH:LT:=[]
theorem e_q101:EV C_q101 XH Tryz.f66 [.v yp] [.v I6] Wh.Bz:=by intro xs;kernel_rfl
theorem Yp:CO Gu:=con_ok (Ls:=[]) mixed (fe _ _) gd Tryz.func66 (loopsL_nil (by kernel_rfl)) (boxesL_none (by kernel_rfl)) e_q101
theorem RF:FK Gu:=fun _ _ h=>h.cons Gu (by kernel_rfl) Wh.Ci Yp
def IX:iq:=⟨67,[.v I6],[.v (.pair I6 (.pair I6 (.pair (.own I6) (.pair (.own I6) .unit))))],Wh.Dw,Wh.Hl⟩
def Rj:Cx:=⟨eB,[Gu.entry],false,Gl⟩
def No:b8:=kS ⟨[(3,.aZ z0 []),(2,.aZ z1 [])],[(z0,false,.var yp (.pair (.leaf I6) (.pair (.leaf I6) (.pair (.whole z2 I6) (.pair (.whole z3 I6) (.leaf .unit)))))),(z1,false,.var yp (.pair (.leaf I6) (.pair (.leaf I6) (.pair (.whole 500000004 I6) (.pair (.whole 500000005 I6) (.leaf .unit)))))),(z2,false,.rows I6),(z3,false,.rows I6),(500000004,false,.rows I6),(500000005,false,.rows I6)]⟩ [((.exit 0),⟨[(2,.aZ z0 []),(3,.aZ z1 [])],[(z0,false,.var yp (.pair (.leaf I6) (.pair (.leaf I6) (.pair (.whole z2 I6) (.pair (.whole z3 I6) (.leaf .unit)))))),(z1,false,.var yp (.pair (.leaf I6) (.pair (.leaf I6) (.pair (.whole 500000004 I6) (.pair (.whole 500000005 I6) (.leaf .unit)))))),(z2,false,.rows I6),(z3,false,.rows I6),(500000004,false,.rows I6),(500000005,false,.rows I6)]⟩)] Wh.UA Wh.Cz
def SY:LT:=[(2,No)]
theorem abF:∀x,round Rj SY (jo Tryz.f67 0) No x=Wh.Cz x:=by intro x;kernel_rfl
theorem e_q142:EV Rj SY Tryz.f67 [.v I6] [.v (.pair I6 (.pair I6 (.pair (.own I6) (.pair (.own I6) .unit))))] Wh.Dw:=by intro xs;kernel_rfl
theorem Y5:CO IX:=con_ok (Ls:=[No]) mixed (fe _ _) (RF _ gd) Tryz.func67 (loopsL_cons (by kernel_rfl) (loopD_ok abF) (loopsL_nil (by kernel_rfl))) (boxesL_none (by kernel_rfl)) e_q142
theorem WQ:FK IX:=fun _ _ h=>h.cons IX (by kernel_rfl) Wh.Ly Y5
def JS:iq:=⟨68,[.v en],[.v .bool],Wh.q69,Wh.q69'⟩
def C_q69:Cx:=⟨eB,[Am.entry],false,Gl⟩
def lt_q69:LT:=[]
theorem e_q69:EV C_q69 lt_q69 Tryz.f68 [.v en] [.v .bool] Wh.q69:=by intro xs;kernel_rfl
theorem ok_q69:CO JS:=con_ok (Ls:=[]) mixed (fe _ _) (Bj _ gd) Tryz.func68 (loopsL_nil (by kernel_rfl)) (boxesL_none (by kernel_rfl)) e_q69
theorem fk_q69:FK JS:=fun _ _ h=>h.cons JS (by kernel_rfl) Wh.q69_v ok_q69
def JU:iq:=⟨15,[.v cx],[.v .bool],Wh.q70,Wh.q70'⟩
def L_:Cx:=⟨eB,[JS.entry,Gu.entry,IX.entry,GJ.entry,Jw.entry,IB.entry,Kk.entry,Fy.entry,Fv.entry,Kl.entry,Am.entry],false,Gl⟩
def M6:b8:=kS ⟨[(7,.leaf I6),(1,.aZ z0 [])],[(z0,false,.var cx (.leaf cx))]⟩ [(.ret,⟨[(2,.leaf .bool)],[]⟩),((.exit 0),⟨[(1,.aZ z0 [])],[(z0,false,.var cx (.leaf cx))]⟩)] Wh.Vd Wh.Az
def M7:b8:=kS ⟨[(10,.leaf I6),(1,.aZ z0 [])],[(z0,false,.var cx (.leaf cx))]⟩ [(.ret,⟨[(2,.leaf .bool)],[]⟩),((.exit 2),⟨[],[]⟩)] Wh.Ve Wh.CN
def Oi:LT:=[(10,M6),(16,M7)]
theorem abn:∀x,round L_ Oi (jo Tryz.f15 0) M6 x=Wh.Az x:=by intro x;kernel_rfl
theorem abo:∀x,round L_ Oi (jo Tryz.f15 1) M7 x=Wh.CN x:=by intro x;kernel_rfl
theorem e_q70:EV L_ Oi Tryz.f15 [.v cx] [.v .bool] Wh.q70:=by intro xs;kernel_rfl
theorem ok_q70:CO JU:=con_ok (Ls:=[M6,M7]) mixed (fe _ _) (fk_q69 _ (RF _ (WQ _ (RU _ (fk_q44 _ (Wx _ (fk_q96 _ (NM _ (NJ _ (fk_q97 _ (Bj _ gd))))))))))) Tryz.func15 (loopsL_cons (by kernel_rfl) (loopD_ok abn) (loopsL_cons (by kernel_rfl) (loopD_ok abo) (loopsL_nil (by kernel_rfl)))) (boxesL_none (by kernel_rfl)) e_q70
theorem fk_q70:FK JU:=fun _ _ h=>h.cons JU (by kernel_rfl) Wh.Qx ok_q70
def AE:iq:=⟨73,[.v I6,.v I6,.v I6],[.v .bool],Wh.x5,Wh.yK⟩
def C_q106:Cx:=⟨eB,[],false,Gl⟩
def XJ:LT:=[]
theorem e_q106:EV C_q106 XJ Tryz.f73 [.v I6,.v I6,.v I6] [.v .bool] Wh.x5:=by intro xs;kernel_rfl
theorem Yv:CO AE:=con_ok (Ls:=[]) mixed (fe _ _) gd Tryz.func73 (loopsL_nil (by kernel_rfl)) (boxesL_none (by kernel_rfl)) e_q106
theorem B8:FK AE:=fun _ _ h=>h.cons AE (by kernel_rfl) Wh.zi Yv
def Iq:iq:=⟨389,[.v I3,.v I6],[.v I3],Wh.zY,Wh.Av⟩
def C_q105:Cx:=⟨eB,[],false,Gl⟩
def XI:LT:=[]
theorem e_q105:EV C_q105 XI Tryz.f389 [.v I3,.v I6] [.v I3] Wh.zY:=by intro xs;kernel_rfl
theorem Yu:CO Iq:=con_ok (Ls:=[]) mixed (fe _ _) gd Tryz.func389 (loopsL_nil (by kernel_rfl)) (boxesL_none (by kernel_rfl)) e_q105
theorem Wn:FK Iq:=fun _ _ h=>h.cons Iq (by kernel_rfl) Wh.q105_v Yu
def JD:iq:=⟨334,[.v .str],[.v .str],Wh.q54,Wh.q54'⟩
def C3:Cx:=⟨eB,[Iq.entry],false,Gl⟩
def Mq:b8:=kS ⟨[(4,.whole z0 I8),(3,.aZ z1 []),(0,.leaf .str)],[(z0,false,.rows I8),(z1,false,.var (.arr 8 I3) (.leaf (.arr 8 I3)))]⟩ [((.exit 0),⟨[(4,.whole z0 I8),(3,.aZ z1 []),(0,.leaf .str)],[(z0,false,.rows I8),(z1,false,.var (.arr 8 I3) (.leaf (.arr 8 I3)))]⟩)] Wh.U2 Wh.DL
def Mr:b8:=kS ⟨[(6,.leaf I6),(5,.leaf (.int .u64)),(4,.whole z0 I8),(3,.aZ z1 [])],[(z0,false,.rows I8),(z1,false,.var (.arr 8 I3) (.leaf (.arr 8 I3)))]⟩ [((.exit 2),⟨[(4,.whole z0 I8),(3,.aZ z1 [])],[(z0,false,.rows I8),(z1,false,.var (.arr 8 I3) (.leaf (.arr 8 I3)))]⟩)] Wh.U3 Wh.E3
def Ms:b8:=kS ⟨[(4,.piece z0 I8),(3,.aZ z1 [])],[(z0,false,.rows I8),(z1,false,.var (.arr 8 I3) (.leaf (.arr 8 I3)))]⟩ [((.exit 4),⟨[(3,.aZ z0 [])],[(z0,false,.var (.arr 8 I3) (.leaf (.arr 8 I3)))]⟩)] Wh.U4 Wh.DM
def Mt:b8:=kS ⟨[(54,.leaf I6),(7,.aZ z0 []),(4,.piece z1 I8),(3,.aZ z2 [])],[(z0,false,.var (.arr 64 I3) (.leaf (.arr 64 I3))),(z1,false,.rows I8),(z2,false,.var (.arr 8 I3) (.leaf (.arr 8 I3)))]⟩ [((.exit 6),⟨[(7,.aZ z0 []),(3,.aZ z1 []),(4,.piece z2 I8)],[(z0,false,.var (.arr 64 I3) (.leaf (.arr 64 I3))),(z1,false,.var (.arr 8 I3) (.leaf (.arr 8 I3))),(z2,false,.rows I8)]⟩)] Wh.U5 Wh.DN
def Mu:b8:=kS ⟨[(133,.leaf I6),(11,.aZ z0 []),(7,.aZ z1 []),(3,.aZ z2 []),(4,.piece z3 I8)],[(z0,false,.var (.arr 8 I3) (.leaf (.arr 8 I3))),(z1,false,.var (.arr 64 I3) (.leaf (.arr 64 I3))),(z2,false,.var (.arr 8 I3) (.leaf (.arr 8 I3))),(z3,false,.rows I8)]⟩ [((.exit 8),⟨[(3,.aZ z0 []),(11,.aZ z1 []),(4,.piece z2 I8)],[(z0,false,.var (.arr 8 I3) (.leaf (.arr 8 I3))),(z1,false,.var (.arr 8 I3) (.leaf (.arr 8 I3))),(z2,false,.rows I8)]⟩)] Wh.U6 Wh.E4
def Mv:b8:=kS ⟨[(213,.leaf I6),(3,.aZ z0 []),(11,.aZ z1 []),(4,.piece z2 I8)],[(z0,false,.var (.arr 8 I3) (.leaf (.arr 8 I3))),(z1,false,.var (.arr 8 I3) (.leaf (.arr 8 I3))),(z2,false,.rows I8)]⟩ [((.exit 10),⟨[(3,.aZ z0 []),(4,.piece z1 I8)],[(z0,false,.var (.arr 8 I3) (.leaf (.arr 8 I3))),(z1,false,.rows I8)]⟩)] Wh.U7 Wh.Hr
def Mw:b8:=kS ⟨[(227,.leaf I6),(18,.whole z0 I8),(226,.leaf (.arr 8 I3))],[(z0,false,.rows I8)]⟩ [((.exit 12),⟨[(18,.whole z0 I8)],[(z0,false,.rows I8)]⟩)] Wh.U8 Wh.Hs
def Dc:LT:=[(3,Mq),(7,Mr),(10,Ms),(14,Mt),(23,Mu),(31,Mv),(37,Mw)]
theorem aaL:∀x,round C3 Dc (jo Tryz.f334 0) Mq x=Wh.DL x:=by intro x;kernel_rfl
theorem aaM:∀x,round C3 Dc (jo Tryz.f334 1) Mr x=Wh.E3 x:=by intro x;kernel_rfl
theorem aaN:∀x,round C3 Dc (jo Tryz.f334 2) Ms x=Wh.DM x:=by intro x;kernel_rfl
theorem aaO:∀x,round C3 Dc (jo Tryz.f334 3) Mt x=Wh.DN x:=by intro x;kernel_rfl
theorem aaP:∀x,round C3 Dc (jo Tryz.f334 4) Mu x=Wh.E4 x:=by intro x;kernel_rfl
theorem aaQ:∀x,round C3 Dc (jo Tryz.f334 5) Mv x=Wh.Hr x:=by intro x;kernel_rfl
theorem aaR:∀x,round C3 Dc (jo Tryz.f334 6) Mw x=Wh.Hs x:=by intro x;kernel_rfl
theorem e_q54:EV C3 Dc Tryz.f334 [.v .str] [.v .str] Wh.q54:=by intro xs;kernel_rfl
theorem ok_q54:CO JD:=con_ok (Ls:=[Mq,Mr,Ms,Mt,Mu,Mv,Mw]) mixed (fe _ _) (Wn _ gd) Tryz.func334 (loopsL_cons (by kernel_rfl) (loopD_ok aaL) (loopsL_cons (by kernel_rfl) (loopD_ok aaM) (loopsL_cons (by kernel_rfl) (loopD_ok aaN) (loopsL_cons (by kernel_rfl) (loopD_ok aaO) (loopsL_cons (by kernel_rfl) (loopD_ok aaP) (loopsL_cons (by kernel_rfl) (loopD_ok aaQ) (loopsL_cons (by kernel_rfl) (loopD_ok aaR) (loopsL_nil (by kernel_rfl))))))))) (boxesL_none (by kernel_rfl)) e_q54
theorem fk_q54:FK JD:=fun _ _ h=>h.cons JD (by kernel_rfl) Wh.q54_v ok_q54
def IL:iq:=⟨333,[.v .str],[.v .str],Wh.F5,Wh.Pk⟩
def Re:Cx:=⟨eB,[],false,Gl⟩
def Mn:b8:=kS ⟨[(4,.leaf I6),(0,.leaf .str),(3,.whole z0 I8)],[(z0,false,.rows I8)]⟩ [((.exit 0),⟨[(3,.whole z0 I8)],[(z0,false,.rows I8)]⟩)] Wh.Uk Wh.Lp
def SS:LT:=[(3,Mn)]
theorem aaI:∀x,round Re SS (jo Tryz.f333 0) Mn x=Wh.Lp x:=by intro x;kernel_rfl
theorem e_q129:EV Re SS Tryz.f333 [.v .str] [.v .str] Wh.F5:=by intro xs;kernel_rfl
theorem YS:CO IL:=con_ok (Ls:=[Mn]) mixed (fe _ _) gd Tryz.func333 (loopsL_cons (by kernel_rfl) (loopD_ok aaI) (loopsL_nil (by kernel_rfl))) (boxesL_none (by kernel_rfl)) e_q129
theorem WG:FK IL:=fun _ _ h=>h.cons IL (by kernel_rfl) Wh.Ul YS
def JZ:iq:=⟨263,[.v .str],[.v .str],Wh.q75,Wh.DS⟩
def C_q75:Cx:=⟨eB,[IL.entry,JD.entry],false,Gl⟩
def lt_q75:LT:=[]
theorem e_q75:EV C_q75 lt_q75 Tryz.f263 [.v .str] [.v .str] Wh.q75:=by intro xs;kernel_rfl
theorem ok_q75:CO JZ:=con_ok (Ls:=[]) mixed (fe _ _) (WG _ (fk_q54 _ gd)) Tryz.func263 (loopsL_nil (by kernel_rfl)) (boxesL_none (by kernel_rfl)) e_q75
theorem fk_q75:FK JZ:=fun _ _ h=>h.cons JZ (by kernel_rfl) Wh.q75_v ok_q75
def J4:iq:=⟨159,[.v I6,.v .str],[.v .str],Wh.q80,Wh.q80'⟩
def C_q80:Cx:=⟨eB,[JZ.entry,FB.entry],false,Gl⟩
def lt_q80:LT:=[]
theorem e_q80:EV C_q80 lt_q80 Tryz.f159 [.v I6,.v .str] [.v .str] Wh.q80:=by intro xs;kernel_rfl
theorem ok_q80:CO J4:=con_ok (Ls:=[]) mixed (fe _ _) (fk_q75 _ (NP _ gd)) Tryz.func159 (loopsL_nil (by kernel_rfl)) (boxesL_none (by kernel_rfl)) e_q80
theorem fk_q80:FK J4:=fun _ _ h=>h.cons J4 (by kernel_rfl) Wh.QG ok_q80
def JJ:iq:=⟨243,[.v .str,.v .str],[.v .bool],Wh.q6,Wh.q6'⟩
def C_q6:Cx:=⟨eB,[],false,Gl⟩
def lt_q6:LT:=[]
theorem e_q6:EV C_q6 lt_q6 Tryz.f243 [.v .str,.v .str] [.v .bool] Wh.q6:=by intro xs;kernel_rfl
theorem ok_q6:CO JJ:=con_ok (Ls:=[]) mixed (fe _ _) gd Tryz.func243 (loopsL_nil (by kernel_rfl)) (boxesL_none (by kernel_rfl)) e_q6
theorem fk_q6:FK JJ:=fun _ _ h=>h.cons JJ (by kernel_rfl) Wh.q6_v ok_q6
def Iv:iq:=⟨140,[.v .str,.v .str],[.v .bool],Wh.q11,Wh.q11'⟩
def C_q11:Cx:=⟨eB,[JJ.entry],false,Gl⟩
def lt_q11:LT:=[]
theorem e_q11:EV C_q11 lt_q11 Tryz.f140 [.v .str,.v .str] [.v .bool] Wh.q11:=by intro xs;kernel_rfl
theorem ok_q11:CO Iv:=con_ok (Ls:=[]) mixed (fe _ _) (fk_q6 _ gd) Tryz.func140 (loopsL_nil (by kernel_rfl)) (boxesL_none (by kernel_rfl)) e_q11
theorem fk_q11:FK Iv:=fun _ _ h=>h.cons Iv (by kernel_rfl) Wh.O7 ok_q11
def GM:iq:=⟨74,[.v .str],[.v (.own .str),.v I6],Wh.BN,Wh.LH⟩
def C_q76:Cx:=⟨eB,[Iv.entry,J4.entry,AE.entry,FB.entry,Gt.entry,GN.entry],false,Gl⟩
def Me:b8:=kS ⟨[(5,.leaf I6),(4,.whole z0 .str),(0,.leaf .str)],[(z0,false,.rows .str)]⟩ [(.ret,⟨[(2,.whole z0 .str),(3,.leaf I6)],[(z0,false,.rows .str)]⟩)] Wh.Vh Wh.BO
def Tm:LT:=[(3,Me)]
theorem aaz:∀x,round C_q76 Tm (jo Tryz.f74 0) Me x=Wh.BO x:=by intro x;kernel_rfl
theorem e_q76:EV C_q76 Tm Tryz.f74 [.v .str] [.v (.own .str),.v I6] Wh.BN:=by intro xs;kernel_rfl
theorem ok_q76:CO GM:=con_ok (Ls:=[Me]) mixed (fe _ _) (fk_q11 _ (fk_q80 _ (B8 _ (NP _ (RE _ (RZ _ gd)))))) Tryz.func74 (loopsL_cons (by kernel_rfl) (loopD_ok aaz) (loopsL_nil (by kernel_rfl))) (boxesL_none (by kernel_rfl)) e_q76
theorem RY:FK GM:=fun _ _ h=>h.cons GM (by kernel_rfl) Wh.QC ok_q76
def Fx:iq:=⟨233,[.v I6],[.v .bool],Wh.Aw,Wh.Hh⟩
def C_q130:Cx:=⟨eB,[AE.entry],false,Gl⟩
def XZ:LT:=[]
theorem e_q130:EV C_q130 XZ Tryz.f233 [.v I6] [.v .bool] Wh.Aw:=by intro xs;kernel_rfl
theorem YT:CO Fx:=con_ok (Ls:=[]) mixed (fe _ _) (B8 _ gd) Tryz.func233 (loopsL_nil (by kernel_rfl)) (boxesL_none (by kernel_rfl)) e_q130
theorem NL:FK Fx:=fun _ _ h=>h.cons Fx (by kernel_rfl) Wh.Lr YT
def Gw:iq:=⟨213,[.v .str],[.v .bool],Wh.Dg,Wh.Lh⟩
def Q8:Cx:=⟨eB,[AE.entry],false,Gl⟩
def Mf:b8:=kS ⟨[(6,.leaf I6),(0,.leaf .str),(5,.leaf I6)],[]⟩ [(.ret,⟨[(2,.leaf .bool)],[]⟩),((.exit 0),⟨[(0,.leaf .str)],[]⟩)] Wh.TV Wh.Ck
def SK:LT:=[(2,Mf)]
theorem aaA:∀x,round Q8 SK (jo Tryz.f213 0) Mf x=Wh.Ck x:=by intro x;kernel_rfl
theorem e_q103:EV Q8 SK Tryz.f213 [.v .str] [.v .bool] Wh.Dg:=by intro xs;kernel_rfl
theorem Yr:CO Gw:=con_ok (Ls:=[Mf]) mixed (fe _ _) (B8 _ gd) Tryz.func213 (loopsL_cons (by kernel_rfl) (loopD_ok aaA) (loopsL_nil (by kernel_rfl))) (boxesL_none (by kernel_rfl)) e_q103
theorem RH:FK Gw:=fun _ _ h=>h.cons Gw (by kernel_rfl) Wh.OI Yr
def Jk:iq:=⟨192,[.v I6,.v .str,.v .str],[.v .str],Wh.q32,Wh.q32'⟩
def C_q32:Cx:=⟨eB,[FB.entry,Gw.entry,Fx.entry],false,Gl⟩
def lt_q32:LT:=[]
theorem e_q32:EV C_q32 lt_q32 Tryz.f192 [.v I6,.v .str,.v .str] [.v .str] Wh.q32:=by intro xs;kernel_rfl
theorem ok_q32:CO Jk:=con_ok (Ls:=[]) mixed (fe _ _) (NP _ (RH _ (NL _ gd))) Tryz.func192 (loopsL_nil (by kernel_rfl)) (boxesL_none (by kernel_rfl)) e_q32
theorem fk_q32:FK Jk:=fun _ _ h=>h.cons Jk (by kernel_rfl) Wh.P2 ok_q32
def FA:iq:=⟨267,[.v bx],[.v (.pair I6 (.pair (.own an) .unit))],Wh.BL,Wh.Ga⟩
def C_q52:Cx:=⟨eB,[],false,Gl⟩
def lt_q52:LT:=[]
theorem e_q52:EV C_q52 lt_q52 Tryz.f267 [.v bx] [.v (.pair I6 (.pair (.own an) .unit))] Wh.BL:=by intro xs;kernel_rfl
theorem ok_q52:CO FA:=con_ok (Ls:=[]) mixed (fe _ _) gd Tryz.func267 (loopsL_nil (by kernel_rfl)) (boxesL_none (by kernel_rfl)) e_q52
theorem NO:FK FA:=fun _ _ h=>h.cons FA (by kernel_rfl) Wh.DK ok_q52
def I_:iq:=⟨276,[.v an,.v (.ref I6),.v (.ref .str)],[.v .bool],Wh.q20,Wh.q20'⟩
def C_q20:Cx:=⟨eB,[],false,Gl⟩
def lt_q20:LT:=[]
theorem e_q20:EV C_q20 lt_q20 Tryz.f276 [.v an,.v (.ref I6),.v (.ref .str)] [.v .bool] Wh.q20:=by intro xs;kernel_rfl
theorem ok_q20:CO I_:=con_ok (Ls:=[]) mixed (fe _ _) gd Tryz.func276 (loopsL_nil (by kernel_rfl)) (boxesL_none (by kernel_rfl)) e_q20
theorem fk_q20:FK I_:=fun _ _ h=>h.cons I_ (by kernel_rfl) Wh.PU ok_q20
def Ji:iq:=⟨165,[.v (.lst an),.f 276 (.pair (.ref I6) (.pair (.ref .str) .unit))],[.v I6],Wh.q3,Wh.q3'⟩
def C_q3:Cx:=⟨eB,[I_.entry],false,Gl⟩
def MS:b8:=kS ⟨[(8,.leaf I6),(0,.leaf (.lst an)),(1,.fn 276 (.bB (.leaf (.ref I6)) (.bB (.leaf (.ref .str)) (.b7)))),(7,.leaf I6)],[]⟩ [(.ret,⟨[(4,.leaf I6)],[]⟩),((.exit 0),⟨[],[]⟩)] Wh.UT Wh.CK
def lt_q3:LT:=[(2,MS)]
theorem abb:∀x,round C_q3 lt_q3 (jo Tryz.f165 0) MS x=Wh.CK x:=by intro x;kernel_rfl
theorem e_q3:EV C_q3 lt_q3 Tryz.f165 [.v (.lst an),.f 276 (.pair (.ref I6) (.pair (.ref .str) .unit))] [.v I6] Wh.q3:=by intro xs;kernel_rfl
theorem ok_q3:CO Ji:=con_ok (Ls:=[MS]) mixed (fe _ _) (fk_q20 _ gd) Tryz.func165 (loopsL_cons (by kernel_rfl) (loopD_ok abb) (loopsL_nil (by kernel_rfl))) (boxesL_none (by kernel_rfl)) e_q3
theorem fk_q3:FK Ji:=fun _ _ h=>h.cons Ji (by kernel_rfl) Wh.q3_v ok_q3
def GK:iq:=⟨193,[.v bx,.v I6,.v .str],[.v I6],Wh.Ba,Wh.LG⟩
def C_q48:Cx:=⟨eB,[Ji.entry],false,Gl⟩
def lt_q48:LT:=[]
theorem e_q48:EV C_q48 lt_q48 Tryz.f193 [.v bx,.v I6,.v .str] [.v I6] Wh.Ba:=by intro xs;kernel_rfl
theorem ok_q48:CO GK:=con_ok (Ls:=[]) mixed (fe _ _) (fk_q3 _ gd) Tryz.func193 (loopsL_nil (by kernel_rfl)) (boxesL_none (by kernel_rfl)) e_q48
theorem RW:FK GK:=fun _ _ h=>h.cons GK (by kernel_rfl) Wh.Hq ok_q48
def Kd:iq:=⟨277,[.k (.own an),.v I6,.v I6],[.v (.own an)],Wh.E_,Wh.q9'⟩
def C_q9:Cx:=⟨eB,[],false,Gl⟩
def lt_q9:LT:=[]
theorem e_q9:EV C_q9 lt_q9 Tryz.f277 [.k (.own an),.v I6,.v I6] [.v (.own an)] Wh.E_:=by intro xs;kernel_rfl
theorem ok_q9:CO Kd:=con_ok (Ls:=[]) mixed (fe _ _) gd Tryz.func277 (loopsL_nil (by kernel_rfl)) (boxesL_none (by kernel_rfl)) e_q9
theorem fk_q9:FK Kd:=fun _ _ h=>h.cons Kd (by kernel_rfl) Wh.q9_v ok_q9
def Jz:iq:=⟨194,[.v bx,.v I6,.v .str],[.v (.pair I6 (.pair (.own an) .unit)),.v I6],Wh.q49,Wh.q49'⟩
def C_q49:Cx:=⟨eB,[Kd.entry,GK.entry,FA.entry],false,Gl⟩
def lt_q49:LT:=[]
theorem e_q49:EV C_q49 lt_q49 Tryz.f194 [.v bx,.v I6,.v .str] [.v (.pair I6 (.pair (.own an) .unit)),.v I6] Wh.q49:=by intro xs;kernel_rfl
theorem ok_q49:CO Jz:=con_ok (Ls:=[]) mixed (fe _ _) (fk_q9 _ (RW _ (NO _ gd))) Tryz.func194 (loopsL_nil (by kernel_rfl)) (boxesL_none (by kernel_rfl)) e_q49
theorem fk_q49:FK Jz:=fun _ _ h=>h.cons Jz (by kernel_rfl) Wh.q49_v ok_q49
def I1:iq:=⟨130,[.v I6,.v .str,.v .str],[.v .bool],Wh.q16,Wh.q16'⟩
def C_q16:Cx:=⟨eB,[AE.entry,Gw.entry,Fx.entry],false,Gl⟩
def lt_q16:LT:=[]
theorem e_q16:EV C_q16 lt_q16 Tryz.f130 [.v I6,.v .str,.v .str] [.v .bool] Wh.q16:=by intro xs;kernel_rfl
theorem ok_q16:CO I1:=con_ok (Ls:=[]) mixed (fe _ _) (B8 _ (RH _ (NL _ gd))) Tryz.func130 (loopsL_nil (by kernel_rfl)) (boxesL_none (by kernel_rfl)) e_q16
theorem fk_q16:FK I1:=fun _ _ h=>h.cons I1 (by kernel_rfl) Wh.LA ok_q16
def Jm:iq:=⟨273,[.v bx,.v I6],[.v I6],Wh.q34,Wh.q34'⟩
def C_q34:Cx:=⟨eB,[],false,Gl⟩
def Md:b8:=kS ⟨[(11,.leaf I6),(5,.leaf I6),(1,.leaf I6),(9,.leaf (.lst an)),(10,.leaf I6)],[]⟩ [((.exit 0),⟨[(5,.leaf I6)],[]⟩)] Wh.UP Wh.CI
def S9:LT:=[(3,Md)]
theorem aay:∀x,round C_q34 S9 (jo Tryz.f273 0) Md x=Wh.CI x:=by intro x;kernel_rfl
theorem e_q34:EV C_q34 S9 Tryz.f273 [.v bx,.v I6] [.v I6] Wh.q34:=by intro xs;kernel_rfl
theorem ok_q34:CO Jm:=con_ok (Ls:=[Md]) mixed (fe _ _) gd Tryz.func273 (loopsL_cons (by kernel_rfl) (loopD_ok aay) (loopsL_nil (by kernel_rfl))) (boxesL_none (by kernel_rfl)) e_q34
theorem fk_q34:FK Jm:=fun _ _ h=>h.cons Jm (by kernel_rfl) Wh.q34_v ok_q34
def Jx:iq:=⟨398,[.v I6],[.v .bool],Wh.q46,Wh.LF⟩
def C_q46:Cx:=⟨eB,[],false,Gl⟩
def lt_q46:LT:=[]
theorem e_q46:EV C_q46 lt_q46 Tryz.f398 [.v I6] [.v .bool] Wh.q46:=by intro xs;kernel_rfl
theorem ok_q46:CO Jx:=con_ok (Ls:=[]) mixed (fe _ _) gd Tryz.func398 (loopsL_nil (by kernel_rfl)) (boxesL_none (by kernel_rfl)) e_q46
theorem fk_q46:FK Jx:=fun _ _ h=>h.cons Jx (by kernel_rfl) Wh.q46_v ok_q46
def I7:iq:=⟨337,[.v I6,.v I6],[.v I6],Wh.q19,Wh.q19'⟩
def C_q19:Cx:=⟨eB,[Jx.entry],false,Gl⟩
def lt_q19:LT:=[]
theorem e_q19:EV C_q19 lt_q19 Tryz.f337 [.v I6,.v I6] [.v I6] Wh.q19:=by intro xs;kernel_rfl
theorem ok_q19:CO I7:=con_ok (Ls:=[]) mixed (fe _ _) (fk_q46 _ gd) Tryz.func337 (loopsL_nil (by kernel_rfl)) (boxesL_none (by kernel_rfl)) e_q19
theorem fk_q19:FK I7:=fun _ _ h=>h.cons I7 (by kernel_rfl) Wh.q19_v ok_q19
def IE:iq:=⟨399,[.v .str],[.v .bool],Wh.q12,Wh.Lj⟩
def C_q12:Cx:=⟨eB,[],false,Gl⟩
def lt_q12:LT:=[]
theorem e_q12:EV C_q12 lt_q12 Tryz.f399 [.v .str] [.v .bool] Wh.q12:=by intro xs;kernel_rfl
theorem ok_q12:CO IE:=con_ok (Ls:=[]) mixed (fe _ _) gd Tryz.func399 (loopsL_nil (by kernel_rfl)) (boxesL_none (by kernel_rfl)) e_q12
theorem fk_q12:FK IE:=fun _ _ h=>h.cons IE (by kernel_rfl) Wh.q12_v ok_q12
def JT:iq:=⟨338,[.v .str,.v .str],[.v I6],Wh.q7,Wh.q7'⟩
def C_q7:Cx:=⟨eB,[IE.entry],false,Gl⟩
def lt_q7:LT:=[]
theorem e_q7:EV C_q7 lt_q7 Tryz.f338 [.v .str,.v .str] [.v I6] Wh.q7:=by intro xs;kernel_rfl
theorem ok_q7:CO JT:=con_ok (Ls:=[]) mixed (fe _ _) (fk_q12 _ gd) Tryz.func338 (loopsL_nil (by kernel_rfl)) (boxesL_none (by kernel_rfl)) e_q7
theorem fk_q7:FK JT:=fun _ _ h=>h.cons JT (by kernel_rfl) Wh.q7_v ok_q7
def IK:iq:=⟨336,[.v (.lst I6)],[.v I6],Wh.EN,Wh.Pf⟩
def Rc:Cx:=⟨eB,[],false,Gl⟩
def Mb:b8:=kS ⟨[(8,.leaf I6),(3,.leaf I6),(6,.leaf (.lst I6)),(7,.leaf I6)],[]⟩ [(.ret,⟨[(2,.leaf I6)],[]⟩),((.exit 0),⟨[(3,.leaf I6)],[]⟩)] Wh.Uh Wh.Dl
def SP:LT:=[(3,Mb)]
theorem aaw:∀x,round Rc SP (jo Tryz.f336 0) Mb x=Wh.Dl x:=by intro x;kernel_rfl
theorem e_q127:EV Rc SP Tryz.f336 [.v (.lst I6)] [.v I6] Wh.EN:=by intro xs;kernel_rfl
theorem YQ:CO IK:=con_ok (Ls:=[Mb]) mixed (fe _ _) gd Tryz.func336 (loopsL_cons (by kernel_rfl) (loopD_ok aaw) (loopsL_nil (by kernel_rfl))) (boxesL_none (by kernel_rfl)) e_q127
theorem WE:FK IK:=fun _ _ h=>h.cons IK (by kernel_rfl) Wh.Ui YQ
def GI:iq:=⟨275,[.v an,.v an],[.v I6],Wh.q37,Wh.q37'⟩
def C_q37:Cx:=⟨eB,[IK.entry,JT.entry,I7.entry],false,Gl⟩
def lt_q37:LT:=[]
theorem e_q37:EV C_q37 lt_q37 Tryz.f275 [.v an,.v an] [.v I6] Wh.q37:=by intro xs;kernel_rfl
theorem ok_q37:CO GI:=con_ok (Ls:=[]) mixed (fe _ _) (WE _ (fk_q7 _ (fk_q19 _ gd))) Tryz.func275 (loopsL_nil (by kernel_rfl)) (boxesL_none (by kernel_rfl)) e_q37
theorem RT:FK GI:=fun _ _ h=>h.cons GI (by kernel_rfl) Wh.LC ok_q37
def Ik:iq:=⟨390,[.m an,.v I6,.v I6,.f 275 .unit],[],Wh.q0,Wh.q0'⟩
def C_q0:Cx:=⟨eB,[GI.entry],false,Gl⟩
def MT:b8:=kS ⟨[(0,.whole 900 an),(8,.leaf I6),(3,.fn 275 (.b7)),(1,.leaf I6),(2,.leaf I6)],[(900,false,.rows an)]⟩ [((.exit 0),⟨[],[(900,false,.rows an)]⟩)] Wh.TP Wh.A6
def MU:b8:=kS ⟨[(9,.leaf I6),(0,.whole 900 an),(3,.fn 275 (.b7)),(1,.leaf I6),(2,.leaf I6),(8,.leaf I6)],[(900,false,.rows an)]⟩ [((.exit 2),⟨[(0,.whole 900 an),(3,.fn 275 (.b7)),(1,.leaf I6),(2,.leaf I6),(8,.leaf I6)],[(900,false,.rows an)]⟩)] Wh.TQ Wh.By
def Od:LT:=[(1,MT),(4,MU)]
theorem abc:∀x,round C_q0 Od (jo Tryz.f390 0) MT x=Wh.A6 x:=by intro x;kernel_rfl
theorem abd:∀x,round C_q0 Od (jo Tryz.f390 1) MU x=Wh.By x:=by intro x;kernel_rfl
theorem e_q0:EV C_q0 Od Tryz.f390 [.m an,.v I6,.v I6,.f 275 .unit] [] Wh.q0:=by intro xs;kernel_rfl
theorem ok_q0:CO Ik:=con_ok (Ls:=[MT,MU]) mixed (fe _ _) (RT _ gd) Tryz.func390 (loopsL_cons (by kernel_rfl) (loopD_ok abc) (loopsL_cons (by kernel_rfl) (loopD_ok abd) (loopsL_nil (by kernel_rfl)))) (boxesL_none (by kernel_rfl)) e_q0
theorem fk_q0:FK Ik:=fun _ _ h=>h.cons Ik (by kernel_rfl) Wh.q0_v ok_q0
def Il:iq:=⟨335,[.m an,.v I6,.v I6,.v I6,.f 275 .unit],[],Wh.q1,Wh.q1'⟩
def C_q1:Cx:=⟨eB,[GI.entry,Ik.entry],false,Gl⟩
def MV:b8:=kS ⟨[(4,.fn 275 (.b7)),(2,.leaf I6),(1,.leaf I6),(0,.whole 900 an),(11,.leaf .bool),(10,.leaf .bool),(3,.leaf I6)],[(900,false,.rows an)]⟩ [(.ret,⟨[],[(900,false,.rows an)]⟩)] Wh.UI Wh.F9
def lt_q1:LT:=[(2,MV)]
theorem abe:∀x,round C_q1 lt_q1 (jo Tryz.f335 0) MV x=Wh.F9 x:=by intro x;kernel_rfl
theorem e_q1:EV C_q1 lt_q1 Tryz.f335 [.m an,.v I6,.v I6,.v I6,.f 275 .unit] [] Wh.q1:=by intro xs;kernel_rfl
theorem ok_q1:CO Il:=con_ok (Ls:=[MV]) mixed (fe _ _) (RT _ (fk_q0 _ gd)) Tryz.func335 (loopsL_cons (by kernel_rfl) (loopD_ok abe) (loopsL_nil (by kernel_rfl))) (boxesL_none (by kernel_rfl)) e_q1
theorem fk_q1:FK Il:=fun _ _ h=>h.cons Il (by kernel_rfl) Wh.q1_v ok_q1
def Jr:iq:=⟨274,[.m an,.f 275 .unit],[],Wh.q4,Wh.q4'⟩
def C_q4:Cx:=⟨eB,[Il.entry,Ij.entry],false,Gl⟩
def lt_q4:LT:=[]
theorem e_q4:EV C_q4 lt_q4 Tryz.f274 [.m an,.f 275 .unit] [] Wh.q4:=by intro xs;kernel_rfl
theorem ok_q4:CO Jr:=con_ok (Ls:=[]) mixed (fe _ _) (fk_q1 _ (Wk _ gd)) Tryz.func274 (loopsL_nil (by kernel_rfl)) (boxesL_none (by kernel_rfl)) e_q4
theorem fk_q4:FK Jr:=fun _ _ h=>h.cons Jr (by kernel_rfl) Wh.q4_v ok_q4
def JY:iq:=⟨190,[.v bx,.v I6,.v .str,.v .str],[.v (.pair I6 (.pair (.own an) .unit)),.v I6],Wh.CP,Wh.q74'⟩
def C_q74:Cx:=⟨eB,[Jr.entry,Jm.entry,GK.entry,I1.entry,FA.entry],false,Gl⟩
def lt_q74:LT:=[]
theorem e_q74:EV C_q74 lt_q74 Tryz.f190 [.v bx,.v I6,.v .str,.v .str] [.v (.pair I6 (.pair (.own an) .unit)),.v I6] Wh.CP:=by intro xs;kernel_rfl
theorem ok_q74:CO JY:=con_ok (Ls:=[]) mixed (fe _ _) (fk_q4 _ (fk_q34 _ (RW _ (fk_q16 _ (NO _ gd))))) Tryz.func190 (loopsL_nil (by kernel_rfl)) (boxesL_none (by kernel_rfl)) e_q74
theorem fk_q74:FK JY:=fun _ _ h=>h.cons JY (by kernel_rfl) Wh.q74_v ok_q74
def Jl:iq:=⟨160,[.v bx,.v .str],[.v (.pair I6 (.pair (.own an) .unit)),.v .bool],Wh.q33,Wh.q33'⟩
def C_q33:Cx:=⟨eB,[JY.entry,Jz.entry,Jk.entry,Gt.entry,GN.entry],false,Gl⟩
def lt_q33:LT:=[]
theorem e_q33:EV C_q33 lt_q33 Tryz.f160 [.v bx,.v .str] [.v (.pair I6 (.pair (.own an) .unit)),.v .bool] Wh.q33:=by intro xs;kernel_rfl
theorem ok_q33:CO Jl:=con_ok (Ls:=[]) mixed (fe _ _) (fk_q74 _ (fk_q49 _ (fk_q32 _ (RE _ (RZ _ gd))))) Tryz.func160 (loopsL_nil (by kernel_rfl)) (boxesL_none (by kernel_rfl)) e_q33
theorem fk_q33:FK Jl:=fun _ _ h=>h.cons Jl (by kernel_rfl) Wh.P3 ok_q33
def GA:iq:=⟨75,[.v (.lst .str)],[.v (.pair I6 (.pair (.own an) .unit)),.v .bool],Wh.Dm,Wh.Lo⟩
def Rd:Cx:=⟨eB,[Jl.entry],false,Gl⟩
def Mc:b8:=kS ⟨[(2,.aZ z0 []),(13,.leaf I6),(4,.aZ z1 []),(11,.leaf (.lst .str)),(12,.leaf I6)],[(z0,false,.var bx (.pair (.leaf I6) (.pair (.whole z2 an) (.leaf .unit)))),(z1,false,.var bx (.pair (.leaf I6) (.pair (.whole z3 an) (.leaf .unit)))),(z2,false,.rows an),(z3,false,.rows an)]⟩ [(.ret,⟨[(2,.aZ z0 []),(3,.leaf .bool)],[(z0,false,.var bx (.pair (.leaf I6) (.pair (.whole z1 an) (.leaf .unit)))),(z1,false,.rows an)]⟩),((.exit 0),⟨[(2,.aZ z0 []),(4,.aZ z1 [])],[(z0,false,.var bx (.pair (.leaf I6) (.pair (.whole z2 an) (.leaf .unit)))),(z1,false,.var bx (.pair (.leaf I6) (.pair (.whole z3 an) (.leaf .unit)))),(z2,false,.rows an),(z3,false,.rows an)]⟩)] Wh.Uj Wh.Cr
def SQ:LT:=[(3,Mc)]
theorem aax:∀x,round Rd SQ (jo Tryz.f75 0) Mc x=Wh.Cr x:=by intro x;kernel_rfl
theorem e_q128:EV Rd SQ Tryz.f75 [.v (.lst .str)] [.v (.pair I6 (.pair (.own an) .unit)),.v .bool] Wh.Dm:=by intro xs;kernel_rfl
theorem YR:CO GA:=con_ok (Ls:=[Mc]) mixed (fe _ _) (fk_q33 _ gd) Tryz.func75 (loopsL_cons (by kernel_rfl) (loopD_ok aax) (loopsL_nil (by kernel_rfl))) (boxesL_none (by kernel_rfl)) e_q128
theorem RM:FK GA:=fun _ _ h=>h.cons GA (by kernel_rfl) Wh.Pj YR
def Im:iq:=⟨161,[.v (.lst an),.v (.lst an)],[.v .bool],Wh.q10,Wh.q10'⟩
def C_q10:Cx:=⟨eB,[],false,Gl⟩
def MQ:b8:=kS ⟨[(13,.leaf I6),(1,.leaf (.lst an)),(0,.leaf (.lst an)),(12,.leaf I6)],[]⟩ [(.ret,⟨[(4,.leaf .bool)],[]⟩),((.exit 0),⟨[],[]⟩)] Wh.T0 Wh.Cl
def SI:LT:=[(4,MQ)]
theorem aa_:∀x,round C_q10 SI (jo Tryz.f161 0) MQ x=Wh.Cl x:=by intro x;kernel_rfl
theorem e_q10:EV C_q10 SI Tryz.f161 [.v (.lst an),.v (.lst an)] [.v .bool] Wh.q10:=by intro xs;kernel_rfl
theorem ok_q10:CO Im:=con_ok (Ls:=[MQ]) mixed (fe _ _) gd Tryz.func161 (loopsL_cons (by kernel_rfl) (loopD_ok aa_) (loopsL_nil (by kernel_rfl))) (boxesL_none (by kernel_rfl)) e_q10
theorem fk_q10:FK Im:=fun _ _ h=>h.cons Im (by kernel_rfl) Wh.q10_v ok_q10
def J6:iq:=⟨76,[.v bx,.v bx],[.v .bool],Wh.q82,Wh.q82'⟩
def C_q82:Cx:=⟨eB,[Im.entry],false,Gl⟩
def lt_q82:LT:=[]
theorem e_q82:EV C_q82 lt_q82 Tryz.f76 [.v bx,.v bx] [.v .bool] Wh.q82:=by intro xs;kernel_rfl
theorem ok_q82:CO J6:=con_ok (Ls:=[]) mixed (fe _ _) (fk_q10 _ gd) Tryz.func76 (loopsL_nil (by kernel_rfl)) (boxesL_none (by kernel_rfl)) e_q82
theorem fk_q82:FK J6:=fun _ _ h=>h.cons J6 (by kernel_rfl) Wh.q82_v ok_q82
def Jn:iq:=⟨264,[.v gv,.v I6,.v I6],[.v I6],Wh.q35,Wh.q35'⟩
def C_q35:Cx:=⟨eB,[],false,Gl⟩
def Mj:b8:=kS ⟨[(12,.leaf I6),(2,.leaf I6),(1,.leaf I6),(10,.leaf (.lst ct)),(11,.leaf I6)],[]⟩ [(.ret,⟨[(6,.leaf I6)],[]⟩),((.exit 0),⟨[],[]⟩)] Wh.UQ Wh.CJ
def S_:LT:=[(2,Mj)]
theorem aaE:∀x,round C_q35 S_ (jo Tryz.f264 0) Mj x=Wh.CJ x:=by intro x;kernel_rfl
theorem e_q35:EV C_q35 S_ Tryz.f264 [.v gv,.v I6,.v I6] [.v I6] Wh.q35:=by intro xs;kernel_rfl
theorem ok_q35:CO Jn:=con_ok (Ls:=[Mj]) mixed (fe _ _) gd Tryz.func264 (loopsL_cons (by kernel_rfl) (loopD_ok aaE) (loopsL_nil (by kernel_rfl))) (boxesL_none (by kernel_rfl)) e_q35
theorem fk_q35:FK Jn:=fun _ _ h=>h.cons Jn (by kernel_rfl) Wh.q35_v ok_q35
def J1:iq:=⟨265,[.v gv,.v I6],[.v I6],Wh.q78,Wh.q78'⟩
def C_q78:Cx:=⟨eB,[],false,Gl⟩
def Mk:b8:=kS ⟨[(11,.leaf I6),(5,.leaf I6),(1,.leaf I6),(9,.leaf (.lst ct)),(10,.leaf I6)],[]⟩ [((.exit 0),⟨[(5,.leaf I6)],[]⟩)] Wh.Vj Wh.CQ
def To:LT:=[(3,Mk)]
theorem aaF:∀x,round C_q78 To (jo Tryz.f265 0) Mk x=Wh.CQ x:=by intro x;kernel_rfl
theorem e_q78:EV C_q78 To Tryz.f265 [.v gv,.v I6] [.v I6] Wh.q78:=by intro xs;kernel_rfl
theorem ok_q78:CO J1:=con_ok (Ls:=[Mk]) mixed (fe _ _) gd Tryz.func265 (loopsL_cons (by kernel_rfl) (loopD_ok aaF) (loopsL_nil (by kernel_rfl))) (boxesL_none (by kernel_rfl)) e_q78
theorem fk_q78:FK J1:=fun _ _ h=>h.cons J1 (by kernel_rfl) Wh.Gd ok_q78
def Ip:iq:=⟨162,[.v gv],[.v .bool],Wh.Dh,Wh.OJ⟩
def L7:Cx:=⟨eB,[J1.entry,Jn.entry,Fx.entry,AE.entry],false,Gl⟩
def Mh:b8:=kS ⟨[(19,.leaf I6),(1,.aZ z0 []),(17,.leaf (.lst ct)),(18,.leaf I6)],[(z0,false,.var gv (.leaf gv))]⟩ [(.ret,⟨[(2,.leaf .bool)],[]⟩),((.exit 0),⟨[(1,.aZ z0 [])],[(z0,false,.var gv (.leaf gv))]⟩)] Wh.TW Wh.BA
def Mi:b8:=kS ⟨[(63,.leaf I6),(1,.aZ z0 [])],[(z0,false,.var gv (.leaf gv))]⟩ [(.ret,⟨[(2,.leaf .bool)],[]⟩),((.exit 2),⟨[],[]⟩)] Wh.TX Wh.BB
def Of:LT:=[(4,Mh),(13,Mi)]
theorem aaC:∀x,round L7 Of (jo Tryz.f162 0) Mh x=Wh.BA x:=by intro x;kernel_rfl
theorem aaD:∀x,round L7 Of (jo Tryz.f162 1) Mi x=Wh.BB x:=by intro x;kernel_rfl
theorem e_q104:EV L7 Of Tryz.f162 [.v gv] [.v .bool] Wh.Dh:=by intro xs;kernel_rfl
theorem Yt:CO Ip:=con_ok (Ls:=[Mh,Mi]) mixed (fe _ _) (fk_q78 _ (fk_q35 _ (NL _ (B8 _ gd)))) Tryz.func162 (loopsL_cons (by kernel_rfl) (loopD_ok aaC) (loopsL_cons (by kernel_rfl) (loopD_ok aaD) (loopsL_nil (by kernel_rfl)))) (boxesL_none (by kernel_rfl)) e_q104
theorem Wm:FK Ip:=fun _ _ h=>h.cons Ip (by kernel_rfl) Wh.OM Yt
def J3:iq:=⟨166,[.v an,.v (.ref I6)],[.v .bool],Wh.Ge,Wh.q8'⟩
def C_q8:Cx:=⟨eB,[],false,Gl⟩
def lt_q8:LT:=[]
theorem e_q8:EV C_q8 lt_q8 Tryz.f166 [.v an,.v (.ref I6)] [.v .bool] Wh.Ge:=by intro xs;kernel_rfl
theorem ok_q8:CO J3:=con_ok (Ls:=[]) mixed (fe _ _) gd Tryz.func166 (loopsL_nil (by kernel_rfl)) (boxesL_none (by kernel_rfl)) e_q8
theorem fk_q8:FK J3:=fun _ _ h=>h.cons J3 (by kernel_rfl) Wh.q8_v ok_q8
def I9:iq:=⟨165,[.v (.lst an),.f 166 (.pair (.ref I6) .unit)],[.v I6],Wh.q2,Wh.CC⟩
def C_q2:Cx:=⟨eB,[J3.entry],false,Gl⟩
def MR:b8:=kS ⟨[(8,.leaf I6),(0,.leaf (.lst an)),(1,.fn 166 (.bB (.leaf (.ref I6)) (.b7))),(7,.leaf I6)],[]⟩ [(.ret,⟨[(4,.leaf I6)],[]⟩),((.exit 0),⟨[],[]⟩)] Wh.UN Wh.CH
def lt_q2:LT:=[(2,MR)]
theorem aba:∀x,round C_q2 lt_q2 (jo Tryz.f165 0) MR x=Wh.CH x:=by intro x;kernel_rfl
theorem e_q2:EV C_q2 lt_q2 Tryz.f165 [.v (.lst an),.f 166 (.pair (.ref I6) .unit)] [.v I6] Wh.q2:=by intro xs;kernel_rfl
theorem ok_q2:CO I9:=con_ok (Ls:=[MR]) mixed (fe _ _) (fk_q8 _ gd) Tryz.func165 (loopsL_cons (by kernel_rfl) (loopD_ok aba) (loopsL_nil (by kernel_rfl))) (boxesL_none (by kernel_rfl)) e_q2
theorem fk_q2:FK I9:=fun _ _ h=>h.cons I9 (by kernel_rfl) Wh.q2_v ok_q2
def GB:iq:=⟨80,[.v bx,.v I6],[.v I6],Wh.Cs,Wh.Lq⟩
def C_q13:Cx:=⟨eB,[I9.entry],false,Gl⟩
def lt_q13:LT:=[]
theorem e_q13:EV C_q13 lt_q13 Tryz.f80 [.v bx,.v I6] [.v I6] Wh.Cs:=by intro xs;kernel_rfl
theorem ok_q13:CO GB:=con_ok (Ls:=[]) mixed (fe _ _) (fk_q2 _ gd) Tryz.func80 (loopsL_nil (by kernel_rfl)) (boxesL_none (by kernel_rfl)) e_q13
theorem RN:FK GB:=fun _ _ h=>h.cons GB (by kernel_rfl) Wh.EW ok_q13
def GH:iq:=⟨164,[.v yp],[.v I6],Wh.CD,Wh.F_⟩
def C_q21:Cx:=⟨eB,[],false,Gl⟩
def lt_q21:LT:=[]
theorem e_q21:EV C_q21 lt_q21 Tryz.f164 [.v yp] [.v I6] Wh.CD:=by intro xs;kernel_rfl
theorem ok_q21:CO GH:=con_ok (Ls:=[]) mixed (fe _ _) gd Tryz.func164 (loopsL_nil (by kernel_rfl)) (boxesL_none (by kernel_rfl)) e_q21
theorem RS:FK GH:=fun _ _ h=>h.cons GH (by kernel_rfl) Wh.q21_v ok_q21
def J0:iq:=⟨163,[.v I6],[.v (.pair I6 (.pair I6 (.pair (.own I6) (.pair (.own I6) .unit))))],Wh.q77,Wh.q77'⟩
def C_q77:Cx:=⟨eB,[GH.entry,AE.entry],false,Gl⟩
def Mg:b8:=kS ⟨[(3,.aZ z0 []),(2,.aZ z1 [])],[(z0,false,.var yp (.pair (.leaf I6) (.pair (.leaf I6) (.pair (.whole z2 I6) (.pair (.whole z3 I6) (.leaf .unit)))))),(z1,false,.var yp (.pair (.leaf I6) (.pair (.leaf I6) (.pair (.whole 500000004 I6) (.pair (.whole 500000005 I6) (.leaf .unit)))))),(z2,false,.rows I6),(z3,false,.rows I6),(500000004,false,.rows I6),(500000005,false,.rows I6)]⟩ [((.exit 0),⟨[(2,.aZ z0 []),(3,.aZ z1 [])],[(z0,false,.var yp (.pair (.leaf I6) (.pair (.leaf I6) (.pair (.whole z2 I6) (.pair (.whole z3 I6) (.leaf .unit)))))),(z1,false,.var yp (.pair (.leaf I6) (.pair (.leaf I6) (.pair (.whole 500000004 I6) (.pair (.whole 500000005 I6) (.leaf .unit)))))),(z2,false,.rows I6),(z3,false,.rows I6),(500000004,false,.rows I6),(500000005,false,.rows I6)]⟩)] Wh.Vi Wh.Hu
def Tn:LT:=[(4,Mg)]
theorem aaB:∀x,round C_q77 Tn (jo Tryz.f163 0) Mg x=Wh.Hu x:=by intro x;kernel_rfl
theorem e_q77:EV C_q77 Tn Tryz.f163 [.v I6] [.v (.pair I6 (.pair I6 (.pair (.own I6) (.pair (.own I6) .unit))))] Wh.q77:=by intro xs;kernel_rfl
theorem ok_q77:CO J0:=con_ok (Ls:=[Mg]) mixed (fe _ _) (RS _ (B8 _ gd)) Tryz.func163 (loopsL_cons (by kernel_rfl) (loopD_ok aaB) (loopsL_nil (by kernel_rfl))) (boxesL_none (by kernel_rfl)) e_q77
theorem fk_q77:FK J0:=fun _ _ h=>h.cons J0 (by kernel_rfl) Wh.q77_v ok_q77
def JC:iq:=⟨77,[.v gv,.v bx],[.v .bool],Wh.q53,Wh.q53'⟩
def C_q53:Cx:=⟨eB,[GH.entry,J0.entry,GB.entry,Ip.entry],false,Gl⟩
def Mo:b8:=kS ⟨[(14,.leaf I6),(3,.aZ z0 []),(12,.leaf (.lst ct)),(13,.leaf I6)],[(z0,false,.var bx (.leaf bx))]⟩ [(.ret,⟨[(4,.leaf .bool)],[]⟩),((.exit 0),⟨[],[]⟩)] Wh.U1 Wh.Ay
def Tg:LT:=[(4,Mo)]
theorem aaJ:∀x,round C_q53 Tg (jo Tryz.f77 0) Mo x=Wh.Ay x:=by intro x;kernel_rfl
theorem e_q53:EV C_q53 Tg Tryz.f77 [.v gv,.v bx] [.v .bool] Wh.q53:=by intro xs;kernel_rfl
theorem ok_q53:CO JC:=con_ok (Ls:=[Mo]) mixed (fe _ _) (RS _ (fk_q77 _ (RN _ (Wm _ gd)))) Tryz.func77 (loopsL_cons (by kernel_rfl) (loopD_ok aaJ) (loopsL_nil (by kernel_rfl))) (boxesL_none (by kernel_rfl)) e_q53
theorem fk_q53:FK JC:=fun _ _ h=>h.cons JC (by kernel_rfl) Wh.q53_v ok_q53
def Jy:iq:=⟨78,[.v en],[.v .bool],Wh.q47,Wh.q47'⟩
def C_q47:Cx:=⟨eB,[AE.entry],false,Gl⟩
def lt_q47:LT:=[]
theorem e_q47:EV C_q47 lt_q47 Tryz.f78 [.v en] [.v .bool] Wh.q47:=by intro xs;kernel_rfl
theorem ok_q47:CO Jy:=con_ok (Ls:=[]) mixed (fe _ _) (B8 _ gd) Tryz.func78 (loopsL_nil (by kernel_rfl)) (boxesL_none (by kernel_rfl)) e_q47
theorem fk_q47:FK Jy:=fun _ _ h=>h.cons Jy (by kernel_rfl) Wh.q47_v ok_q47
def JB:iq:=⟨79,[.v I6],[.v .bool],Wh.q51,Wh.q51'⟩
def C_q51:Cx:=⟨eB,[AE.entry],false,Gl⟩
def lt_q51:LT:=[]
theorem e_q51:EV C_q51 lt_q51 Tryz.f79 [.v I6] [.v .bool] Wh.q51:=by intro xs;kernel_rfl
theorem ok_q51:CO JB:=con_ok (Ls:=[]) mixed (fe _ _) (B8 _ gd) Tryz.func79 (loopsL_nil (by kernel_rfl)) (boxesL_none (by kernel_rfl)) e_q51
theorem fk_q51:FK JB:=fun _ _ h=>h.cons JB (by kernel_rfl) Wh.Qg ok_q51
def J2:iq:=⟨81,[.v I6],[.v I6],Wh.q79,Wh.q79'⟩
def C_q79:Cx:=⟨eB,[],false,Gl⟩
def lt_q79:LT:=[]
theorem e_q79:EV C_q79 lt_q79 Tryz.f81 [.v I6] [.v I6] Wh.q79:=by intro xs;kernel_rfl
theorem ok_q79:CO J2:=con_ok (Ls:=[]) mixed (fe _ _) gd Tryz.func81 (loopsL_nil (by kernel_rfl)) (boxesL_none (by kernel_rfl)) e_q79
theorem fk_q79:FK J2:=fun _ _ h=>h.cons J2 (by kernel_rfl) Wh.QF ok_q79
def JA:iq:=⟨17,[.v cx],[.v .bool],Wh.q50,Wh.q50'⟩
def L9:Cx:=⟨eB,[J2.entry,GB.entry,JB.entry,Jy.entry,JC.entry,J6.entry,GA.entry,GM.entry,AE.entry],false,Gl⟩
def Ml:b8:=kS ⟨[(105,.leaf I6),(1,.aZ z0 []),(103,.leaf (.lst en)),(104,.leaf I6)],[(z0,false,.var cx (.leaf cx))]⟩ [(.ret,⟨[(2,.leaf .bool)],[]⟩),((.exit 0),⟨[(1,.aZ z0 [])],[(z0,false,.var cx (.leaf cx))]⟩)] Wh.UZ Wh.CM
def Mm:b8:=kS ⟨[(133,.leaf I6),(1,.aZ z0 []),(131,.leaf (.lst fN)),(132,.leaf I6)],[(z0,false,.var cx (.leaf cx))]⟩ [(.ret,⟨[(2,.leaf .bool)],[]⟩),((.exit 2),⟨[],[]⟩)] Wh.U0 Wh.BK
def Oh:LT:=[(13,Ml),(19,Mm)]
theorem aaG:∀x,round L9 Oh (jo Tryz.f17 0) Ml x=Wh.CM x:=by intro x;kernel_rfl
theorem aaH:∀x,round L9 Oh (jo Tryz.f17 1) Mm x=Wh.BK x:=by intro x;kernel_rfl
theorem e_q50:EV L9 Oh Tryz.f17 [.v cx] [.v .bool] Wh.q50:=by intro xs;kernel_rfl
theorem ok_q50:CO JA:=con_ok (Ls:=[Ml,Mm]) mixed (fe _ _) (fk_q79 _ (RN _ (fk_q51 _ (fk_q47 _ (fk_q53 _ (fk_q82 _ (RM _ (RY _ (B8 _ gd))))))))) Tryz.func17 (loopsL_cons (by kernel_rfl) (loopD_ok aaG) (loopsL_cons (by kernel_rfl) (loopD_ok aaH) (loopsL_nil (by kernel_rfl)))) (boxesL_none (by kernel_rfl)) e_q50
theorem fk_q50:FK JA:=fun _ _ h=>h.cons JA (by kernel_rfl) Wh.Qf ok_q50
def Ir:iq:=⟨235,[.v an,.v an],[.v .bool],Wh.EB,Wh.ON⟩
def C_q107:Cx:=⟨eB,[],false,Gl⟩
def XK:LT:=[]
theorem e_q107:EV C_q107 XK Tryz.f235 [.v an,.v an] [.v .bool] Wh.EB:=by intro xs;kernel_rfl
theorem Yw:CO Ir:=con_ok (Ls:=[]) mixed (fe _ _) gd Tryz.func235 (loopsL_nil (by kernel_rfl)) (boxesL_none (by kernel_rfl)) e_q107
theorem Wo:FK Ir:=fun _ _ h=>h.cons Ir (by kernel_rfl) Wh.TY Yw
def J8:iq:=⟨133,[.v (.lst an),.v (.lst an)],[.v .bool],Wh.q84,Wh.q84'⟩
def C_q84:Cx:=⟨eB,[Ir.entry],false,Gl⟩
def Mz:b8:=kS ⟨[(5,.leaf I6),(1,.leaf (.lst an)),(0,.leaf (.lst an))],[]⟩ [(.ret,⟨[(4,.leaf .bool)],[]⟩),((.exit 0),⟨[],[]⟩)] Wh.Vk Wh.E9
def Tp:LT:=[(4,Mz)]
theorem aaU:∀x,round C_q84 Tp (jo Tryz.f133 0) Mz x=Wh.E9 x:=by intro x;kernel_rfl
theorem e_q84:EV C_q84 Tp Tryz.f133 [.v (.lst an),.v (.lst an)] [.v .bool] Wh.q84:=by intro xs;kernel_rfl
theorem ok_q84:CO J8:=con_ok (Ls:=[Mz]) mixed (fe _ _) (Wo _ gd) Tryz.func133 (loopsL_cons (by kernel_rfl) (loopD_ok aaU) (loopsL_nil (by kernel_rfl))) (boxesL_none (by kernel_rfl)) e_q84
theorem fk_q84:FK J8:=fun _ _ h=>h.cons J8 (by kernel_rfl) Wh.q84_v ok_q84
def IN:iq:=⟨82,[.v bx,.v bx],[.v .bool],Wh.EP,Wh.Pq⟩
def C_q132:Cx:=⟨eB,[J8.entry],false,Gl⟩
def X1:LT:=[]
theorem e_q132:EV C_q132 X1 Tryz.f82 [.v bx,.v bx] [.v .bool] Wh.EP:=by intro xs;kernel_rfl
theorem YV:CO IN:=con_ok (Ls:=[]) mixed (fe _ _) (fk_q84 _ gd) Tryz.func82 (loopsL_nil (by kernel_rfl)) (boxesL_none (by kernel_rfl)) e_q132
theorem WI:FK IN:=fun _ _ h=>h.cons IN (by kernel_rfl) Wh.Uo YV
def J7:iq:=⟨266,[.v ct,.v ct],[.v .bool],Wh.q83,Wh.q83'⟩
def C_q83:Cx:=⟨eB,[],false,Gl⟩
def lt_q83:LT:=[]
theorem e_q83:EV C_q83 lt_q83 Tryz.f266 [.v ct,.v ct] [.v .bool] Wh.q83:=by intro xs;kernel_rfl
theorem ok_q83:CO J7:=con_ok (Ls:=[]) mixed (fe _ _) gd Tryz.func266 (loopsL_nil (by kernel_rfl)) (boxesL_none (by kernel_rfl)) e_q83
theorem fk_q83:FK J7:=fun _ _ h=>h.cons J7 (by kernel_rfl) Wh.q83_v ok_q83
def JF:iq:=⟨167,[.v (.lst ct),.v (.lst ct)],[.v .bool],Wh.q56,Wh.q56'⟩
def C_q56:Cx:=⟨eB,[J7.entry],false,Gl⟩
def My:b8:=kS ⟨[(5,.leaf I6),(1,.leaf (.lst ct)),(0,.leaf (.lst ct))],[]⟩ [(.ret,⟨[(4,.leaf .bool)],[]⟩),((.exit 0),⟨[],[]⟩)] Wh.U9 Wh.E5
def Th:LT:=[(4,My)]
theorem aaT:∀x,round C_q56 Th (jo Tryz.f167 0) My x=Wh.E5 x:=by intro x;kernel_rfl
theorem e_q56:EV C_q56 Th Tryz.f167 [.v (.lst ct),.v (.lst ct)] [.v .bool] Wh.q56:=by intro xs;kernel_rfl
theorem ok_q56:CO JF:=con_ok (Ls:=[My]) mixed (fe _ _) (fk_q83 _ gd) Tryz.func167 (loopsL_cons (by kernel_rfl) (loopD_ok aaT) (loopsL_nil (by kernel_rfl))) (boxesL_none (by kernel_rfl)) e_q56
theorem fk_q56:FK JF:=fun _ _ h=>h.cons JF (by kernel_rfl) Wh.q56_v ok_q56
def Is:iq:=⟨83,[.v gv,.v gv],[.v .bool],Wh.EC,Wh.OO⟩
def C_q108:Cx:=⟨eB,[JF.entry],false,Gl⟩
def XL:LT:=[]
theorem e_q108:EV C_q108 XL Tryz.f83 [.v gv,.v gv] [.v .bool] Wh.EC:=by intro xs;kernel_rfl
theorem Yx:CO Is:=con_ok (Ls:=[]) mixed (fe _ _) (fk_q56 _ gd) Tryz.func83 (loopsL_nil (by kernel_rfl)) (boxesL_none (by kernel_rfl)) e_q108
theorem Wp:FK Is:=fun _ _ h=>h.cons Is (by kernel_rfl) Wh.TZ Yx
def JE:iq:=⟨168,[.v en,.v en],[.v .bool],Wh.q55,Wh.q55'⟩
def C_q55:Cx:=⟨eB,[],false,Gl⟩
def lt_q55:LT:=[]
theorem e_q55:EV C_q55 lt_q55 Tryz.f168 [.v en,.v en] [.v .bool] Wh.q55:=by intro xs;kernel_rfl
theorem ok_q55:CO JE:=con_ok (Ls:=[]) mixed (fe _ _) gd Tryz.func168 (loopsL_nil (by kernel_rfl)) (boxesL_none (by kernel_rfl)) e_q55
theorem fk_q55:FK JE:=fun _ _ h=>h.cons JE (by kernel_rfl) Wh.q55_v ok_q55
def Jp:iq:=⟨84,[.v (.lst en),.v (.lst en)],[.v .bool],Wh.q38,Wh.q38'⟩
def C_q38:Cx:=⟨eB,[JE.entry],false,Gl⟩
def Mx:b8:=kS ⟨[(5,.leaf I6),(1,.leaf (.lst en)),(0,.leaf (.lst en))],[]⟩ [(.ret,⟨[(4,.leaf .bool)],[]⟩),((.exit 0),⟨[],[]⟩)] Wh.UR Wh.E0
def Ta:LT:=[(4,Mx)]
theorem aaS:∀x,round C_q38 Ta (jo Tryz.f84 0) Mx x=Wh.E0 x:=by intro x;kernel_rfl
theorem e_q38:EV C_q38 Ta Tryz.f84 [.v (.lst en),.v (.lst en)] [.v .bool] Wh.q38:=by intro xs;kernel_rfl
theorem ok_q38:CO Jp:=con_ok (Ls:=[Mx]) mixed (fe _ _) (fk_q55 _ gd) Tryz.func84 (loopsL_cons (by kernel_rfl) (loopD_ok aaS) (loopsL_nil (by kernel_rfl))) (boxesL_none (by kernel_rfl)) e_q38
theorem fk_q38:FK Jp:=fun _ _ h=>h.cons Jp (by kernel_rfl) Wh.q38_v ok_q38
def J9:iq:=⟨169,[.v fN,.v fN],[.v .bool],Wh.q85,Wh.q85'⟩
def C_q85:Cx:=⟨eB,[],false,Gl⟩
def lt_q85:LT:=[]
theorem e_q85:EV C_q85 lt_q85 Tryz.f169 [.v fN,.v fN] [.v .bool] Wh.q85:=by intro xs;kernel_rfl
theorem ok_q85:CO J9:=con_ok (Ls:=[]) mixed (fe _ _) gd Tryz.func169 (loopsL_nil (by kernel_rfl)) (boxesL_none (by kernel_rfl)) e_q85
theorem fk_q85:FK J9:=fun _ _ h=>h.cons J9 (by kernel_rfl) Wh.q85_v ok_q85
def JG:iq:=⟨85,[.v (.lst fN),.v (.lst fN)],[.v .bool],Wh.q57,Wh.q57'⟩
def C_q57:Cx:=⟨eB,[J9.entry],false,Gl⟩
def MA:b8:=kS ⟨[(5,.leaf I6),(1,.leaf (.lst fN)),(0,.leaf (.lst fN))],[]⟩ [(.ret,⟨[(4,.leaf .bool)],[]⟩),((.exit 0),⟨[],[]⟩)] Wh.U_ Wh.E6
def Ti:LT:=[(4,MA)]
theorem aaV:∀x,round C_q57 Ti (jo Tryz.f85 0) MA x=Wh.E6 x:=by intro x;kernel_rfl
theorem e_q57:EV C_q57 Ti Tryz.f85 [.v (.lst fN),.v (.lst fN)] [.v .bool] Wh.q57:=by intro xs;kernel_rfl
theorem ok_q57:CO JG:=con_ok (Ls:=[MA]) mixed (fe _ _) (fk_q85 _ gd) Tryz.func85 (loopsL_cons (by kernel_rfl) (loopD_ok aaV) (loopsL_nil (by kernel_rfl))) (boxesL_none (by kernel_rfl)) e_q57
theorem fk_q57:FK JG:=fun _ _ h=>h.cons JG (by kernel_rfl) Wh.q57_v ok_q57
def JH:iq:=⟨18,[.v cx,.v cx],[.v .bool],Wh.Bb,Wh.Ht⟩
def C_q58:Cx:=⟨eB,[JG.entry,Jp.entry,Is.entry,IN.entry],false,Gl⟩
def lt_q58:LT:=[]
theorem e_q58:EV C_q58 lt_q58 Tryz.f18 [.v cx,.v cx] [.v .bool] Wh.Bb:=by intro xs;kernel_rfl
theorem ok_q58:CO JH:=con_ok (Ls:=[]) mixed (fe _ _) (fk_q57 _ (fk_q38 _ (Wp _ (WI _ gd)))) Tryz.func18 (loopsL_nil (by kernel_rfl)) (boxesL_none (by kernel_rfl)) e_q58
theorem fk_q58:FK JH:=fun _ _ h=>h.cons JH (by kernel_rfl) Wh.Qr ok_q58
def Ki:iq:=⟨171,[.v gv],[.v (.pair (.own ct) (.pair I6 .unit))],Wh.q94,Wh.q94'⟩
def C_q94:Cx:=⟨eB,[],false,Gl⟩
def lt_q94:LT:=[]
theorem e_q94:EV C_q94 lt_q94 Tryz.f171 [.v gv] [.v (.pair (.own ct) (.pair I6 .unit))] Wh.q94:=by intro xs;kernel_rfl
theorem ok_q94:CO Ki:=con_ok (Ls:=[]) mixed (fe _ _) gd Tryz.func171 (loopsL_nil (by kernel_rfl)) (boxesL_none (by kernel_rfl)) e_q94
theorem fk_q94:FK Ki:=fun _ _ h=>h.cons Ki (by kernel_rfl) Wh.q94_v ok_q94
def Kj:iq:=⟨86,[.v cx],[.v (.pair .bool (.pair I6 (.pair .str (.pair (.pair I6 (.pair (.own an) .unit)) (.pair (.pair (.own ct) (.pair I6 .unit)) (.pair (.own en) (.pair (.own fN) .unit)))))))],Wh.q95,Wh.q95'⟩
def C_q95:Cx:=⟨eB,[Ki.entry,Fw.entry],false,Gl⟩
def lt_q95:LT:=[]
theorem e_q95:EV C_q95 lt_q95 Tryz.f86 [.v cx] [.v (.pair .bool (.pair I6 (.pair .str (.pair (.pair I6 (.pair (.own an) .unit)) (.pair (.pair (.own ct) (.pair I6 .unit)) (.pair (.own en) (.pair (.own fN) .unit)))))))] Wh.q95:=by intro xs;kernel_rfl
theorem ok_q95:CO Kj:=con_ok (Ls:=[]) mixed (fe _ _) (fk_q94 _ (NK _ gd)) Tryz.func86 (loopsL_nil (by kernel_rfl)) (boxesL_none (by kernel_rfl)) e_q95
theorem fk_q95:FK Kj:=fun _ _ h=>h.cons Kj (by kernel_rfl) Wh.q95_v ok_q95
def IC:iq:=⟨87,[],[.v (.pair (.own ct) (.pair I6 .unit))],Wh.EI,Wh.O2⟩
def C_q116:Cx:=⟨eB,[],false,Gl⟩
def XR:LT:=[]
theorem e_q116:EV C_q116 XR Tryz.f87 [] [.v (.pair (.own ct) (.pair I6 .unit))] Wh.EI:=by intro xs;kernel_rfl
theorem YF:CO IC:=con_ok (Ls:=[]) mixed (fe _ _) gd Tryz.func87 (loopsL_nil (by kernel_rfl)) (boxesL_none (by kernel_rfl)) e_q116
theorem Wy:FK IC:=fun _ _ h=>h.cons IC (by kernel_rfl) Wh.Uc YF
def Jj:iq:=⟨88,[.v I6],[.v (.own en)],Wh.q30,Wh.q30'⟩
def C_q30:Cx:=⟨eB,[],false,Gl⟩
def M9:b8:=kS ⟨[(4,.leaf I6),(0,.leaf I6),(3,.whole z0 en)],[(z0,false,.rows en)]⟩ [((.exit 0),⟨[(3,.whole z0 en)],[(z0,false,.rows en)]⟩)] Wh.UO Wh.DF
def S8:LT:=[(3,M9)]
theorem abq:∀x,round C_q30 S8 (jo Tryz.f88 0) M9 x=Wh.DF x:=by intro x;kernel_rfl
theorem e_q30:EV C_q30 S8 Tryz.f88 [.v I6] [.v (.own en)] Wh.q30:=by intro xs;kernel_rfl
theorem ok_q30:CO Jj:=con_ok (Ls:=[M9]) mixed (fe _ _) gd Tryz.func88 (loopsL_cons (by kernel_rfl) (loopD_ok abq) (loopsL_nil (by kernel_rfl))) (boxesL_none (by kernel_rfl)) e_q30
theorem fk_q30:FK Jj:=fun _ _ h=>h.cons Jj (by kernel_rfl) Wh.q30_v ok_q30
def Jh:iq:=⟨19,[.v cx],[.v (.pair .bool (.pair I6 (.pair .str (.pair (.pair I6 (.pair (.own an) .unit)) (.pair (.pair (.own ct) (.pair I6 .unit)) (.pair (.own en) (.pair (.own fN) .unit)))))))],Wh.q29,Wh.q29'⟩
def C_q29:Cx:=⟨eB,[Jj.entry,IC.entry,Fy.entry,Fv.entry,Kj.entry,JU.entry],false,Gl⟩
def lt_q29:LT:=[]
theorem e_q29:EV C_q29 lt_q29 Tryz.f19 [.v cx] [.v (.pair .bool (.pair I6 (.pair .str (.pair (.pair I6 (.pair (.own an) .unit)) (.pair (.pair (.own ct) (.pair I6 .unit)) (.pair (.own en) (.pair (.own fN) .unit)))))))] Wh.q29:=by intro xs;kernel_rfl
theorem ok_q29:CO Jh:=con_ok (Ls:=[]) mixed (fe _ _) (fk_q30 _ (Wy _ (NM _ (NJ _ (fk_q95 _ (fk_q70 _ gd)))))) Tryz.func19 (loopsL_nil (by kernel_rfl)) (boxesL_none (by kernel_rfl)) e_q29
theorem fk_q29:FK Jh:=fun _ _ h=>h.cons Jh (by kernel_rfl) Wh.q29_v ok_q29
def Jo:iq:=⟨268,[.v gv],[.v (.pair (.own ct) (.pair I6 .unit))],Wh.q36,Wh.q36'⟩
def C_q36:Cx:=⟨eB,[],false,Gl⟩
def lt_q36:LT:=[]
theorem e_q36:EV C_q36 lt_q36 Tryz.f268 [.v gv] [.v (.pair (.own ct) (.pair I6 .unit))] Wh.q36:=by intro xs;kernel_rfl
theorem ok_q36:CO Jo:=con_ok (Ls:=[]) mixed (fe _ _) gd Tryz.func268 (loopsL_nil (by kernel_rfl)) (boxesL_none (by kernel_rfl)) e_q36
theorem fk_q36:FK Jo:=fun _ _ h=>h.cons Jo (by kernel_rfl) Wh.q36_v ok_q36
def IZ:iq:=⟨172,[.v cx],[.v (.pair .bool (.pair I6 (.pair .str (.pair (.pair I6 (.pair (.own an) .unit)) (.pair (.pair (.own ct) (.pair I6 .unit)) (.pair (.own en) (.pair (.own fN) .unit)))))))],Wh.q15,Wh.q15'⟩
def C_q15:Cx:=⟨eB,[Jo.entry,FA.entry],false,Gl⟩
def lt_q15:LT:=[]
theorem e_q15:EV C_q15 lt_q15 Tryz.f172 [.v cx] [.v (.pair .bool (.pair I6 (.pair .str (.pair (.pair I6 (.pair (.own an) .unit)) (.pair (.pair (.own ct) (.pair I6 .unit)) (.pair (.own en) (.pair (.own fN) .unit)))))))] Wh.q15:=by intro xs;kernel_rfl
theorem ok_q15:CO IZ:=con_ok (Ls:=[]) mixed (fe _ _) (fk_q36 _ (NO _ gd)) Tryz.func172 (loopsL_nil (by kernel_rfl)) (boxesL_none (by kernel_rfl)) e_q15
theorem fk_q15:FK IZ:=fun _ _ h=>h.cons IZ (by kernel_rfl) Wh.q15_v ok_q15
def J5:iq:=⟨269,[],[.v (.pair (.own ct) (.pair I6 .unit))],Wh.q81,Wh.q81'⟩
def C_q81:Cx:=⟨eB,[],false,Gl⟩
def lt_q81:LT:=[]
theorem e_q81:EV C_q81 lt_q81 Tryz.f269 [] [.v (.pair (.own ct) (.pair I6 .unit))] Wh.q81:=by intro xs;kernel_rfl
theorem ok_q81:CO J5:=con_ok (Ls:=[]) mixed (fe _ _) gd Tryz.func269 (loopsL_nil (by kernel_rfl)) (boxesL_none (by kernel_rfl)) e_q81
theorem fk_q81:FK J5:=fun _ _ h=>h.cons J5 (by kernel_rfl) Wh.q81_v ok_q81
def IM:iq:=⟨173,[.v I6,.v .str,.k (.pair I6 (.pair (.own an) .unit))],[.v (.pair .bool (.pair I6 (.pair .str (.pair (.pair I6 (.pair (.own an) .unit)) (.pair (.pair (.own ct) (.pair I6 .unit)) (.pair (.own en) (.pair (.own fN) .unit)))))))],Wh.EO,Wh.Pn⟩
def Rf:Cx:=⟨eB,[J5.entry],false,Gl⟩
def Mp:b8:=kS ⟨[(15,.leaf I6),(7,.aZ z0 []),(0,.leaf I6),(6,.aZ z1 [])],[(z0,false,.var cx (.pair (.leaf .bool) (.pair (.leaf I6) (.pair (.leaf .str) (.pair (.pair (.leaf I6) (.pair (.whole z2 an) (.leaf .unit))) (.pair (.pair (.whole z3 ct) (.leaf (.pair I6 .unit))) (.pair (.whole 500000004 en) (.pair (.whole 500000005 fN) (.leaf .unit))))))))),(z1,false,.var cx (.pair (.leaf .bool) (.pair (.leaf I6) (.pair (.leaf .str) (.pair (.pair (.leaf I6) (.pair (.whole 500000006 an) (.leaf .unit))) (.pair (.pair (.whole 500000007 ct) (.pair (.leaf I6) (.leaf .unit))) (.pair (.whole 500000008 en) (.pair (.whole 500000009 fN) (.leaf .unit))))))))),(z2,false,.rows an),(z3,false,.rows ct),(500000004,false,.rows en),(500000005,false,.rows fN),(500000006,false,.rows an),(500000007,false,.rows ct),(500000008,false,.rows en),(500000009,false,.rows fN)]⟩ [((.exit 0),⟨[(6,.aZ z0 []),(7,.aZ z1 [])],[(z0,false,.var cx (.pair (.leaf .bool) (.pair (.leaf I6) (.pair (.leaf .str) (.pair (.pair (.leaf I6) (.pair (.whole z2 an) (.leaf .unit))) (.pair (.pair (.whole z3 ct) (.pair (.leaf I6) (.leaf .unit))) (.pair (.whole 500000004 en) (.pair (.whole 500000005 fN) (.leaf .unit))))))))),(z1,false,.var cx (.pair (.leaf .bool) (.pair (.leaf I6) (.pair (.leaf .str) (.pair (.pair (.leaf I6) (.pair (.whole 500000006 an) (.leaf .unit))) (.pair (.pair (.whole 500000007 ct) (.leaf (.pair I6 .unit))) (.pair (.whole 500000008 en) (.pair (.whole 500000009 fN) (.leaf .unit))))))))),(z2,false,.rows an),(z3,false,.rows ct),(500000004,false,.rows en),(500000005,false,.rows fN),(500000006,false,.rows an),(500000007,false,.rows ct),(500000008,false,.rows en),(500000009,false,.rows fN)]⟩)] Wh.Um Wh.Dn
def SU:LT:=[(3,Mp)]
theorem aaK:∀x,round Rf SU (jo Tryz.f173 0) Mp x=Wh.Dn x:=by intro x;kernel_rfl
theorem e_q131:EV Rf SU Tryz.f173 [.v I6,.v .str,.k (.pair I6 (.pair (.own an) .unit))] [.v (.pair .bool (.pair I6 (.pair .str (.pair (.pair I6 (.pair (.own an) .unit)) (.pair (.pair (.own ct) (.pair I6 .unit)) (.pair (.own en) (.pair (.own fN) .unit)))))))] Wh.EO:=by intro xs;kernel_rfl
theorem YU:CO IM:=con_ok (Ls:=[Mp]) mixed (fe _ _) (fk_q81 _ gd) Tryz.func173 (loopsL_cons (by kernel_rfl) (loopD_ok aaK) (loopsL_nil (by kernel_rfl))) (boxesL_none (by kernel_rfl)) e_q131
theorem WH:FK IM:=fun _ _ h=>h.cons IM (by kernel_rfl) Wh.Un YU
def IU:iq:=⟨89,[.v cx],[.d cx],Wh.q14,Wh.q14'⟩
def C_q14:Cx:=⟨eB,[IM.entry,GA.entry,GM.entry,IZ.entry],true,Gl⟩
def lt_q14:LT:=[]
theorem e_q14:EV C_q14 lt_q14 Tryz.f89 [.v cx] [.d cx] Wh.q14:=by intro xs;kernel_rfl
theorem ok_q14:CO IU:=con_ok (Ls:=[]) mixed (fe _ _) (WH _ (RM _ (RY _ (fk_q15 _ Cf)))) Tryz.func89 (loopsL_nil (by kernel_rfl)) (boxesL_none (by kernel_rfl)) e_q14
theorem fk_q14:FK IU:=fun _ _ h=>h.cons IU (by kernel_rfl) Wh.q14_v ok_q14
def Ja:iq:=⟨20,[.v cx],[.d cx],Wh.CE,Wh.q22'⟩
def C_q22:Cx:=⟨eB,[IU.entry,JA.entry],true,Gl⟩
def lt_q22:LT:=[]
theorem e_q22:EV C_q22 lt_q22 Tryz.f20 [.v cx] [.d cx] Wh.CE:=by intro xs;kernel_rfl
theorem ok_q22:CO Ja:=con_ok (Ls:=[]) mixed (fe _ _) (fk_q14 _ (fk_q50 _ Cf)) Tryz.func20 (loopsL_nil (by kernel_rfl)) (boxesL_none (by kernel_rfl)) e_q22
theorem fk_q22:FK Ja:=fun _ _ h=>h.cons Ja (by kernel_rfl) Wh.q22_v ok_q22
def GL:iq:=⟨121,[.v I6],[.v .str],Wh.AQ,Wh.E7⟩
def C_q61:Cx:=⟨eB,[],false,Gl⟩
def MK:b8:=kS ⟨[(0,.leaf I6),(3,.leaf .str)],[]⟩ [((.exit 0),⟨[(3,.leaf .str)],[]⟩)] Wh.Va Wh.DO
def Tj:LT:=[(4,MK)]
theorem aa4:∀x,round C_q61 Tj (jo Tryz.f121 0) MK x=Wh.DO x:=by intro x;kernel_rfl
theorem e_q61:EV C_q61 Tj Tryz.f121 [.v I6] [.v .str] Wh.AQ:=by intro xs;kernel_rfl
theorem ok_q61:CO GL:=con_ok (Ls:=[MK]) mixed (fe _ _) gd Tryz.func121 (loopsL_cons (by kernel_rfl) (loopD_ok aa4) (loopsL_nil (by kernel_rfl))) (boxesL_none (by kernel_rfl)) e_q61
theorem RX:FK GL:=fun _ _ h=>h.cons GL (by kernel_rfl) Wh.Gc ok_q61
def Js:iq:=⟨174,[.d (.lst an),.v I6],[.v I6],Wh.q40,Wh.q40'⟩
def C_q40:Cx:=⟨eB,[GL.entry],true,Gl⟩
def MI:b8:=kS ⟨[(5,.leaf I6),(0,.whole 950 an),(1,.leaf I6)],[(950,false,.rows an)]⟩ [((.exit 0),⟨[(1,.leaf I6)],[(950,false,.rows an)]⟩)] Wh.UU Wh.DH
def Tc:LT:=[(2,MI)]
theorem aa2:∀x,round C_q40 Tc (jo Tryz.f174 0) MI x=Wh.DH x:=by intro x;kernel_rfl
theorem e_q40:EV C_q40 Tc Tryz.f174 [.d (.lst an),.v I6] [.v I6] Wh.q40:=by intro xs;kernel_rfl
theorem ok_q40:CO Js:=con_ok (Ls:=[MI]) mixed (fe _ _) (RX _ Cf) Tryz.func174 (loopsL_cons (by kernel_rfl) (loopD_ok aa2) (loopsL_nil (by kernel_rfl))) (boxesL_none (by kernel_rfl)) e_q40
theorem fk_q40:FK Js:=fun _ _ h=>h.cons Js (by kernel_rfl) Wh.q40_v ok_q40
def Ka:iq:=⟨90,[.d bx,.v I6],[.v I6],Wh.q87,Wh.q87'⟩
def C_q87:Cx:=⟨eB,[Js.entry],true,Gl⟩
def lt_q87:LT:=[]
theorem e_q87:EV C_q87 lt_q87 Tryz.f90 [.d bx,.v I6] [.v I6] Wh.q87:=by intro xs;kernel_rfl
theorem ok_q87:CO Ka:=con_ok (Ls:=[]) mixed (fe _ _) (fk_q40 _ Cf) Tryz.func90 (loopsL_nil (by kernel_rfl)) (boxesL_none (by kernel_rfl)) e_q87
theorem fk_q87:FK Ka:=fun _ _ h=>h.cons Ka (by kernel_rfl) Wh.q87_v ok_q87
def Je:iq:=⟨175,[.d (.lst ct),.v I6],[.v I6],Wh.q26,Wh.q26'⟩
def C_q26:Cx:=⟨eB,[],true,Gl⟩
def MH:b8:=kS ⟨[(5,.leaf I6),(0,.whole 950 ct),(1,.leaf I6)],[(950,false,.rows ct)]⟩ [((.exit 0),⟨[(1,.leaf I6)],[(950,false,.rows ct)]⟩)] Wh.UL Wh.DD
def S6:LT:=[(2,MH)]
theorem aa1:∀x,round C_q26 S6 (jo Tryz.f175 0) MH x=Wh.DD x:=by intro x;kernel_rfl
theorem e_q26:EV C_q26 S6 Tryz.f175 [.d (.lst ct),.v I6] [.v I6] Wh.q26:=by intro xs;kernel_rfl
theorem ok_q26:CO Je:=con_ok (Ls:=[MH]) mixed (fe _ _) Cf Tryz.func175 (loopsL_cons (by kernel_rfl) (loopD_ok aa1) (loopsL_nil (by kernel_rfl))) (boxesL_none (by kernel_rfl)) e_q26
theorem fk_q26:FK Je:=fun _ _ h=>h.cons Je (by kernel_rfl) Wh.q26_v ok_q26
def JK:iq:=⟨91,[.d gv,.v I6],[.v I6],Wh.q60,Wh.q60'⟩
def C_q60:Cx:=⟨eB,[Je.entry],true,Gl⟩
def lt_q60:LT:=[]
theorem e_q60:EV C_q60 lt_q60 Tryz.f91 [.d gv,.v I6] [.v I6] Wh.q60:=by intro xs;kernel_rfl
theorem ok_q60:CO JK:=con_ok (Ls:=[]) mixed (fe _ _) (fk_q26 _ Cf) Tryz.func91 (loopsL_nil (by kernel_rfl)) (boxesL_none (by kernel_rfl)) e_q60
theorem fk_q60:FK JK:=fun _ _ h=>h.cons JK (by kernel_rfl) Wh.q60_v ok_q60
def I5:iq:=⟨92,[.d (.lst en),.v I6],[.v I6],Wh.q18,Wh.q18'⟩
def C_q18:Cx:=⟨eB,[],true,Gl⟩
def MG:b8:=kS ⟨[(5,.leaf I6),(0,.whole 950 en),(1,.leaf I6)],[(950,false,.rows en)]⟩ [((.exit 0),⟨[(1,.leaf I6)],[(950,false,.rows en)]⟩)] Wh.UH Wh.DA
def S3:LT:=[(2,MG)]
theorem aa0:∀x,round C_q18 S3 (jo Tryz.f92 0) MG x=Wh.DA x:=by intro x;kernel_rfl
theorem e_q18:EV C_q18 S3 Tryz.f92 [.d (.lst en),.v I6] [.v I6] Wh.q18:=by intro xs;kernel_rfl
theorem ok_q18:CO I5:=con_ok (Ls:=[MG]) mixed (fe _ _) Cf Tryz.func92 (loopsL_cons (by kernel_rfl) (loopD_ok aa0) (loopsL_nil (by kernel_rfl))) (boxesL_none (by kernel_rfl)) e_q18
theorem fk_q18:FK I5:=fun _ _ h=>h.cons I5 (by kernel_rfl) Wh.q18_v ok_q18
def Jf:iq:=⟨93,[.d (.lst fN),.v I6],[.v I6],Wh.q27,Wh.q27'⟩
def C_q27:Cx:=⟨eB,[],true,Gl⟩
def MJ:b8:=kS ⟨[(5,.leaf I6),(0,.whole 950 fN),(1,.leaf I6)],[(950,false,.rows fN)]⟩ [((.exit 0),⟨[(1,.leaf I6)],[(950,false,.rows fN)]⟩)] Wh.UM Wh.DE
def S7:LT:=[(2,MJ)]
theorem aa3:∀x,round C_q27 S7 (jo Tryz.f93 0) MJ x=Wh.DE x:=by intro x;kernel_rfl
theorem e_q27:EV C_q27 S7 Tryz.f93 [.d (.lst fN),.v I6] [.v I6] Wh.q27:=by intro xs;kernel_rfl
theorem ok_q27:CO Jf:=con_ok (Ls:=[MJ]) mixed (fe _ _) Cf Tryz.func93 (loopsL_cons (by kernel_rfl) (loopD_ok aa3) (loopsL_nil (by kernel_rfl))) (boxesL_none (by kernel_rfl)) e_q27
theorem fk_q27:FK Jf:=fun _ _ h=>h.cons Jf (by kernel_rfl) Wh.q27_v ok_q27
def Jg:iq:=⟨21,[.d cx,.v I6],[.v I6],Wh.CG,Wh.LB⟩
def C_q28:Cx:=⟨eB,[Jf.entry,I5.entry,JK.entry,Ka.entry],true,Gl⟩
def lt_q28:LT:=[]
theorem e_q28:EV C_q28 lt_q28 Tryz.f21 [.d cx,.v I6] [.v I6] Wh.CG:=by intro xs;kernel_rfl
theorem ok_q28:CO Jg:=con_ok (Ls:=[]) mixed (fe _ _) (fk_q27 _ (fk_q18 _ (fk_q60 _ (fk_q87 _ Cf)))) Tryz.func21 (loopsL_nil (by kernel_rfl)) (boxesL_none (by kernel_rfl)) e_q28
theorem fk_q28:FK Jg:=fun _ _ h=>h.cons Jg (by kernel_rfl) Wh.PZ ok_q28
def Jq:iq:=⟨176,[.v (.lst an),.v I6],[.v I6],Wh.q39,Wh.q39'⟩
def C_q39:Cx:=⟨eB,[GL.entry],false,Gl⟩
def MD:b8:=kS ⟨[(5,.leaf I6),(0,.leaf (.lst an)),(1,.leaf I6)],[]⟩ [(.ret,⟨[(4,.leaf I6)],[]⟩),((.exit 0),⟨[(1,.leaf I6)],[]⟩)] Wh.US Wh.DG
def Tb:LT:=[(2,MD)]
theorem aaY:∀x,round C_q39 Tb (jo Tryz.f176 0) MD x=Wh.DG x:=by intro x;kernel_rfl
theorem e_q39:EV C_q39 Tb Tryz.f176 [.v (.lst an),.v I6] [.v I6] Wh.q39:=by intro xs;kernel_rfl
theorem ok_q39:CO Jq:=con_ok (Ls:=[MD]) mixed (fe _ _) (RX _ gd) Tryz.func176 (loopsL_cons (by kernel_rfl) (loopD_ok aaY) (loopsL_nil (by kernel_rfl))) (boxesL_none (by kernel_rfl)) e_q39
theorem fk_q39:FK Jq:=fun _ _ h=>h.cons Jq (by kernel_rfl) Wh.q39_v ok_q39
def J_:iq:=⟨94,[.v bx,.v I6],[.v I6],Wh.q86,Wh.q86'⟩
def C_q86:Cx:=⟨eB,[Jq.entry],false,Gl⟩
def lt_q86:LT:=[]
theorem e_q86:EV C_q86 lt_q86 Tryz.f94 [.v bx,.v I6] [.v I6] Wh.q86:=by intro xs;kernel_rfl
theorem ok_q86:CO J_:=con_ok (Ls:=[]) mixed (fe _ _) (fk_q39 _ gd) Tryz.func94 (loopsL_nil (by kernel_rfl)) (boxesL_none (by kernel_rfl)) e_q86
theorem fk_q86:FK J_:=fun _ _ h=>h.cons J_ (by kernel_rfl) Wh.q86_v ok_q86
def Jb:iq:=⟨177,[.v (.lst ct),.v I6],[.v I6],Wh.q23,Wh.q23'⟩
def C_q23:Cx:=⟨eB,[],false,Gl⟩
def MC:b8:=kS ⟨[(5,.leaf I6),(0,.leaf (.lst ct)),(1,.leaf I6)],[]⟩ [(.ret,⟨[(4,.leaf I6)],[]⟩),((.exit 0),⟨[(1,.leaf I6)],[]⟩)] Wh.UJ Wh.DB
def S4:LT:=[(2,MC)]
theorem aaX:∀x,round C_q23 S4 (jo Tryz.f177 0) MC x=Wh.DB x:=by intro x;kernel_rfl
theorem e_q23:EV C_q23 S4 Tryz.f177 [.v (.lst ct),.v I6] [.v I6] Wh.q23:=by intro xs;kernel_rfl
theorem ok_q23:CO Jb:=con_ok (Ls:=[MC]) mixed (fe _ _) gd Tryz.func177 (loopsL_cons (by kernel_rfl) (loopD_ok aaX) (loopsL_nil (by kernel_rfl))) (boxesL_none (by kernel_rfl)) e_q23
theorem fk_q23:FK Jb:=fun _ _ h=>h.cons Jb (by kernel_rfl) Wh.q23_v ok_q23
def JI:iq:=⟨95,[.v gv,.v I6],[.v I6],Wh.q59,Wh.q59'⟩
def C_q59:Cx:=⟨eB,[Jb.entry],false,Gl⟩
def lt_q59:LT:=[]
theorem e_q59:EV C_q59 lt_q59 Tryz.f95 [.v gv,.v I6] [.v I6] Wh.q59:=by intro xs;kernel_rfl
theorem ok_q59:CO JI:=con_ok (Ls:=[]) mixed (fe _ _) (fk_q23 _ gd) Tryz.func95 (loopsL_nil (by kernel_rfl)) (boxesL_none (by kernel_rfl)) e_q59
theorem fk_q59:FK JI:=fun _ _ h=>h.cons JI (by kernel_rfl) Wh.q59_v ok_q59
def I4:iq:=⟨96,[.v (.lst en),.v I6],[.v I6],Wh.q17,Wh.q17'⟩
def C_q17:Cx:=⟨eB,[],false,Gl⟩
def MB:b8:=kS ⟨[(5,.leaf I6),(0,.leaf (.lst en)),(1,.leaf I6)],[]⟩ [(.ret,⟨[(4,.leaf I6)],[]⟩),((.exit 0),⟨[(1,.leaf I6)],[]⟩)] Wh.UG Wh.Dz
def S2:LT:=[(2,MB)]
theorem aaW:∀x,round C_q17 S2 (jo Tryz.f96 0) MB x=Wh.Dz x:=by intro x;kernel_rfl
theorem e_q17:EV C_q17 S2 Tryz.f96 [.v (.lst en),.v I6] [.v I6] Wh.q17:=by intro xs;kernel_rfl
theorem ok_q17:CO I4:=con_ok (Ls:=[MB]) mixed (fe _ _) gd Tryz.func96 (loopsL_cons (by kernel_rfl) (loopD_ok aaW) (loopsL_nil (by kernel_rfl))) (boxesL_none (by kernel_rfl)) e_q17
theorem fk_q17:FK I4:=fun _ _ h=>h.cons I4 (by kernel_rfl) Wh.q17_v ok_q17
def Jc:iq:=⟨97,[.v (.lst fN),.v I6],[.v I6],Wh.q24,Wh.q24'⟩
def C_q24:Cx:=⟨eB,[],false,Gl⟩
def ME:b8:=kS ⟨[(5,.leaf I6),(0,.leaf (.lst fN)),(1,.leaf I6)],[]⟩ [(.ret,⟨[(4,.leaf I6)],[]⟩),((.exit 0),⟨[(1,.leaf I6)],[]⟩)] Wh.UK Wh.DC
def S5:LT:=[(2,ME)]
theorem aaZ:∀x,round C_q24 S5 (jo Tryz.f97 0) ME x=Wh.DC x:=by intro x;kernel_rfl
theorem e_q24:EV C_q24 S5 Tryz.f97 [.v (.lst fN),.v I6] [.v I6] Wh.q24:=by intro xs;kernel_rfl
theorem ok_q24:CO Jc:=con_ok (Ls:=[ME]) mixed (fe _ _) gd Tryz.func97 (loopsL_cons (by kernel_rfl) (loopD_ok aaZ) (loopsL_nil (by kernel_rfl))) (boxesL_none (by kernel_rfl)) e_q24
theorem fk_q24:FK Jc:=fun _ _ h=>h.cons Jc (by kernel_rfl) Wh.q24_v ok_q24
def Jd:iq:=⟨22,[.v cx,.v I6],[.v I6],Wh.CF,Wh.q25'⟩
def C_q25:Cx:=⟨eB,[Jc.entry,I4.entry,JI.entry,J_.entry],false,Gl⟩
def lt_q25:LT:=[]
theorem e_q25:EV C_q25 lt_q25 Tryz.f22 [.v cx,.v I6] [.v I6] Wh.CF:=by intro xs;kernel_rfl
theorem ok_q25:CO Jd:=con_ok (Ls:=[]) mixed (fe _ _) (fk_q24 _ (fk_q17 _ (fk_q59 _ (fk_q86 _ gd)))) Tryz.func22 (loopsL_nil (by kernel_rfl)) (boxesL_none (by kernel_rfl)) e_q25
theorem fk_q25:FK Jd:=fun _ _ h=>h.cons Jd (by kernel_rfl) Wh.q25_v ok_q25
def K_q5:iq:=⟨4,[.v cx],[.v .bool],Wh.q5,Wh.q5'⟩
def C_q5:Cx:=⟨eB,[Jd.entry,Jg.entry,JH.entry,Ja.entry,Jh.entry,JR.entry,JN.entry],false,Gl⟩
def lt_q5:LT:=[]
theorem e_q5:EV C_q5 lt_q5 Tryz.f4 [.v cx] [.v .bool] Wh.q5:=by intro xs;kernel_rfl
theorem ok_q5:CO K_q5:=con_ok (Ls:=[]) mixed (fe _ _) (fk_q25 _ (fk_q28 _ (fk_q58 _ (fk_q22 _ (fk_q29 _ (fk_q68 _ (fk_q64 _ gd))))))) Tryz.func4 (loopsL_nil (by kernel_rfl)) (boxesL_none (by kernel_rfl)) e_q5
end
end Go.Proofs.AF
