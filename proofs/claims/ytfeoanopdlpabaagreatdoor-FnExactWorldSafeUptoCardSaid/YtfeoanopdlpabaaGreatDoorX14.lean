import Derived.Test.YtfeoanopdlpabaaGreatDoorX13
import Derived.Test.YtfeoanopdlpabaaGreatDoorProg
import Derived.KernelRfl
open Go Go.Ab
namespace Go.Proofs.BG
noncomputable section
def cr:List (Nat×TI):=[(2,⟨(.int .i64),0⟩),(3,⟨(.int .i64),0⟩),(4,⟨.bool,0⟩),(5,⟨(.int .u8),0⟩),(6,⟨(.int .u8),0⟩),(7,⟨Wq,1⟩),(8,⟨Wq,1⟩),(9,⟨.str,0⟩),(10,⟨.str,0⟩),(11,⟨.str,0⟩),(12,⟨(.int .u64),0⟩),(13,⟨Wr,0⟩),(14,⟨Wr,0⟩),(21,⟨(.int .i32),0⟩),(455,⟨(.int .i32),0⟩),(454,⟨(.int .i32),0⟩),(422,⟨(.ref (.int .u8)),0⟩),(452,⟨(.int .u8),0⟩),(451,⟨(.int .u8),0⟩),(345,⟨(.int .u32),0⟩),(118,⟨an,1⟩),(260,⟨an,1⟩),(22,⟨(.lst an),0⟩),(23,⟨fk,0⟩),(24,⟨fk,0⟩),(122,⟨ng,1⟩),(282,⟨ng,1⟩),(25,⟨(.lst ng),0⟩),(26,⟨n5,0⟩),(27,⟨n5,0⟩),(126,⟨nI,1⟩),(204,⟨nI,1⟩),(28,⟨(.lst nI),0⟩),(134,⟨r_,1⟩),(206,⟨r_,1⟩),(29,⟨(.lst r_),0⟩),(30,⟨nC,0⟩),(31,⟨nC,0⟩),(119,⟨an,1⟩),(34,⟨(.lst an),0⟩),(35,⟨fk,0⟩),(36,⟨fk,0⟩),(123,⟨ng,1⟩),(37,⟨(.lst ng),0⟩),(38,⟨n5,0⟩),(39,⟨n5,0⟩),(127,⟨nI,1⟩),(40,⟨(.lst nI),0⟩),(135,⟨r_,1⟩),(41,⟨(.lst r_),0⟩),(42,⟨nC,0⟩),(43,⟨nC,0⟩),(56,⟨(.lst (.int .i64)),0⟩),(57,⟨so,0⟩),(58,⟨so,0⟩),(320,⟨n4,0⟩),(340,⟨n4,0⟩),(59,⟨(.lst n4),0⟩),(60,⟨fT,0⟩),(61,⟨fT,0⟩),(62,⟨th,0⟩),(63,⟨th,0⟩),(64,⟨nc,0⟩),(65,⟨nc,0⟩),(66,⟨KR,1⟩),(67,⟨KR,1⟩),(70,⟨so,0⟩),(321,⟨n4,0⟩),(71,⟨(.lst n4),0⟩),(72,⟨fT,0⟩),(73,⟨fT,0⟩),(74,⟨th,0⟩),(75,⟨th,0⟩),(76,⟨nc,0⟩),(77,⟨nc,0⟩),(82,⟨KR,1⟩),(78,⟨(.lst KR),0⟩),(89,⟨(.lst nc),0⟩),(174,⟨r5,1⟩),(258,⟨r5,1⟩),(90,⟨(.lst r5),0⟩),(91,⟨gv,0⟩),(92,⟨gv,0⟩),(95,⟨(.lst nc),0⟩),(175,⟨r5,1⟩),(96,⟨(.lst r5),0⟩),(97,⟨gv,0⟩),(98,⟨gv,0⟩),(111,⟨(.lst .str),0⟩),(192,⟨PB,1⟩),(193,⟨PB,1⟩),(189,⟨(.lst PB),0⟩),(256,⟨(.lst (.int .u8)),0⟩),(314,⟨(.ref nC),0⟩),(331,⟨(.int .u64),0⟩),(332,⟨(.ref ng),0⟩),(357,⟨(.int .i64),0⟩),(366,⟨(.int .u64),0⟩),(369,⟨(.int .i64),0⟩),(375,⟨(.arr 24 (.int .u8)),0⟩),(379,⟨(.arr 8 (.int .u32)),0⟩),(380,⟨(.arr 64 (.int .u32)),0⟩),(399,⟨(.int .u64),0⟩),(403,⟨(.ref (.int .i64)),0⟩),(405,⟨(.lst (.int .u32)),0⟩),(416,⟨(.arr 20 (.int .u64)),0⟩),(417,⟨(.arr 65 (.int .u8)),0⟩),(425,⟨(.ref (.int .u64)),0⟩),(432,⟨Ey,1⟩),(433,⟨Ey,1⟩),(431,⟨(.ref Ey),0⟩),(440,⟨(.arr 32 (.int .u8)),0⟩),(441,⟨(.arr 64 (.int .u8)),0⟩),(442,⟨(.arr 256 (.int .u8)),0⟩),(443,⟨Wt,1⟩),(444,⟨Wt,1⟩)]
theorem tab_ok:cn (fun x=>(cK Tryz.prog x.2.t).1 x.1&&(!(Nat.beq x.2.e 1) || eqB Tryz.prog x.1)) cr=true:=by kernel_rfl
theorem ct (fns:List (Nat×List Ab.Mode×(List Arg→Option Res)))(dp:Bool):bH Tryz.prog ⟨cr,fns,dp,Gl⟩:=cxOk_of tab_ok
theorem mixed:Tryz.prog.follows .mixedOrders=true:=by kernel_rfl
abbrev FT:Type:=List (Nat×List Ab.Mode×(List Arg→Option Res))
abbrev FK (c:iq):Prop:=∀(fns:FT) {dp:Bool},dD Tryz.prog Gb ⟨cr,fns,dp,Gl⟩→dD Tryz.prog Gb ⟨cr,c.entry::fns,dp,Gl⟩
abbrev EV (C:Cx)(lt:List (Nat×b8))(f:Func)(ps:List PT)(ws:List Want)(g:gE ps→Option (jr ws×ij ps)):Prop:=∀xs,evT C lt f ps ws xs=g xs
abbrev CO (c:iq):Prop:=ConOk Tryz.prog Gb c
abbrev LT:Type:=List (Nat×b8)
def mw:LT:=[]
abbrev z0:Nat:=500000000
abbrev z1:Nat:=500000001
abbrev z2:Nat:=500000002
abbrev z3:Nat:=500000003
abbrev I6:Ty:=.int .i64
abbrev I8:Ty:=.int .u8
abbrev I3:Ty:=.int .u32
theorem cx:dD Tryz.prog Gb ⟨cr,[],false,Gl⟩:=dD.nil cr false gl_ok
def LS:iq:=⟨229,[.v an,.v I6],[.v I6],Wh.GS,Wh.TS⟩
def C_q128:Cx:=⟨cr,[],false,Gl⟩
theorem e_q128:EV C_q128 mw Tryz.f229 [.v an,.v I6] [.v I6] Wh.GS:=by intro xs;kernel_rfl
theorem agp:CO LS:=con_ok (Ls:=[]) mixed (ct _ _) cx Tryz.func229 loopsL_nil boxesL_none e_q128
theorem aej:FK LS:=fun _ _ h=>h.cons LS (by kernel_rfl) Wh.TT agp
def JD:iq:=⟨125,[.v (.lst an),.v I6],[.v I6],Wh.q99,Wh.Pj⟩
def C_q99:Cx:=⟨cr,[LS.entry],false,Gl⟩
def QN:b8:=kS ⟨[(5,.leaf I6),(1,.leaf I6),(0,.leaf (.lst an))],[]⟩ [(.ret,⟨[(4,.leaf I6)],[]⟩),((.exit 0),⟨[(1,.leaf I6)],[]⟩)] Wh.Wc Wh.FU
def Z0:LT:=[(5,QN)]
theorem ajO:∀x,round C_q99 Z0 (jo Tryz.f125 0) QN x=Wh.FU x:=by intro x;kernel_rfl
theorem e_q99:EV C_q99 Z0 Tryz.f125 [.v (.lst an),.v I6] [.v I6] Wh.q99:=by intro xs;kernel_rfl
theorem ok_q99:CO JD:=con_ok (Ls:=[QN]) mixed (ct _ _) (aej _ cx) Tryz.func125 (loopsC (loopD_ok ajO) loopsL_nil) boxesL_none e_q99
theorem X9:FK JD:=fun _ _ h=>h.cons JD (by kernel_rfl) Wh.We ok_q99
def Mf:iq:=⟨54,[.v fk,.v I6],[.v I6],Wh.G7,Wh.Uy⟩
def C_q159:Cx:=⟨cr,[JD.entry],false,Gl⟩
theorem e_q159:EV C_q159 mw Tryz.f54 [.v fk,.v I6] [.v I6] Wh.G7:=by intro xs;kernel_rfl
theorem agU:CO Mf:=con_ok (Ls:=[]) mixed (ct _ _) (X9 _ cx) Tryz.func54 loopsL_nil boxesL_none e_q159
theorem aeE:FK Mf:=fun _ _ h=>h.cons Mf (by kernel_rfl) Wh.abj agU
def Nc:iq:=⟨149,[.v (.lst ng),.v I6],[.v I6],Wh.q64,Wh.q64'⟩
def C_q64:Cx:=⟨cr,[],false,Gl⟩
theorem e_q64:EV C_q64 mw Tryz.f149 [.v (.lst ng),.v I6] [.v I6] Wh.q64:=by intro xs;kernel_rfl
theorem ok_q64:CO Nc:=con_ok (Ls:=[]) mixed (ct _ _) cx Tryz.func149 loopsL_nil boxesL_none e_q64
theorem fk_q64:FK Nc:=fun _ _ h=>h.cons Nc (by kernel_rfl) Wh.q64_v ok_q64
def LV:iq:=⟨55,[.v n5,.v I6],[.v I6],Wh.GV,Wh.TW⟩
def C_q130:Cx:=⟨cr,[Nc.entry],false,Gl⟩
theorem e_q130:EV C_q130 mw Tryz.f55 [.v n5,.v I6] [.v I6] Wh.GV:=by intro xs;kernel_rfl
theorem agr:CO LV:=con_ok (Ls:=[]) mixed (ct _ _) (fk_q64 _ cx) Tryz.func55 loopsL_nil boxesL_none e_q130
theorem ael:FK LV:=fun _ _ h=>h.cons LV (by kernel_rfl) Wh.aaT agr
def MK:iq:=⟨56,[.v (.lst nI),.v I6],[.v I6],Wh.q33,Wh.q33'⟩
def C_q33:Cx:=⟨cr,[],false,Gl⟩
theorem e_q33:EV C_q33 mw Tryz.f56 [.v (.lst nI),.v I6] [.v I6] Wh.q33:=by intro xs;kernel_rfl
theorem ok_q33:CO MK:=con_ok (Ls:=[]) mixed (ct _ _) cx Tryz.func56 loopsL_nil boxesL_none e_q33
theorem fk_q33:FK MK:=fun _ _ h=>h.cons MK (by kernel_rfl) Wh.q33_v ok_q33
def Nf:iq:=⟨57,[.v (.lst r_),.v I6],[.v I6],Wh.q66,Wh.q66'⟩
def C_q66:Cx:=⟨cr,[],false,Gl⟩
theorem e_q66:EV C_q66 mw Tryz.f57 [.v (.lst r_),.v I6] [.v I6] Wh.q66:=by intro xs;kernel_rfl
theorem ok_q66:CO Nf:=con_ok (Ls:=[]) mixed (ct _ _) cx Tryz.func57 loopsL_nil boxesL_none e_q66
theorem fk_q66:FK Nf:=fun _ _ h=>h.cons Nf (by kernel_rfl) Wh.q66_v ok_q66
def Ng:iq:=⟨14,[.v nC,.v I6],[.v I6],Wh.q67,Wh.q67'⟩
def C_q67:Cx:=⟨cr,[Nf.entry,MK.entry,LV.entry,Mf.entry],false,Gl⟩
theorem e_q67:EV C_q67 mw Tryz.f14 [.v nC,.v I6] [.v I6] Wh.q67:=by intro xs;kernel_rfl
theorem ok_q67:CO Ng:=con_ok (Ls:=[]) mixed (ct _ _) (fk_q66 _ (fk_q33 _ (ael _ (aeE _ cx)))) Tryz.func14 loopsL_nil boxesL_none e_q67
theorem fk_q67:FK Ng:=fun _ _ h=>h.cons Ng (by kernel_rfl) Wh.q67_v ok_q67
def LW:iq:=⟨232,[.v an],[.v an],Wh.IF,Wh.TY⟩
def C_q132:Cx:=⟨cr,[],false,Gl⟩
theorem e_q132:EV C_q132 mw Tryz.f232 [.v an] [.v an] Wh.IF:=by intro xs;kernel_rfl
theorem agt:CO LW:=con_ok (Ls:=[]) mixed (ct _ _) cx Tryz.func232 loopsL_nil boxesL_none e_q132
theorem aem:FK LW:=fun _ _ h=>h.cons LW (by kernel_rfl) Wh.aaV agt
def I7:iq:=⟨129,[.v (.lst an)],[.v (.own an)],Wh.E5,Wh.Ow⟩
def WG:Cx:=⟨cr,[LW.entry],false,Gl⟩
def QX:b8:=kS ⟨[(4,.leaf I6),(0,.leaf (.lst an)),(3,.whole z0 an)],[(z0,false,.rows an)]⟩ [((.exit 0),⟨[(3,.whole z0 an)],[(z0,false,.rows an)]⟩)] Wh.aap Wh.E6
def Y3:LT:=[(3,QX)]
theorem ajV:∀x,round WG Y3 (jo Tryz.f129 0) QX x=Wh.E6 x:=by intro x;kernel_rfl
theorem e_q102:EV WG Y3 Tryz.f129 [.v (.lst an)] [.v (.own an)] Wh.E5:=by intro xs;kernel_rfl
theorem af0:CO I7:=con_ok (Ls:=[QX]) mixed (ct _ _) (aem _ cx) Tryz.func129 (loopsC (loopD_ok ajV) loopsL_nil) boxesL_none e_q102
theorem XD:FK I7:=fun _ _ h=>h.cons I7 (by kernel_rfl) Wh.Tj af0
def Mh:iq:=⟨69,[.v fk],[.v (.pair I6 (.pair (.own an) .unit))],Wh.G_,Wh.UD⟩
def C_q161:Cx:=⟨cr,[I7.entry],false,Gl⟩
theorem e_q161:EV C_q161 mw Tryz.f69 [.v fk] [.v (.pair I6 (.pair (.own an) .unit))] Wh.G_:=by intro xs;kernel_rfl
theorem agW:CO Mh:=con_ok (Ls:=[]) mixed (ct _ _) (XD _ cx) Tryz.func69 loopsL_nil boxesL_none e_q161
theorem aeG:FK Mh:=fun _ _ h=>h.cons Mh (by kernel_rfl) Wh.abl agW
def Lw:iq:=⟨259,[.v ng],[.v ng],Wh.ID,Wh.Th⟩
def C_q101:Cx:=⟨cr,[],false,Gl⟩
theorem e_q101:EV C_q101 mw Tryz.f259 [.v ng] [.v ng] Wh.ID:=by intro xs;kernel_rfl
theorem afZ:CO Lw:=con_ok (Ls:=[]) mixed (ct _ _) cx Tryz.func259 loopsL_nil boxesL_none e_q101
theorem ad1:FK Lw:=fun _ _ h=>h.cons Lw (by kernel_rfl) Wh.aao afZ
def Nl:iq:=⟨153,[.v (.lst ng)],[.v (.own ng)],Wh.q71,Wh.q71'⟩
def C_q71:Cx:=⟨cr,[Lw.entry],false,Gl⟩
def QV:b8:=kS ⟨[(4,.leaf I6),(0,.leaf (.lst ng)),(3,.whole z0 ng)],[(z0,false,.rows ng)]⟩ [((.exit 0),⟨[(3,.whole z0 ng)],[(z0,false,.rows ng)]⟩)] Wh.acg Wh.FJ
def ZS:LT:=[(3,QV)]
theorem ajT:∀x,round C_q71 ZS (jo Tryz.f153 0) QV x=Wh.FJ x:=by intro x;kernel_rfl
theorem e_q71:EV C_q71 ZS Tryz.f153 [.v (.lst ng)] [.v (.own ng)] Wh.q71:=by intro xs;kernel_rfl
theorem ok_q71:CO Nl:=con_ok (Ls:=[QV]) mixed (ct _ _) (ad1 _ cx) Tryz.func153 (loopsC (loopD_ok ajT) loopsL_nil) boxesL_none e_q71
theorem fk_q71:FK Nl:=fun _ _ h=>h.cons Nl (by kernel_rfl) Wh.q71_v ok_q71
def LY:iq:=⟨70,[.v n5],[.v (.pair (.own ng) (.pair I6 .unit))],Wh.GX,Wh.T0⟩
def C_q134:Cx:=⟨cr,[Nl.entry],false,Gl⟩
theorem e_q134:EV C_q134 mw Tryz.f70 [.v n5] [.v (.pair (.own ng) (.pair I6 .unit))] Wh.GX:=by intro xs;kernel_rfl
theorem agv:CO LY:=con_ok (Ls:=[]) mixed (ct _ _) (fk_q71 _ cx) Tryz.func70 loopsL_nil boxesL_none e_q134
theorem aeo:FK LY:=fun _ _ h=>h.cons LY (by kernel_rfl) Wh.aaX agv
def Ni:iq:=⟨154,[.v nI],[.v nI],Wh.q69,Wh.q69'⟩
def C_q69:Cx:=⟨cr,[],false,Gl⟩
theorem e_q69:EV C_q69 mw Tryz.f154 [.v nI] [.v nI] Wh.q69:=by intro xs;kernel_rfl
theorem ok_q69:CO Ni:=con_ok (Ls:=[]) mixed (ct _ _) cx Tryz.func154 loopsL_nil boxesL_none e_q69
theorem fk_q69:FK Ni:=fun _ _ h=>h.cons Ni (by kernel_rfl) Wh.q69_v ok_q69
def MO:iq:=⟨71,[.v (.lst nI)],[.v (.own nI)],Wh.q37,Wh.q37'⟩
def C_q37:Cx:=⟨cr,[Ni.entry],false,Gl⟩
def QS:b8:=kS ⟨[(4,.leaf I6),(0,.leaf (.lst nI)),(3,.whole z0 nI)],[(z0,false,.rows nI)]⟩ [((.exit 0),⟨[(3,.whole z0 nI)],[(z0,false,.rows nI)]⟩)] Wh.abT Wh.FB
def ZJ:LT:=[(3,QS)]
theorem ajQ:∀x,round C_q37 ZJ (jo Tryz.f71 0) QS x=Wh.FB x:=by intro x;kernel_rfl
theorem e_q37:EV C_q37 ZJ Tryz.f71 [.v (.lst nI)] [.v (.own nI)] Wh.q37:=by intro xs;kernel_rfl
theorem ok_q37:CO MO:=con_ok (Ls:=[QS]) mixed (ct _ _) (fk_q69 _ cx) Tryz.func71 (loopsC (loopD_ok ajQ) loopsL_nil) boxesL_none e_q37
theorem fk_q37:FK MO:=fun _ _ h=>h.cons MO (by kernel_rfl) Wh.q37_v ok_q37
def Lx:iq:=⟨155,[.v r_],[.v r_],Wh.IE,Wh.Tk⟩
def C_q103:Cx:=⟨cr,[],false,Gl⟩
theorem e_q103:EV C_q103 mw Tryz.f155 [.v r_] [.v r_] Wh.IE:=by intro xs;kernel_rfl
theorem af1:CO Lx:=con_ok (Ls:=[]) mixed (ct _ _) cx Tryz.func155 loopsL_nil boxesL_none e_q103
theorem ad2:FK Lx:=fun _ _ h=>h.cons Lx (by kernel_rfl) Wh.aaq af1
def No:iq:=⟨72,[.v (.lst r_)],[.v (.own r_)],Wh.q73,Wh.q73'⟩
def C_q73:Cx:=⟨cr,[Lx.entry],false,Gl⟩
def QZ:b8:=kS ⟨[(4,.leaf I6),(0,.leaf (.lst r_)),(3,.whole z0 r_)],[(z0,false,.rows r_)]⟩ [((.exit 0),⟨[(3,.whole z0 r_)],[(z0,false,.rows r_)]⟩)] Wh.ach Wh.FL
def ZT:LT:=[(3,QZ)]
theorem ajX:∀x,round C_q73 ZT (jo Tryz.f72 0) QZ x=Wh.FL x:=by intro x;kernel_rfl
theorem e_q73:EV C_q73 ZT Tryz.f72 [.v (.lst r_)] [.v (.own r_)] Wh.q73:=by intro xs;kernel_rfl
theorem ok_q73:CO No:=con_ok (Ls:=[QZ]) mixed (ct _ _) (ad2 _ cx) Tryz.func72 (loopsC (loopD_ok ajX) loopsL_nil) boxesL_none e_q73
theorem fk_q73:FK No:=fun _ _ h=>h.cons No (by kernel_rfl) Wh.q73_v ok_q73
def Np:iq:=⟨16,[.v nC],[.v (.pair .bool (.pair I6 (.pair .str (.pair (.pair I6 (.pair (.own an) .unit)) (.pair (.pair (.own ng) (.pair I6 .unit)) (.pair (.own nI) (.pair (.own r_) .unit)))))))],Wh.q74,Wh.q74'⟩
def C_q74:Cx:=⟨cr,[No.entry,MO.entry,LY.entry,Mh.entry],false,Gl⟩
theorem e_q74:EV C_q74 mw Tryz.f16 [.v nC] [.v (.pair .bool (.pair I6 (.pair .str (.pair (.pair I6 (.pair (.own an) .unit)) (.pair (.pair (.own ng) (.pair I6 .unit)) (.pair (.own nI) (.pair (.own r_) .unit)))))))] Wh.q74:=by intro xs;kernel_rfl
theorem ok_q74:CO Np:=con_ok (Ls:=[]) mixed (ct _ _) (fk_q73 _ (fk_q37 _ (aeo _ (aeG _ cx)))) Tryz.func16 loopsL_nil boxesL_none e_q74
theorem fk_q74:FK Np:=fun _ _ h=>h.cons Np (by kernel_rfl) Wh.q74_v ok_q74
def zV:iq:=⟨58,[.v I6,.v I6,.v I6],[.v .bool],Wh.xe,Wh.nW⟩
def C_q181:Cx:=⟨cr,[],false,Gl⟩
theorem e_q181:EV C_q181 mw Tryz.f58 [.v I6,.v I6,.v I6] [.v .bool] Wh.xe:=by intro xs;kernel_rfl
theorem ahf:CO zV:=con_ok (Ls:=[]) mixed (ct _ _) cx Tryz.func58 loopsL_nil boxesL_none e_q181
theorem At:FK zV:=fun _ _ h=>h.cons zV (by kernel_rfl) Wh.zI ahf
def Jf:iq:=⟨178,[.v .str,.v I6,.v I8],[.v I6],Wh.zR,Wh.Kj⟩
def WT:Cx:=⟨cr,[],false,Gl⟩
def RL:b8:=kS ⟨[(7,.leaf I6),(2,.leaf I8),(0,.leaf .str)],[]⟩ [(.ret,⟨[(6,.leaf I6)],[]⟩),((.exit 0),⟨[],[]⟩)] Wh.aa8 Wh.CS
def Zf:LT:=[(2,RL)]
theorem akI:∀x,round WT Zf (jo Tryz.f178 0) RL x=Wh.CS x:=by intro x;kernel_rfl
theorem e_q142:EV WT Zf Tryz.f178 [.v .str,.v I6,.v I8] [.v I6] Wh.zR:=by intro xs;kernel_rfl
theorem agD:CO Jf:=con_ok (Ls:=[RL]) mixed (ct _ _) cx Tryz.func178 (loopsC (loopD_ok akI) loopsL_nil) boxesL_none e_q142
theorem XL:FK Jf:=fun _ _ h=>h.cons Jf (by kernel_rfl) Wh.CT agD
def Jq:iq:=⟨180,[.v .str],[.v I6],Wh.Br,Wh.Kx⟩
def Xa:Cx:=⟨cr,[zV.entry],false,Gl⟩
def RI:b8:=kS ⟨[(4,.leaf I6),(0,.leaf .str),(3,.leaf I6)],[]⟩ [(.ret,⟨[(2,.leaf I6)],[]⟩),((.exit 0),⟨[(3,.leaf I6)],[]⟩)] Wh.abD Wh.Fy
def Zw:LT:=[(5,RI)]
theorem akG:∀x,round Xa Zw (jo Tryz.f180 0) RI x=Wh.Fy x:=by intro x;kernel_rfl
theorem e_q175:EV Xa Zw Tryz.f180 [.v .str] [.v I6] Wh.Br:=by intro xs;kernel_rfl
theorem ag_:CO Jq:=con_ok (Ls:=[RI]) mixed (ct _ _) (At _ cx) Tryz.func180 (loopsC (loopD_ok akG) loopsL_nil) boxesL_none e_q175
theorem XW:FK Jq:=fun _ _ h=>h.cons Jq (by kernel_rfl) Wh.Hj ag_
def Jo:iq:=⟨189,[.v I6],[.v .str],Wh.CY,Wh.Ci⟩
def I4 (g:((Int))→Option (((List UInt8))×(Unit)))(g':((Int))→((List UInt8))×(Unit)):iq:=⟨189,[.v I6],[.v .str],g,g'⟩
def C_q169 (g:((Int))→Option (((List UInt8))×(Unit)))(g':((Int))→((List UInt8))×(Unit)):Cx:=⟨cr,[(I4 g g').entry],false,Gl⟩
theorem e_q169 (g:((Int))→Option (((List UInt8))×(Unit)))(g':((Int))→((List UInt8))×(Unit)):∀xs,evT (C_q169 g g') mw Tryz.f189 [.v I6] [.v .str] xs=Wh.q22 g g' xs:=by intro xs;kernel_rfl
theorem s_q169 (g:((Int))→Option (((List UInt8))×(Unit)))(g':((Int))→((List UInt8))×(Unit))(hv:∀x y,g x=some y→g' x=y)(h:CO (I4 g g')):CO (I4 (Wh.q22 g g') (fun x=>match Wh.q22 g g' x with | some y=>y|none=>default)):=con_ok (Ls:=[]) mixed (ct _ _) (dD.cons cx (I4 g g') (by kernel_rfl) hv h) Tryz.func189 loopsL_nil boxesL_none (e_q169 g g')
theorem n_q169 (n:Nat):CO (I4 (Wh.Bn n) (fun x=>match Wh.Bn n x with | some y=>y|none=>default)):=by
 induction n with
 |zero=>intro xs y h;exact absurd (show none=some y from h) (by simp)
 |succ n ih=>
  rw[Wh.UP n]
  exact s_q169 _ _ (fun x y h=>by simp only[h]) ih
theorem ag4:CO Jo:=n_q169 20
theorem XU:FK Jo:=fun _ _ h=>h.cons Jo (by kernel_rfl) Wh.OY ag4
def Ny:iq:=⟨423,[.v .str],[.v (.own I8)],Wh.q83,Wh.q83'⟩
def P5:Cx:=⟨cr,[],false,Gl⟩
def Rx:b8:=kS ⟨[(3,.whole z0 I8),(0,.leaf .str)],[(z0,false,.rows I8)]⟩ [((.exit 0),⟨[(3,.whole z0 I8),(0,.leaf .str)],[(z0,false,.rows I8)]⟩)] Wh.acq Wh.FO
def Ry:b8:=kS ⟨[(5,.leaf I6),(4,.leaf I6),(3,.whole z0 I8)],[(z0,false,.rows I8)]⟩ [((.exit 2),⟨[(3,.whole z0 I8)],[(z0,false,.rows I8)]⟩)] Wh.acr Wh.HC
def SX:LT:=[(2,Rx),(6,Ry)]
theorem akv:∀x,round P5 SX (jo Tryz.f423 0) Rx x=Wh.FO x:=by intro x;kernel_rfl
theorem akw:∀x,round P5 SX (jo Tryz.f423 1) Ry x=Wh.HC x:=by intro x;kernel_rfl
theorem e_q83:EV P5 SX Tryz.f423 [.v .str] [.v (.own I8)] Wh.q83:=by intro xs;kernel_rfl
theorem ok_q83:CO Ny:=con_ok (Ls:=[Rx,Ry]) mixed (ct _ _) cx Tryz.func423 (loopsC (loopD_ok akv) (loopsC (loopD_ok akw) loopsL_nil)) boxesL_none e_q83
theorem fk_q83:FK Ny:=fun _ _ h=>h.cons Ny (by kernel_rfl) Wh.q83_v ok_q83
def Je:iq:=⟨449,[.v I3,.v I6],[.v I3],Wh.yO,Wh.z_⟩
def C_q139:Cx:=⟨cr,[],false,Gl⟩
theorem e_q139:EV C_q139 mw Tryz.f449 [.v I3,.v I6] [.v I3] Wh.yO:=by intro xs;kernel_rfl
theorem agA:CO Je:=con_ok (Ls:=[]) mixed (ct _ _) cx Tryz.func449 loopsL_nil boxesL_none e_q139
theorem XK:FK Je:=fun _ _ h=>h.cons Je (by kernel_rfl) Wh.q139_v agA
def LK:iq:=⟨447,[.v (.lst I8)],[.v (.own I3)],Wh.GK,Wh.TD⟩
def PY:Cx:=⟨cr,[Je.entry],false,Gl⟩
def RB:b8:=kS ⟨[(4,.leaf I6),(0,.leaf (.lst I8)),(3,.whole z0 I3)],[(z0,false,.rows I3)]⟩ [((.exit 0),⟨[(3,.whole z0 I3)],[(z0,false,.rows I3)]⟩)] Wh.aaG Wh.GL
def RC:b8:=kS ⟨[(5,.leaf I6),(3,.whole z0 I3)],[(z0,false,.rows I3)]⟩ [((.exit 2),⟨[(3,.whole z0 I3)],[(z0,false,.rows I3)]⟩)] Wh.aaH Wh.GM
def SP:LT:=[(3,RB),(7,RC)]
theorem akz:∀x,round PY SP (jo Tryz.f447 0) RB x=Wh.GL x:=by intro x;kernel_rfl
theorem akA:∀x,round PY SP (jo Tryz.f447 1) RC x=Wh.GM x:=by intro x;kernel_rfl
theorem e_q115:EV PY SP Tryz.f447 [.v (.lst I8)] [.v (.own I3)] Wh.GK:=by intro xs;kernel_rfl
theorem agb:CO LK:=con_ok (Ls:=[RB,RC]) mixed (ct _ _) (XK _ cx) Tryz.func447 (loopsC (loopD_ok akz) (loopsC (loopD_ok akA) loopsL_nil)) boxesL_none e_q115
theorem aec:FK LK:=fun _ _ h=>h.cons LK (by kernel_rfl) Wh.aaI agb
def Nx:iq:=⟨448,[],[.v (.own I3)],Wh.q82,Wh.q82'⟩
def C_q82:Cx:=⟨cr,[],false,Gl⟩
theorem e_q82:EV C_q82 mw Tryz.f448 [] [.v (.own I3)] Wh.q82:=by intro xs;kernel_rfl
theorem ok_q82:CO Nx:=con_ok (Ls:=[]) mixed (ct _ _) cx Tryz.func448 loopsL_nil boxesL_none e_q82
theorem fk_q82:FK Nx:=fun _ _ h=>h.cons Nx (by kernel_rfl) Wh.q82_v ok_q82
def LJ:iq:=⟨424,[.v (.lst I3),.v (.lst I8)],[.v (.own I3)],Wh.GI,Wh.Tw⟩
def Lm:Cx:=⟨cr,[Je.entry,Nx.entry,LK.entry],false,Gl⟩
def Rt:b8:=kS ⟨[(7,.whole z0 I3),(8,.leaf I6),(5,.whole z1 I3),(6,.whole z2 I3),(0,.leaf (.lst I3))],[(z0,false,.rows I3),(z1,false,.rows I3),(z2,false,.rows I3)]⟩ [((.exit 0),⟨[(7,.whole z0 I3),(0,.leaf (.lst I3))],[(z0,false,.rows I3)]⟩)] Wh.aaD Wh.GJ
def Ru:b8:=kS ⟨[(14,.leaf I6),(7,.whole z0 I3),(5,.whole z1 I3),(6,.whole z2 I3),(0,.leaf (.lst I3)),(8,.leaf I6),(13,.leaf I3),(12,.leaf I3),(11,.leaf I3)],[(z0,false,.rows I3),(z1,false,.rows I3),(z2,false,.rows I3)]⟩ [((.exit 2),⟨[(7,.whole z0 I3),(5,.whole z1 I3),(6,.whole z2 I3),(0,.leaf (.lst I3)),(8,.leaf I6),(13,.leaf I3),(12,.leaf I3),(11,.leaf I3)],[(z0,false,.rows I3),(z1,false,.rows I3),(z2,false,.rows I3)]⟩)] Wh.TA Wh.Kc
def Rv:b8:=kS ⟨[(16,.leaf I6),(7,.whole z0 I3),(0,.leaf (.lst I3)),(15,.whole z1 I3)],[(z0,false,.rows I3),(z1,false,.rows I3)]⟩ [((.exit 4),⟨[(15,.whole z0 I3)],[(z0,false,.rows I3)]⟩)] Wh.aaE Wh.Kd
def Og:LT:=[(5,Rt),(13,Ru),(20,Rv)]
theorem akr:∀x,round Lm Og (jo Tryz.f424 0) Rt x=Wh.GJ x:=by intro x;kernel_rfl
theorem aks:∀x,round Lm Og (jo Tryz.f424 1) Ru x=Wh.Kc x:=by intro x;kernel_rfl
theorem akt:∀x,round Lm Og (jo Tryz.f424 2) Rv x=Wh.Kd x:=by intro x;kernel_rfl
theorem e_q113:EV Lm Og Tryz.f424 [.v (.lst I3),.v (.lst I8)] [.v (.own I3)] Wh.GI:=by intro xs;kernel_rfl
theorem aga:CO LJ:=con_ok (Ls:=[Rt,Ru,Rv]) mixed (ct _ _) (XK _ (fk_q82 _ (aec _ cx))) Tryz.func424 (loopsC (loopD_ok akr) (loopsC (loopD_ok aks) (loopsC (loopD_ok akt) loopsL_nil))) boxesL_none e_q113
theorem aeb:FK LJ:=fun _ _ h=>h.cons LJ (by kernel_rfl) Wh.aaF aga
def Mo:iq:=⟨375,[.v .str],[.v .str],Wh.Hh,Wh.US⟩
def P0:Cx:=⟨cr,[LJ.entry,Ny.entry],false,Gl⟩
def Rz:b8:=kS ⟨[(5,.leaf I6),(4,.whole z0 I8),(3,.whole z1 I3)],[(z0,false,.rows I8),(z1,false,.rows I3)]⟩ [((.exit 0),⟨[(3,.whole z0 I3)],[(z0,false,.rows I3)]⟩)] Wh.abw Wh.Ft
def RA:b8:=kS ⟨[(7,.leaf I6),(3,.whole z0 I3),(6,.whole z1 I8)],[(z0,false,.rows I3),(z1,false,.rows I8)]⟩ [((.exit 2),⟨[(6,.whole z0 I8)],[(z0,false,.rows I8)]⟩)] Wh.abx Wh.Kr
def SR:LT:=[(4,Rz),(9,RA)]
theorem akx:∀x,round P0 SR (jo Tryz.f375 0) Rz x=Wh.Ft x:=by intro x;kernel_rfl
theorem aky:∀x,round P0 SR (jo Tryz.f375 1) RA x=Wh.Kr x:=by intro x;kernel_rfl
theorem e_q171:EV P0 SR Tryz.f375 [.v .str] [.v .str] Wh.Hh:=by intro xs;kernel_rfl
theorem ag6:CO Mo:=con_ok (Ls:=[Rz,RA]) mixed (ct _ _) (aeb _ (fk_q83 _ cx)) Tryz.func375 (loopsC (loopD_ok akx) (loopsC (loopD_ok aky) loopsL_nil)) boxesL_none e_q171
theorem aeM:FK Mo:=fun _ _ h=>h.cons Mo (by kernel_rfl) Wh.aby ag6
def Mn:iq:=⟨374,[.v .str],[.v .str],Wh.Fq,Wh.OZ⟩
def W7:Cx:=⟨cr,[],false,Gl⟩
def Rw:b8:=kS ⟨[(4,.leaf I6),(0,.leaf .str),(3,.whole z0 I8)],[(z0,false,.rows I8)]⟩ [((.exit 0),⟨[(3,.whole z0 I8)],[(z0,false,.rows I8)]⟩)] Wh.abv Wh.Fs
def Zr:LT:=[(3,Rw)]
theorem aku:∀x,round W7 Zr (jo Tryz.f374 0) Rw x=Wh.Fs x:=by intro x;kernel_rfl
theorem e_q170:EV W7 Zr Tryz.f374 [.v .str] [.v .str] Wh.Fq:=by intro xs;kernel_rfl
theorem ag5:CO Mn:=con_ok (Ls:=[Rw]) mixed (ct _ _) cx Tryz.func374 (loopsC (loopD_ok aku) loopsL_nil) boxesL_none e_q170
theorem aeL:FK Mn:=fun _ _ h=>h.cons Mn (by kernel_rfl) Wh.UR ag5
def LB:iq:=⟨328,[.v .str],[.v .str],Wh.GD,Wh.E8⟩
def C_q107:Cx:=⟨cr,[Mn.entry,Mo.entry],false,Gl⟩
theorem e_q107:EV C_q107 mw Tryz.f328 [.v .str] [.v .str] Wh.GD:=by intro xs;kernel_rfl
theorem af5:CO LB:=con_ok (Ls:=[]) mixed (ct _ _) (aeL _ (aeM _ cx)) Tryz.func328 loopsL_nil boxesL_none e_q107
theorem ad6:FK LB:=fun _ _ h=>h.cons LB (by kernel_rfl) Wh.aau af5
def L6:iq:=⟨258,[.v I6,.v .str],[.v .str],Wh.GZ,Wh.Uf⟩
def C_q143:Cx:=⟨cr,[LB.entry,Jo.entry],false,Gl⟩
theorem e_q143:EV C_q143 mw Tryz.f258 [.v I6,.v .str] [.v .str] Wh.GZ:=by intro xs;kernel_rfl
theorem agE:CO L6:=con_ok (Ls:=[]) mixed (ct _ _) (ad6 _ (XU _ cx)) Tryz.func258 loopsL_nil boxesL_none e_q143
theorem aeu:FK L6:=fun _ _ h=>h.cons L6 (by kernel_rfl) Wh.Ug agE
def L7:iq:=⟨150,[.v .str,.v I6,.v I6],[.v .str,.v I6],Wh.DO,Wh.Uh⟩
def C_q144:Cx:=⟨cr,[L6.entry,zV.entry,Jq.entry,Jf.entry],false,Gl⟩
theorem e_q144:EV C_q144 mw Tryz.f150 [.v .str,.v I6,.v I6] [.v .str,.v I6] Wh.DO:=by intro xs;kernel_rfl
theorem agF:CO L7:=con_ok (Ls:=[]) mixed (ct _ _) (aeu _ (At _ (XW _ (XL _ cx)))) Tryz.func150 loopsL_nil boxesL_none e_q144
theorem aev:FK L7:=fun _ _ h=>h.cons L7 (by kernel_rfl) Wh.Ui agF
def HZ:iq:=⟨60,[.v .str],[.v (.own .str),.v I6],Wh.Ch,Wh.Kk⟩
def WU:Cx:=⟨cr,[L7.entry],false,Gl⟩
def RM:b8:=kS ⟨[(5,.leaf I6),(4,.whole z0 .str),(0,.leaf .str)],[(z0,false,.rows .str)]⟩ [(.ret,⟨[(2,.whole z0 .str),(3,.leaf I6)],[(z0,false,.rows .str)]⟩)] Wh.aa9 Wh.Fg
def Zg:LT:=[(3,RM)]
theorem akJ:∀x,round WU Zg (jo Tryz.f60 0) RM x=Wh.Fg x:=by intro x;kernel_rfl
theorem e_q145:EV WU Zg Tryz.f60 [.v .str] [.v (.own .str),.v I6] Wh.Ch:=by intro xs;kernel_rfl
theorem agG:CO HZ:=con_ok (Ls:=[RM]) mixed (ct _ _) (aev _ cx) Tryz.func60 (loopsC (loopD_ok akJ) loopsL_nil) boxesL_none e_q145
theorem Sc:FK HZ:=fun _ _ h=>h.cons HZ (by kernel_rfl) Wh.OJ agG
def L4:iq:=⟨179,[.v .str,.v I8],[.v (.own .str)],Wh.DN,Wh.T_⟩
def WR:Cx:=⟨cr,[],false,Gl⟩
def RG:b8:=kS ⟨[(7,.leaf I6),(6,.leaf I6),(0,.leaf .str),(5,.whole z0 .str),(1,.leaf I8)],[(z0,false,.rows .str)]⟩ [((.exit 0),⟨[(6,.leaf I6),(0,.leaf .str),(5,.whole z0 .str)],[(z0,false,.rows .str)]⟩)] Wh.aa5 Wh.Aj
def Zd:LT:=[(4,RG)]
theorem akE:∀x,round WR Zd (jo Tryz.f179 0) RG x=Wh.Aj x:=by intro x;kernel_rfl
theorem e_q140:EV WR Zd Tryz.f179 [.v .str,.v I8] [.v (.own .str)] Wh.DN:=by intro xs;kernel_rfl
theorem agB:CO L4:=con_ok (Ls:=[RG]) mixed (ct _ _) cx Tryz.func179 (loopsC (loopD_ok akE) loopsL_nil) boxesL_none e_q140
theorem aes:FK L4:=fun _ _ h=>h.cons L4 (by kernel_rfl) Wh.Ub agB
def Jd:iq:=⟨200,[.v .str],[.v .bool],Wh.Cg,Wh.OG⟩
def WO:Cx:=⟨cr,[zV.entry],false,Gl⟩
def Q_:b8:=kS ⟨[(3,.leaf I6),(0,.leaf .str)],[]⟩ [(.ret,⟨[(2,.leaf .bool)],[]⟩),((.exit 0),⟨[(0,.leaf .str)],[]⟩)] Wh.aaZ Wh.A8
def Zb:LT:=[(2,Q_)]
theorem aj8:∀x,round WO Zb (jo Tryz.f200 0) Q_ x=Wh.A8 x:=by intro x;kernel_rfl
theorem e_q136:EV WO Zb Tryz.f200 [.v .str] [.v .bool] Wh.Cg:=by intro xs;kernel_rfl
theorem agx:CO Jd:=con_ok (Ls:=[Q_]) mixed (ct _ _) (At _ cx) Tryz.func200 (loopsC (loopD_ok aj8) loopsL_nil) boxesL_none e_q136
theorem XJ:FK Jd:=fun _ _ h=>h.cons Jd (by kernel_rfl) Wh.T4 agx
def F_:iq:=⟨185,[.v an],[.v .bool],Wh.Ck,Wh.D5⟩
def C_q183:Cx:=⟨cr,[Jd.entry,zV.entry],false,Gl⟩
theorem e_q183:EV C_q183 mw Tryz.f185 [.v an] [.v .bool] Wh.Ck:=by intro xs;kernel_rfl
theorem ahh:CO F_:=con_ok (Ls:=[]) mixed (ct _ _) (XJ _ (At _ cx)) Tryz.func185 loopsL_nil boxesL_none e_q183
theorem NX:FK F_:=fun _ _ h=>h.cons F_ (by kernel_rfl) Wh.D6 ahh
def MT:iq:=⟨103,[.v I6,.v .str,.v .str],[.v .str],Wh.q41,Wh.q41'⟩
def C_q41:Cx:=⟨cr,[Jo.entry,F_.entry],false,Gl⟩
theorem e_q41:EV C_q41 mw Tryz.f103 [.v I6,.v .str,.v .str] [.v .str] Wh.q41:=by intro xs;kernel_rfl
theorem ok_q41:CO MT:=con_ok (Ls:=[]) mixed (ct _ _) (XU _ (NX _ cx)) Tryz.func103 loopsL_nil boxesL_none e_q41
theorem fk_q41:FK MT:=fun _ _ h=>h.cons MT (by kernel_rfl) Wh.Vp ok_q41
def Jh:iq:=⟨272,[.v an,.v I6,.v .str],[.v .bool],Wh.G0,Wh.OK⟩
def C_q148:Cx:=⟨cr,[],false,Gl⟩
theorem e_q148:EV C_q148 mw Tryz.f272 [.v an,.v I6,.v .str] [.v .bool] Wh.G0:=by intro xs;kernel_rfl
theorem agJ:CO Jh:=con_ok (Ls:=[]) mixed (ct _ _) cx Tryz.func272 loopsL_nil boxesL_none e_q148
theorem XN:FK Jh:=fun _ _ h=>h.cons Jh (by kernel_rfl) Wh.OL agJ
def I9:iq:=⟨187,[.v (.lst an),.v I6],[.v I6],Wh.Fa,Wh.Oy⟩
def WJ:Cx:=⟨cr,[],false,Gl⟩
def RO:b8:=kS ⟨[(6,.leaf I6),(0,.leaf (.lst an)),(5,.leaf I6),(1,.leaf I6)],[]⟩ [((.exit 0),⟨[(5,.leaf I6)],[]⟩)] Wh.aaJ Wh.DH
def Y6:LT:=[(3,RO)]
theorem akL:∀x,round WJ Y6 (jo Tryz.f187 0) RO x=Wh.DH x:=by intro x;kernel_rfl
theorem e_q117:EV WJ Y6 Tryz.f187 [.v (.lst an),.v I6] [.v I6] Wh.Fa:=by intro xs;kernel_rfl
theorem agd:CO I9:=con_ok (Ls:=[RO]) mixed (ct _ _) cx Tryz.func187 (loopsC (loopD_ok akL) loopsL_nil) boxesL_none e_q117
theorem XE:FK I9:=fun _ _ h=>h.cons I9 (by kernel_rfl) Wh.Oz agd
def Jm:iq:=⟨184,[.v fk],[.v .bool],Wh.Fl,Wh.OU⟩
def Lo:Cx:=⟨cr,[I9.entry,Jh.entry,F_.entry,zV.entry],false,Gl⟩
def Q7:b8:=kS ⟨[(1,.aZ z0 []),(3,.leaf I6)],[(z0,false,.var fk (.leaf fk))]⟩ [(.ret,⟨[(2,.leaf .bool)],[]⟩),((.exit 0),⟨[(1,.aZ z0 [])],[(z0,false,.var fk (.leaf fk))]⟩)] Wh.abp Wh.DW
def Q8:b8:=kS ⟨[(5,.leaf I6),(4,.aZ z0 []),(1,.aZ z1 []),(3,.leaf I6)],[(z0,false,.var an (.leaf an)),(z1,false,.var fk (.leaf fk))]⟩ [(.ret,⟨[(2,.leaf .bool)],[]⟩),((.exit 2),⟨[(1,.aZ z0 []),(3,.leaf I6)],[(z0,false,.var fk (.leaf fk))]⟩)] Wh.abq Wh.Fm
def Q9:b8:=kS ⟨[(6,.leaf I6),(1,.aZ z0 [])],[(z0,false,.var fk (.leaf fk))]⟩ [(.ret,⟨[(2,.leaf .bool)],[]⟩),((.exit 4),⟨[],[]⟩)] Wh.abr Wh.Hf
def Oi:LT:=[(4,Q7),(10,Q8),(15,Q9)]
theorem aj5:∀x,round Lo Oi (jo Tryz.f184 0) Q7 x=Wh.DW x:=by intro x;kernel_rfl
theorem aj6:∀x,round Lo Oi (jo Tryz.f184 1) Q8 x=Wh.Fm x:=by intro x;kernel_rfl
theorem aj7:∀x,round Lo Oi (jo Tryz.f184 2) Q9 x=Wh.Hf x:=by intro x;kernel_rfl
theorem e_q164:EV Lo Oi Tryz.f184 [.v fk] [.v .bool] Wh.Fl:=by intro xs;kernel_rfl
theorem agZ:CO Jm:=con_ok (Ls:=[Q7,Q8,Q9]) mixed (ct _ _) (XE _ (XN _ (NX _ (At _ cx)))) Tryz.func184 (loopsC (loopD_ok aj5) (loopsC (loopD_ok aj6) (loopsC (loopD_ok aj7) loopsL_nil))) boxesL_none e_q164
theorem XS:FK Jm:=fun _ _ h=>h.cons Jm (by kernel_rfl) Wh.IJ agZ
def Jr:iq:=⟨186,[.v fk,.v I6,.v .str],[.v I6],Wh.Cj,Wh.O2⟩
def Xd:Cx:=⟨cr,[],false,Gl⟩
def RN:b8:=kS ⟨[(7,.leaf I6),(2,.leaf .str),(3,.aZ z0 []),(1,.leaf I6)],[(z0,false,.var fk (.leaf fk))]⟩ [(.ret,⟨[(6,.leaf I6)],[]⟩),((.exit 0),⟨[],[]⟩)] Wh.abI Wh.D4
def Zz:LT:=[(2,RN)]
theorem akK:∀x,round Xd Zz (jo Tryz.f186 0) RN x=Wh.D4 x:=by intro x;kernel_rfl
theorem e_q182:EV Xd Zz Tryz.f186 [.v fk,.v I6,.v .str] [.v I6] Wh.Cj:=by intro xs;kernel_rfl
theorem ahg:CO Jr:=con_ok (Ls:=[RN]) mixed (ct _ _) cx Tryz.func186 (loopsC (loopD_ok akK) loopsL_nil) boxesL_none e_q182
theorem XX:FK Jr:=fun _ _ h=>h.cons Jr (by kernel_rfl) Wh.Kz ahg
def Jg:iq:=⟨170,[.v fk],[.v (.pair I6 (.pair (.own an) .unit))],Wh.CU,Wh.IG⟩
def C_q146:Cx:=⟨cr,[],false,Gl⟩
theorem e_q146:EV C_q146 mw Tryz.f170 [.v fk] [.v (.pair I6 (.pair (.own an) .unit))] Wh.CU:=by intro xs;kernel_rfl
theorem agH:CO Jg:=con_ok (Ls:=[]) mixed (ct _ _) cx Tryz.func170 loopsL_nil boxesL_none e_q146
theorem XM:FK Jg:=fun _ _ h=>h.cons Jg (by kernel_rfl) Wh.Kl agH
def L9:iq:=⟨270,[.v fk,.v I6],[.v (.pair I6 (.pair (.own an) .unit))],Wh.G1,Wh.Um⟩
def C_q149:Cx:=⟨cr,[],false,Gl⟩
theorem e_q149:EV C_q149 mw Tryz.f270 [.v fk,.v I6] [.v (.pair I6 (.pair (.own an) .unit))] Wh.G1:=by intro xs;kernel_rfl
theorem agK:CO L9:=con_ok (Ls:=[]) mixed (ct _ _) cx Tryz.func270 loopsL_nil boxesL_none e_q149
theorem aex:FK L9:=fun _ _ h=>h.cons L9 (by kernel_rfl) Wh.aa_ agK
def Lz:iq:=⟨181,[.v fk,.v I6,.v .str],[.v (.pair I6 (.pair (.own an) .unit)),.v I6],Wh.E7,Wh.Ox⟩
def C_q105:Cx:=⟨cr,[L9.entry,Jg.entry,Jr.entry,Jm.entry],false,Gl⟩
theorem e_q105:EV C_q105 mw Tryz.f181 [.v fk,.v I6,.v .str] [.v (.pair I6 (.pair (.own an) .unit)),.v I6] Wh.E7:=by intro xs;kernel_rfl
theorem af3:CO Lz:=con_ok (Ls:=[]) mixed (ct _ _) (aex _ (XM _ (XX _ (XS _ cx)))) Tryz.func181 loopsL_nil boxesL_none e_q105
theorem ad4:FK Lz:=fun _ _ h=>h.cons Lz (by kernel_rfl) Wh.aas af3
def Mr:iq:=⟨188,[.v fk,.v an],[.v (.pair I6 (.pair (.own an) .unit))],Wh.Hl,Wh.U0⟩
def Xb:Cx:=⟨cr,[Jh.entry],false,Gl⟩
def RQ:b8:=kS ⟨[(5,.leaf I6),(4,.aZ z0 []),(2,.aZ z1 []),(3,.aZ z2 [])],[(z0,false,.var fk (.pair (.leaf I6) (.pair (.whole z3 an) (.leaf .unit)))),(z1,false,.var fk (.leaf fk)),(z2,false,.var an (.leaf an)),(z3,false,.rows an)]⟩ [((.exit 0),⟨[(4,.aZ z0 []),(5,.leaf I6),(2,.aZ z1 []),(3,.aZ z2 [])],[(z0,false,.var fk (.pair (.leaf I6) (.pair (.whole z3 an) (.leaf .unit)))),(z1,false,.var fk (.leaf fk)),(z2,false,.var an (.leaf an)),(z3,false,.rows an)]⟩)] Wh.abE Wh.D3
def Zx:LT:=[(2,RQ)]
theorem akN:∀x,round Xb Zx (jo Tryz.f188 0) RQ x=Wh.D3 x:=by intro x;kernel_rfl
theorem e_q176:EV Xb Zx Tryz.f188 [.v fk,.v an] [.v (.pair I6 (.pair (.own an) .unit))] Wh.Hl:=by intro xs;kernel_rfl
theorem aha:CO Mr:=con_ok (Ls:=[RQ]) mixed (ct _ _) (XN _ cx) Tryz.func188 (loopsC (loopD_ok akN) loopsL_nil) boxesL_none e_q176
theorem aeP:FK Mr:=fun _ _ h=>h.cons Mr (by kernel_rfl) Wh.abF aha
def LZ:iq:=⟨101,[.v fk,.v I6,.v .str,.v .str],[.v (.pair I6 (.pair (.own an) .unit)),.v I6],Wh.DM,Wh.OF⟩
def C_q135:Cx:=⟨cr,[Mr.entry,I9.entry,Jr.entry,Jg.entry,F_.entry,Jm.entry],false,Gl⟩
theorem e_q135:EV C_q135 mw Tryz.f101 [.v fk,.v I6,.v .str,.v .str] [.v (.pair I6 (.pair (.own an) .unit)),.v I6] Wh.DM:=by intro xs;kernel_rfl
theorem agw:CO LZ:=con_ok (Ls:=[]) mixed (ct _ _) (aeP _ (XE _ (XX _ (XM _ (NX _ (XS _ cx)))))) Tryz.func101 loopsL_nil boxesL_none e_q135
theorem aep:FK LZ:=fun _ _ h=>h.cons LZ (by kernel_rfl) Wh.aaY agw
def L8:iq:=⟨98,[.v fk,.v .str],[.v (.pair I6 (.pair (.own an) .unit)),.v .bool],Wh.DP,Wh.Uk⟩
def C_q147:Cx:=⟨cr,[LZ.entry,Lz.entry,MT.entry,Jq.entry,L4.entry,Jf.entry],false,Gl⟩
theorem e_q147:EV C_q147 mw Tryz.f98 [.v fk,.v .str] [.v (.pair I6 (.pair (.own an) .unit)),.v .bool] Wh.DP:=by intro xs;kernel_rfl
theorem agI:CO L8:=con_ok (Ls:=[]) mixed (ct _ _) (aep _ (ad4 _ (fk_q41 _ (XW _ (aes _ (XL _ cx)))))) Tryz.func98 loopsL_nil boxesL_none e_q147
theorem aew:FK L8:=fun _ _ h=>h.cons L8 (by kernel_rfl) Wh.Ul agI
def H7:iq:=⟨61,[.v (.lst .str)],[.v (.pair I6 (.pair (.own an) .unit)),.v .bool],Wh.CW,Wh.Ko⟩
def W4:Cx:=⟨cr,[L8.entry],false,Gl⟩
def Q6:b8:=kS ⟨[(2,.aZ z0 []),(5,.leaf I6),(4,.aZ z1 []),(0,.leaf (.lst .str))],[(z0,false,.var fk (.pair (.leaf I6) (.pair (.whole z2 an) (.leaf .unit)))),(z1,false,.var fk (.pair (.leaf I6) (.pair (.whole z3 an) (.leaf .unit)))),(z2,false,.rows an),(z3,false,.rows an)]⟩ [(.ret,⟨[(2,.aZ z0 []),(3,.leaf .bool)],[(z0,false,.var fk (.pair (.leaf I6) (.pair (.whole z1 an) (.leaf .unit)))),(z1,false,.rows an)]⟩),((.exit 0),⟨[(2,.aZ z0 []),(4,.aZ z1 [])],[(z0,false,.var fk (.pair (.leaf I6) (.pair (.whole z2 an) (.leaf .unit)))),(z1,false,.var fk (.pair (.leaf I6) (.pair (.whole z3 an) (.leaf .unit)))),(z2,false,.rows an),(z3,false,.rows an)]⟩)] Wh.abo Wh.DU
def Zo:LT:=[(3,Q6)]
theorem aj4:∀x,round W4 Zo (jo Tryz.f61 0) Q6 x=Wh.DU x:=by intro x;kernel_rfl
theorem e_q163:EV W4 Zo Tryz.f61 [.v (.lst .str)] [.v (.pair I6 (.pair (.own an) .unit)),.v .bool] Wh.CW:=by intro xs;kernel_rfl
theorem agY:CO H7:=con_ok (Ls:=[Q6]) mixed (ct _ _) (aew _ cx) Tryz.func61 (loopsC (loopD_ok aj4) loopsL_nil) boxesL_none e_q163
theorem Se:FK H7:=fun _ _ h=>h.cons H7 (by kernel_rfl) Wh.OT agY
def LG:iq:=⟨59,[.v nC],[.v .bool],Wh.GF,Wh.Ts⟩
def C_q110:Cx:=⟨cr,[H7.entry,HZ.entry],false,Gl⟩
theorem e_q110:EV C_q110 mw Tryz.f59 [.v nC] [.v .bool] Wh.GF:=by intro xs;kernel_rfl
theorem af8:CO LG:=con_ok (Ls:=[]) mixed (ct _ _) (Se _ (Sc _ cx)) Tryz.func59 loopsL_nil boxesL_none e_q110
theorem ad9:FK LG:=fun _ _ h=>h.cons LG (by kernel_rfl) Wh.aaz af8
def LD:iq:=⟨62,[.v fk,.v fk],[.v .bool],Wh.DE,Wh.Tq⟩
def WH:Cx:=⟨cr,[],false,Gl⟩
def Ro:b8:=kS ⟨[(5,.leaf I6),(3,.aZ z0 []),(2,.aZ z1 [])],[(z0,false,.var fk (.leaf fk)),(z1,false,.var fk (.leaf fk))]⟩ [(.ret,⟨[(4,.leaf .bool)],[]⟩),((.exit 0),⟨[],[]⟩)] Wh.aax Wh.DF
def Y4:LT:=[(4,Ro)]
theorem akm:∀x,round WH Y4 (jo Tryz.f62 0) Ro x=Wh.DF x:=by intro x;kernel_rfl
theorem e_q109:EV WH Y4 Tryz.f62 [.v fk,.v fk] [.v .bool] Wh.DE:=by intro xs;kernel_rfl
theorem af7:CO LD:=con_ok (Ls:=[Ro]) mixed (ct _ _) cx Tryz.func62 (loopsC (loopD_ok akm) loopsL_nil) boxesL_none e_q109
theorem ad8:FK LD:=fun _ _ h=>h.cons LD (by kernel_rfl) Wh.aay af7
def Ml:iq:=⟨151,[.v ng],[.v .bool],Wh.Fp,Wh.UO⟩
def C_q168:Cx:=⟨cr,[zV.entry],false,Gl⟩
theorem e_q168:EV C_q168 mw Tryz.f151 [.v ng] [.v .bool] Wh.Fp:=by intro xs;kernel_rfl
theorem ag3:CO Ml:=con_ok (Ls:=[]) mixed (ct _ _) (At _ cx) Tryz.func151 loopsL_nil boxesL_none e_q168
theorem aeK:FK Ml:=fun _ _ h=>h.cons Ml (by kernel_rfl) Wh.OX ag3
def Mk:iq:=⟨152,[.v n5,.v I6],[.v I6],Wh.Hg,Wh.UM⟩
def W6:Cx:=⟨cr,[],false,Gl⟩
def Rn:b8:=kS ⟨[(6,.leaf I6),(5,.leaf I6),(1,.leaf I6),(2,.aZ z0 [])],[(z0,false,.var n5 (.leaf n5))]⟩ [((.exit 0),⟨[(5,.leaf I6)],[]⟩)] Wh.abu Wh.DY
def Zq:LT:=[(3,Rn)]
theorem akl:∀x,round W6 Zq (jo Tryz.f152 0) Rn x=Wh.DY x:=by intro x;kernel_rfl
theorem e_q167:EV W6 Zq Tryz.f152 [.v n5,.v I6] [.v I6] Wh.Hg:=by intro xs;kernel_rfl
theorem ag2:CO Mk:=con_ok (Ls:=[Rn]) mixed (ct _ _) cx Tryz.func152 (loopsC (loopD_ok akl) loopsL_nil) boxesL_none e_q167
theorem aeJ:FK Mk:=fun _ _ h=>h.cons Mk (by kernel_rfl) Wh.IK ag2
def L1:iq:=⟨63,[.v n5],[.v .bool],Wh.Fe,Wh.T6⟩
def Ln:Cx:=⟨cr,[Mk.entry,Ml.entry,zV.entry],false,Gl⟩
def Rb:b8:=kS ⟨[(1,.aZ z0 []),(3,.leaf I6)],[(z0,false,.var n5 (.leaf n5))]⟩ [(.ret,⟨[(2,.leaf .bool)],[]⟩),((.exit 0),⟨[(1,.aZ z0 [])],[(z0,false,.var n5 (.leaf n5))]⟩)] Wh.aa1 Wh.CQ
def Rc:b8:=kS ⟨[(4,.leaf I6),(1,.aZ z0 []),(3,.leaf I6)],[(z0,false,.var n5 (.leaf n5))]⟩ [(.ret,⟨[(2,.leaf .bool)],[]⟩),((.exit 2),⟨[(1,.aZ z0 []),(3,.leaf I6)],[(z0,false,.var n5 (.leaf n5))]⟩)] Wh.aa2 Wh.A9
def Rd:b8:=kS ⟨[(5,.leaf I6),(1,.aZ z0 [])],[(z0,false,.var n5 (.leaf n5))]⟩ [(.ret,⟨[(2,.leaf .bool)],[]⟩),((.exit 4),⟨[],[]⟩)] Wh.aa3 Wh.CR
def Oh:LT:=[(4,Rb),(9,Rc),(14,Rd)]
theorem aj_:∀x,round Ln Oh (jo Tryz.f63 0) Rb x=Wh.CQ x:=by intro x;kernel_rfl
theorem aka:∀x,round Ln Oh (jo Tryz.f63 1) Rc x=Wh.A9 x:=by intro x;kernel_rfl
theorem akb:∀x,round Ln Oh (jo Tryz.f63 2) Rd x=Wh.CR x:=by intro x;kernel_rfl
theorem e_q138:EV Ln Oh Tryz.f63 [.v n5] [.v .bool] Wh.Fe:=by intro xs;kernel_rfl
theorem agz:CO L1:=con_ok (Ls:=[Rb,Rc,Rd]) mixed (ct _ _) (aeJ _ (aeK _ (At _ cx))) Tryz.func63 (loopsC (loopD_ok aj_) (loopsC (loopD_ok aka) (loopsC (loopD_ok akb) loopsL_nil))) boxesL_none e_q138
theorem aer:FK L1:=fun _ _ h=>h.cons L1 (by kernel_rfl) Wh.aa4 agz
def Ju:iq:=⟨65,[.v fk,.v I6],[.v an,.v .bool],Wh.q44,Wh.O5⟩
def C_q44:Cx:=⟨cr,[],false,Gl⟩
def RP:b8:=kS ⟨[(4,.aZ z0 []),(6,.leaf I6),(2,.aZ z1 []),(1,.leaf I6)],[(z0,false,.var an (.pair (.leaf I6) (.pair (.leaf .str) (.pair (.leaf I6) (.pair (.leaf .str) (.leaf .unit)))))),(z1,false,.var fk (.leaf fk))]⟩ [(.ret,⟨[(4,.aZ z0 []),(5,.leaf .bool)],[(z0,false,.var an (.leaf an))]⟩),((.exit 0),⟨[(4,.aZ z0 [])],[(z0,false,.var an (.pair (.leaf I6) (.pair (.leaf .str) (.pair (.leaf I6) (.pair (.leaf .str) (.leaf .unit))))))]⟩)] Wh.abZ Wh.Ee
def ZO:LT:=[(2,RP)]
theorem akM:∀x,round C_q44 ZO (jo Tryz.f65 0) RP x=Wh.Ee x:=by intro x;kernel_rfl
theorem e_q44:EV C_q44 ZO Tryz.f65 [.v fk,.v I6] [.v an,.v .bool] Wh.q44:=by intro xs;kernel_rfl
theorem ok_q44:CO Ju:=con_ok (Ls:=[RP]) mixed (ct _ _) cx Tryz.func65 (loopsC (loopD_ok akM) loopsL_nil) boxesL_none e_q44
theorem X1:FK Ju:=fun _ _ h=>h.cons Ju (by kernel_rfl) Wh.FE ok_q44
def Jy:iq:=⟨138,[.v I6],[.v I6],Wh.q80,Wh.Pb⟩
def C_q80:Cx:=⟨cr,[],false,Gl⟩
theorem e_q80:EV C_q80 mw Tryz.f138 [.v I6] [.v I6] Wh.q80:=by intro xs;kernel_rfl
theorem ok_q80:CO Jy:=con_ok (Ls:=[]) mixed (ct _ _) cx Tryz.func138 loopsL_nil boxesL_none e_q80
theorem X5:FK Jy:=fun _ _ h=>h.cons Jy (by kernel_rfl) Wh.Pd ok_q80
def MV:iq:=⟨64,[.v nC],[.v .bool],Wh.q43,Wh.q43'⟩
def C_q43:Cx:=⟨cr,[Jy.entry,Ju.entry,zV.entry],false,Gl⟩
def Rp:b8:=kS ⟨[(3,.leaf I6),(1,.aZ z0 [])],[(z0,false,.var nC (.leaf nC))]⟩ [(.ret,⟨[(2,.leaf .bool)],[]⟩),((.exit 0),⟨[],[]⟩)] Wh.abY Wh.C3
def ZN:LT:=[(2,Rp)]
theorem akn:∀x,round C_q43 ZN (jo Tryz.f64 0) Rp x=Wh.C3 x:=by intro x;kernel_rfl
theorem e_q43:EV C_q43 ZN Tryz.f64 [.v nC] [.v .bool] Wh.q43:=by intro xs;kernel_rfl
theorem ok_q43:CO MV:=con_ok (Ls:=[Rp]) mixed (ct _ _) (X5 _ (X1 _ (At _ cx))) Tryz.func64 (loopsC (loopD_ok akn) loopsL_nil) boxesL_none e_q43
theorem fk_q43:FK MV:=fun _ _ h=>h.cons MV (by kernel_rfl) Wh.q43_v ok_q43
def EK:iq:=⟨66,[.v so],[.v I6],Wh.Ai,Wh.zh⟩
def C_q116:Cx:=⟨cr,[],false,Gl⟩
theorem e_q116:EV C_q116 mw Tryz.f66 [.v so] [.v I6] Wh.Ai:=by intro xs;kernel_rfl
theorem agc:CO EK:=con_ok (Ls:=[]) mixed (ct _ _) cx Tryz.func66 loopsL_nil boxesL_none e_q116
theorem JP:FK EK:=fun _ _ h=>h.cons EK (by kernel_rfl) Wh.CM agc
def Mq:iq:=⟨67,[.v I6],[.v (.pair I6 (.pair I6 (.pair (.own I6) (.pair (.own I6) .unit))))],Wh.Fx,Wh.Kw⟩
def W_:Cx:=⟨cr,[EK.entry],false,Gl⟩
def RH:b8:=kS ⟨[(3,.aZ z0 []),(2,.aZ z1 [])],[(z0,false,.var so (.pair (.leaf I6) (.pair (.leaf I6) (.pair (.whole z2 I6) (.pair (.whole z3 I6) (.leaf .unit)))))),(z1,false,.var so (.pair (.leaf I6) (.pair (.leaf I6) (.pair (.whole 500000004 I6) (.pair (.whole 500000005 I6) (.leaf .unit)))))),(z2,false,.rows I6),(z3,false,.rows I6),(500000004,false,.rows I6),(500000005,false,.rows I6)]⟩ [((.exit 0),⟨[(2,.aZ z0 []),(3,.aZ z1 [])],[(z0,false,.var so (.pair (.leaf I6) (.pair (.leaf I6) (.pair (.whole z2 I6) (.pair (.whole z3 I6) (.leaf .unit)))))),(z1,false,.var so (.pair (.leaf I6) (.pair (.leaf I6) (.pair (.whole 500000004 I6) (.pair (.whole 500000005 I6) (.leaf .unit)))))),(z2,false,.rows I6),(z3,false,.rows I6),(500000004,false,.rows I6),(500000005,false,.rows I6)]⟩)] Wh.abC Wh.D0
def Zv:LT:=[(2,RH)]
theorem akF:∀x,round W_ Zv (jo Tryz.f67 0) RH x=Wh.D0 x:=by intro x;kernel_rfl
theorem e_q174:EV W_ Zv Tryz.f67 [.v I6] [.v (.pair I6 (.pair I6 (.pair (.own I6) (.pair (.own I6) .unit))))] Wh.Fx:=by intro xs;kernel_rfl
theorem ag9:CO Mq:=con_ok (Ls:=[RH]) mixed (ct _ _) (JP _ cx) Tryz.func67 (loopsC (loopD_ok akF) loopsL_nil) boxesL_none e_q174
theorem aeO:FK Mq:=fun _ _ h=>h.cons Mq (by kernel_rfl) Wh.O0 ag9
def Nr:iq:=⟨68,[.v nI],[.v .bool],Wh.q76,Wh.q76'⟩
def C_q76:Cx:=⟨cr,[zV.entry],false,Gl⟩
theorem e_q76:EV C_q76 mw Tryz.f68 [.v nI] [.v .bool] Wh.q76:=by intro xs;kernel_rfl
theorem ok_q76:CO Nr:=con_ok (Ls:=[]) mixed (ct _ _) (At _ cx) Tryz.func68 loopsL_nil boxesL_none e_q76
theorem fk_q76:FK Nr:=fun _ _ h=>h.cons Nr (by kernel_rfl) Wh.q76_v ok_q76
def Nt:iq:=⟨15,[.v nC],[.v .bool],Wh.q78,Wh.q78'⟩
def P3:Cx:=⟨cr,[Nr.entry,EK.entry,Mq.entry,Ju.entry,MV.entry,L1.entry,LD.entry,H7.entry,HZ.entry,LG.entry,zV.entry],false,Gl⟩
def Rf:b8:=kS ⟨[(7,.leaf I6),(1,.aZ z0 [])],[(z0,false,.var nC (.leaf nC))]⟩ [(.ret,⟨[(2,.leaf .bool)],[]⟩),((.exit 0),⟨[(1,.aZ z0 [])],[(z0,false,.var nC (.leaf nC))]⟩)] Wh.aci Wh.Bw
def Rg:b8:=kS ⟨[(10,.leaf I6),(1,.aZ z0 [])],[(z0,false,.var nC (.leaf nC))]⟩ [(.ret,⟨[(2,.leaf .bool)],[]⟩),((.exit 2),⟨[],[]⟩)] Wh.acj Wh.Ei
def SV:LT:=[(10,Rf),(16,Rg)]
theorem akd:∀x,round P3 SV (jo Tryz.f15 0) Rf x=Wh.Bw x:=by intro x;kernel_rfl
theorem ake:∀x,round P3 SV (jo Tryz.f15 1) Rg x=Wh.Ei x:=by intro x;kernel_rfl
theorem e_q78:EV P3 SV Tryz.f15 [.v nC] [.v .bool] Wh.q78:=by intro xs;kernel_rfl
theorem ok_q78:CO Nt:=con_ok (Ls:=[Rf,Rg]) mixed (ct _ _) (fk_q76 _ (JP _ (aeO _ (X1 _ (fk_q43 _ (aer _ (ad8 _ (Se _ (Sc _ (ad9 _ (At _ cx))))))))))) Tryz.func15 (loopsC (loopD_ok akd) (loopsC (loopD_ok ake) loopsL_nil)) boxesL_none e_q78
theorem fk_q78:FK Nt:=fun _ _ h=>h.cons Nt (by kernel_rfl) Wh.VP ok_q78
def Ac:iq:=⟨73,[.v I6,.v I6,.v I6],[.v .bool],Wh.xU,Wh.pg⟩
def C_q122:Cx:=⟨cr,[],false,Gl⟩
theorem e_q122:EV C_q122 mw Tryz.f73 [.v I6,.v I6,.v I6] [.v .bool] Wh.xU:=by intro xs;kernel_rfl
theorem agj:CO Ac:=con_ok (Ls:=[]) mixed (ct _ _) cx Tryz.func73 loopsL_nil boxesL_none e_q122
theorem AZ:FK Ac:=fun _ _ h=>h.cons Ac (by kernel_rfl) Wh.zX agj
def LO:iq:=⟨389,[.v I3,.v I6],[.v I3],Wh.AP,Wh.Bo⟩
def C_q121:Cx:=⟨cr,[],false,Gl⟩
theorem e_q121:EV C_q121 mw Tryz.f389 [.v I3,.v I6] [.v I3] Wh.AP:=by intro xs;kernel_rfl
theorem agi:CO LO:=con_ok (Ls:=[]) mixed (ct _ _) cx Tryz.func389 loopsL_nil boxesL_none e_q121
theorem aef:FK LO:=fun _ _ h=>h.cons LO (by kernel_rfl) Wh.q121_v agi
def M3:iq:=⟨334,[.v .str],[.v .str],Wh.q55,Wh.q55'⟩
def EJ:Cx:=⟨cr,[LO.entry],false,Gl⟩
def Qw:b8:=kS ⟨[(4,.whole z0 I8),(3,.aZ z1 []),(0,.leaf .str)],[(z0,false,.rows I8),(z1,false,.var (.arr 8 I3) (.leaf (.arr 8 I3)))]⟩ [((.exit 0),⟨[(4,.whole z0 I8),(3,.aZ z1 []),(0,.leaf .str)],[(z0,false,.rows I8),(z1,false,.var (.arr 8 I3) (.leaf (.arr 8 I3)))]⟩)] Wh.ab5 Wh.FG
def Qx:b8:=kS ⟨[(6,.leaf I6),(5,.leaf (.int .u64)),(4,.whole z0 I8),(3,.aZ z1 [])],[(z0,false,.rows I8),(z1,false,.var (.arr 8 I3) (.leaf (.arr 8 I3)))]⟩ [((.exit 2),⟨[(4,.whole z0 I8),(3,.aZ z1 [])],[(z0,false,.rows I8),(z1,false,.var (.arr 8 I3) (.leaf (.arr 8 I3)))]⟩)] Wh.ab6 Wh.Hx
def Qy:b8:=kS ⟨[(4,.piece z0 I8),(3,.aZ z1 [])],[(z0,false,.rows I8),(z1,false,.var (.arr 8 I3) (.leaf (.arr 8 I3)))]⟩ [((.exit 4),⟨[(3,.aZ z0 [])],[(z0,false,.var (.arr 8 I3) (.leaf (.arr 8 I3)))]⟩)] Wh.ab7 Wh.FH
def Qz:b8:=kS ⟨[(54,.leaf I6),(7,.aZ z0 []),(4,.piece z1 I8),(3,.aZ z2 [])],[(z0,false,.var (.arr 64 I3) (.leaf (.arr 64 I3))),(z1,false,.rows I8),(z2,false,.var (.arr 8 I3) (.leaf (.arr 8 I3)))]⟩ [((.exit 6),⟨[(7,.aZ z0 []),(3,.aZ z1 []),(4,.piece z2 I8)],[(z0,false,.var (.arr 64 I3) (.leaf (.arr 64 I3))),(z1,false,.var (.arr 8 I3) (.leaf (.arr 8 I3))),(z2,false,.rows I8)]⟩)] Wh.ab8 Wh.FI
def QA:b8:=kS ⟨[(133,.leaf I6),(11,.aZ z0 []),(7,.aZ z1 []),(3,.aZ z2 []),(4,.piece z3 I8)],[(z0,false,.var (.arr 8 I3) (.leaf (.arr 8 I3))),(z1,false,.var (.arr 64 I3) (.leaf (.arr 64 I3))),(z2,false,.var (.arr 8 I3) (.leaf (.arr 8 I3))),(z3,false,.rows I8)]⟩ [((.exit 8),⟨[(3,.aZ z0 []),(11,.aZ z1 []),(4,.piece z2 I8)],[(z0,false,.var (.arr 8 I3) (.leaf (.arr 8 I3))),(z1,false,.var (.arr 8 I3) (.leaf (.arr 8 I3))),(z2,false,.rows I8)]⟩)] Wh.ab9 Wh.Hy
def QB:b8:=kS ⟨[(213,.leaf I6),(3,.aZ z0 []),(11,.aZ z1 []),(4,.piece z2 I8)],[(z0,false,.var (.arr 8 I3) (.leaf (.arr 8 I3))),(z1,false,.var (.arr 8 I3) (.leaf (.arr 8 I3))),(z2,false,.rows I8)]⟩ [((.exit 10),⟨[(3,.aZ z0 []),(4,.piece z1 I8)],[(z0,false,.var (.arr 8 I3) (.leaf (.arr 8 I3))),(z1,false,.rows I8)]⟩)] Wh.ab_ Wh.KE
def QC:b8:=kS ⟨[(227,.leaf I6),(18,.whole z0 I8),(226,.leaf (.arr 8 I3))],[(z0,false,.rows I8)]⟩ [((.exit 12),⟨[(18,.whole z0 I8)],[(z0,false,.rows I8)]⟩)] Wh.acd Wh.KF
def E0:LT:=[(3,Qw),(7,Qx),(10,Qy),(14,Qz),(23,QA),(31,QB),(37,QC)]
theorem ajx:∀x,round EJ E0 (jo Tryz.f334 0) Qw x=Wh.FG x:=by intro x;kernel_rfl
theorem ajy:∀x,round EJ E0 (jo Tryz.f334 1) Qx x=Wh.Hx x:=by intro x;kernel_rfl
theorem ajz:∀x,round EJ E0 (jo Tryz.f334 2) Qy x=Wh.FH x:=by intro x;kernel_rfl
theorem ajA:∀x,round EJ E0 (jo Tryz.f334 3) Qz x=Wh.FI x:=by intro x;kernel_rfl
theorem ajB:∀x,round EJ E0 (jo Tryz.f334 4) QA x=Wh.Hy x:=by intro x;kernel_rfl
theorem ajC:∀x,round EJ E0 (jo Tryz.f334 5) QB x=Wh.KE x:=by intro x;kernel_rfl
theorem ajD:∀x,round EJ E0 (jo Tryz.f334 6) QC x=Wh.KF x:=by intro x;kernel_rfl
theorem e_q55:EV EJ E0 Tryz.f334 [.v .str] [.v .str] Wh.q55:=by intro xs;kernel_rfl
theorem ok_q55:CO M3:=con_ok (Ls:=[Qw,Qx,Qy,Qz,QA,QB,QC]) mixed (ct _ _) (aef _ cx) Tryz.func334 (loopsC (loopD_ok ajx) (loopsC (loopD_ok ajy) (loopsC (loopD_ok ajz) (loopsC (loopD_ok ajA) (loopsC (loopD_ok ajB) (loopsC (loopD_ok ajC) (loopsC (loopD_ok ajD) loopsL_nil))))))) boxesL_none e_q55
theorem fk_q55:FK M3:=fun _ _ h=>h.cons M3 (by kernel_rfl) Wh.q55_v ok_q55
def Mb:iq:=⟨333,[.v .str],[.v .str],Wh.II,Wh.Ut⟩
def WY:Cx:=⟨cr,[],false,Gl⟩
def Qt:b8:=kS ⟨[(4,.leaf I6),(0,.leaf .str),(3,.whole z0 I8)],[(z0,false,.rows I8)]⟩ [((.exit 0),⟨[(3,.whole z0 I8)],[(z0,false,.rows I8)]⟩)] Wh.abe Wh.OP
def Zk:LT:=[(3,Qt)]
theorem aju:∀x,round WY Zk (jo Tryz.f333 0) Qt x=Wh.OP x:=by intro x;kernel_rfl
theorem e_q154:EV WY Zk Tryz.f333 [.v .str] [.v .str] Wh.II:=by intro xs;kernel_rfl
theorem agP:CO Mb:=con_ok (Ls:=[Qt]) mixed (ct _ _) cx Tryz.func333 (loopsC (loopD_ok aju) loopsL_nil) boxesL_none e_q154
theorem aeA:FK Mb:=fun _ _ h=>h.cons Mb (by kernel_rfl) Wh.abf agP
def NC:iq:=⟨263,[.v .str],[.v .str],Wh.q87,Wh.FQ⟩
def C_q87:Cx:=⟨cr,[Mb.entry,M3.entry],false,Gl⟩
theorem e_q87:EV C_q87 mw Tryz.f263 [.v .str] [.v .str] Wh.q87:=by intro xs;kernel_rfl
theorem ok_q87:CO NC:=con_ok (Ls:=[]) mixed (ct _ _) (aeA _ (fk_q55 _ cx)) Tryz.func263 loopsL_nil boxesL_none e_q87
theorem fk_q87:FK NC:=fun _ _ h=>h.cons NC (by kernel_rfl) Wh.q87_v ok_q87
def NH:iq:=⟨159,[.v I6,.v .str],[.v .str],Wh.q93,Wh.q93'⟩
def C_q93:Cx:=⟨cr,[NC.entry,H9.entry],false,Gl⟩
theorem e_q93:EV C_q93 mw Tryz.f159 [.v I6,.v .str] [.v .str] Wh.q93:=by intro xs;kernel_rfl
theorem ok_q93:CO NH:=con_ok (Ls:=[]) mixed (ct _ _) (fk_q87 _ (Sg _ cx)) Tryz.func159 loopsL_nil boxesL_none e_q93
theorem fk_q93:FK NH:=fun _ _ h=>h.cons NH (by kernel_rfl) Wh.V9 ok_q93
def M8:iq:=⟨243,[.v .str,.v .str],[.v .bool],Wh.q6,Wh.q6'⟩
def C_q6:Cx:=⟨cr,[],false,Gl⟩
theorem e_q6:EV C_q6 mw Tryz.f243 [.v .str,.v .str] [.v .bool] Wh.q6:=by intro xs;kernel_rfl
theorem ok_q6:CO M8:=con_ok (Ls:=[]) mixed (ct _ _) cx Tryz.func243 loopsL_nil boxesL_none e_q6
theorem fk_q6:FK M8:=fun _ _ h=>h.cons M8 (by kernel_rfl) Wh.q6_v ok_q6
def Jb:iq:=⟨140,[.v .str,.v .str],[.v .bool],Wh.q13,Wh.OD⟩
def C_q13:Cx:=⟨cr,[M8.entry],false,Gl⟩
theorem e_q13:EV C_q13 mw Tryz.f140 [.v .str,.v .str] [.v .bool] Wh.q13:=by intro xs;kernel_rfl
theorem ok_q13:CO Jb:=con_ok (Ls:=[]) mixed (ct _ _) (fk_q6 _ cx) Tryz.func140 loopsL_nil boxesL_none e_q13
theorem XH:FK Jb:=fun _ _ h=>h.cons Jb (by kernel_rfl) Wh.OH ok_q13
def Jz:iq:=⟨74,[.v .str],[.v (.own .str),.v I6],Wh.C5,Wh.Pe⟩
def C_q88:Cx:=⟨cr,[Jb.entry,NH.entry,Ac.entry,H9.entry,I5.entry,JE.entry],false,Gl⟩
def P_:b8:=kS ⟨[(5,.leaf I6),(4,.whole z0 .str),(0,.leaf .str)],[(z0,false,.rows .str)]⟩ [(.ret,⟨[(2,.whole z0 .str),(3,.leaf I6)],[(z0,false,.rows .str)]⟩)] Wh.acv Wh.C6
def ZW:LT:=[(3,P_)]
theorem ai_:∀x,round C_q88 ZW (jo Tryz.f74 0) P_ x=Wh.C6 x:=by intro x;kernel_rfl
theorem e_q88:EV C_q88 ZW Tryz.f74 [.v .str] [.v (.own .str),.v I6] Wh.C5:=by intro xs;kernel_rfl
theorem ok_q88:CO Jz:=con_ok (Ls:=[P_]) mixed (ct _ _) (XH _ (fk_q93 _ (AZ _ (Sg _ (XC _ (X_ _ cx)))))) Tryz.func74 (loopsC (loopD_ok ai_) loopsL_nil) boxesL_none e_q88
theorem X6:FK Jz:=fun _ _ h=>h.cons Jz (by kernel_rfl) Wh.V0 ok_q88
def H6:iq:=⟨233,[.v I6],[.v .bool],Wh.Bq,Wh.Kn⟩
def C_q155:Cx:=⟨cr,[Ac.entry],false,Gl⟩
theorem e_q155:EV C_q155 mw Tryz.f233 [.v I6] [.v .bool] Wh.Bq:=by intro xs;kernel_rfl
theorem agQ:CO H6:=con_ok (Ls:=[]) mixed (ct _ _) (AZ _ cx) Tryz.func233 loopsL_nil boxesL_none e_q155
theorem Sd:FK H6:=fun _ _ h=>h.cons H6 (by kernel_rfl) Wh.OQ agQ
def HY:iq:=⟨213,[.v .str],[.v .bool],Wh.BT,Wh.Ke⟩
def WK:Cx:=⟨cr,[Ac.entry],false,Gl⟩
def Qa:b8:=kS ⟨[(6,.leaf I6),(0,.leaf .str),(5,.leaf I6)],[]⟩ [(.ret,⟨[(2,.leaf .bool)],[]⟩),((.exit 0),⟨[(0,.leaf .str)],[]⟩)] Wh.aaK Wh.A6
def Y7:LT:=[(2,Qa)]
theorem aja:∀x,round WK Y7 (jo Tryz.f213 0) Qa x=Wh.A6 x:=by intro x;kernel_rfl
theorem e_q118:EV WK Y7 Tryz.f213 [.v .str] [.v .bool] Wh.BT:=by intro xs;kernel_rfl
theorem age:CO HY:=con_ok (Ls:=[Qa]) mixed (ct _ _) (AZ _ cx) Tryz.func213 (loopsC (loopD_ok aja) loopsL_nil) boxesL_none e_q118
theorem Sb:FK HY:=fun _ _ h=>h.cons HY (by kernel_rfl) Wh.OA age
def Mz:iq:=⟨192,[.v I6,.v .str,.v .str],[.v .str],Wh.q23,Wh.q23'⟩
def C_q23:Cx:=⟨cr,[H9.entry,HY.entry,H6.entry],false,Gl⟩
theorem e_q23:EV C_q23 mw Tryz.f192 [.v I6,.v .str,.v .str] [.v .str] Wh.q23:=by intro xs;kernel_rfl
theorem ok_q23:CO Mz:=con_ok (Ls:=[]) mixed (ct _ _) (Sg _ (Sb _ (Sd _ cx))) Tryz.func192 loopsL_nil boxesL_none e_q23
theorem fk_q23:FK Mz:=fun _ _ h=>h.cons Mz (by kernel_rfl) Wh.U_ ok_q23
def Jx:iq:=⟨267,[.v fk],[.v (.pair I6 (.pair (.own an) .unit))],Wh.Eh,Wh.KD⟩
def C_q53:Cx:=⟨cr,[],false,Gl⟩
theorem e_q53:EV C_q53 mw Tryz.f267 [.v fk] [.v (.pair I6 (.pair (.own an) .unit))] Wh.Eh:=by intro xs;kernel_rfl
theorem ok_q53:CO Jx:=con_ok (Ls:=[]) mixed (ct _ _) cx Tryz.func267 loopsL_nil boxesL_none e_q53
theorem X4:FK Jx:=fun _ _ h=>h.cons Jx (by kernel_rfl) Wh.Hw ok_q53
def Mv:iq:=⟨276,[.v an,.v (.ref I6),.v (.ref .str)],[.v .bool],Wh.q18,Wh.q18'⟩
def C_q18:Cx:=⟨cr,[],false,Gl⟩
theorem e_q18:EV C_q18 mw Tryz.f276 [.v an,.v (.ref I6),.v (.ref .str)] [.v .bool] Wh.q18:=by intro xs;kernel_rfl
theorem ok_q18:CO Mv:=con_ok (Ls:=[]) mixed (ct _ _) cx Tryz.func276 loopsL_nil boxesL_none e_q18
theorem fk_q18:FK Mv:=fun _ _ h=>h.cons Mv (by kernel_rfl) Wh.U7 ok_q18
def MG:iq:=⟨165,[.v (.lst an),.f 276 (.pair (.ref I6) (.pair (.ref .str) .unit))],[.v I6],Wh.q3,Wh.q3'⟩
def C_q3:Cx:=⟨cr,[Mv.entry],false,Gl⟩
def Q2:b8:=kS ⟨[(8,.leaf I6),(0,.leaf (.lst an)),(1,.fn 276 (.bB (.leaf (.ref I6)) (.bB (.leaf (.ref .str)) (.b7)))),(7,.leaf I6)],[]⟩ [(.ret,⟨[(4,.leaf I6)],[]⟩),((.exit 0),⟨[],[]⟩)] Wh.abV Wh.Ed
def lt_q3:LT:=[(2,Q2)]
theorem aj0:∀x,round C_q3 lt_q3 (jo Tryz.f165 0) Q2 x=Wh.Ed x:=by intro x;kernel_rfl
theorem e_q3:EV C_q3 lt_q3 Tryz.f165 [.v (.lst an),.f 276 (.pair (.ref I6) (.pair (.ref .str) .unit))] [.v I6] Wh.q3:=by intro xs;kernel_rfl
theorem ok_q3:CO MG:=con_ok (Ls:=[Q2]) mixed (ct _ _) (fk_q18 _ cx) Tryz.func165 (loopsC (loopD_ok aj0) loopsL_nil) boxesL_none e_q3
theorem fk_q3:FK MG:=fun _ _ h=>h.cons MG (by kernel_rfl) Wh.q3_v ok_q3
def Jv:iq:=⟨193,[.v fk,.v I6,.v .str],[.v I6],Wh.Cl,Wh.O7⟩
def C_q47:Cx:=⟨cr,[MG.entry],false,Gl⟩
theorem e_q47:EV C_q47 mw Tryz.f193 [.v fk,.v I6,.v .str] [.v I6] Wh.Cl:=by intro xs;kernel_rfl
theorem ok_q47:CO Jv:=con_ok (Ls:=[]) mixed (ct _ _) (fk_q3 _ cx) Tryz.func193 loopsL_nil boxesL_none e_q47
theorem X2:FK Jv:=fun _ _ h=>h.cons Jv (by kernel_rfl) Wh.KA ok_q47
def Lu:iq:=⟨277,[.k (.own an),.v I6,.v I6],[.v (.own an)],Wh.q10,Wh.q10'⟩
def C_q10:Cx:=⟨cr,[],false,Gl⟩
theorem e_q10:EV C_q10 mw Tryz.f277 [.k (.own an),.v I6,.v I6] [.v (.own an)] Wh.q10:=by intro xs;kernel_rfl
theorem ok_q10:CO Lu:=con_ok (Ls:=[]) mixed (ct _ _) cx Tryz.func277 loopsL_nil boxesL_none e_q10
theorem fk_q10:FK Lu:=fun _ _ h=>h.cons Lu (by kernel_rfl) Wh.q10_v ok_q10
def MY:iq:=⟨194,[.v fk,.v I6,.v .str],[.v (.pair I6 (.pair (.own an) .unit)),.v I6],Wh.q48,Wh.q48'⟩
def C_q48:Cx:=⟨cr,[Lu.entry,Jv.entry,Jx.entry],false,Gl⟩
theorem e_q48:EV C_q48 mw Tryz.f194 [.v fk,.v I6,.v .str] [.v (.pair I6 (.pair (.own an) .unit)),.v I6] Wh.q48:=by intro xs;kernel_rfl
theorem ok_q48:CO MY:=con_ok (Ls:=[]) mixed (ct _ _) (fk_q10 _ (X2 _ (X4 _ cx))) Tryz.func194 loopsL_nil boxesL_none e_q48
theorem fk_q48:FK MY:=fun _ _ h=>h.cons MY (by kernel_rfl) Wh.q48_v ok_q48
def Jl:iq:=⟨130,[.v I6,.v .str,.v .str],[.v .bool],Wh.q16,Wh.OS⟩
def C_q16:Cx:=⟨cr,[Ac.entry,HY.entry,H6.entry],false,Gl⟩
theorem e_q16:EV C_q16 mw Tryz.f130 [.v I6,.v .str,.v .str] [.v .bool] Wh.q16:=by intro xs;kernel_rfl
theorem ok_q16:CO Jl:=con_ok (Ls:=[]) mixed (ct _ _) (AZ _ (Sb _ (Sd _ cx))) Tryz.func130 loopsL_nil boxesL_none e_q16
theorem XR:FK Jl:=fun _ _ h=>h.cons Jl (by kernel_rfl) Wh.Kq ok_q16
def MB:iq:=⟨273,[.v fk,.v I6],[.v I6],Wh.q25,Wh.q25'⟩
def C_q25:Cx:=⟨cr,[],false,Gl⟩
def P8:b8:=kS ⟨[(11,.leaf I6),(5,.leaf I6),(1,.leaf I6),(9,.leaf (.lst an)),(10,.leaf I6)],[]⟩ [((.exit 0),⟨[(5,.leaf I6)],[]⟩)] Wh.abL Wh.D_
def ZB:LT:=[(3,P8)]
theorem ai8:∀x,round C_q25 ZB (jo Tryz.f273 0) P8 x=Wh.D_ x:=by intro x;kernel_rfl
theorem e_q25:EV C_q25 ZB Tryz.f273 [.v fk,.v I6] [.v I6] Wh.q25:=by intro xs;kernel_rfl
theorem ok_q25:CO MB:=con_ok (Ls:=[P8]) mixed (ct _ _) cx Tryz.func273 (loopsC (loopD_ok ai8) loopsL_nil) boxesL_none e_q25
theorem fk_q25:FK MB:=fun _ _ h=>h.cons MB (by kernel_rfl) Wh.q25_v ok_q25
def MW:iq:=⟨398,[.v I6],[.v .bool],Wh.q45,Wh.O6⟩
def C_q45:Cx:=⟨cr,[],false,Gl⟩
theorem e_q45:EV C_q45 mw Tryz.f398 [.v I6] [.v .bool] Wh.q45:=by intro xs;kernel_rfl
theorem ok_q45:CO MW:=con_ok (Ls:=[]) mixed (ct _ _) cx Tryz.func398 loopsL_nil boxesL_none e_q45
theorem fk_q45:FK MW:=fun _ _ h=>h.cons MW (by kernel_rfl) Wh.q45_v ok_q45
def Mm:iq:=⟨337,[.v I6,.v I6],[.v I6],Wh.q17,Wh.q17'⟩
def C_q17:Cx:=⟨cr,[MW.entry],false,Gl⟩
theorem e_q17:EV C_q17 mw Tryz.f337 [.v I6,.v I6] [.v I6] Wh.q17:=by intro xs;kernel_rfl
theorem ok_q17:CO Mm:=con_ok (Ls:=[]) mixed (ct _ _) (fk_q45 _ cx) Tryz.func337 loopsL_nil boxesL_none e_q17
theorem fk_q17:FK Mm:=fun _ _ h=>h.cons Mm (by kernel_rfl) Wh.q17_v ok_q17
def L3:iq:=⟨399,[.v .str],[.v .bool],Wh.q14,Wh.OI⟩
def C_q14:Cx:=⟨cr,[],false,Gl⟩
theorem e_q14:EV C_q14 mw Tryz.f399 [.v .str] [.v .bool] Wh.q14:=by intro xs;kernel_rfl
theorem ok_q14:CO L3:=con_ok (Ls:=[]) mixed (ct _ _) cx Tryz.func399 loopsL_nil boxesL_none e_q14
theorem fk_q14:FK L3:=fun _ _ h=>h.cons L3 (by kernel_rfl) Wh.q14_v ok_q14
def Nj:iq:=⟨338,[.v .str,.v .str],[.v I6],Wh.q7,Wh.q7'⟩
def C_q7:Cx:=⟨cr,[L3.entry],false,Gl⟩
theorem e_q7:EV C_q7 mw Tryz.f338 [.v .str,.v .str] [.v I6] Wh.q7:=by intro xs;kernel_rfl
theorem ok_q7:CO Nj:=con_ok (Ls:=[]) mixed (ct _ _) (fk_q14 _ cx) Tryz.func338 loopsL_nil boxesL_none e_q7
theorem fk_q7:FK Nj:=fun _ _ h=>h.cons Nj (by kernel_rfl) Wh.q7_v ok_q7
def L_:iq:=⟨336,[.v (.lst I6)],[.v I6],Wh.G2,Wh.Un⟩
def WV:Cx:=⟨cr,[],false,Gl⟩
def P6:b8:=kS ⟨[(8,.leaf I6),(3,.leaf I6),(6,.leaf (.lst I6)),(7,.leaf I6)],[]⟩ [(.ret,⟨[(2,.leaf I6)],[]⟩),((.exit 0),⟨[(3,.leaf I6)],[]⟩)] Wh.aba Wh.Fh
def Zh:LT:=[(3,P6)]
theorem ai6:∀x,round WV Zh (jo Tryz.f336 0) P6 x=Wh.Fh x:=by intro x;kernel_rfl
theorem e_q150:EV WV Zh Tryz.f336 [.v (.lst I6)] [.v I6] Wh.G2:=by intro xs;kernel_rfl
theorem agL:CO L_:=con_ok (Ls:=[P6]) mixed (ct _ _) cx Tryz.func336 (loopsC (loopD_ok ai6) loopsL_nil) boxesL_none e_q150
theorem aey:FK L_:=fun _ _ h=>h.cons L_ (by kernel_rfl) Wh.abb agL
def Jt:iq:=⟨275,[.v an,.v an],[.v I6],Wh.q28,Wh.q28'⟩
def C_q28:Cx:=⟨cr,[L_.entry,Nj.entry,Mm.entry],false,Gl⟩
theorem e_q28:EV C_q28 mw Tryz.f275 [.v an,.v an] [.v I6] Wh.q28:=by intro xs;kernel_rfl
theorem ok_q28:CO Jt:=con_ok (Ls:=[]) mixed (ct _ _) (aey _ (fk_q7 _ (fk_q17 _ cx))) Tryz.func275 loopsL_nil boxesL_none e_q28
theorem XZ:FK Jt:=fun _ _ h=>h.cons Jt (by kernel_rfl) Wh.O3 ok_q28
def Lr:iq:=⟨390,[.m an,.v I6,.v I6,.f 275 .unit],[],Wh.q0,Wh.q0'⟩
def C_q0:Cx:=⟨cr,[Jt.entry],false,Gl⟩
def Q3:b8:=kS ⟨[(0,.whole 900 an),(8,.leaf I6),(3,.fn 275 (.b7)),(1,.leaf I6),(2,.leaf I6)],[(900,false,.rows an)]⟩ [((.exit 0),⟨[],[(900,false,.rows an)]⟩)] Wh.aal Wh.Cf
def Q4:b8:=kS ⟨[(9,.leaf I6),(0,.whole 900 an),(3,.fn 275 (.b7)),(1,.leaf I6),(2,.leaf I6),(8,.leaf I6)],[(900,false,.rows an)]⟩ [((.exit 2),⟨[(0,.whole 900 an),(3,.fn 275 (.b7)),(1,.leaf I6),(2,.leaf I6),(8,.leaf I6)],[(900,false,.rows an)]⟩)] Wh.aam Wh.CK
def SN:LT:=[(1,Q3),(4,Q4)]
theorem aj1:∀x,round C_q0 SN (jo Tryz.f390 0) Q3 x=Wh.Cf x:=by intro x;kernel_rfl
theorem aj2:∀x,round C_q0 SN (jo Tryz.f390 1) Q4 x=Wh.CK x:=by intro x;kernel_rfl
theorem e_q0:EV C_q0 SN Tryz.f390 [.m an,.v I6,.v I6,.f 275 .unit] [] Wh.q0:=by intro xs;kernel_rfl
theorem ok_q0:CO Lr:=con_ok (Ls:=[Q3,Q4]) mixed (ct _ _) (XZ _ cx) Tryz.func390 (loopsC (loopD_ok aj1) (loopsC (loopD_ok aj2) loopsL_nil)) boxesL_none e_q0
theorem fk_q0:FK Lr:=fun _ _ h=>h.cons Lr (by kernel_rfl) Wh.q0_v ok_q0
def Lt:iq:=⟨335,[.m an,.v I6,.v I6,.v I6,.f 275 .unit],[],Wh.q1,Wh.q1'⟩
def C_q1:Cx:=⟨cr,[Jt.entry,Lr.entry],false,Gl⟩
def Q5:b8:=kS ⟨[(4,.fn 275 (.b7)),(2,.leaf I6),(1,.leaf I6),(0,.whole 900 an),(11,.leaf .bool),(10,.leaf .bool),(3,.leaf I6)],[(900,false,.rows an)]⟩ [(.ret,⟨[],[(900,false,.rows an)]⟩)] Wh.abJ Wh.IL
def lt_q1:LT:=[(2,Q5)]
theorem aj3:∀x,round C_q1 lt_q1 (jo Tryz.f335 0) Q5 x=Wh.IL x:=by intro x;kernel_rfl
theorem e_q1:EV C_q1 lt_q1 Tryz.f335 [.m an,.v I6,.v I6,.v I6,.f 275 .unit] [] Wh.q1:=by intro xs;kernel_rfl
theorem ok_q1:CO Lt:=con_ok (Ls:=[Q5]) mixed (ct _ _) (XZ _ (fk_q0 _ cx)) Tryz.func335 (loopsC (loopD_ok aj3) loopsL_nil) boxesL_none e_q1
theorem fk_q1:FK Lt:=fun _ _ h=>h.cons Lt (by kernel_rfl) Wh.q1_v ok_q1
def MR:iq:=⟨274,[.m an,.f 275 .unit],[],Wh.q4,Wh.q4'⟩
def C_q4:Cx:=⟨cr,[Lt.entry,Lq.entry],false,Gl⟩
theorem e_q4:EV C_q4 mw Tryz.f274 [.m an,.f 275 .unit] [] Wh.q4:=by intro xs;kernel_rfl
theorem ok_q4:CO MR:=con_ok (Ls:=[]) mixed (ct _ _) (fk_q1 _ (adZ _ cx)) Tryz.func274 loopsL_nil boxesL_none e_q4
theorem fk_q4:FK MR:=fun _ _ h=>h.cons MR (by kernel_rfl) Wh.q4_v ok_q4
def NA:iq:=⟨190,[.v fk,.v I6,.v .str,.v .str],[.v (.pair I6 (.pair (.own an) .unit)),.v I6],Wh.Em,Wh.q85'⟩
def C_q85:Cx:=⟨cr,[MR.entry,MB.entry,Jv.entry,Jl.entry,Jx.entry],false,Gl⟩
theorem e_q85:EV C_q85 mw Tryz.f190 [.v fk,.v I6,.v .str,.v .str] [.v (.pair I6 (.pair (.own an) .unit)),.v I6] Wh.Em:=by intro xs;kernel_rfl
theorem ok_q85:CO NA:=con_ok (Ls:=[]) mixed (ct _ _) (fk_q4 _ (fk_q25 _ (X2 _ (XR _ (X4 _ cx))))) Tryz.func190 loopsL_nil boxesL_none e_q85
theorem fk_q85:FK NA:=fun _ _ h=>h.cons NA (by kernel_rfl) Wh.q85_v ok_q85
def MA:iq:=⟨160,[.v fk,.v .str],[.v (.pair I6 (.pair (.own an) .unit)),.v .bool],Wh.q24,Wh.q24'⟩
def C_q24:Cx:=⟨cr,[NA.entry,MY.entry,Mz.entry,I5.entry,JE.entry],false,Gl⟩
theorem e_q24:EV C_q24 mw Tryz.f160 [.v fk,.v .str] [.v (.pair I6 (.pair (.own an) .unit)),.v .bool] Wh.q24:=by intro xs;kernel_rfl
theorem ok_q24:CO MA:=con_ok (Ls:=[]) mixed (ct _ _) (fk_q85 _ (fk_q48 _ (fk_q23 _ (XC _ (X_ _ cx))))) Tryz.func160 loopsL_nil boxesL_none e_q24
theorem fk_q24:FK MA:=fun _ _ h=>h.cons MA (by kernel_rfl) Wh.Va ok_q24
def Jj:iq:=⟨75,[.v (.lst .str)],[.v (.pair I6 (.pair (.own an) .unit)),.v .bool],Wh.DR,Wh.ON⟩
def WW:Cx:=⟨cr,[MA.entry],false,Gl⟩
def P7:b8:=kS ⟨[(2,.aZ z0 []),(13,.leaf I6),(4,.aZ z1 []),(11,.leaf (.lst .str)),(12,.leaf I6)],[(z0,false,.var fk (.pair (.leaf I6) (.pair (.whole z2 an) (.leaf .unit)))),(z1,false,.var fk (.pair (.leaf I6) (.pair (.whole z3 an) (.leaf .unit)))),(z2,false,.rows an),(z3,false,.rows an)]⟩ [(.ret,⟨[(2,.aZ z0 []),(3,.leaf .bool)],[(z0,false,.var fk (.pair (.leaf I6) (.pair (.whole z1 an) (.leaf .unit)))),(z1,false,.rows an)]⟩),((.exit 0),⟨[(2,.aZ z0 []),(4,.aZ z1 [])],[(z0,false,.var fk (.pair (.leaf I6) (.pair (.whole z2 an) (.leaf .unit)))),(z1,false,.var fk (.pair (.leaf I6) (.pair (.whole z3 an) (.leaf .unit)))),(z2,false,.rows an),(z3,false,.rows an)]⟩)] Wh.abc Wh.DS
def Zi:LT:=[(3,P7)]
theorem ai7:∀x,round WW Zi (jo Tryz.f75 0) P7 x=Wh.DS x:=by intro x;kernel_rfl
theorem e_q151:EV WW Zi Tryz.f75 [.v (.lst .str)] [.v (.pair I6 (.pair (.own an) .unit)),.v .bool] Wh.DR:=by intro xs;kernel_rfl
theorem agM:CO Jj:=con_ok (Ls:=[P7]) mixed (ct _ _) (fk_q24 _ cx) Tryz.func75 (loopsC (loopD_ok ai7) loopsL_nil) boxesL_none e_q151
theorem XP:FK Jj:=fun _ _ h=>h.cons Jj (by kernel_rfl) Wh.Uq agM
def LM:iq:=⟨161,[.v (.lst an),.v (.lst an)],[.v .bool],Wh.q12,Wh.q12'⟩
def C_q12:Cx:=⟨cr,[],false,Gl⟩
def Q0:b8:=kS ⟨[(13,.leaf I6),(1,.leaf (.lst an)),(0,.leaf (.lst an)),(12,.leaf I6)],[]⟩ [(.ret,⟨[(4,.leaf .bool)],[]⟩),((.exit 0),⟨[],[]⟩)] Wh.aaS Wh.DK
def Y9:LT:=[(4,Q0)]
theorem ajY:∀x,round C_q12 Y9 (jo Tryz.f161 0) Q0 x=Wh.DK x:=by intro x;kernel_rfl
theorem e_q12:EV C_q12 Y9 Tryz.f161 [.v (.lst an),.v (.lst an)] [.v .bool] Wh.q12:=by intro xs;kernel_rfl
theorem ok_q12:CO LM:=con_ok (Ls:=[Q0]) mixed (ct _ _) cx Tryz.func161 (loopsC (loopD_ok ajY) loopsL_nil) boxesL_none e_q12
theorem fk_q12:FK LM:=fun _ _ h=>h.cons LM (by kernel_rfl) Wh.q12_v ok_q12
def NI:iq:=⟨76,[.v fk,.v fk],[.v .bool],Wh.q94,Wh.q94'⟩
def C_q94:Cx:=⟨cr,[LM.entry],false,Gl⟩
theorem e_q94:EV C_q94 mw Tryz.f76 [.v fk,.v fk] [.v .bool] Wh.q94:=by intro xs;kernel_rfl
theorem ok_q94:CO NI:=con_ok (Ls:=[]) mixed (ct _ _) (fk_q12 _ cx) Tryz.func76 loopsL_nil boxesL_none e_q94
theorem fk_q94:FK NI:=fun _ _ h=>h.cons NI (by kernel_rfl) Wh.q94_v ok_q94
def MC:iq:=⟨264,[.v n5,.v I6,.v I6],[.v I6],Wh.q26,Wh.q26'⟩
def C_q26:Cx:=⟨cr,[],false,Gl⟩
def Qf:b8:=kS ⟨[(12,.leaf I6),(2,.leaf I6),(1,.leaf I6),(10,.leaf (.lst ng)),(11,.leaf I6)],[]⟩ [(.ret,⟨[(6,.leaf I6)],[]⟩),((.exit 0),⟨[],[]⟩)] Wh.abM Wh.Ea
def ZC:LT:=[(2,Qf)]
theorem ajf:∀x,round C_q26 ZC (jo Tryz.f264 0) Qf x=Wh.Ea x:=by intro x;kernel_rfl
theorem e_q26:EV C_q26 ZC Tryz.f264 [.v n5,.v I6,.v I6] [.v I6] Wh.q26:=by intro xs;kernel_rfl
theorem ok_q26:CO MC:=con_ok (Ls:=[Qf]) mixed (ct _ _) cx Tryz.func264 (loopsC (loopD_ok ajf) loopsL_nil) boxesL_none e_q26
theorem fk_q26:FK MC:=fun _ _ h=>h.cons MC (by kernel_rfl) Wh.q26_v ok_q26
def NF:iq:=⟨265,[.v n5,.v I6],[.v I6],Wh.q90,Wh.q90'⟩
def C_q90:Cx:=⟨cr,[],false,Gl⟩
def Qg:b8:=kS ⟨[(11,.leaf I6),(5,.leaf I6),(1,.leaf I6),(9,.leaf (.lst ng)),(10,.leaf I6)],[]⟩ [((.exit 0),⟨[(5,.leaf I6)],[]⟩)] Wh.acy Wh.En
def ZY:LT:=[(3,Qg)]
theorem ajg:∀x,round C_q90 ZY (jo Tryz.f265 0) Qg x=Wh.En x:=by intro x;kernel_rfl
theorem e_q90:EV C_q90 ZY Tryz.f265 [.v n5,.v I6] [.v I6] Wh.q90:=by intro xs;kernel_rfl
theorem ok_q90:CO NF:=con_ok (Ls:=[Qg]) mixed (ct _ _) cx Tryz.func265 (loopsC (loopD_ok ajg) loopsL_nil) boxesL_none e_q90
theorem fk_q90:FK NF:=fun _ _ h=>h.cons NF (by kernel_rfl) Wh.IQ ok_q90
def LN:iq:=⟨162,[.v n5],[.v .bool],Wh.Fb,Wh.TK⟩
def PZ:Cx:=⟨cr,[NF.entry,MC.entry,H6.entry,Ac.entry],false,Gl⟩
def Qd:b8:=kS ⟨[(19,.leaf I6),(1,.aZ z0 []),(17,.leaf (.lst ng)),(18,.leaf I6)],[(z0,false,.var n5 (.leaf n5))]⟩ [(.ret,⟨[(2,.leaf .bool)],[]⟩),((.exit 0),⟨[(1,.aZ z0 [])],[(z0,false,.var n5 (.leaf n5))]⟩)] Wh.aaM Wh.CN
def Qe:b8:=kS ⟨[(63,.leaf I6),(1,.aZ z0 [])],[(z0,false,.var n5 (.leaf n5))]⟩ [(.ret,⟨[(2,.leaf .bool)],[]⟩),((.exit 2),⟨[],[]⟩)] Wh.aaN Wh.CP
def SQ:LT:=[(4,Qd),(13,Qe)]
theorem ajd:∀x,round PZ SQ (jo Tryz.f162 0) Qd x=Wh.CN x:=by intro x;kernel_rfl
theorem aje:∀x,round PZ SQ (jo Tryz.f162 1) Qe x=Wh.CP x:=by intro x;kernel_rfl
theorem e_q120:EV PZ SQ Tryz.f162 [.v n5] [.v .bool] Wh.Fb:=by intro xs;kernel_rfl
theorem agh:CO LN:=con_ok (Ls:=[Qd,Qe]) mixed (ct _ _) (fk_q90 _ (fk_q26 _ (Sd _ (AZ _ cx)))) Tryz.func162 (loopsC (loopD_ok ajd) (loopsC (loopD_ok aje) loopsL_nil)) boxesL_none e_q120
theorem aee:FK LN:=fun _ _ h=>h.cons LN (by kernel_rfl) Wh.TN agh
def Nv:iq:=⟨166,[.v an,.v (.ref I6)],[.v .bool],Wh.IP,Wh.q8'⟩
def C_q8:Cx:=⟨cr,[],false,Gl⟩
theorem e_q8:EV C_q8 mw Tryz.f166 [.v an,.v (.ref I6)] [.v .bool] Wh.IP:=by intro xs;kernel_rfl
theorem ok_q8:CO Nv:=con_ok (Ls:=[]) mixed (ct _ _) cx Tryz.func166 loopsL_nil boxesL_none e_q8
theorem fk_q8:FK Nv:=fun _ _ h=>h.cons Nv (by kernel_rfl) Wh.q8_v ok_q8
def My:iq:=⟨165,[.v (.lst an),.f 166 (.pair (.ref I6) .unit)],[.v I6],Wh.q2,Wh.D8⟩
def C_q2:Cx:=⟨cr,[Nv.entry],false,Gl⟩
def Q1:b8:=kS ⟨[(8,.leaf I6),(0,.leaf (.lst an)),(1,.fn 166 (.bB (.leaf (.ref I6)) (.b7))),(7,.leaf I6)],[]⟩ [(.ret,⟨[(4,.leaf I6)],[]⟩),((.exit 0),⟨[],[]⟩)] Wh.abP Wh.Eb
def lt_q2:LT:=[(2,Q1)]
theorem ajZ:∀x,round C_q2 lt_q2 (jo Tryz.f165 0) Q1 x=Wh.Eb x:=by intro x;kernel_rfl
theorem e_q2:EV C_q2 lt_q2 Tryz.f165 [.v (.lst an),.f 166 (.pair (.ref I6) .unit)] [.v I6] Wh.q2:=by intro xs;kernel_rfl
theorem ok_q2:CO My:=con_ok (Ls:=[Q1]) mixed (ct _ _) (fk_q8 _ cx) Tryz.func165 (loopsC (loopD_ok ajZ) loopsL_nil) boxesL_none e_q2
theorem fk_q2:FK My:=fun _ _ h=>h.cons My (by kernel_rfl) Wh.q2_v ok_q2
def Ji:iq:=⟨80,[.v fk,.v I6],[.v I6],Wh.DQ,Wh.OM⟩
def C_q15:Cx:=⟨cr,[My.entry],false,Gl⟩
theorem e_q15:EV C_q15 mw Tryz.f80 [.v fk,.v I6] [.v I6] Wh.DQ:=by intro xs;kernel_rfl
theorem ok_q15:CO Ji:=con_ok (Ls:=[]) mixed (ct _ _) (fk_q2 _ cx) Tryz.func80 loopsL_nil boxesL_none e_q15
theorem XO:FK Ji:=fun _ _ h=>h.cons Ji (by kernel_rfl) Wh.G8 ok_q15
def Ga:iq:=⟨164,[.v so],[.v I6],Wh.AQ,Wh.zq⟩
def C_q20:Cx:=⟨cr,[],false,Gl⟩
theorem e_q20:EV C_q20 mw Tryz.f164 [.v so] [.v I6] Wh.AQ:=by intro xs;kernel_rfl
theorem ok_q20:CO Ga:=con_ok (Ls:=[]) mixed (ct _ _) cx Tryz.func164 loopsL_nil boxesL_none e_q20
theorem NY:FK Ga:=fun _ _ h=>h.cons Ga (by kernel_rfl) Wh.q20_v ok_q20
def ND:iq:=⟨163,[.v I6],[.v (.pair I6 (.pair I6 (.pair (.own I6) (.pair (.own I6) .unit))))],Wh.q89,Wh.q89'⟩
def C_q89:Cx:=⟨cr,[Ga.entry,Ac.entry],false,Gl⟩
def Qb:b8:=kS ⟨[(3,.aZ z0 []),(2,.aZ z1 [])],[(z0,false,.var so (.pair (.leaf I6) (.pair (.leaf I6) (.pair (.whole z2 I6) (.pair (.whole z3 I6) (.leaf .unit)))))),(z1,false,.var so (.pair (.leaf I6) (.pair (.leaf I6) (.pair (.whole 500000004 I6) (.pair (.whole 500000005 I6) (.leaf .unit)))))),(z2,false,.rows I6),(z3,false,.rows I6),(500000004,false,.rows I6),(500000005,false,.rows I6)]⟩ [((.exit 0),⟨[(2,.aZ z0 []),(3,.aZ z1 [])],[(z0,false,.var so (.pair (.leaf I6) (.pair (.leaf I6) (.pair (.whole z2 I6) (.pair (.whole z3 I6) (.leaf .unit)))))),(z1,false,.var so (.pair (.leaf I6) (.pair (.leaf I6) (.pair (.whole 500000004 I6) (.pair (.whole 500000005 I6) (.leaf .unit)))))),(z2,false,.rows I6),(z3,false,.rows I6),(500000004,false,.rows I6),(500000005,false,.rows I6)]⟩)] Wh.acw Wh.KH
def ZX:LT:=[(4,Qb)]
theorem ajb:∀x,round C_q89 ZX (jo Tryz.f163 0) Qb x=Wh.KH x:=by intro x;kernel_rfl
theorem e_q89:EV C_q89 ZX Tryz.f163 [.v I6] [.v (.pair I6 (.pair I6 (.pair (.own I6) (.pair (.own I6) .unit))))] Wh.q89:=by intro xs;kernel_rfl
theorem ok_q89:CO ND:=con_ok (Ls:=[Qb]) mixed (ct _ _) (NY _ (AZ _ cx)) Tryz.func163 (loopsC (loopD_ok ajb) loopsL_nil) boxesL_none e_q89
theorem fk_q89:FK ND:=fun _ _ h=>h.cons ND (by kernel_rfl) Wh.q89_v ok_q89
def M1:iq:=⟨77,[.v n5,.v fk],[.v .bool],Wh.q54,Wh.q54'⟩
def C_q54:Cx:=⟨cr,[Ga.entry,ND.entry,Ji.entry,LN.entry],false,Gl⟩
def Qv:b8:=kS ⟨[(14,.leaf I6),(3,.aZ z0 []),(12,.leaf (.lst ng)),(13,.leaf I6)],[(z0,false,.var fk (.leaf fk))]⟩ [(.ret,⟨[(4,.leaf .bool)],[]⟩),((.exit 0),⟨[],[]⟩)] Wh.ab4 Wh.Bt
def ZP:LT:=[(4,Qv)]
theorem ajw:∀x,round C_q54 ZP (jo Tryz.f77 0) Qv x=Wh.Bt x:=by intro x;kernel_rfl
theorem e_q54:EV C_q54 ZP Tryz.f77 [.v n5,.v fk] [.v .bool] Wh.q54:=by intro xs;kernel_rfl
theorem ok_q54:CO M1:=con_ok (Ls:=[Qv]) mixed (ct _ _) (NY _ (fk_q89 _ (XO _ (aee _ cx)))) Tryz.func77 (loopsC (loopD_ok ajw) loopsL_nil) boxesL_none e_q54
theorem fk_q54:FK M1:=fun _ _ h=>h.cons M1 (by kernel_rfl) Wh.q54_v ok_q54
def MX:iq:=⟨78,[.v nI],[.v .bool],Wh.q46,Wh.q46'⟩
def C_q46:Cx:=⟨cr,[Ac.entry],false,Gl⟩
theorem e_q46:EV C_q46 mw Tryz.f78 [.v nI] [.v .bool] Wh.q46:=by intro xs;kernel_rfl
theorem ok_q46:CO MX:=con_ok (Ls:=[]) mixed (ct _ _) (AZ _ cx) Tryz.func78 loopsL_nil boxesL_none e_q46
theorem fk_q46:FK MX:=fun _ _ h=>h.cons MX (by kernel_rfl) Wh.q46_v ok_q46
def H8:iq:=⟨79,[.v I6],[.v .bool],Wh.Co,Wh.IN⟩
def C_q52:Cx:=⟨cr,[Ac.entry],false,Gl⟩
theorem e_q52:EV C_q52 mw Tryz.f79 [.v I6] [.v .bool] Wh.Co:=by intro xs;kernel_rfl
theorem ok_q52:CO H8:=con_ok (Ls:=[]) mixed (ct _ _) (AZ _ cx) Tryz.func79 loopsL_nil boxesL_none e_q52
theorem Sf:FK H8:=fun _ _ h=>h.cons H8 (by kernel_rfl) Wh.KC ok_q52
def JB:iq:=⟨81,[.v I6],[.v I6],Wh.q92,Wh.Pf⟩
def C_q92:Cx:=⟨cr,[],false,Gl⟩
theorem e_q92:EV C_q92 mw Tryz.f81 [.v I6] [.v I6] Wh.q92:=by intro xs;kernel_rfl
theorem ok_q92:CO JB:=con_ok (Ls:=[]) mixed (ct _ _) cx Tryz.func81 loopsL_nil boxesL_none e_q92
theorem X7:FK JB:=fun _ _ h=>h.cons JB (by kernel_rfl) Wh.Pg ok_q92
def MZ:iq:=⟨17,[.v nC],[.v .bool],Wh.q50,Wh.q50'⟩
def P1:Cx:=⟨cr,[JB.entry,Ji.entry,H8.entry,MX.entry,M1.entry,NI.entry,Jj.entry,Jz.entry,Ac.entry],false,Gl⟩
def Qi:b8:=kS ⟨[(105,.leaf I6),(1,.aZ z0 []),(103,.leaf (.lst nI)),(104,.leaf I6)],[(z0,false,.var nC (.leaf nC))]⟩ [(.ret,⟨[(2,.leaf .bool)],[]⟩),((.exit 0),⟨[(1,.aZ z0 [])],[(z0,false,.var nC (.leaf nC))]⟩)] Wh.ab0 Wh.Eg
def Qj:b8:=kS ⟨[(133,.leaf I6),(1,.aZ z0 []),(131,.leaf (.lst r_)),(132,.leaf I6)],[(z0,false,.var nC (.leaf nC))]⟩ [(.ret,⟨[(2,.leaf .bool)],[]⟩),((.exit 2),⟨[],[]⟩)] Wh.ab1 Wh.C4
def SS:LT:=[(13,Qi),(19,Qj)]
theorem aji:∀x,round P1 SS (jo Tryz.f17 0) Qi x=Wh.Eg x:=by intro x;kernel_rfl
theorem ajj:∀x,round P1 SS (jo Tryz.f17 1) Qj x=Wh.C4 x:=by intro x;kernel_rfl
theorem e_q50:EV P1 SS Tryz.f17 [.v nC] [.v .bool] Wh.q50:=by intro xs;kernel_rfl
theorem ok_q50:CO MZ:=con_ok (Ls:=[Qi,Qj]) mixed (ct _ _) (X7 _ (XO _ (Sf _ (fk_q46 _ (fk_q54 _ (fk_q94 _ (XP _ (X6 _ (AZ _ cx))))))))) Tryz.func17 (loopsC (loopD_ok aji) (loopsC (loopD_ok ajj) loopsL_nil)) boxesL_none e_q50
theorem fk_q50:FK MZ:=fun _ _ h=>h.cons MZ (by kernel_rfl) Wh.Vw ok_q50
def LP:iq:=⟨235,[.v an,.v an],[.v .bool],Wh.GP,Wh.TQ⟩
def C_q124:Cx:=⟨cr,[],false,Gl⟩
theorem e_q124:EV C_q124 mw Tryz.f235 [.v an,.v an] [.v .bool] Wh.GP:=by intro xs;kernel_rfl
theorem agl:CO LP:=con_ok (Ls:=[]) mixed (ct _ _) cx Tryz.func235 loopsL_nil boxesL_none e_q124
theorem aeg:FK LP:=fun _ _ h=>h.cons LP (by kernel_rfl) Wh.aaP agl
def JC:iq:=⟨133,[.v (.lst an),.v (.lst an)],[.v .bool],Wh.q96,Wh.Ph⟩
def C_q96:Cx:=⟨cr,[LP.entry],false,Gl⟩
def QI:b8:=kS ⟨[(5,.leaf I6),(1,.leaf (.lst an)),(0,.leaf (.lst an))],[]⟩ [(.ret,⟨[(4,.leaf .bool)],[]⟩),((.exit 0),⟨[],[]⟩)] Wh.acE Wh.HE
def ZZ:LT:=[(4,QI)]
theorem ajJ:∀x,round C_q96 ZZ (jo Tryz.f133 0) QI x=Wh.HE x:=by intro x;kernel_rfl
theorem e_q96:EV C_q96 ZZ Tryz.f133 [.v (.lst an),.v (.lst an)] [.v .bool] Wh.q96:=by intro xs;kernel_rfl
theorem ok_q96:CO JC:=con_ok (Ls:=[QI]) mixed (ct _ _) (aeg _ cx) Tryz.func133 (loopsC (loopD_ok ajJ) loopsL_nil) boxesL_none e_q96
theorem X8:FK JC:=fun _ _ h=>h.cons JC (by kernel_rfl) Wh.Wa ok_q96
def Md:iq:=⟨82,[.v fk,.v fk],[.v .bool],Wh.G4,Wh.Uw⟩
def C_q157:Cx:=⟨cr,[JC.entry],false,Gl⟩
theorem e_q157:EV C_q157 mw Tryz.f82 [.v fk,.v fk] [.v .bool] Wh.G4:=by intro xs;kernel_rfl
theorem agS:CO Md:=con_ok (Ls:=[]) mixed (ct _ _) (X8 _ cx) Tryz.func82 loopsL_nil boxesL_none e_q157
theorem aeC:FK Md:=fun _ _ h=>h.cons Md (by kernel_rfl) Wh.abh agS
def NJ:iq:=⟨266,[.v ng,.v ng],[.v .bool],Wh.q95,Wh.q95'⟩
def C_q95:Cx:=⟨cr,[],false,Gl⟩
theorem e_q95:EV C_q95 mw Tryz.f266 [.v ng,.v ng] [.v .bool] Wh.q95:=by intro xs;kernel_rfl
theorem ok_q95:CO NJ:=con_ok (Ls:=[]) mixed (ct _ _) cx Tryz.func266 loopsL_nil boxesL_none e_q95
theorem fk_q95:FK NJ:=fun _ _ h=>h.cons NJ (by kernel_rfl) Wh.q95_v ok_q95
def M6:iq:=⟨167,[.v (.lst ng),.v (.lst ng)],[.v .bool],Wh.q58,Wh.q58'⟩
def C_q58:Cx:=⟨cr,[NJ.entry],false,Gl⟩
def QG:b8:=kS ⟨[(5,.leaf I6),(1,.leaf (.lst ng)),(0,.leaf (.lst ng))],[]⟩ [(.ret,⟨[(4,.leaf .bool)],[]⟩),((.exit 0),⟨[],[]⟩)] Wh.ace Wh.Hz
def ZQ:LT:=[(4,QG)]
theorem ajH:∀x,round C_q58 ZQ (jo Tryz.f167 0) QG x=Wh.Hz x:=by intro x;kernel_rfl
theorem e_q58:EV C_q58 ZQ Tryz.f167 [.v (.lst ng),.v (.lst ng)] [.v .bool] Wh.q58:=by intro xs;kernel_rfl
theorem ok_q58:CO M6:=con_ok (Ls:=[QG]) mixed (ct _ _) (fk_q95 _ cx) Tryz.func167 (loopsC (loopD_ok ajH) loopsL_nil) boxesL_none e_q58
theorem fk_q58:FK M6:=fun _ _ h=>h.cons M6 (by kernel_rfl) Wh.q58_v ok_q58
def LR:iq:=⟨83,[.v n5,.v n5],[.v .bool],Wh.GR,Wh.TR⟩
def C_q126:Cx:=⟨cr,[M6.entry],false,Gl⟩
theorem e_q126:EV C_q126 mw Tryz.f83 [.v n5,.v n5] [.v .bool] Wh.GR:=by intro xs;kernel_rfl
theorem agn:CO LR:=con_ok (Ls:=[]) mixed (ct _ _) (fk_q58 _ cx) Tryz.func83 loopsL_nil boxesL_none e_q126
theorem aei:FK LR:=fun _ _ h=>h.cons LR (by kernel_rfl) Wh.aaQ agn
def M4:iq:=⟨168,[.v nI,.v nI],[.v .bool],Wh.q56,Wh.q56'⟩
def C_q56:Cx:=⟨cr,[],false,Gl⟩
theorem e_q56:EV C_q56 mw Tryz.f168 [.v nI,.v nI] [.v .bool] Wh.q56:=by intro xs;kernel_rfl
theorem ok_q56:CO M4:=con_ok (Ls:=[]) mixed (ct _ _) cx Tryz.func168 loopsL_nil boxesL_none e_q56
theorem fk_q56:FK M4:=fun _ _ h=>h.cons M4 (by kernel_rfl) Wh.q56_v ok_q56
def ME:iq:=⟨84,[.v (.lst nI),.v (.lst nI)],[.v .bool],Wh.q29,Wh.q29'⟩
def C_q29:Cx:=⟨cr,[M4.entry],false,Gl⟩
def QD:b8:=kS ⟨[(5,.leaf I6),(1,.leaf (.lst nI)),(0,.leaf (.lst nI))],[]⟩ [(.ret,⟨[(4,.leaf .bool)],[]⟩),((.exit 0),⟨[],[]⟩)] Wh.abO Wh.Ht
def ZE:LT:=[(4,QD)]
theorem ajE:∀x,round C_q29 ZE (jo Tryz.f84 0) QD x=Wh.Ht x:=by intro x;kernel_rfl
theorem e_q29:EV C_q29 ZE Tryz.f84 [.v (.lst nI),.v (.lst nI)] [.v .bool] Wh.q29:=by intro xs;kernel_rfl
theorem ok_q29:CO ME:=con_ok (Ls:=[QD]) mixed (ct _ _) (fk_q56 _ cx) Tryz.func84 (loopsC (loopD_ok ajE) loopsL_nil) boxesL_none e_q29
theorem fk_q29:FK ME:=fun _ _ h=>h.cons ME (by kernel_rfl) Wh.q29_v ok_q29
def NK:iq:=⟨169,[.v r_,.v r_],[.v .bool],Wh.q97,Wh.q97'⟩
def C_q97:Cx:=⟨cr,[],false,Gl⟩
theorem e_q97:EV C_q97 mw Tryz.f169 [.v r_,.v r_] [.v .bool] Wh.q97:=by intro xs;kernel_rfl
theorem ok_q97:CO NK:=con_ok (Ls:=[]) mixed (ct _ _) cx Tryz.func169 loopsL_nil boxesL_none e_q97
theorem fk_q97:FK NK:=fun _ _ h=>h.cons NK (by kernel_rfl) Wh.q97_v ok_q97
def M9:iq:=⟨85,[.v (.lst r_),.v (.lst r_)],[.v .bool],Wh.q60,Wh.q60'⟩
def C_q60:Cx:=⟨cr,[NK.entry],false,Gl⟩
def QK:b8:=kS ⟨[(5,.leaf I6),(1,.leaf (.lst r_)),(0,.leaf (.lst r_))],[]⟩ [(.ret,⟨[(4,.leaf .bool)],[]⟩),((.exit 0),⟨[],[]⟩)] Wh.acf Wh.HA
def ZR:LT:=[(4,QK)]
theorem ajL:∀x,round C_q60 ZR (jo Tryz.f85 0) QK x=Wh.HA x:=by intro x;kernel_rfl
theorem e_q60:EV C_q60 ZR Tryz.f85 [.v (.lst r_),.v (.lst r_)] [.v .bool] Wh.q60:=by intro xs;kernel_rfl
theorem ok_q60:CO M9:=con_ok (Ls:=[QK]) mixed (ct _ _) (fk_q97 _ cx) Tryz.func85 (loopsC (loopD_ok ajL) loopsL_nil) boxesL_none e_q60
theorem fk_q60:FK M9:=fun _ _ h=>h.cons M9 (by kernel_rfl) Wh.q60_v ok_q60
def M_:iq:=⟨18,[.v nC,.v nC],[.v .bool],Wh.q61,Wh.q61'⟩
def C_q61:Cx:=⟨cr,[M9.entry,ME.entry,LR.entry,Md.entry],false,Gl⟩
theorem e_q61:EV C_q61 mw Tryz.f18 [.v nC,.v nC] [.v .bool] Wh.q61:=by intro xs;kernel_rfl
theorem ok_q61:CO M_:=con_ok (Ls:=[]) mixed (ct _ _) (fk_q60 _ (fk_q29 _ (aei _ (aeC _ cx)))) Tryz.func18 loopsL_nil boxesL_none e_q61
theorem fk_q61:FK M_:=fun _ _ h=>h.cons M_ (by kernel_rfl) Wh.q61_v ok_q61
def Ja:iq:=⟨278,[.v (.lst I6),.v I6],[.v I6],Wh.DJ,Wh.Kg⟩
def C_q127:Cx:=⟨cr,[],false,Gl⟩
theorem e_q127:EV C_q127 mw Tryz.f278 [.v (.lst I6),.v I6] [.v I6] Wh.DJ:=by intro xs;kernel_rfl
theorem ago:CO Ja:=con_ok (Ls:=[]) mixed (ct _ _) cx Tryz.func278 loopsL_nil boxesL_none e_q127
theorem XG:FK Ja:=fun _ _ h=>h.cons Ja (by kernel_rfl) Wh.OC ago
def LU:iq:=⟨196,[.v so,.v I6],[.v I6],Wh.GU,Wh.TU⟩
def C_q129:Cx:=⟨cr,[Ja.entry],false,Gl⟩
theorem e_q129:EV C_q129 mw Tryz.f196 [.v so,.v I6] [.v I6] Wh.GU:=by intro xs;kernel_rfl
theorem agq:CO LU:=con_ok (Ls:=[]) mixed (ct _ _) (XG _ cx) Tryz.func196 loopsL_nil boxesL_none e_q129
theorem aek:FK LU:=fun _ _ h=>h.cons LU (by kernel_rfl) Wh.aaR agq
def Mu:iq:=⟨339,[.v n4,.v I6],[.v I6],Wh.Hr,Wh.U3⟩
def C_q179:Cx:=⟨cr,[Ja.entry],false,Gl⟩
theorem e_q179:EV C_q179 mw Tryz.f339 [.v n4,.v I6] [.v I6] Wh.Hr:=by intro xs;kernel_rfl
theorem ahd:CO Mu:=con_ok (Ls:=[]) mixed (ct _ _) (XG _ cx) Tryz.func339 loopsL_nil boxesL_none e_q179
theorem aeS:FK Mu:=fun _ _ h=>h.cons Mu (by kernel_rfl) Wh.U4 ahd
def Mg:iq:=⟨279,[.v (.lst n4),.v I6],[.v I6],Wh.G9,Wh.Uz⟩
def W0:Cx:=⟨cr,[Mu.entry],false,Gl⟩
def QM:b8:=kS ⟨[(5,.leaf I6),(1,.leaf I6),(0,.leaf (.lst n4))],[]⟩ [(.ret,⟨[(4,.leaf I6)],[]⟩),((.exit 0),⟨[(1,.leaf I6)],[]⟩)] Wh.UC Wh.Fj
def Zm:LT:=[(5,QM)]
theorem ajN:∀x,round W0 Zm (jo Tryz.f279 0) QM x=Wh.Fj x:=by intro x;kernel_rfl
theorem e_q160:EV W0 Zm Tryz.f279 [.v (.lst n4),.v I6] [.v I6] Wh.G9:=by intro xs;kernel_rfl
theorem agV:CO Mg:=con_ok (Ls:=[QM]) mixed (ct _ _) (aeS _ cx) Tryz.func279 (loopsC (loopD_ok ajN) loopsL_nil) boxesL_none e_q160
theorem aeF:FK Mg:=fun _ _ h=>h.cons Mg (by kernel_rfl) Wh.abk agV
def Nh:iq:=⟨197,[.v fT,.v I6],[.v I6],Wh.q68,Wh.q68'⟩
def C_q68:Cx:=⟨cr,[Mg.entry],false,Gl⟩
theorem e_q68:EV C_q68 mw Tryz.f197 [.v fT,.v I6] [.v I6] Wh.q68:=by intro xs;kernel_rfl
theorem ok_q68:CO Nh:=con_ok (Ls:=[]) mixed (ct _ _) (aeF _ cx) Tryz.func197 loopsL_nil boxesL_none e_q68
theorem fk_q68:FK Nh:=fun _ _ h=>h.cons Nh (by kernel_rfl) Wh.q68_v ok_q68
def MM:iq:=⟨108,[.v th,.v I6],[.v I6],Wh.q35,Wh.q35'⟩
def C_q35:Cx:=⟨cr,[Nh.entry,LU.entry],false,Gl⟩
theorem e_q35:EV C_q35 mw Tryz.f108 [.v th,.v I6] [.v I6] Wh.q35:=by intro xs;kernel_rfl
theorem ok_q35:CO MM:=con_ok (Ls:=[]) mixed (ct _ _) (fk_q68 _ (aek _ cx)) Tryz.func108 loopsL_nil boxesL_none e_q35
theorem fk_q35:FK MM:=fun _ _ h=>h.cons MM (by kernel_rfl) Wh.q35_v ok_q35
def Nb:iq:=⟨29,[.v nc,.v I6],[.v I6],Wh.q63,Wh.q63'⟩
def C_q63:Cx:=⟨cr,[MM.entry],false,Gl⟩
theorem e_q63:EV C_q63 mw Tryz.f29 [.v nc,.v I6] [.v I6] Wh.q63:=by intro xs;kernel_rfl
theorem ok_q63:CO Nb:=con_ok (Ls:=[]) mixed (ct _ _) (fk_q35 _ cx) Tryz.func29 loopsL_nil boxesL_none e_q63
theorem fk_q63:FK Nb:=fun _ _ h=>h.cons Nb (by kernel_rfl) Wh.VJ ok_q63
def ML:iq:=⟨123,[.v (.lst nc),.v I6],[.v I6],Wh.q34,Wh.q34'⟩
def C_q34:Cx:=⟨cr,[Nb.entry],false,Gl⟩
def QL:b8:=kS ⟨[(5,.leaf I6),(1,.leaf I6),(0,.leaf (.lst nc))],[]⟩ [(.ret,⟨[(4,.leaf I6)],[]⟩),((.exit 0),⟨[(1,.leaf I6)],[]⟩)] Wh.abS Wh.Ec
def ZH:LT:=[(5,QL)]
theorem ajM:∀x,round C_q34 ZH (jo Tryz.f123 0) QL x=Wh.Ec x:=by intro x;kernel_rfl
theorem e_q34:EV C_q34 ZH Tryz.f123 [.v (.lst nc),.v I6] [.v I6] Wh.q34:=by intro xs;kernel_rfl
theorem ok_q34:CO ML:=con_ok (Ls:=[QL]) mixed (ct _ _) (fk_q63 _ cx) Tryz.func123 (loopsC (loopD_ok ajM) loopsL_nil) boxesL_none e_q34
theorem fk_q34:FK ML:=fun _ _ h=>h.cons ML (by kernel_rfl) Wh.q34_v ok_q34
def Nd:iq:=⟨228,[.v r5,.v I6],[.v I6],Wh.q65,Wh.q65'⟩
def C_q65:Cx:=⟨cr,[],false,Gl⟩
theorem e_q65:EV C_q65 mw Tryz.f228 [.v r5,.v I6] [.v I6] Wh.q65:=by intro xs;kernel_rfl
theorem ok_q65:CO Nd:=con_ok (Ls:=[]) mixed (ct _ _) cx Tryz.func228 loopsL_nil boxesL_none e_q65
theorem fk_q65:FK Nd:=fun _ _ h=>h.cons Nd (by kernel_rfl) Wh.VK ok_q65
def MN:iq:=⟨124,[.v (.lst r5),.v I6],[.v I6],Wh.q36,Wh.q36'⟩
def C_q36:Cx:=⟨cr,[Nd.entry],false,Gl⟩
def QO:b8:=kS ⟨[(5,.leaf I6),(1,.leaf I6),(0,.leaf (.lst r5))],[]⟩ [(.ret,⟨[(4,.leaf I6)],[]⟩),((.exit 0),⟨[(1,.leaf I6)],[]⟩)] Wh.Vk Wh.FA
def ZI:LT:=[(5,QO)]
theorem ajP:∀x,round C_q36 ZI (jo Tryz.f124 0) QO x=Wh.FA x:=by intro x;kernel_rfl
theorem e_q36:EV C_q36 ZI Tryz.f124 [.v (.lst r5),.v I6] [.v I6] Wh.q36:=by intro xs;kernel_rfl
theorem ok_q36:CO MN:=con_ok (Ls:=[QO]) mixed (ct _ _) (fk_q65 _ cx) Tryz.func124 (loopsC (loopD_ok ajP) loopsL_nil) boxesL_none e_q36
theorem fk_q36:FK MN:=fun _ _ h=>h.cons MN (by kernel_rfl) Wh.q36_v ok_q36
def Lv:iq:=⟨41,[.v gv,.v I6],[.v I6],Wh.GC,Wh.Tg⟩
def C_q100:Cx:=⟨cr,[JD.entry,MN.entry,ML.entry,Ng.entry],false,Gl⟩
theorem e_q100:EV C_q100 mw Tryz.f41 [.v gv,.v I6] [.v I6] Wh.GC:=by intro xs;kernel_rfl
theorem afY:CO Lv:=con_ok (Ls:=[]) mixed (ct _ _) (X9 _ (fk_q36 _ (fk_q34 _ (fk_q67 _ cx)))) Tryz.func41 loopsL_nil boxesL_none e_q100
theorem ad0:FK Lv:=fun _ _ h=>h.cons Lv (by kernel_rfl) Wh.aan afY
def Jc:iq:=⟨288,[.v (.lst I6)],[.v (.own I6)],Wh.DL,Wh.Kh⟩
def WN:Cx:=⟨cr,[],false,Gl⟩
def QW:b8:=kS ⟨[(4,.leaf I6),(0,.leaf (.lst I6)),(3,.whole z0 I6)],[(z0,false,.rows I6)]⟩ [((.exit 0),⟨[(3,.whole z0 I6)],[(z0,false,.rows I6)]⟩)] Wh.aaU Wh.Fc
def Za:LT:=[(3,QW)]
theorem ajU:∀x,round WN Za (jo Tryz.f288 0) QW x=Wh.Fc x:=by intro x;kernel_rfl
theorem e_q131:EV WN Za Tryz.f288 [.v (.lst I6)] [.v (.own I6)] Wh.DL:=by intro xs;kernel_rfl
theorem ags:CO Jc:=con_ok (Ls:=[QW]) mixed (ct _ _) cx Tryz.func288 (loopsC (loopD_ok ajU) loopsL_nil) boxesL_none e_q131
theorem XI:FK Jc:=fun _ _ h=>h.cons Jc (by kernel_rfl) Wh.OE ags
def LX:iq:=⟨209,[.v so],[.v (.pair I6 (.pair I6 (.pair (.own I6) (.pair (.own I6) .unit))))],Wh.GW,Wh.TZ⟩
def C_q133:Cx:=⟨cr,[Jc.entry],false,Gl⟩
theorem e_q133:EV C_q133 mw Tryz.f209 [.v so] [.v (.pair I6 (.pair I6 (.pair (.own I6) (.pair (.own I6) .unit))))] Wh.GW:=by intro xs;kernel_rfl
theorem agu:CO LX:=con_ok (Ls:=[]) mixed (ct _ _) (XI _ cx) Tryz.func209 loopsL_nil boxesL_none e_q133
theorem aen:FK LX:=fun _ _ h=>h.cons LX (by kernel_rfl) Wh.aaW agu
def Mw:iq:=⟨344,[.v n4],[.v (.pair (.own I6) Ey)],Wh.Hs,Wh.U5⟩
def C_q180:Cx:=⟨cr,[Jc.entry],false,Gl⟩
theorem e_q180:EV C_q180 mw Tryz.f344 [.v n4] [.v (.pair (.own I6) Ey)] Wh.Hs:=by intro xs;kernel_rfl
theorem ahe:CO Mw:=con_ok (Ls:=[]) mixed (ct _ _) (XI _ cx) Tryz.func344 loopsL_nil boxesL_none e_q180
theorem aeT:FK Mw:=fun _ _ h=>h.cons Mw (by kernel_rfl) Wh.abH ahe
def Mi:iq:=⟨289,[.v (.lst n4)],[.v (.own n4)],Wh.He,Wh.UE⟩
def W3:Cx:=⟨cr,[Mw.entry],false,Gl⟩
def QU:b8:=kS ⟨[(4,.leaf I6),(0,.leaf (.lst n4)),(3,.whole z0 n4)],[(z0,false,.rows n4)]⟩ [((.exit 0),⟨[(3,.whole z0 n4)],[(z0,false,.rows n4)]⟩)] Wh.abm Wh.Fk
def Zn:LT:=[(3,QU)]
theorem ajS:∀x,round W3 Zn (jo Tryz.f289 0) QU x=Wh.Fk x:=by intro x;kernel_rfl
theorem e_q162:EV W3 Zn Tryz.f289 [.v (.lst n4)] [.v (.own n4)] Wh.He:=by intro xs;kernel_rfl
theorem agX:CO Mi:=con_ok (Ls:=[QU]) mixed (ct _ _) (aeT _ cx) Tryz.func289 (loopsC (loopD_ok ajS) loopsL_nil) boxesL_none e_q162
theorem aeH:FK Mi:=fun _ _ h=>h.cons Mi (by kernel_rfl) Wh.abn agX
def Nq:iq:=⟨210,[.v fT],[.v (.pair I6 (.pair I6 (.pair (.own n4) .unit)))],Wh.q75,Wh.q75'⟩
def C_q75:Cx:=⟨cr,[Mi.entry],false,Gl⟩
theorem e_q75:EV C_q75 mw Tryz.f210 [.v fT] [.v (.pair I6 (.pair I6 (.pair (.own n4) .unit)))] Wh.q75:=by intro xs;kernel_rfl
theorem ok_q75:CO Nq:=con_ok (Ls:=[]) mixed (ct _ _) (aeH _ cx) Tryz.func210 loopsL_nil boxesL_none e_q75
theorem fk_q75:FK Nq:=fun _ _ h=>h.cons Nq (by kernel_rfl) Wh.q75_v ok_q75
def MQ:iq:=⟨115,[.v th],[.v (.pair (.pair I6 (.pair I6 (.pair (.own I6) (.pair (.own I6) .unit)))) (.pair (.pair I6 (.pair I6 (.pair (.own n4) .unit))) .unit))],Wh.q39,Wh.q39'⟩
def C_q39:Cx:=⟨cr,[Nq.entry,LX.entry],false,Gl⟩
theorem e_q39:EV C_q39 mw Tryz.f115 [.v th] [.v (.pair (.pair I6 (.pair I6 (.pair (.own I6) (.pair (.own I6) .unit)))) (.pair (.pair I6 (.pair I6 (.pair (.own n4) .unit))) .unit))] Wh.q39:=by intro xs;kernel_rfl
theorem ok_q39:CO MQ:=con_ok (Ls:=[]) mixed (ct _ _) (fk_q75 _ (aen _ cx)) Tryz.func115 loopsL_nil boxesL_none e_q39
theorem fk_q39:FK MQ:=fun _ _ h=>h.cons MQ (by kernel_rfl) Wh.q39_v ok_q39
def Nk:iq:=⟨32,[.v nc],[.v (.pair I6 (.pair I6 (.pair I6 (.pair .str (.pair I6 (.pair (.pair (.pair I6 (.pair I6 (.pair (.own I6) (.pair (.own I6) .unit)))) (.pair (.pair I6 (.pair I6 (.pair (.own n4) .unit))) .unit)) .unit))))))],Wh.q70,Wh.q70'⟩
def C_q70:Cx:=⟨cr,[MQ.entry],false,Gl⟩
theorem e_q70:EV C_q70 mw Tryz.f32 [.v nc] [.v (.pair I6 (.pair I6 (.pair I6 (.pair .str (.pair I6 (.pair (.pair (.pair I6 (.pair I6 (.pair (.own I6) (.pair (.own I6) .unit)))) (.pair (.pair I6 (.pair I6 (.pair (.own n4) .unit))) .unit)) .unit))))))] Wh.q70:=by intro xs;kernel_rfl
theorem ok_q70:CO Nk:=con_ok (Ls:=[]) mixed (ct _ _) (fk_q39 _ cx) Tryz.func32 loopsL_nil boxesL_none e_q70
theorem fk_q70:FK Nk:=fun _ _ h=>h.cons Nk (by kernel_rfl) Wh.q70_v ok_q70
def MP:iq:=⟨127,[.v (.lst nc)],[.v (.own nc)],Wh.q38,Wh.q38'⟩
def C_q38:Cx:=⟨cr,[Nk.entry],false,Gl⟩
def QT:b8:=kS ⟨[(4,.leaf I6),(0,.leaf (.lst nc)),(3,.whole z0 nc)],[(z0,false,.rows nc)]⟩ [((.exit 0),⟨[(3,.whole z0 nc)],[(z0,false,.rows nc)]⟩)] Wh.abU Wh.FC
def ZK:LT:=[(3,QT)]
theorem ajR:∀x,round C_q38 ZK (jo Tryz.f127 0) QT x=Wh.FC x:=by intro x;kernel_rfl
theorem e_q38:EV C_q38 ZK Tryz.f127 [.v (.lst nc)] [.v (.own nc)] Wh.q38:=by intro xs;kernel_rfl
theorem ok_q38:CO MP:=con_ok (Ls:=[QT]) mixed (ct _ _) (fk_q70 _ cx) Tryz.func127 (loopsC (loopD_ok ajR) loopsL_nil) boxesL_none e_q38
theorem fk_q38:FK MP:=fun _ _ h=>h.cons MP (by kernel_rfl) Wh.q38_v ok_q38
def Nn:iq:=⟨231,[.v r5],[.v r5],Wh.q72,Wh.q72'⟩
def C_q72:Cx:=⟨cr,[],false,Gl⟩
theorem e_q72:EV C_q72 mw Tryz.f231 [.v r5] [.v r5] Wh.q72:=by intro xs;kernel_rfl
theorem ok_q72:CO Nn:=con_ok (Ls:=[]) mixed (ct _ _) cx Tryz.func231 loopsL_nil boxesL_none e_q72
theorem fk_q72:FK Nn:=fun _ _ h=>h.cons Nn (by kernel_rfl) Wh.q72_v ok_q72
def MS:iq:=⟨128,[.v (.lst r5)],[.v (.own r5)],Wh.q40,Wh.q40'⟩
def C_q40:Cx:=⟨cr,[Nn.entry],false,Gl⟩
def QY:b8:=kS ⟨[(4,.leaf I6),(0,.leaf (.lst r5)),(3,.whole z0 r5)],[(z0,false,.rows r5)]⟩ [((.exit 0),⟨[(3,.whole z0 r5)],[(z0,false,.rows r5)]⟩)] Wh.abW Wh.FD
def ZL:LT:=[(3,QY)]
theorem ajW:∀x,round C_q40 ZL (jo Tryz.f128 0) QY x=Wh.FD x:=by intro x;kernel_rfl
theorem e_q40:EV C_q40 ZL Tryz.f128 [.v (.lst r5)] [.v (.own r5)] Wh.q40:=by intro xs;kernel_rfl
theorem ok_q40:CO MS:=con_ok (Ls:=[QY]) mixed (ct _ _) (fk_q72 _ cx) Tryz.func128 (loopsC (loopD_ok ajW) loopsL_nil) boxesL_none e_q40
theorem fk_q40:FK MS:=fun _ _ h=>h.cons MS (by kernel_rfl) Wh.q40_v ok_q40
def Ly:iq:=⟨43,[.v gv],[.v (.pair (.pair .bool (.pair I6 (.pair .str (.pair (.pair I6 (.pair (.own an) .unit)) (.pair (.pair (.own ng) (.pair I6 .unit)) (.pair (.own nI) (.pair (.own r_) .unit))))))) (.pair (.own nc) (.pair (.own r5) (.pair (.own an) .unit))))],Wh.DB,Wh.Tl⟩
def C_q104:Cx:=⟨cr,[I7.entry,MS.entry,MP.entry,Np.entry],false,Gl⟩
theorem e_q104:EV C_q104 mw Tryz.f43 [.v gv] [.v (.pair (.pair .bool (.pair I6 (.pair .str (.pair (.pair I6 (.pair (.own an) .unit)) (.pair (.pair (.own ng) (.pair I6 .unit)) (.pair (.own nI) (.pair (.own r_) .unit))))))) (.pair (.own nc) (.pair (.own r5) (.pair (.own an) .unit))))] Wh.DB:=by intro xs;kernel_rfl
theorem af2:CO Ly:=con_ok (Ls:=[]) mixed (ct _ _) (XD _ (fk_q40 _ (fk_q38 _ (fk_q74 _ cx)))) Tryz.func43 loopsL_nil boxesL_none e_q104
theorem ad3:FK Ly:=fun _ _ h=>h.cons Ly (by kernel_rfl) Wh.aar af2
def LI:iq:=⟨230,[.v gv],[.v .bool],Wh.GH,Wh.Tu⟩
def WI:Cx:=⟨cr,[zV.entry,H7.entry,HZ.entry],false,Gl⟩
def Rq:b8:=kS ⟨[(7,.leaf I6),(1,.aZ z0 []),(5,.aZ z1 [])],[(z0,false,.var gv (.leaf gv)),(z1,false,.var fk (.pair (.leaf I6) (.pair (.whole z2 an) (.leaf .unit)))),(z2,false,.rows an)]⟩ [(.ret,⟨[(2,.leaf .bool)],[]⟩),((.exit 0),⟨[(1,.aZ z0 []),(5,.aZ z1 [])],[(z0,false,.var gv (.leaf gv)),(z1,false,.var fk (.pair (.leaf I6) (.pair (.whole z2 an) (.leaf .unit)))),(z2,false,.rows an)]⟩)] Wh.aaB Wh.DG
def Y5:LT:=[(4,Rq)]
theorem ako:∀x,round WI Y5 (jo Tryz.f230 0) Rq x=Wh.DG x:=by intro x;kernel_rfl
theorem e_q112:EV WI Y5 Tryz.f230 [.v gv] [.v .bool] Wh.GH:=by intro xs;kernel_rfl
theorem af_:CO LI:=con_ok (Ls:=[Rq]) mixed (ct _ _) (At _ (Se _ (Sc _ cx))) Tryz.func230 (loopsC (loopD_ok ako) loopsL_nil) boxesL_none e_q112
theorem aea:FK LI:=fun _ _ h=>h.cons LI (by kernel_rfl) Wh.aaC af_
def Nw:iq:=⟨126,[.v gv],[.v .bool],Wh.q81,Wh.q81'⟩
def P4:Cx:=⟨cr,[LI.entry,F_.entry],false,Gl⟩
def Rr:b8:=kS ⟨[(3,.leaf I6),(1,.aZ z0 [])],[(z0,false,.var gv (.leaf gv))]⟩ [(.ret,⟨[(2,.leaf .bool)],[]⟩),((.exit 0),⟨[(1,.aZ z0 [])],[(z0,false,.var gv (.leaf gv))]⟩)] Wh.aco Wh.Ek
def Rs:b8:=kS ⟨[(4,.leaf I6),(1,.aZ z0 [])],[(z0,false,.var gv (.leaf gv))]⟩ [(.ret,⟨[(2,.leaf .bool)],[]⟩),((.exit 2),⟨[(1,.aZ z0 [])],[(z0,false,.var gv (.leaf gv))]⟩)] Wh.acp Wh.El
def SW:LT:=[(2,Rr),(7,Rs)]
theorem akp:∀x,round P4 SW (jo Tryz.f126 0) Rr x=Wh.Ek x:=by intro x;kernel_rfl
theorem akq:∀x,round P4 SW (jo Tryz.f126 1) Rs x=Wh.El x:=by intro x;kernel_rfl
theorem e_q81:EV P4 SW Tryz.f126 [.v gv] [.v .bool] Wh.q81:=by intro xs;kernel_rfl
theorem ok_q81:CO Nw:=con_ok (Ls:=[Rr,Rs]) mixed (ct _ _) (aea _ (NX _ cx)) Tryz.func126 (loopsC (loopD_ok akp) (loopsC (loopD_ok akq) loopsL_nil)) boxesL_none e_q81
theorem fk_q81:FK Nw:=fun _ _ h=>h.cons Nw (by kernel_rfl) Wh.q81_v ok_q81
def LH:iq:=⟨198,[.v nc],[.v .bool],Wh.GG,Wh.Tt⟩
def C_q111:Cx:=⟨cr,[],false,Gl⟩
theorem e_q111:EV C_q111 mw Tryz.f198 [.v nc] [.v .bool] Wh.GG:=by intro xs;kernel_rfl
theorem af9:CO LH:=con_ok (Ls:=[]) mixed (ct _ _) cx Tryz.func198 loopsL_nil boxesL_none e_q111
theorem ad_:FK LH:=fun _ _ h=>h.cons LH (by kernel_rfl) Wh.aaA af9
def L0:iq:=⟨280,[.v so],[.v .bool],Wh.Bp,Wh.Ki⟩
def WQ:Cx:=⟨cr,[EK.entry,zV.entry],false,Gl⟩
def Ra:b8:=kS ⟨[(3,.leaf I6),(1,.aZ z0 [])],[(z0,false,.var so (.leaf so))]⟩ [(.ret,⟨[(2,.leaf .bool)],[]⟩),((.exit 0),⟨[(1,.aZ z0 [])],[(z0,false,.var so (.leaf so))]⟩)] Wh.aa0 Wh.BV
def Zc:LT:=[(4,Ra)]
theorem aj9:∀x,round WQ Zc (jo Tryz.f280 0) Ra x=Wh.BV x:=by intro x;kernel_rfl
theorem e_q137:EV WQ Zc Tryz.f280 [.v so] [.v .bool] Wh.Bp:=by intro xs;kernel_rfl
theorem agy:CO L0:=con_ok (Ls:=[Ra]) mixed (ct _ _) (JP _ (At _ cx)) Tryz.func280 (loopsC (loopD_ok aj9) loopsL_nil) boxesL_none e_q137
theorem aeq:FK L0:=fun _ _ h=>h.cons L0 (by kernel_rfl) Wh.q137_v agy
def Mj:iq:=⟨340,[.v (.lst I6),.v I6],[.v .bool],Wh.Fo,Wh.Kp⟩
def W5:Cx:=⟨cr,[zV.entry],false,Gl⟩
def Re:b8:=kS ⟨[(5,.leaf I6),(0,.leaf (.lst I6)),(1,.leaf I6)],[]⟩ [(.ret,⟨[(4,.leaf .bool)],[]⟩),((.exit 0),⟨[(1,.leaf I6)],[]⟩)] Wh.abt Wh.CX
def Zp:LT:=[(2,Re)]
theorem akc:∀x,round W5 Zp (jo Tryz.f340 0) Re x=Wh.CX x:=by intro x;kernel_rfl
theorem e_q166:EV W5 Zp Tryz.f340 [.v (.lst I6),.v I6] [.v .bool] Wh.Fo:=by intro xs;kernel_rfl
theorem ag1:CO Mj:=con_ok (Ls:=[Re]) mixed (ct _ _) (At _ cx) Tryz.func340 (loopsC (loopD_ok akc) loopsL_nil) boxesL_none e_q166
theorem aeI:FK Mj:=fun _ _ h=>h.cons Mj (by kernel_rfl) Wh.q166_v ag1
def Mp:iq:=⟨341,[.v (.lst I6),.v I6],[.v .bool],Wh.Fv,Wh.Ku⟩
def W9:Cx:=⟨cr,[],false,Gl⟩
def RE:b8:=kS ⟨[(5,.leaf I6),(1,.leaf I6),(0,.leaf (.lst I6))],[]⟩ [(.ret,⟨[(4,.leaf .bool)],[]⟩),((.exit 0),⟨[],[]⟩)] Wh.abB Wh.Fw
def Zu:LT:=[(2,RE)]
theorem akC:∀x,round W9 Zu (jo Tryz.f341 0) RE x=Wh.Fw x:=by intro x;kernel_rfl
theorem e_q173:EV W9 Zu Tryz.f341 [.v (.lst I6),.v I6] [.v .bool] Wh.Fv:=by intro xs;kernel_rfl
theorem ag8:CO Mp:=con_ok (Ls:=[RE]) mixed (ct _ _) cx Tryz.func341 (loopsC (loopD_ok akC) loopsL_nil) boxesL_none e_q173
theorem aeN:FK Mp:=fun _ _ h=>h.cons Mp (by kernel_rfl) Wh.q173_v ag8
def Nu:iq:=⟨281,[.v fT],[.v .bool],Wh.Cp,Wh.KG⟩
def Lp:Cx:=⟨cr,[Mp.entry,Mj.entry,zV.entry],false,Gl⟩
def Rh:b8:=kS ⟨[(3,.leaf I6),(1,.aZ z0 [])],[(z0,false,.var fT (.leaf fT))]⟩ [(.ret,⟨[(2,.leaf .bool)],[]⟩),((.exit 0),⟨[(1,.aZ z0 [])],[(z0,false,.var fT (.leaf fT))]⟩)] Wh.ack Wh.Ej
def Ri:b8:=kS ⟨[(5,.leaf I6),(1,.aZ z0 [])],[(z0,false,.var fT (.leaf fT))]⟩ [(.ret,⟨[(2,.leaf .bool)],[]⟩),((.exit 2),⟨[],[]⟩)] Wh.acm Wh.FM
def Rj:b8:=kS ⟨[(6,.leaf I6),(5,.leaf I6),(1,.aZ z0 [])],[(z0,false,.var fT (.leaf fT))]⟩ [(.ret,⟨[(2,.leaf .bool)],[]⟩),((.exit 4),⟨[(1,.aZ z0 []),(5,.leaf I6)],[(z0,false,.var fT (.leaf fT))]⟩)] Wh.acn Wh.FN
def Oj:LT:=[(4,Rh),(10,Ri),(13,Rj)]
theorem akf:∀x,round Lp Oj (jo Tryz.f281 0) Rh x=Wh.Ej x:=by intro x;kernel_rfl
theorem akg:∀x,round Lp Oj (jo Tryz.f281 1) Ri x=Wh.FM x:=by intro x;kernel_rfl
theorem akh:∀x,round Lp Oj (jo Tryz.f281 2) Rj x=Wh.FN x:=by intro x;kernel_rfl
theorem e_q79:EV Lp Oj Tryz.f281 [.v fT] [.v .bool] Wh.Cp:=by intro xs;kernel_rfl
theorem ok_q79:CO Nu:=con_ok (Ls:=[Rh,Ri,Rj]) mixed (ct _ _) (aeN _ (aeI _ (At _ cx))) Tryz.func281 (loopsC (loopD_ok akf) (loopsC (loopD_ok akg) (loopsC (loopD_ok akh) loopsL_nil))) boxesL_none e_q79
theorem fk_q79:FK Nu:=fun _ _ h=>h.cons Nu (by kernel_rfl) Wh.q79_v ok_q79
def Jn:iq:=⟨199,[.v th],[.v .bool],Wh.DX,Wh.OW⟩
def C_q165:Cx:=⟨cr,[EK.entry,Nu.entry,L0.entry],false,Gl⟩
theorem e_q165:EV C_q165 mw Tryz.f199 [.v th] [.v .bool] Wh.DX:=by intro xs;kernel_rfl
theorem ag0:CO Jn:=con_ok (Ls:=[]) mixed (ct _ _) (JP _ (fk_q79 _ (aeq _ cx))) Tryz.func199 loopsL_nil boxesL_none e_q165
theorem XT:FK Jn:=fun _ _ h=>h.cons Jn (by kernel_rfl) Wh.UK ag0
def LA:iq:=⟨201,[.v th],[.v .bool],Wh.CL,Wh.Kb⟩
def C_q106:Cx:=⟨cr,[EK.entry,Jn.entry],false,Gl⟩
theorem e_q106:EV C_q106 mw Tryz.f201 [.v th] [.v .bool] Wh.CL:=by intro xs;kernel_rfl
theorem af4:CO LA:=con_ok (Ls:=[]) mixed (ct _ _) (JP _ (XT _ cx)) Tryz.func201 loopsL_nil boxesL_none e_q106
theorem ad5:FK LA:=fun _ _ h=>h.cons LA (by kernel_rfl) Wh.aat af4
def Ns:iq:=⟨109,[.v nc],[.v .bool],Wh.q77,Wh.HB⟩
def C_q77:Cx:=⟨cr,[LA.entry,Jd.entry,Jn.entry,LH.entry,zV.entry],false,Gl⟩
theorem e_q77:EV C_q77 mw Tryz.f109 [.v nc] [.v .bool] Wh.q77:=by intro xs;kernel_rfl
theorem ok_q77:CO Ns:=con_ok (Ls:=[]) mixed (ct _ _) (ad5 _ (XJ _ (XT _ (ad_ _ (At _ cx))))) Tryz.func109 loopsL_nil boxesL_none e_q77
theorem fk_q77:FK Ns:=fun _ _ h=>h.cons Ns (by kernel_rfl) Wh.q77_v ok_q77
def LC:iq:=⟨42,[.v gv],[.v .bool],Wh.E9,Wh.Tm⟩
def PX:Cx:=⟨cr,[zV.entry,Ns.entry,Nw.entry,Nt.entry],false,Gl⟩
def Rk:b8:=kS ⟨[(3,.leaf I6),(1,.aZ z0 [])],[(z0,false,.var gv (.leaf gv))]⟩ [(.ret,⟨[(2,.leaf .bool)],[]⟩),((.exit 0),⟨[(1,.aZ z0 [])],[(z0,false,.var gv (.leaf gv))]⟩)] Wh.aav Wh.DC
def Rl:b8:=kS ⟨[(4,.leaf I6),(1,.aZ z0 [])],[(z0,false,.var gv (.leaf gv))]⟩ [(.ret,⟨[(2,.leaf .bool)],[]⟩),((.exit 2),⟨[],[]⟩)] Wh.aaw Wh.DD
def SO:LT:=[(4,Rk),(9,Rl)]
theorem aki:∀x,round PX SO (jo Tryz.f42 0) Rk x=Wh.DC x:=by intro x;kernel_rfl
theorem akj:∀x,round PX SO (jo Tryz.f42 1) Rl x=Wh.DD x:=by intro x;kernel_rfl
theorem e_q108:EV PX SO Tryz.f42 [.v gv] [.v .bool] Wh.E9:=by intro xs;kernel_rfl
theorem af6:CO LC:=con_ok (Ls:=[Rk,Rl]) mixed (ct _ _) (At _ (fk_q77 _ (fk_q81 _ (fk_q78 _ cx)))) Tryz.func42 (loopsC (loopD_ok aki) (loopsC (loopD_ok akj) loopsL_nil)) boxesL_none e_q108
theorem ad7:FK LC:=fun _ _ h=>h.cons LC (by kernel_rfl) Wh.Tp af6
def Mc:iq:=⟨211,[.v th],[.v .bool],Wh.G3,Wh.Uv⟩
def C_q156:Cx:=⟨cr,[],false,Gl⟩
theorem e_q156:EV C_q156 mw Tryz.f211 [.v th] [.v .bool] Wh.G3:=by intro xs;kernel_rfl
theorem agR:CO Mc:=con_ok (Ls:=[]) mixed (ct _ _) cx Tryz.func211 loopsL_nil boxesL_none e_q156
theorem aeB:FK Mc:=fun _ _ h=>h.cons Mc (by kernel_rfl) Wh.abg agR
def LL:iq:=⟨290,[.v so],[.v .bool],Wh.A7,Wh.Kf⟩
def WL:Cx:=⟨cr,[Ga.entry,Ac.entry],false,Gl⟩
def Qc:b8:=kS ⟨[(50,.leaf I6),(1,.aZ z0 []),(48,.leaf (.lst I6)),(49,.leaf I6)],[(z0,false,.var so (.leaf so))]⟩ [(.ret,⟨[(2,.leaf .bool)],[]⟩),((.exit 0),⟨[],[]⟩)] Wh.aaL Wh.BU
def Y8:LT:=[(6,Qc)]
theorem ajc:∀x,round WL Y8 (jo Tryz.f290 0) Qc x=Wh.BU x:=by intro x;kernel_rfl
theorem e_q119:EV WL Y8 Tryz.f290 [.v so] [.v .bool] Wh.A7:=by intro xs;kernel_rfl
theorem agf:CO LL:=con_ok (Ls:=[Qc]) mixed (ct _ _) (NY _ (AZ _ cx)) Tryz.func290 (loopsC (loopD_ok ajc) loopsL_nil) boxesL_none e_q119
theorem aed:FK LL:=fun _ _ h=>h.cons LL (by kernel_rfl) Wh.q119_v agf
def Ma:iq:=⟨345,[.v (.lst I6),.v I6],[.v .bool],Wh.Fi,Wh.Km⟩
def WX:Cx:=⟨cr,[Ac.entry],false,Gl⟩
def Qh:b8:=kS ⟨[(9,.leaf I6),(0,.leaf (.lst I6)),(1,.leaf I6),(7,.leaf (.lst I6)),(8,.leaf I6)],[]⟩ [(.ret,⟨[(4,.leaf .bool)],[]⟩),((.exit 0),⟨[(1,.leaf I6)],[]⟩)] Wh.abd Wh.CV
def Zj:LT:=[(2,Qh)]
theorem ajh:∀x,round WX Zj (jo Tryz.f345 0) Qh x=Wh.CV x:=by intro x;kernel_rfl
theorem e_q153:EV WX Zj Tryz.f345 [.v (.lst I6),.v I6] [.v .bool] Wh.Fi:=by intro xs;kernel_rfl
theorem agO:CO Ma:=con_ok (Ls:=[Qh]) mixed (ct _ _) (AZ _ cx) Tryz.func345 (loopsC (loopD_ok ajh) loopsL_nil) boxesL_none e_q153
theorem aez:FK Ma:=fun _ _ h=>h.cons Ma (by kernel_rfl) Wh.q153_v agO
def Ms:iq:=⟨346,[.v (.lst I6)],[.v I3],Wh.Ho,Wh.Ky⟩
def Xc:Cx:=⟨cr,[],false,Gl⟩
def Qu:b8:=kS ⟨[(8,.leaf I6),(3,.leaf I3),(6,.leaf (.lst I6)),(7,.leaf I6)],[]⟩ [((.exit 0),⟨[(3,.leaf I3)],[]⟩)] Wh.abG Wh.Hp
def Zy:LT:=[(3,Qu)]
theorem ajv:∀x,round Xc Zy (jo Tryz.f346 0) Qu x=Wh.Hp x:=by intro x;kernel_rfl
theorem e_q177:EV Xc Zy Tryz.f346 [.v (.lst I6)] [.v I3] Wh.Ho:=by intro xs;kernel_rfl
theorem ahb:CO Ms:=con_ok (Ls:=[Qu]) mixed (ct _ _) cx Tryz.func346 (loopsC (loopD_ok ajv) loopsL_nil) boxesL_none e_q177
theorem aeQ:FK Ms:=fun _ _ h=>h.cons Ms (by kernel_rfl) Wh.q177_v ahb
def M0:iq:=⟨291,[.v fT],[.v .bool],Wh.Cm,Wh.KB⟩
def P2:Cx:=⟨cr,[Ms.entry,Ma.entry,Ac.entry],false,Gl⟩
def Qk:b8:=kS ⟨[(21,.leaf I6),(3,.leaf I3),(1,.aZ z0 []),(19,.leaf (.lst n4)),(20,.leaf I6)],[(z0,false,.var fT (.leaf fT))]⟩ [(.ret,⟨[(2,.leaf .bool)],[]⟩),((.exit 0),⟨[(3,.leaf I3),(1,.aZ z0 [])],[(z0,false,.var fT (.leaf fT))]⟩)] Wh.ab2 Wh.Cn
def Ql:b8:=kS ⟨[(77,.leaf I6),(3,.leaf I3),(75,.leaf (.lst n4)),(76,.leaf I6)],[]⟩ [(.ret,⟨[(2,.leaf .bool)],[]⟩),((.exit 2),⟨[],[]⟩)] Wh.ab3 Wh.FF
def SU:LT:=[(5,Qk),(12,Ql)]
theorem ajk:∀x,round P2 SU (jo Tryz.f291 0) Qk x=Wh.Cn x:=by intro x;kernel_rfl
theorem ajl:∀x,round P2 SU (jo Tryz.f291 1) Ql x=Wh.FF x:=by intro x;kernel_rfl
theorem e_q51:EV P2 SU Tryz.f291 [.v fT] [.v .bool] Wh.Cm:=by intro xs;kernel_rfl
theorem ok_q51:CO M0:=con_ok (Ls:=[Qk,Ql]) mixed (ct _ _) (aeQ _ (aez _ (AZ _ cx))) Tryz.func291 (loopsC (loopD_ok ajk) (loopsC (loopD_ok ajl) loopsL_nil)) boxesL_none e_q51
theorem fk_q51:FK M0:=fun _ _ h=>h.cons M0 (by kernel_rfl) Wh.q51_v ok_q51
def Jk:iq:=⟨212,[.v th],[.v .bool],Wh.DT,Wh.OO⟩
def C_q152:Cx:=⟨cr,[Ga.entry,M0.entry,LL.entry],false,Gl⟩
theorem e_q152:EV C_q152 mw Tryz.f212 [.v th] [.v .bool] Wh.DT:=by intro xs;kernel_rfl
theorem agN:CO Jk:=con_ok (Ls:=[]) mixed (ct _ _) (NY _ (fk_q51 _ (aed _ cx))) Tryz.func212 loopsL_nil boxesL_none e_q152
theorem XQ:FK Jk:=fun _ _ h=>h.cons Jk (by kernel_rfl) Wh.Ur agN
def Js:iq:=⟨312,[.v fT,.v I6],[.v .str,.v .bool],Wh.D9,Wh.IM⟩
def C_q21:Cx:=⟨cr,[],false,Gl⟩
def Qm:b8:=kS ⟨[(11,.leaf I6),(1,.leaf I6),(9,.leaf (.lst n4)),(10,.leaf I6)],[]⟩ [(.ret,⟨[(4,.leaf .str),(5,.leaf .bool)],[]⟩),((.exit 0),⟨[],[]⟩)] Wh.abK Wh.Fz
def ZA:LT:=[(2,Qm)]
theorem ajm:∀x,round C_q21 ZA (jo Tryz.f312 0) Qm x=Wh.Fz x:=by intro x;kernel_rfl
theorem e_q21:EV C_q21 ZA Tryz.f312 [.v fT,.v I6] [.v .str,.v .bool] Wh.D9:=by intro xs;kernel_rfl
theorem ok_q21:CO Js:=con_ok (Ls:=[Qm]) mixed (ct _ _) cx Tryz.func312 (loopsC (loopD_ok ajm) loopsL_nil) boxesL_none e_q21
theorem XY:FK Js:=fun _ _ h=>h.cons Js (by kernel_rfl) Wh.q21_v ok_q21
def JA:iq:=⟨292,[.v fT],[.v I6],Wh.FR,Wh.q9'⟩
def C_q9:Cx:=⟨cr,[Js.entry],false,Gl⟩
def Qn:b8:=kS ⟨[(3,.leaf I6),(1,.aZ z0 [])],[(z0,false,.var fT (.leaf fT))]⟩ [((.exit 0),⟨[(3,.leaf I6)],[]⟩)] Wh.acF Wh.FV
def lt_q9:LT:=[(2,Qn)]
theorem ajn:∀x,round C_q9 lt_q9 (jo Tryz.f292 0) Qn x=Wh.FV x:=by intro x;kernel_rfl
theorem e_q9:EV C_q9 lt_q9 Tryz.f292 [.v fT] [.v I6] Wh.FR:=by intro xs;kernel_rfl
theorem ok_q9:CO JA:=con_ok (Ls:=[Qn]) mixed (ct _ _) (XY _ cx) Tryz.func292 (loopsC (loopD_ok ajn) loopsL_nil) boxesL_none e_q9
theorem fk_q9:FK JA:=fun _ _ h=>h.cons JA (by kernel_rfl) Wh.q9_v ok_q9
def LF:iq:=⟨214,[.v th],[.v .bool],Wh.BR,Wh.E_⟩
def C_q11:Cx:=⟨cr,[JA.entry],false,Gl⟩
theorem e_q11:EV C_q11 mw Tryz.f214 [.v th] [.v .bool] Wh.BR:=by intro xs;kernel_rfl
theorem ok_q11:CO LF:=con_ok (Ls:=[]) mixed (ct _ _) (fk_q9 _ cx) Tryz.func214 loopsL_nil boxesL_none e_q11
theorem fk_q11:FK LF:=fun _ _ h=>h.cons LF (by kernel_rfl) Wh.q11_v ok_q11
def Jw:iq:=⟨116,[.v nc],[.v .bool],Wh.Ef,Wh.O8⟩
def C_q49:Cx:=⟨cr,[LF.entry,HY.entry,Jk.entry,Mc.entry,Ac.entry,H8.entry],false,Gl⟩
theorem e_q49:EV C_q49 mw Tryz.f116 [.v nc] [.v .bool] Wh.Ef:=by intro xs;kernel_rfl
theorem ok_q49:CO Jw:=con_ok (Ls:=[]) mixed (ct _ _) (fk_q11 _ (Sb _ (XQ _ (aeB _ (AZ _ (Sf _ cx)))))) Tryz.func116 loopsL_nil boxesL_none e_q49
theorem X3:FK Jw:=fun _ _ h=>h.cons Jw (by kernel_rfl) Wh.Vt ok_q49
def NG:iq:=⟨44,[.v gv],[.v .bool],Wh.q91,Wh.q91'⟩
def HW:Cx:=⟨cr,[Ac.entry,Jj.entry,Jz.entry,Jl.entry,H8.entry,Jw.entry,MZ.entry],false,Gl⟩
def Qo:b8:=kS ⟨[(34,.leaf I6),(1,.aZ z0 []),(32,.leaf (.lst nc)),(33,.leaf I6)],[(z0,false,.var gv (.leaf gv))]⟩ [(.ret,⟨[(2,.leaf .bool)],[]⟩),((.exit 0),⟨[(1,.aZ z0 [])],[(z0,false,.var gv (.leaf gv))]⟩)] Wh.acz Wh.Eo
def Qp:b8:=kS ⟨[(60,.leaf I6),(58,.leaf (.lst r5)),(1,.aZ z0 []),(59,.leaf I6)],[(z0,false,.var gv (.leaf gv))]⟩ [(.ret,⟨[(2,.leaf .bool)],[]⟩),((.exit 2),⟨[(1,.aZ z0 [])],[(z0,false,.var gv (.leaf gv))]⟩)] Wh.acA Wh.Ep
def Qq:b8:=kS ⟨[(83,.leaf I6),(81,.leaf (.lst an)),(1,.aZ z0 []),(82,.leaf I6)],[(z0,false,.var gv (.leaf gv))]⟩ [(.ret,⟨[(2,.leaf .bool)],[]⟩),((.exit 4),⟨[(1,.aZ z0 [])],[(z0,false,.var gv (.leaf gv))]⟩)] Wh.acB Wh.Er
def Qr:b8:=kS ⟨[(138,.leaf I6),(1,.aZ z0 []),(136,.whole z1 an),(137,.leaf I6)],[(z0,false,.var gv (.leaf gv)),(z1,false,.rows an)]⟩ [(.ret,⟨[(2,.leaf .bool)],[]⟩),((.exit 6),⟨[],[]⟩)] Wh.acC Wh.Es
def Xe:b8:=kS ⟨[(138,.leaf I6),(1,.aZ z0 []),(136,.leaf (.lst an)),(137,.leaf I6)],[(z0,false,.var gv (.leaf gv))]⟩ [(.ret,⟨[(2,.leaf .bool)],[]⟩),((.exit 6),⟨[],[]⟩)] Wh.acD Wh.Et
def Ix:LT:=[(4,Qo),(10,Qp),(16,Qq),(29,Qr),(500029,Xe)]
theorem ajo:∀x,round HW Ix (jo Tryz.f44 0) Qo x=Wh.Eo x:=by intro x;kernel_rfl
theorem ajp:∀x,round HW Ix (jo Tryz.f44 1) Qp x=Wh.Ep x:=by intro x;kernel_rfl
theorem ajq:∀x,round HW Ix (jo Tryz.f44 2) Qq x=Wh.Er x:=by intro x;kernel_rfl
theorem ajr:∀x,round HW Ix (jo Tryz.f44 3) Qr x=Wh.Es x:=by intro x;kernel_rfl
theorem ajs:∀x,round HW Ix (jo Tryz.f44 3) Xe x=Wh.Et x:=by intro x;kernel_rfl
theorem e_q91:EV HW Ix Tryz.f44 [.v gv] [.v .bool] Wh.q91:=by intro xs;kernel_rfl
theorem ok_q91:CO NG:=con_ok (Ls:=[Qo,Qp,Qq,Qr]) mixed (ct _ _) (AZ _ (XP _ (X6 _ (XR _ (Sf _ (X3 _ (fk_q50 _ cx))))))) Tryz.func44 (loopsC (loopD_ok ajo) (loopsC (loopD_ok ajp) (loopsC (loopD_ok ajq) (loopsL_two (by kernel_rfl) (loopD_ok ajr) (by kernel_rfl) (loopD_ok ajs) loopsL_nil)))) boxesL_none e_q91
theorem fk_q91:FK NG:=fun _ _ h=>h.cons NG (by kernel_rfl) Wh.V8 ok_q91
def I_:iq:=⟨300,[.v (.lst I6),.v (.lst I6)],[.v .bool],Wh.DI,Wh.GN⟩
def WM:Cx:=⟨cr,[],false,Gl⟩
def QH:b8:=kS ⟨[(5,.leaf I6),(1,.leaf (.lst I6)),(0,.leaf (.lst I6))],[]⟩ [(.ret,⟨[(4,.leaf .bool)],[]⟩),((.exit 0),⟨[],[]⟩)] Wh.aaO Wh.GO
def Y_:LT:=[(4,QH)]
theorem ajI:∀x,round WM Y_ (jo Tryz.f300 0) QH x=Wh.GO x:=by intro x;kernel_rfl
theorem e_q123:EV WM Y_ Tryz.f300 [.v (.lst I6),.v (.lst I6)] [.v .bool] Wh.DI:=by intro xs;kernel_rfl
theorem agk:CO I_:=con_ok (Ls:=[QH]) mixed (ct _ _) cx Tryz.func300 (loopsC (loopD_ok ajI) loopsL_nil) boxesL_none e_q123
theorem XF:FK I_:=fun _ _ h=>h.cons I_ (by kernel_rfl) Wh.q123_v agk
def LQ:iq:=⟨222,[.v so,.v so],[.v .bool],Wh.GQ,Wh.OB⟩
def C_q125:Cx:=⟨cr,[I_.entry],false,Gl⟩
theorem e_q125:EV C_q125 mw Tryz.f222 [.v so,.v so] [.v .bool] Wh.GQ:=by intro xs;kernel_rfl
theorem agm:CO LQ:=con_ok (Ls:=[]) mixed (ct _ _) (XF _ cx) Tryz.func222 loopsL_nil boxesL_none e_q125
theorem aeh:FK LQ:=fun _ _ h=>h.cons LQ (by kernel_rfl) Wh.q125_v agm
def Mt:iq:=⟨355,[.v n4,.v n4],[.v .bool],Wh.Hq,Wh.O1⟩
def C_q178:Cx:=⟨cr,[I_.entry],false,Gl⟩
theorem e_q178:EV C_q178 mw Tryz.f355 [.v n4,.v n4] [.v .bool] Wh.Hq:=by intro xs;kernel_rfl
theorem ahc:CO Mt:=con_ok (Ls:=[]) mixed (ct _ _) (XF _ cx) Tryz.func355 loopsL_nil boxesL_none e_q178
theorem aeR:FK Mt:=fun _ _ h=>h.cons Mt (by kernel_rfl) Wh.q178_v ahc
def Me:iq:=⟨301,[.v (.lst n4),.v (.lst n4)],[.v .bool],Wh.G5,Wh.OR⟩
def WZ:Cx:=⟨cr,[Mt.entry],false,Gl⟩
def QF:b8:=kS ⟨[(5,.leaf I6),(1,.leaf (.lst n4)),(0,.leaf (.lst n4))],[]⟩ [(.ret,⟨[(4,.leaf .bool)],[]⟩),((.exit 0),⟨[],[]⟩)] Wh.abi Wh.G6
def Zl:LT:=[(4,QF)]
theorem ajG:∀x,round WZ Zl (jo Tryz.f301 0) QF x=Wh.G6 x:=by intro x;kernel_rfl
theorem e_q158:EV WZ Zl Tryz.f301 [.v (.lst n4),.v (.lst n4)] [.v .bool] Wh.G5:=by intro xs;kernel_rfl
theorem agT:CO Me:=con_ok (Ls:=[QF]) mixed (ct _ _) (aeR _ cx) Tryz.func301 (loopsC (loopD_ok ajG) loopsL_nil) boxesL_none e_q158
theorem aeD:FK Me:=fun _ _ h=>h.cons Me (by kernel_rfl) Wh.q158_v agT
def Na:iq:=⟨223,[.v fT,.v fT],[.v .bool],Wh.q62,Wh.Pa⟩
def C_q62:Cx:=⟨cr,[Me.entry],false,Gl⟩
theorem e_q62:EV C_q62 mw Tryz.f223 [.v fT,.v fT] [.v .bool] Wh.q62:=by intro xs;kernel_rfl
theorem ok_q62:CO Na:=con_ok (Ls:=[]) mixed (ct _ _) (aeD _ cx) Tryz.func223 loopsL_nil boxesL_none e_q62
theorem fk_q62:FK Na:=fun _ _ h=>h.cons Na (by kernel_rfl) Wh.q62_v ok_q62
def MI:iq:=⟨118,[.v th,.v th],[.v .bool],Wh.q31,Wh.O4⟩
def C_q31:Cx:=⟨cr,[Na.entry,LQ.entry],false,Gl⟩
theorem e_q31:EV C_q31 mw Tryz.f118 [.v th,.v th] [.v .bool] Wh.q31:=by intro xs;kernel_rfl
theorem ok_q31:CO MI:=con_ok (Ls:=[]) mixed (ct _ _) (fk_q62 _ (aeh _ cx)) Tryz.func118 loopsL_nil boxesL_none e_q31
theorem fk_q31:FK MI:=fun _ _ h=>h.cons MI (by kernel_rfl) Wh.q31_v ok_q31
def M5:iq:=⟨35,[.v nc,.v nc],[.v .bool],Wh.q57,Wh.O9⟩
def C_q57:Cx:=⟨cr,[MI.entry],false,Gl⟩
theorem e_q57:EV C_q57 mw Tryz.f35 [.v nc,.v nc] [.v .bool] Wh.q57:=by intro xs;kernel_rfl
theorem ok_q57:CO M5:=con_ok (Ls:=[]) mixed (ct _ _) (fk_q31 _ cx) Tryz.func35 loopsL_nil boxesL_none e_q57
theorem fk_q57:FK M5:=fun _ _ h=>h.cons M5 (by kernel_rfl) Wh.q57_v ok_q57
def MH:iq:=⟨131,[.v (.lst nc),.v (.lst nc)],[.v .bool],Wh.q30,Wh.q30'⟩
def C_q30:Cx:=⟨cr,[M5.entry],false,Gl⟩
def QE:b8:=kS ⟨[(5,.leaf I6),(1,.leaf (.lst nc)),(0,.leaf (.lst nc))],[]⟩ [(.ret,⟨[(4,.leaf .bool)],[]⟩),((.exit 0),⟨[],[]⟩)] Wh.abQ Wh.Hu
def ZF:LT:=[(4,QE)]
theorem ajF:∀x,round C_q30 ZF (jo Tryz.f131 0) QE x=Wh.Hu x:=by intro x;kernel_rfl
theorem e_q30:EV C_q30 ZF Tryz.f131 [.v (.lst nc),.v (.lst nc)] [.v .bool] Wh.q30:=by intro xs;kernel_rfl
theorem ok_q30:CO MH:=con_ok (Ls:=[QE]) mixed (ct _ _) (fk_q57 _ cx) Tryz.func131 (loopsC (loopD_ok ajF) loopsL_nil) boxesL_none e_q30
theorem fk_q30:FK MH:=fun _ _ h=>h.cons MH (by kernel_rfl) Wh.q30_v ok_q30
def M7:iq:=⟨234,[.v r5,.v r5],[.v .bool],Wh.q59,Wh.O_⟩
def C_q59:Cx:=⟨cr,[],false,Gl⟩
theorem e_q59:EV C_q59 mw Tryz.f234 [.v r5,.v r5] [.v .bool] Wh.q59:=by intro xs;kernel_rfl
theorem ok_q59:CO M7:=con_ok (Ls:=[]) mixed (ct _ _) cx Tryz.func234 loopsL_nil boxesL_none e_q59
theorem fk_q59:FK M7:=fun _ _ h=>h.cons M7 (by kernel_rfl) Wh.q59_v ok_q59
def MJ:iq:=⟨132,[.v (.lst r5),.v (.lst r5)],[.v .bool],Wh.q32,Wh.q32'⟩
def C_q32:Cx:=⟨cr,[M7.entry],false,Gl⟩
def QJ:b8:=kS ⟨[(5,.leaf I6),(1,.leaf (.lst r5)),(0,.leaf (.lst r5))],[]⟩ [(.ret,⟨[(4,.leaf .bool)],[]⟩),((.exit 0),⟨[],[]⟩)] Wh.abR Wh.Hv
def ZG:LT:=[(4,QJ)]
theorem ajK:∀x,round C_q32 ZG (jo Tryz.f132 0) QJ x=Wh.Hv x:=by intro x;kernel_rfl
theorem e_q32:EV C_q32 ZG Tryz.f132 [.v (.lst r5),.v (.lst r5)] [.v .bool] Wh.q32:=by intro xs;kernel_rfl
theorem ok_q32:CO MJ:=con_ok (Ls:=[QJ]) mixed (ct _ _) (fk_q59 _ cx) Tryz.func132 (loopsC (loopD_ok ajK) loopsL_nil) boxesL_none e_q32
theorem fk_q32:FK MJ:=fun _ _ h=>h.cons MJ (by kernel_rfl) Wh.q32_v ok_q32
def NL:iq:=⟨45,[.v gv,.v gv],[.v .bool],Wh.q98,Wh.q98'⟩
def C_q98:Cx:=⟨cr,[JC.entry,MJ.entry,MH.entry,M_.entry],false,Gl⟩
theorem e_q98:EV C_q98 mw Tryz.f45 [.v gv,.v gv] [.v .bool] Wh.q98:=by intro xs;kernel_rfl
theorem ok_q98:CO NL:=con_ok (Ls:=[]) mixed (ct _ _) (X8 _ (fk_q32 _ (fk_q30 _ (fk_q61 _ cx)))) Tryz.func45 loopsL_nil boxesL_none e_q98
theorem fk_q98:FK NL:=fun _ _ h=>h.cons NL (by kernel_rfl) Wh.q98_v ok_q98
def Jp:iq:=⟨241,[.v fT,.v I6],[.v .str,.v .bool],Wh.DZ,Wh.Hi⟩
def W8:Cx:=⟨cr,[],false,Gl⟩
def RD:b8:=kS ⟨[(6,.leaf I6),(2,.aZ z0 []),(1,.leaf I6)],[(z0,false,.var fT (.leaf fT))]⟩ [(.ret,⟨[(4,.leaf .str),(5,.leaf .bool)],[]⟩),((.exit 0),⟨[],[]⟩)] Wh.abz Wh.Fu
def Zt:LT:=[(2,RD)]
theorem akB:∀x,round W8 Zt (jo Tryz.f241 0) RD x=Wh.Fu x:=by intro x;kernel_rfl
theorem e_q172:EV W8 Zt Tryz.f241 [.v fT,.v I6] [.v .str,.v .bool] Wh.DZ:=by intro xs;kernel_rfl
theorem ag7:CO Jp:=con_ok (Ls:=[RD]) mixed (ct _ _) cx Tryz.func241 (loopsC (loopD_ok akB) loopsL_nil) boxesL_none e_q172
theorem XV:FK Jp:=fun _ _ h=>h.cons Jp (by kernel_rfl) Wh.abA ag7
def Nz:iq:=⟨240,[.v fT],[.v I6],Wh.q84,Wh.q84'⟩
def C_q84:Cx:=⟨cr,[Jp.entry],false,Gl⟩
def RF:b8:=kS ⟨[(3,.leaf I6),(1,.aZ z0 [])],[(z0,false,.var fT (.leaf fT))]⟩ [(.ret,⟨[(2,.leaf I6)],[]⟩)] Wh.acs Wh.FP
def ZU:LT:=[(2,RF)]
theorem akD:∀x,round C_q84 ZU (jo Tryz.f240 0) RF x=Wh.FP x:=by intro x;kernel_rfl
theorem e_q84:EV C_q84 ZU Tryz.f240 [.v fT] [.v I6] Wh.q84:=by intro xs;kernel_rfl
theorem ok_q84:CO Nz:=con_ok (Ls:=[RF]) mixed (ct _ _) (XV _ cx) Tryz.func240 (loopsC (loopD_ok akD) loopsL_nil) boxesL_none e_q84
theorem fk_q84:FK Nz:=fun _ _ h=>h.cons Nz (by kernel_rfl) Wh.q84_v ok_q84
def L5:iq:=⟨137,[.v th],[.v .str],Wh.Ff,Wh.Uc⟩
def WS:Cx:=⟨cr,[Jp.entry,Nz.entry],false,Gl⟩
def RJ:b8:=kS ⟨[(4,.leaf I6),(3,.leaf .str),(1,.aZ z0 [])],[(z0,false,.var th (.leaf th))]⟩ [((.exit 0),⟨[(1,.aZ z0 []),(3,.leaf .str)],[(z0,false,.var th (.leaf th))]⟩)] Wh.aa6 Wh.GY
def Ze:LT:=[(3,RJ)]
theorem akH:∀x,round WS Ze (jo Tryz.f137 0) RJ x=Wh.GY x:=by intro x;kernel_rfl
theorem e_q141:EV WS Ze Tryz.f137 [.v th] [.v .str] Wh.Ff:=by intro xs;kernel_rfl
theorem agC:CO L5:=con_ok (Ls:=[RJ]) mixed (ct _ _) (XV _ (fk_q84 _ cx)) Tryz.func137 (loopsC (loopD_ok akH) loopsL_nil) boxesL_none e_q141
theorem aet:FK L5:=fun _ _ h=>h.cons L5 (by kernel_rfl) Wh.aa7 agC
def MU:iq:=⟨50,[.v gv],[.v .bool],Wh.q42,Wh.q42'⟩
def C_q42:Cx:=⟨cr,[Jy.entry,L5.entry,LC.entry],false,Gl⟩
def Rm:b8:=kS ⟨[(3,.leaf I6),(1,.aZ z0 [])],[(z0,false,.var gv (.leaf gv))]⟩ [(.ret,⟨[(2,.leaf .bool)],[]⟩),((.exit 0),⟨[],[]⟩)] Wh.abX Wh.C0
def ZM:LT:=[(4,Rm)]
theorem akk:∀x,round C_q42 ZM (jo Tryz.f50 0) Rm x=Wh.C0 x:=by intro x;kernel_rfl
theorem e_q42:EV C_q42 ZM Tryz.f50 [.v gv] [.v .bool] Wh.q42:=by intro xs;kernel_rfl
theorem ok_q42:CO MU:=con_ok (Ls:=[Rm]) mixed (ct _ _) (X5 _ (aet _ (ad7 _ cx))) Tryz.func50 (loopsC (loopD_ok akk) loopsL_nil) boxesL_none e_q42
theorem fk_q42:FK MU:=fun _ _ h=>h.cons MU (by kernel_rfl) Wh.q42_v ok_q42
def NB:iq:=⟨242,[.v th],[.v .str],Wh.q86,Wh.q86'⟩
def C_q86:Cx:=⟨cr,[Js.entry,JA.entry,Jk.entry],false,Gl⟩
def P9:b8:=kS ⟨[(13,.leaf I6),(3,.leaf .str),(1,.aZ z0 []),(12,.leaf I6)],[(z0,false,.var th (.leaf th))]⟩ [((.exit 0),⟨[(1,.aZ z0 []),(3,.leaf .str)],[(z0,false,.var th (.leaf th))]⟩)] Wh.acu Wh.HD
def ZV:LT:=[(5,P9)]
theorem ai9:∀x,round C_q86 ZV (jo Tryz.f242 0) P9 x=Wh.HD x:=by intro x;kernel_rfl
theorem e_q86:EV C_q86 ZV Tryz.f242 [.v th] [.v .str] Wh.q86:=by intro xs;kernel_rfl
theorem ok_q86:CO NB:=con_ok (Ls:=[P9]) mixed (ct _ _) (XY _ (fk_q9 _ (XQ _ cx))) Tryz.func242 (loopsC (loopD_ok ai9) loopsL_nil) boxesL_none e_q86
theorem fk_q86:FK NB:=fun _ _ h=>h.cons NB (by kernel_rfl) Wh.q86_v ok_q86
def Mx:iq:=⟨139,[.v nc],[.v .str],Wh.D7,Wh.q19'⟩
def C_q19:Cx:=⟨cr,[NB.entry,Jw.entry],false,Gl⟩
theorem e_q19:EV C_q19 mw Tryz.f139 [.v nc] [.v .str] Wh.D7:=by intro xs;kernel_rfl
theorem ok_q19:CO Mx:=con_ok (Ls:=[]) mixed (ct _ _) (fk_q86 _ (X3 _ cx)) Tryz.func139 loopsL_nil boxesL_none e_q19
theorem fk_q19:FK Mx:=fun _ _ h=>h.cons Mx (by kernel_rfl) Wh.q19_v ok_q19
def MD:iq:=⟨51,[.v gv],[.v .bool],Wh.q27,Wh.q27'⟩
def C_q27:Cx:=⟨cr,[Jb.entry,JB.entry,Mx.entry,NG.entry],false,Gl⟩
def Qs:b8:=kS ⟨[(13,.leaf I6),(1,.aZ z0 []),(11,.leaf (.lst nc)),(12,.leaf I6)],[(z0,false,.var gv (.leaf gv))]⟩ [(.ret,⟨[(2,.leaf .bool)],[]⟩),((.exit 0),⟨[],[]⟩)] Wh.abN Wh.CZ
def ZD:LT:=[(4,Qs)]
theorem ajt:∀x,round C_q27 ZD (jo Tryz.f51 0) Qs x=Wh.CZ x:=by intro x;kernel_rfl
theorem e_q27:EV C_q27 ZD Tryz.f51 [.v gv] [.v .bool] Wh.q27:=by intro xs;kernel_rfl
theorem ok_q27:CO MD:=con_ok (Ls:=[Qs]) mixed (ct _ _) (XH _ (X7 _ (fk_q19 _ (fk_q91 _ cx)))) Tryz.func51 (loopsC (loopD_ok ajt) loopsL_nil) boxesL_none e_q27
theorem fk_q27:FK MD:=fun _ _ h=>h.cons MD (by kernel_rfl) Wh.q27_v ok_q27
def K_q5:iq:=⟨12,[.v gv],[.v .bool],Wh.q5,Wh.q5'⟩
def C_q5:Cx:=⟨cr,[NL.entry,MD.entry,MU.entry,Ly.entry,Lv.entry],false,Gl⟩
theorem e_q5:EV C_q5 mw Tryz.f12 [.v gv] [.v .bool] Wh.q5:=by intro xs;kernel_rfl
theorem ok_q5:CO K_q5:=con_ok (Ls:=[]) mixed (ct _ _) (fk_q98 _ (fk_q27 _ (fk_q42 _ (ad3 _ (ad0 _ cx))))) Tryz.func12 loopsL_nil boxesL_none e_q5
end
end Go.Proofs.BG
