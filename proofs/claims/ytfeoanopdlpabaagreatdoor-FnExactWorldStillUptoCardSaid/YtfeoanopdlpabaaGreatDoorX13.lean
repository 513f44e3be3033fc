import Derived.Test.YtfeoanopdlpabaaGreatDoorX12
import Derived.Test.YtfeoanopdlpabaaGreatDoorProg
import Derived.KernelRfl
open Go Go.Ab
namespace Go.Proofs.Br
noncomputable section
def cr:List (Nat×TI):=[(2,⟨(.int .i64),0⟩),(3,⟨(.int .i64),0⟩),(4,⟨.bool,0⟩),(5,⟨(.int .u8),0⟩),(6,⟨(.int .u8),0⟩),(7,⟨Vr,1⟩),(8,⟨Vr,1⟩),(9,⟨.str,0⟩),(10,⟨.str,0⟩),(11,⟨.str,0⟩),(12,⟨(.int .u64),0⟩),(13,⟨Vs,0⟩),(14,⟨Vs,0⟩),(21,⟨(.int .i32),0⟩),(455,⟨(.int .i32),0⟩),(454,⟨(.int .i32),0⟩),(422,⟨(.ref (.int .u8)),0⟩),(452,⟨(.int .u8),0⟩),(451,⟨(.int .u8),0⟩),(345,⟨(.int .u32),0⟩),(118,⟨an,1⟩),(260,⟨an,1⟩),(22,⟨(.lst an),0⟩),(23,⟨fk,0⟩),(24,⟨fk,0⟩),(122,⟨ng,1⟩),(282,⟨ng,1⟩),(25,⟨(.lst ng),0⟩),(26,⟨n4,0⟩),(27,⟨n4,0⟩),(126,⟨nI,1⟩),(204,⟨nI,1⟩),(28,⟨(.lst nI),0⟩),(134,⟨r5,1⟩),(206,⟨r5,1⟩),(29,⟨(.lst r5),0⟩),(30,⟨nC,0⟩),(31,⟨nC,0⟩),(119,⟨an,1⟩),(34,⟨(.lst an),0⟩),(35,⟨fk,0⟩),(36,⟨fk,0⟩),(123,⟨ng,1⟩),(37,⟨(.lst ng),0⟩),(38,⟨n4,0⟩),(39,⟨n4,0⟩),(127,⟨nI,1⟩),(40,⟨(.lst nI),0⟩),(135,⟨r5,1⟩),(41,⟨(.lst r5),0⟩),(42,⟨nC,0⟩),(43,⟨nC,0⟩),(56,⟨(.lst (.int .i64)),0⟩),(57,⟨r_,0⟩),(58,⟨r_,0⟩),(320,⟨nW,0⟩),(340,⟨nW,0⟩),(59,⟨(.lst nW),0⟩),(60,⟨mb,0⟩),(61,⟨mb,0⟩),(62,⟨xO,0⟩),(63,⟨xO,0⟩),(64,⟨nc,0⟩),(65,⟨nc,0⟩),(66,⟨Ke,1⟩),(67,⟨Ke,1⟩),(70,⟨r_,0⟩),(321,⟨nW,0⟩),(71,⟨(.lst nW),0⟩),(72,⟨mb,0⟩),(73,⟨mb,0⟩),(74,⟨xO,0⟩),(75,⟨xO,0⟩),(76,⟨nc,0⟩),(77,⟨nc,0⟩),(82,⟨Ke,1⟩),(78,⟨(.lst Ke),0⟩),(89,⟨(.lst nc),0⟩),(174,⟨pg,1⟩),(258,⟨pg,1⟩),(90,⟨(.lst pg),0⟩),(91,⟨fT,0⟩),(92,⟨fT,0⟩),(95,⟨(.lst nc),0⟩),(175,⟨pg,1⟩),(96,⟨(.lst pg),0⟩),(97,⟨fT,0⟩),(98,⟨fT,0⟩),(111,⟨(.lst .str),0⟩),(192,⟨OO,1⟩),(193,⟨OO,1⟩),(189,⟨(.lst OO),0⟩),(256,⟨(.lst (.int .u8)),0⟩),(314,⟨(.ref nC),0⟩),(331,⟨(.int .u64),0⟩),(332,⟨(.ref ng),0⟩),(357,⟨(.int .i64),0⟩),(366,⟨(.int .u64),0⟩),(369,⟨(.int .i64),0⟩),(375,⟨(.arr 24 (.int .u8)),0⟩),(379,⟨(.arr 8 (.int .u32)),0⟩),(380,⟨(.arr 64 (.int .u32)),0⟩),(399,⟨(.int .u64),0⟩),(403,⟨(.ref (.int .i64)),0⟩),(405,⟨(.lst (.int .u32)),0⟩),(416,⟨(.arr 20 (.int .u64)),0⟩),(417,⟨(.arr 65 (.int .u8)),0⟩),(425,⟨(.ref (.int .u64)),0⟩),(432,⟨Eg,1⟩),(433,⟨Eg,1⟩),(431,⟨(.ref Eg),0⟩),(440,⟨(.arr 32 (.int .u8)),0⟩),(441,⟨(.arr 64 (.int .u8)),0⟩),(442,⟨(.arr 256 (.int .u8)),0⟩),(443,⟨Vt,1⟩),(444,⟨Vt,1⟩)]
theorem tab_ok:cn (fun x=>(cK Tryz.prog x.2.t).1 x.1&&(!(Nat.beq x.2.e 1) || eqB Tryz.prog x.1)) cr=true:=by kernel_rfl
theorem ct (fns:List (Nat×List Ab.Mode×(List Arg→Option Res)))(dp:Bool):bH Tryz.prog ⟨cr,fns,dp,Gl⟩:=cxOk_of tab_ok
theorem mixed:Tryz.prog.follows .mixedOrders=true:=by kernel_rfl
abbrev FT:Type:=List (Nat×List Ab.Mode×(List Arg→Option Res))
abbrev FK (c:iq):Prop:=∀(fns:FT) {dp:Bool},dD Tryz.prog Gb ⟨cr,fns,dp,Gl⟩→dD Tryz.prog Gb ⟨cr,c.entry::fns,dp,Gl⟩
abbrev EV (C:Cx)(lt:List (Nat×b8))(f:Func)(ps:List PT)(ws:List Want)(g:gE ps→Option (jr ws×ij ps)):Prop:=∀xs,evT C lt f ps ws xs=g xs
abbrev CO (c:iq):Prop:=ConOk Tryz.prog Gb c
abbrev LT:Type:=List (Nat×b8)
def lg:LT:=[]
abbrev z0:Nat:=500000000
abbrev z1:Nat:=500000001
abbrev z2:Nat:=500000002
abbrev z3:Nat:=500000003
abbrev I6:Ty:=.int .i64
abbrev I8:Ty:=.int .u8
abbrev I3:Ty:=.int .u32
theorem cx:dD Tryz.prog Gb ⟨cr,[],false,Gl⟩:=dD.nil cr false gl_ok
def Lb:iq:=⟨229,[.v an,.v I6],[.v I6],Wh.Gy,Wh.SU⟩
def C_q126:Cx:=⟨cr,[],false,Gl⟩
theorem e_q126:EV C_q126 lg Tryz.f229 [.v an,.v I6] [.v I6] Wh.Gy:=by intro xs;kernel_rfl
theorem ae4:CO Lb:=con_ok (Ls:=[]) mixed (ct _ _) cx Tryz.func229 loopsL_nil boxesL_none e_q126
theorem acY:FK Lb:=fun _ _ h=>h.cons Lb (by kernel_rfl) Wh.SV ae4
def IZ:iq:=⟨125,[.v (.lst an),.v I6],[.v I6],Wh.q97,Wh.OA⟩
def C_q97:Cx:=⟨cr,[Lb.entry],false,Gl⟩
def P4:b8:=kS ⟨[(5,.leaf I6),(1,.leaf I6),(0,.leaf (.lst an))],[]⟩ [(.ret,⟨[(4,.leaf I6)],[]⟩),((.exit 0),⟨[(1,.leaf I6)],[]⟩)] Wh.Ve Wh.Fx
def YN:LT:=[(5,P4)]
theorem aim:∀x,round C_q97 YN (jo Tryz.f125 0) P4 x=Wh.Fx x:=by intro x;kernel_rfl
theorem e_q97:EV C_q97 YN Tryz.f125 [.v (.lst an),.v I6] [.v I6] Wh.q97:=by intro xs;kernel_rfl
theorem ok_q97:CO IZ:=con_ok (Ls:=[P4]) mixed (ct _ _) (acY _ cx) Tryz.func125 (loopsC (loopD_ok aim) loopsL_nil) boxesL_none e_q97
theorem WZ:FK IZ:=fun _ _ h=>h.cons IZ (by kernel_rfl) Wh.Vf ok_q97
def LA:iq:=⟨54,[.v fk,.v I6],[.v I6],Wh.GM,Wh.Tx⟩
def C_q156:Cx:=⟨cr,[IZ.entry],false,Gl⟩
theorem e_q156:EV C_q156 lg Tryz.f54 [.v fk,.v I6] [.v I6] Wh.GM:=by intro xs;kernel_rfl
theorem afx:CO LA:=con_ok (Ls:=[]) mixed (ct _ _) (WZ _ cx) Tryz.func54 loopsL_nil boxesL_none e_q156
theorem adk:FK LA:=fun _ _ h=>h.cons LA (by kernel_rfl) Wh.Z6 afx
def MA:iq:=⟨149,[.v (.lst ng),.v I6],[.v I6],Wh.q64,Wh.q64'⟩
def C_q64:Cx:=⟨cr,[],false,Gl⟩
theorem e_q64:EV C_q64 lg Tryz.f149 [.v (.lst ng),.v I6] [.v I6] Wh.q64:=by intro xs;kernel_rfl
theorem ok_q64:CO MA:=con_ok (Ls:=[]) mixed (ct _ _) cx Tryz.func149 loopsL_nil boxesL_none e_q64
theorem fk_q64:FK MA:=fun _ _ h=>h.cons MA (by kernel_rfl) Wh.q64_v ok_q64
def Ld:iq:=⟨55,[.v n4,.v I6],[.v I6],Wh.GA,Wh.SX⟩
def C_q128:Cx:=⟨cr,[MA.entry],false,Gl⟩
theorem e_q128:EV C_q128 lg Tryz.f55 [.v n4,.v I6] [.v I6] Wh.GA:=by intro xs;kernel_rfl
theorem ae6:CO Ld:=con_ok (Ls:=[]) mixed (ct _ _) (fk_q64 _ cx) Tryz.func55 loopsL_nil boxesL_none e_q128
theorem ac0:FK Ld:=fun _ _ h=>h.cons Ld (by kernel_rfl) Wh.ZD ae6
def L9:iq:=⟨56,[.v (.lst nI),.v I6],[.v I6],Wh.q34,Wh.q34'⟩
def C_q34:Cx:=⟨cr,[],false,Gl⟩
theorem e_q34:EV C_q34 lg Tryz.f56 [.v (.lst nI),.v I6] [.v I6] Wh.q34:=by intro xs;kernel_rfl
theorem ok_q34:CO L9:=con_ok (Ls:=[]) mixed (ct _ _) cx Tryz.func56 loopsL_nil boxesL_none e_q34
theorem fk_q34:FK L9:=fun _ _ h=>h.cons L9 (by kernel_rfl) Wh.q34_v ok_q34
def MC:iq:=⟨57,[.v (.lst r5),.v I6],[.v I6],Wh.q66,Wh.q66'⟩
def C_q66:Cx:=⟨cr,[],false,Gl⟩
theorem e_q66:EV C_q66 lg Tryz.f57 [.v (.lst r5),.v I6] [.v I6] Wh.q66:=by intro xs;kernel_rfl
theorem ok_q66:CO MC:=con_ok (Ls:=[]) mixed (ct _ _) cx Tryz.func57 loopsL_nil boxesL_none e_q66
theorem fk_q66:FK MC:=fun _ _ h=>h.cons MC (by kernel_rfl) Wh.q66_v ok_q66
def MD:iq:=⟨14,[.v nC,.v I6],[.v I6],Wh.q67,Wh.q67'⟩
def C_q67:Cx:=⟨cr,[MC.entry,L9.entry,Ld.entry,LA.entry],false,Gl⟩
theorem e_q67:EV C_q67 lg Tryz.f14 [.v nC,.v I6] [.v I6] Wh.q67:=by intro xs;kernel_rfl
theorem ok_q67:CO MD:=con_ok (Ls:=[]) mixed (ct _ _) (fk_q66 _ (fk_q34 _ (ac0 _ (adk _ cx)))) Tryz.func14 loopsL_nil boxesL_none e_q67
theorem fk_q67:FK MD:=fun _ _ h=>h.cons MD (by kernel_rfl) Wh.q67_v ok_q67
def Lf:iq:=⟨232,[.v an],[.v an],Wh.Ie,Wh.S0⟩
def C_q130:Cx:=⟨cr,[],false,Gl⟩
theorem e_q130:EV C_q130 lg Tryz.f232 [.v an] [.v an] Wh.Ie:=by intro xs;kernel_rfl
theorem ae8:CO Lf:=con_ok (Ls:=[]) mixed (ct _ _) cx Tryz.func232 loopsL_nil boxesL_none e_q130
theorem ac1:FK Lf:=fun _ _ h=>h.cons Lf (by kernel_rfl) Wh.ZG ae8
def Iy:iq:=⟨129,[.v (.lst an)],[.v (.own an)],Wh.EK,Wh.NV⟩
def VE:Cx:=⟨cr,[Lf.entry],false,Gl⟩
def Qa:b8:=kS ⟨[(4,.leaf I6),(0,.leaf (.lst an)),(3,.whole z0 an)],[(z0,false,.rows an)]⟩ [((.exit 0),⟨[(3,.whole z0 an)],[(z0,false,.rows an)]⟩)] Wh.Y9 Wh.EL
def XT:LT:=[(3,Qa)]
theorem ait:∀x,round VE XT (jo Tryz.f129 0) Qa x=Wh.EL x:=by intro x;kernel_rfl
theorem e_q100:EV VE XT Tryz.f129 [.v (.lst an)] [.v (.own an)] Wh.EK:=by intro xs;kernel_rfl
theorem aeF:CO Iy:=con_ok (Ls:=[Qa]) mixed (ct _ _) (ac1 _ cx) Tryz.func129 (loopsC (loopD_ok ait) loopsL_nil) boxesL_none e_q100
theorem Wz:FK Iy:=fun _ _ h=>h.cons Iy (by kernel_rfl) Wh.Sn aeF
def LC:iq:=⟨69,[.v fk],[.v (.pair I6 (.pair (.own an) .unit))],Wh.GO,Wh.TD⟩
def C_q158:Cx:=⟨cr,[Iy.entry],false,Gl⟩
theorem e_q158:EV C_q158 lg Tryz.f69 [.v fk] [.v (.pair I6 (.pair (.own an) .unit))] Wh.GO:=by intro xs;kernel_rfl
theorem afz:CO LC:=con_ok (Ls:=[]) mixed (ct _ _) (Wz _ cx) Tryz.func69 loopsL_nil boxesL_none e_q158
theorem adm:FK LC:=fun _ _ h=>h.cons LC (by kernel_rfl) Wh.Z8 afz
def Na:iq:=⟨259,[.v ng],[.v ng],Wh.q99,Wh.q99'⟩
def C_q99:Cx:=⟨cr,[],false,Gl⟩
theorem e_q99:EV C_q99 lg Tryz.f259 [.v ng] [.v ng] Wh.q99:=by intro xs;kernel_rfl
theorem ok_q99:CO Na:=con_ok (Ls:=[]) mixed (ct _ _) cx Tryz.func259 loopsL_nil boxesL_none e_q99
theorem fk_q99:FK Na:=fun _ _ h=>h.cons Na (by kernel_rfl) Wh.q99_v ok_q99
def MJ:iq:=⟨153,[.v (.lst ng)],[.v (.own ng)],Wh.q71,Wh.q71'⟩
def C_q71:Cx:=⟨cr,[Na.entry],false,Gl⟩
def P9:b8:=kS ⟨[(4,.leaf I6),(0,.leaf (.lst ng)),(3,.whole z0 ng)],[(z0,false,.rows ng)]⟩ [((.exit 0),⟨[(3,.whole z0 ng)],[(z0,false,.rows ng)]⟩)] Wh.aaX Wh.Fq
def YH:LT:=[(3,P9)]
theorem air:∀x,round C_q71 YH (jo Tryz.f153 0) P9 x=Wh.Fq x:=by intro x;kernel_rfl
theorem e_q71:EV C_q71 YH Tryz.f153 [.v (.lst ng)] [.v (.own ng)] Wh.q71:=by intro xs;kernel_rfl
theorem ok_q71:CO MJ:=con_ok (Ls:=[P9]) mixed (ct _ _) (fk_q99 _ cx) Tryz.func153 (loopsC (loopD_ok air) loopsL_nil) boxesL_none e_q71
theorem fk_q71:FK MJ:=fun _ _ h=>h.cons MJ (by kernel_rfl) Wh.q71_v ok_q71
def Lh:iq:=⟨70,[.v n4],[.v (.pair (.own ng) (.pair I6 .unit))],Wh.GC,Wh.S2⟩
def C_q132:Cx:=⟨cr,[MJ.entry],false,Gl⟩
theorem e_q132:EV C_q132 lg Tryz.f70 [.v n4] [.v (.pair (.own ng) (.pair I6 .unit))] Wh.GC:=by intro xs;kernel_rfl
theorem ae_:CO Lh:=con_ok (Ls:=[]) mixed (ct _ _) (fk_q71 _ cx) Tryz.func70 loopsL_nil boxesL_none e_q132
theorem ac3:FK Lh:=fun _ _ h=>h.cons Lh (by kernel_rfl) Wh.ZI ae_
def MG:iq:=⟨154,[.v nI],[.v nI],Wh.q69,Wh.q69'⟩
def C_q69:Cx:=⟨cr,[],false,Gl⟩
theorem e_q69:EV C_q69 lg Tryz.f154 [.v nI] [.v nI] Wh.q69:=by intro xs;kernel_rfl
theorem ok_q69:CO MG:=con_ok (Ls:=[]) mixed (ct _ _) cx Tryz.func154 loopsL_nil boxesL_none e_q69
theorem fk_q69:FK MG:=fun _ _ h=>h.cons MG (by kernel_rfl) Wh.q69_v ok_q69
def Mc:iq:=⟨71,[.v (.lst nI)],[.v (.own nI)],Wh.q38,Wh.q38'⟩
def C_q38:Cx:=⟨cr,[MG.entry],false,Gl⟩
def P6:b8:=kS ⟨[(4,.leaf I6),(0,.leaf (.lst nI)),(3,.whole z0 nI)],[(z0,false,.rows nI)]⟩ [((.exit 0),⟨[(3,.whole z0 nI)],[(z0,false,.rows nI)]⟩)] Wh.aaD Wh.Fh
def Yz:LT:=[(3,P6)]
theorem aio:∀x,round C_q38 Yz (jo Tryz.f71 0) P6 x=Wh.Fh x:=by intro x;kernel_rfl
theorem e_q38:EV C_q38 Yz Tryz.f71 [.v (.lst nI)] [.v (.own nI)] Wh.q38:=by intro xs;kernel_rfl
theorem ok_q38:CO Mc:=con_ok (Ls:=[P6]) mixed (ct _ _) (fk_q69 _ cx) Tryz.func71 (loopsC (loopD_ok aio) loopsL_nil) boxesL_none e_q38
theorem fk_q38:FK Mc:=fun _ _ h=>h.cons Mc (by kernel_rfl) Wh.q38_v ok_q38
def KQ:iq:=⟨155,[.v r5],[.v r5],Wh.Ic,Wh.So⟩
def C_q101:Cx:=⟨cr,[],false,Gl⟩
theorem e_q101:EV C_q101 lg Tryz.f155 [.v r5] [.v r5] Wh.Ic:=by intro xs;kernel_rfl
theorem aeG:CO KQ:=con_ok (Ls:=[]) mixed (ct _ _) cx Tryz.func155 loopsL_nil boxesL_none e_q101
theorem acG:FK KQ:=fun _ _ h=>h.cons KQ (by kernel_rfl) Wh.Y_ aeG
def ML:iq:=⟨72,[.v (.lst r5)],[.v (.own r5)],Wh.q73,Wh.q73'⟩
def C_q73:Cx:=⟨cr,[KQ.entry],false,Gl⟩
def Qc:b8:=kS ⟨[(4,.leaf I6),(0,.leaf (.lst r5)),(3,.whole z0 r5)],[(z0,false,.rows r5)]⟩ [((.exit 0),⟨[(3,.whole z0 r5)],[(z0,false,.rows r5)]⟩)] Wh.aaY Wh.Fs
def YI:LT:=[(3,Qc)]
theorem aiv:∀x,round C_q73 YI (jo Tryz.f72 0) Qc x=Wh.Fs x:=by intro x;kernel_rfl
theorem e_q73:EV C_q73 YI Tryz.f72 [.v (.lst r5)] [.v (.own r5)] Wh.q73:=by intro xs;kernel_rfl
theorem ok_q73:CO ML:=con_ok (Ls:=[Qc]) mixed (ct _ _) (acG _ cx) Tryz.func72 (loopsC (loopD_ok aiv) loopsL_nil) boxesL_none e_q73
theorem fk_q73:FK ML:=fun _ _ h=>h.cons ML (by kernel_rfl) Wh.q73_v ok_q73
def MM:iq:=⟨16,[.v nC],[.v (.pair .bool (.pair I6 (.pair .str (.pair (.pair I6 (.pair (.own an) .unit)) (.pair (.pair (.own ng) (.pair I6 .unit)) (.pair (.own nI) (.pair (.own r5) .unit)))))))],Wh.q74,Wh.q74'⟩
def C_q74:Cx:=⟨cr,[ML.entry,Mc.entry,Lh.entry,LC.entry],false,Gl⟩
theorem e_q74:EV C_q74 lg Tryz.f16 [.v nC] [.v (.pair .bool (.pair I6 (.pair .str (.pair (.pair I6 (.pair (.own an) .unit)) (.pair (.pair (.own ng) (.pair I6 .unit)) (.pair (.own nI) (.pair (.own r5) .unit)))))))] Wh.q74:=by intro xs;kernel_rfl
theorem ok_q74:CO MM:=con_ok (Ls:=[]) mixed (ct _ _) (fk_q73 _ (fk_q38 _ (ac3 _ (adm _ cx)))) Tryz.func16 loopsL_nil boxesL_none e_q74
theorem fk_q74:FK MM:=fun _ _ h=>h.cons MM (by kernel_rfl) Wh.q74_v ok_q74
def zH:iq:=⟨58,[.v I6,.v I6,.v I6],[.v .bool],Wh.xe,Wh.nS⟩
def C_q177:Cx:=⟨cr,[],false,Gl⟩
theorem e_q177:EV C_q177 lg Tryz.f58 [.v I6,.v I6,.v I6] [.v .bool] Wh.xe:=by intro xs;kernel_rfl
theorem afS:CO zH:=con_ok (Ls:=[]) mixed (ct _ _) cx Tryz.func58 loopsL_nil boxesL_none e_q177
theorem Al:FK zH:=fun _ _ h=>h.cons zH (by kernel_rfl) Wh.zp afS
def IF:iq:=⟨178,[.v .str,.v I6,.v I8],[.v I6],Wh.zD,Wh.JI⟩
def VP:Cx:=⟨cr,[],false,Gl⟩
def QY:b8:=kS ⟨[(7,.leaf I6),(2,.leaf I8),(0,.leaf .str)],[]⟩ [(.ret,⟨[(6,.leaf I6)],[]⟩),((.exit 0),⟨[],[]⟩)] Wh.ZR Wh.CI
def X6:LT:=[(2,QY)]
theorem ajd:∀x,round VP X6 (jo Tryz.f178 0) QY x=Wh.CI x:=by intro x;kernel_rfl
theorem e_q139:EV VP X6 Tryz.f178 [.v .str,.v I6,.v I8] [.v I6] Wh.zD:=by intro xs;kernel_rfl
theorem afg:CO IF:=con_ok (Ls:=[QY]) mixed (ct _ _) cx Tryz.func178 (loopsC (loopD_ok ajd) loopsL_nil) boxesL_none e_q139
theorem WH:FK IF:=fun _ _ h=>h.cons IF (by kernel_rfl) Wh.CJ afg
def IQ:iq:=⟨180,[.v .str],[.v I6],Wh.Bi,Wh.JS⟩
def V4:Cx:=⟨cr,[zH.entry],false,Gl⟩
def QX:b8:=kS ⟨[(4,.leaf I6),(0,.leaf .str),(3,.leaf I6)],[]⟩ [(.ret,⟨[(2,.leaf I6)],[]⟩),((.exit 0),⟨[(3,.leaf I6)],[]⟩)] Wh.aan Wh.Fe
def Yl:LT:=[(5,QX)]
theorem ajc:∀x,round V4 Yl (jo Tryz.f180 0) QX x=Wh.Fe x:=by intro x;kernel_rfl
theorem e_q171:EV V4 Yl Tryz.f180 [.v .str] [.v I6] Wh.Bi:=by intro xs;kernel_rfl
theorem afM:CO IQ:=con_ok (Ls:=[QX]) mixed (ct _ _) (Al _ cx) Tryz.func180 (loopsC (loopD_ok ajc) loopsL_nil) boxesL_none e_q171
theorem WR:FK IQ:=fun _ _ h=>h.cons IQ (by kernel_rfl) Wh.GV afM
def IN:iq:=⟨189,[.v I6],[.v .str],Wh.CP,Wh.B8⟩
def Iw (g:((Int))→Option (((List UInt8))×(Unit)))(g':((Int))→((List UInt8))×(Unit)):iq:=⟨189,[.v I6],[.v .str],g,g'⟩
def C_q166 (g:((Int))→Option (((List UInt8))×(Unit)))(g':((Int))→((List UInt8))×(Unit)):Cx:=⟨cr,[(Iw g g').entry],false,Gl⟩
theorem e_q166 (g:((Int))→Option (((List UInt8))×(Unit)))(g':((Int))→((List UInt8))×(Unit)):∀xs,evT (C_q166 g g') lg Tryz.f189 [.v I6] [.v .str] xs=Wh.q24 g g' xs:=by intro xs;kernel_rfl
theorem s_q166 (g:((Int))→Option (((List UInt8))×(Unit)))(g':((Int))→((List UInt8))×(Unit))(hv:∀x y,g x=some y→g' x=y)(h:CO (Iw g g')):CO (Iw (Wh.q24 g g') (fun x=>match Wh.q24 g g' x with | some y=>y|none=>default)):=con_ok (Ls:=[]) mixed (ct _ _) (dD.cons cx (Iw g g') (by kernel_rfl) hv h) Tryz.func189 loopsL_nil boxesL_none (e_q166 g g')
theorem n_q166 (n:Nat):CO (Iw (Wh.Be n) (fun x=>match Wh.Be n x with | some y=>y|none=>default)):=by
 induction n with
 |zero=>intro xs y h;exact absurd (show none=some y from h) (by simp)
 |succ n ih=>
  rw[Wh.TR n]
  exact s_q166 _ _ (fun x y h=>by simp only[h]) ih
theorem afH:CO IN:=n_q166 20
theorem WO:FK IN:=fun _ _ h=>h.cons IN (by kernel_rfl) Wh.Oh afH
def MW:iq:=⟨423,[.v .str],[.v (.own I8)],Wh.q83,Wh.q83'⟩
def Pd:Cx:=⟨cr,[],false,Gl⟩
def QL:b8:=kS ⟨[(3,.whole z0 I8),(0,.leaf .str)],[(z0,false,.rows I8)]⟩ [((.exit 0),⟨[(3,.whole z0 I8),(0,.leaf .str)],[(z0,false,.rows I8)]⟩)] Wh.aa6 Wh.Fv
def QM:b8:=kS ⟨[(5,.leaf I6),(4,.leaf I6),(3,.whole z0 I8)],[(z0,false,.rows I8)]⟩ [((.exit 2),⟨[(3,.whole z0 I8)],[(z0,false,.rows I8)]⟩)] Wh.aa7 Wh.He
def R4:LT:=[(2,QL),(6,QM)]
theorem ai4:∀x,round Pd R4 (jo Tryz.f423 0) QL x=Wh.Fv x:=by intro x;kernel_rfl
theorem ai5:∀x,round Pd R4 (jo Tryz.f423 1) QM x=Wh.He x:=by intro x;kernel_rfl
theorem e_q83:EV Pd R4 Tryz.f423 [.v .str] [.v (.own I8)] Wh.q83:=by intro xs;kernel_rfl
theorem ok_q83:CO MW:=con_ok (Ls:=[QL,QM]) mixed (ct _ _) cx Tryz.func423 (loopsC (loopD_ok ai4) (loopsC (loopD_ok ai5) loopsL_nil)) boxesL_none e_q83
theorem fk_q83:FK MW:=fun _ _ h=>h.cons MW (by kernel_rfl) Wh.q83_v ok_q83
def IE:iq:=⟨449,[.v I3,.v I6],[.v I3],Wh.yI,Wh.zW⟩
def C_q137:Cx:=⟨cr,[],false,Gl⟩
theorem e_q137:EV C_q137 lg Tryz.f449 [.v I3,.v I6] [.v I3] Wh.yI:=by intro xs;kernel_rfl
theorem afe:CO IE:=con_ok (Ls:=[]) mixed (ct _ _) cx Tryz.func449 loopsL_nil boxesL_none e_q137
theorem WG:FK IE:=fun _ _ h=>h.cons IE (by kernel_rfl) Wh.q137_v afe
def K4:iq:=⟨447,[.v (.lst I8)],[.v (.own I3)],Wh.Gq,Wh.SG⟩
def O6:Cx:=⟨cr,[IE.entry],false,Gl⟩
def QS:b8:=kS ⟨[(4,.leaf I6),(0,.leaf (.lst I8)),(3,.whole z0 I3)],[(z0,false,.rows I3)]⟩ [((.exit 0),⟨[(3,.whole z0 I3)],[(z0,false,.rows I3)]⟩)] Wh.Zq Wh.Gr
def QT:b8:=kS ⟨[(5,.leaf I6),(3,.whole z0 I3)],[(z0,false,.rows I3)]⟩ [((.exit 2),⟨[(3,.whole z0 I3)],[(z0,false,.rows I3)]⟩)] Wh.Zr Wh.Gs
def RX:LT:=[(3,QS),(7,QT)]
theorem ai8:∀x,round O6 RX (jo Tryz.f447 0) QS x=Wh.Gr x:=by intro x;kernel_rfl
theorem ai9:∀x,round O6 RX (jo Tryz.f447 1) QT x=Wh.Gs x:=by intro x;kernel_rfl
theorem e_q113:EV O6 RX Tryz.f447 [.v (.lst I8)] [.v (.own I3)] Wh.Gq:=by intro xs;kernel_rfl
theorem aeR:CO K4:=con_ok (Ls:=[QS,QT]) mixed (ct _ _) (WG _ cx) Tryz.func447 (loopsC (loopD_ok ai8) (loopsC (loopD_ok ai9) loopsL_nil)) boxesL_none e_q113
theorem acR:FK K4:=fun _ _ h=>h.cons K4 (by kernel_rfl) Wh.Zt aeR
def MV:iq:=⟨448,[],[.v (.own I3)],Wh.q82,Wh.q82'⟩
def C_q82:Cx:=⟨cr,[],false,Gl⟩
theorem e_q82:EV C_q82 lg Tryz.f448 [] [.v (.own I3)] Wh.q82:=by intro xs;kernel_rfl
theorem ok_q82:CO MV:=con_ok (Ls:=[]) mixed (ct _ _) cx Tryz.func448 loopsL_nil boxesL_none e_q82
theorem fk_q82:FK MV:=fun _ _ h=>h.cons MV (by kernel_rfl) Wh.q82_v ok_q82
def K3:iq:=⟨424,[.v (.lst I3),.v (.lst I8)],[.v (.own I3)],Wh.Gn,Wh.SB⟩
def KI:Cx:=⟨cr,[IE.entry,MV.entry,K4.entry],false,Gl⟩
def QH:b8:=kS ⟨[(7,.whole z0 I3),(8,.leaf I6),(5,.whole z1 I3),(6,.whole z2 I3),(0,.leaf (.lst I3))],[(z0,false,.rows I3),(z1,false,.rows I3),(z2,false,.rows I3)]⟩ [((.exit 0),⟨[(7,.whole z0 I3),(0,.leaf (.lst I3))],[(z0,false,.rows I3)]⟩)] Wh.Zn Wh.Gp
def QI:b8:=kS ⟨[(14,.leaf I6),(7,.whole z0 I3),(5,.whole z1 I3),(6,.whole z2 I3),(0,.leaf (.lst I3)),(8,.leaf I6),(13,.leaf I3),(12,.leaf I3),(11,.leaf I3)],[(z0,false,.rows I3),(z1,false,.rows I3),(z2,false,.rows I3)]⟩ [((.exit 2),⟨[(7,.whole z0 I3),(5,.whole z1 I3),(6,.whole z2 I3),(0,.leaf (.lst I3)),(8,.leaf I6),(13,.leaf I3),(12,.leaf I3),(11,.leaf I3)],[(z0,false,.rows I3),(z1,false,.rows I3),(z2,false,.rows I3)]⟩)] Wh.SE Wh.JB
def QJ:b8:=kS ⟨[(16,.leaf I6),(7,.whole z0 I3),(0,.leaf (.lst I3)),(15,.whole z1 I3)],[(z0,false,.rows I3),(z1,false,.rows I3)]⟩ [((.exit 4),⟨[(15,.whole z0 I3)],[(z0,false,.rows I3)]⟩)] Wh.Zo Wh.JC
def NJ:LT:=[(5,QH),(13,QI),(20,QJ)]
theorem ai0:∀x,round KI NJ (jo Tryz.f424 0) QH x=Wh.Gp x:=by intro x;kernel_rfl
theorem ai1:∀x,round KI NJ (jo Tryz.f424 1) QI x=Wh.JB x:=by intro x;kernel_rfl
theorem ai2:∀x,round KI NJ (jo Tryz.f424 2) QJ x=Wh.JC x:=by intro x;kernel_rfl
theorem e_q111:EV KI NJ Tryz.f424 [.v (.lst I3),.v (.lst I8)] [.v (.own I3)] Wh.Gn:=by intro xs;kernel_rfl
theorem aeQ:CO K3:=con_ok (Ls:=[QH,QI,QJ]) mixed (ct _ _) (WG _ (fk_q82 _ (acR _ cx))) Tryz.func424 (loopsC (loopD_ok ai0) (loopsC (loopD_ok ai1) (loopsC (loopD_ok ai2) loopsL_nil))) boxesL_none e_q111
theorem acQ:FK K3:=fun _ _ h=>h.cons K3 (by kernel_rfl) Wh.Zp aeQ
def LK:iq:=⟨375,[.v .str],[.v .str],Wh.GU,Wh.TU⟩
def O8:Cx:=⟨cr,[K3.entry,MW.entry],false,Gl⟩
def QN:b8:=kS ⟨[(5,.leaf I6),(4,.whole z0 I8),(3,.whole z1 I3)],[(z0,false,.rows I8),(z1,false,.rows I3)]⟩ [((.exit 0),⟨[(3,.whole z0 I3)],[(z0,false,.rows I3)]⟩)] Wh.aah Wh.E_
def QO:b8:=kS ⟨[(7,.leaf I6),(3,.whole z0 I3),(6,.whole z1 I8)],[(z0,false,.rows I3),(z1,false,.rows I8)]⟩ [((.exit 2),⟨[(6,.whole z0 I8)],[(z0,false,.rows I8)]⟩)] Wh.aai Wh.JP
def RZ:LT:=[(4,QN),(9,QO)]
theorem ai6:∀x,round O8 RZ (jo Tryz.f375 0) QN x=Wh.E_ x:=by intro x;kernel_rfl
theorem ai7:∀x,round O8 RZ (jo Tryz.f375 1) QO x=Wh.JP x:=by intro x;kernel_rfl
theorem e_q168:EV O8 RZ Tryz.f375 [.v .str] [.v .str] Wh.GU:=by intro xs;kernel_rfl
theorem afJ:CO LK:=con_ok (Ls:=[QN,QO]) mixed (ct _ _) (acQ _ (fk_q83 _ cx)) Tryz.func375 (loopsC (loopD_ok ai6) (loopsC (loopD_ok ai7) loopsL_nil)) boxesL_none e_q168
theorem ads:FK LK:=fun _ _ h=>h.cons LK (by kernel_rfl) Wh.aaj afJ
def LJ:iq:=⟨374,[.v .str],[.v .str],Wh.E8,Wh.Oi⟩
def V1:Cx:=⟨cr,[],false,Gl⟩
def QK:b8:=kS ⟨[(4,.leaf I6),(0,.leaf .str),(3,.whole z0 I8)],[(z0,false,.rows I8)]⟩ [((.exit 0),⟨[(3,.whole z0 I8)],[(z0,false,.rows I8)]⟩)] Wh.aag Wh.E9
def Yi:LT:=[(3,QK)]
theorem ai3:∀x,round V1 Yi (jo Tryz.f374 0) QK x=Wh.E9 x:=by intro x;kernel_rfl
theorem e_q167:EV V1 Yi Tryz.f374 [.v .str] [.v .str] Wh.E8:=by intro xs;kernel_rfl
theorem afI:CO LJ:=con_ok (Ls:=[QK]) mixed (ct _ _) cx Tryz.func374 (loopsC (loopD_ok ai3) loopsL_nil) boxesL_none e_q167
theorem adr:FK LJ:=fun _ _ h=>h.cons LJ (by kernel_rfl) Wh.TT afI
def KU:iq:=⟨328,[.v .str],[.v .str],Wh.Gi,Wh.EN⟩
def C_q105:Cx:=⟨cr,[LJ.entry,LK.entry],false,Gl⟩
theorem e_q105:EV C_q105 lg Tryz.f328 [.v .str] [.v .str] Wh.Gi:=by intro xs;kernel_rfl
theorem aeK:CO KU:=con_ok (Ls:=[]) mixed (ct _ _) (adr _ (ads _ cx)) Tryz.func328 loopsL_nil boxesL_none e_q105
theorem acK:FK KU:=fun _ _ h=>h.cons KU (by kernel_rfl) Wh.Zd aeK
def Lo:iq:=⟨258,[.v I6,.v .str],[.v .str],Wh.GD,Wh.Te⟩
def C_q140:Cx:=⟨cr,[KU.entry,IN.entry],false,Gl⟩
theorem e_q140:EV C_q140 lg Tryz.f258 [.v I6,.v .str] [.v .str] Wh.GD:=by intro xs;kernel_rfl
theorem afh:CO Lo:=con_ok (Ls:=[]) mixed (ct _ _) (acK _ (WO _ cx)) Tryz.func258 loopsL_nil boxesL_none e_q140
theorem ac8:FK Lo:=fun _ _ h=>h.cons Lo (by kernel_rfl) Wh.Tf afh
def Lp:iq:=⟨150,[.v .str,.v I6,.v I6],[.v .str,.v I6],Wh.DD,Wh.Tg⟩
def C_q141:Cx:=⟨cr,[Lo.entry,zH.entry,IQ.entry,IF.entry],false,Gl⟩
theorem e_q141:EV C_q141 lg Tryz.f150 [.v .str,.v I6,.v I6] [.v .str,.v I6] Wh.DD:=by intro xs;kernel_rfl
theorem afi:CO Lp:=con_ok (Ls:=[]) mixed (ct _ _) (ac8 _ (Al _ (WR _ (WH _ cx)))) Tryz.func150 loopsL_nil boxesL_none e_q141
theorem ac9:FK Lp:=fun _ _ h=>h.cons Lp (by kernel_rfl) Wh.Th afi
def HE:iq:=⟨60,[.v .str],[.v (.own .str),.v I6],Wh.B7,Wh.JJ⟩
def VQ:Cx:=⟨cr,[Lp.entry],false,Gl⟩
def QZ:b8:=kS ⟨[(5,.leaf I6),(4,.whole z0 .str),(0,.leaf .str)],[(z0,false,.rows .str)]⟩ [(.ret,⟨[(2,.whole z0 .str),(3,.leaf I6)],[(z0,false,.rows .str)]⟩)] Wh.ZS Wh.EW
def X7:LT:=[(3,QZ)]
theorem aje:∀x,round VQ X7 (jo Tryz.f60 0) QZ x=Wh.EW x:=by intro x;kernel_rfl
theorem e_q142:EV VQ X7 Tryz.f60 [.v .str] [.v (.own .str),.v I6] Wh.B7:=by intro xs;kernel_rfl
theorem afj:CO HE:=con_ok (Ls:=[QZ]) mixed (ct _ _) (ac9 _ cx) Tryz.func60 (loopsC (loopD_ok aje) loopsL_nil) boxesL_none e_q142
theorem Rn:FK HE:=fun _ _ h=>h.cons HE (by kernel_rfl) Wh.N6 afj
def Lm:iq:=⟨179,[.v .str,.v I8],[.v (.own .str)],Wh.DC,Wh.S_⟩
def VO:Cx:=⟨cr,[],false,Gl⟩
def QV:b8:=kS ⟨[(7,.leaf I6),(6,.leaf I6),(0,.leaf .str),(5,.whole z0 .str),(1,.leaf I8)],[(z0,false,.rows .str)]⟩ [((.exit 0),⟨[(6,.leaf I6),(0,.leaf .str),(5,.whole z0 .str)],[(z0,false,.rows .str)]⟩)] Wh.ZQ Wh.Aa
def X5:LT:=[(4,QV)]
theorem aja:∀x,round VO X5 (jo Tryz.f179 0) QV x=Wh.Aa x:=by intro x;kernel_rfl
theorem e_q138:EV VO X5 Tryz.f179 [.v .str,.v I8] [.v (.own .str)] Wh.DC:=by intro xs;kernel_rfl
theorem aff:CO Lm:=con_ok (Ls:=[QV]) mixed (ct _ _) cx Tryz.func179 (loopsC (loopD_ok aja) loopsL_nil) boxesL_none e_q138
theorem ac7:FK Lm:=fun _ _ h=>h.cons Lm (by kernel_rfl) Wh.Tb aff
def ID:iq:=⟨200,[.v .str],[.v .bool],Wh.B6,Wh.N4⟩
def VM:Cx:=⟨cr,[zH.entry],false,Gl⟩
def Qn:b8:=kS ⟨[(3,.leaf I6),(0,.leaf .str)],[]⟩ [(.ret,⟨[(2,.leaf .bool)],[]⟩),((.exit 0),⟨[(0,.leaf .str)],[]⟩)] Wh.ZK Wh.A3
def X3:LT:=[(2,Qn)]
theorem aiG:∀x,round VM X3 (jo Tryz.f200 0) Qn x=Wh.A3 x:=by intro x;kernel_rfl
theorem e_q134:EV VM X3 Tryz.f200 [.v .str] [.v .bool] Wh.B6:=by intro xs;kernel_rfl
theorem afb:CO ID:=con_ok (Ls:=[Qn]) mixed (ct _ _) (Al _ cx) Tryz.func200 (loopsC (loopD_ok aiG) loopsL_nil) boxesL_none e_q134
theorem WE:FK ID:=fun _ _ h=>h.cons ID (by kernel_rfl) Wh.S4 afb
def FP:iq:=⟨185,[.v an],[.v .bool],Wh.B_,Wh.DQ⟩
def C_q179:Cx:=⟨cr,[ID.entry,zH.entry],false,Gl⟩
theorem e_q179:EV C_q179 lg Tryz.f185 [.v an] [.v .bool] Wh.B_:=by intro xs;kernel_rfl
theorem afU:CO FP:=con_ok (Ls:=[]) mixed (ct _ _) (WE _ (Al _ cx)) Tryz.func185 loopsL_nil boxesL_none e_q179
theorem Np:FK FP:=fun _ _ h=>h.cons FP (by kernel_rfl) Wh.DR afU
def Mh:iq:=⟨103,[.v I6,.v .str,.v .str],[.v .str],Wh.q42,Wh.q42'⟩
def C_q42:Cx:=⟨cr,[IN.entry,FP.entry],false,Gl⟩
theorem e_q42:EV C_q42 lg Tryz.f103 [.v I6,.v .str,.v .str] [.v .str] Wh.q42:=by intro xs;kernel_rfl
theorem ok_q42:CO Mh:=con_ok (Ls:=[]) mixed (ct _ _) (WO _ (Np _ cx)) Tryz.func103 loopsL_nil boxesL_none e_q42
theorem fk_q42:FK Mh:=fun _ _ h=>h.cons Mh (by kernel_rfl) Wh.Us ok_q42
def II:iq:=⟨272,[.v an,.v I6,.v .str],[.v .bool],Wh.GF,Wh.N7⟩
def C_q145:Cx:=⟨cr,[],false,Gl⟩
theorem e_q145:EV C_q145 lg Tryz.f272 [.v an,.v I6,.v .str] [.v .bool] Wh.GF:=by intro xs;kernel_rfl
theorem afm:CO II:=con_ok (Ls:=[]) mixed (ct _ _) cx Tryz.func272 loopsL_nil boxesL_none e_q145
theorem WJ:FK II:=fun _ _ h=>h.cons II (by kernel_rfl) Wh.N8 afm
def Iz:iq:=⟨187,[.v (.lst an),.v I6],[.v I6],Wh.ER,Wh.NX⟩
def VH:Cx:=⟨cr,[],false,Gl⟩
def Q1:b8:=kS ⟨[(6,.leaf I6),(0,.leaf (.lst an)),(5,.leaf I6),(1,.leaf I6)],[]⟩ [((.exit 0),⟨[(5,.leaf I6)],[]⟩)] Wh.Zu Wh.Dw
def XW:LT:=[(3,Q1)]
theorem ajg:∀x,round VH XW (jo Tryz.f187 0) Q1 x=Wh.Dw x:=by intro x;kernel_rfl
theorem e_q115:EV VH XW Tryz.f187 [.v (.lst an),.v I6] [.v I6] Wh.ER:=by intro xs;kernel_rfl
theorem aeT:CO Iz:=con_ok (Ls:=[Q1]) mixed (ct _ _) cx Tryz.func187 (loopsC (loopD_ok ajg) loopsL_nil) boxesL_none e_q115
theorem WA:FK Iz:=fun _ _ h=>h.cons Iz (by kernel_rfl) Wh.NY aeT
def IL:iq:=⟨184,[.v fk],[.v .bool],Wh.E4,Wh.Oe⟩
def KK:Cx:=⟨cr,[Iz.entry,II.entry,FP.entry,zH.entry],false,Gl⟩
def Qk:b8:=kS ⟨[(1,.aZ z0 []),(3,.leaf I6)],[(z0,false,.var fk (.leaf fk))]⟩ [(.ret,⟨[(2,.leaf .bool)],[]⟩),((.exit 0),⟨[(1,.aZ z0 [])],[(z0,false,.var fk (.leaf fk))]⟩)] Wh.aab Wh.DJ
def Ql:b8:=kS ⟨[(5,.leaf I6),(4,.aZ z0 []),(1,.aZ z1 []),(3,.leaf I6)],[(z0,false,.var an (.leaf an)),(z1,false,.var fk (.leaf fk))]⟩ [(.ret,⟨[(2,.leaf .bool)],[]⟩),((.exit 2),⟨[(1,.aZ z0 []),(3,.leaf I6)],[(z0,false,.var fk (.leaf fk))]⟩)] Wh.aac Wh.E5
def Qm:b8:=kS ⟨[(6,.leaf I6),(1,.aZ z0 [])],[(z0,false,.var fk (.leaf fk))]⟩ [(.ret,⟨[(2,.leaf .bool)],[]⟩),((.exit 4),⟨[],[]⟩)] Wh.aad Wh.GR
def NL:LT:=[(4,Qk),(10,Ql),(15,Qm)]
theorem aiD:∀x,round KK NL (jo Tryz.f184 0) Qk x=Wh.DJ x:=by intro x;kernel_rfl
theorem aiE:∀x,round KK NL (jo Tryz.f184 1) Ql x=Wh.E5 x:=by intro x;kernel_rfl
theorem aiF:∀x,round KK NL (jo Tryz.f184 2) Qm x=Wh.GR x:=by intro x;kernel_rfl
theorem e_q161:EV KK NL Tryz.f184 [.v fk] [.v .bool] Wh.E4:=by intro xs;kernel_rfl
theorem afC:CO IL:=con_ok (Ls:=[Qk,Ql,Qm]) mixed (ct _ _) (WA _ (WJ _ (Np _ (Al _ cx)))) Tryz.func184 (loopsC (loopD_ok aiD) (loopsC (loopD_ok aiE) (loopsC (loopD_ok aiF) loopsL_nil))) boxesL_none e_q161
theorem WM:FK IL:=fun _ _ h=>h.cons IL (by kernel_rfl) Wh.Ii afC
def IS:iq:=⟨186,[.v fk,.v I6,.v .str],[.v I6],Wh.B9,Wh.Om⟩
def V7:Cx:=⟨cr,[],false,Gl⟩
def Q0:b8:=kS ⟨[(7,.leaf I6),(2,.leaf .str),(3,.aZ z0 []),(1,.leaf I6)],[(z0,false,.var fk (.leaf fk))]⟩ [(.ret,⟨[(6,.leaf I6)],[]⟩),((.exit 0),⟨[],[]⟩)] Wh.aas Wh.DP
def Yo:LT:=[(2,Q0)]
theorem ajf:∀x,round V7 Yo (jo Tryz.f186 0) Q0 x=Wh.DP x:=by intro x;kernel_rfl
theorem e_q178:EV V7 Yo Tryz.f186 [.v fk,.v I6,.v .str] [.v I6] Wh.B9:=by intro xs;kernel_rfl
theorem afT:CO IS:=con_ok (Ls:=[Q0]) mixed (ct _ _) cx Tryz.func186 (loopsC (loopD_ok ajf) loopsL_nil) boxesL_none e_q178
theorem WS:FK IS:=fun _ _ h=>h.cons IS (by kernel_rfl) Wh.JU afT
def IG:iq:=⟨170,[.v fk],[.v (.pair I6 (.pair (.own an) .unit))],Wh.CK,Wh.Ig⟩
def C_q143:Cx:=⟨cr,[],false,Gl⟩
theorem e_q143:EV C_q143 lg Tryz.f170 [.v fk] [.v (.pair I6 (.pair (.own an) .unit))] Wh.CK:=by intro xs;kernel_rfl
theorem afk:CO IG:=con_ok (Ls:=[]) mixed (ct _ _) cx Tryz.func170 loopsL_nil boxesL_none e_q143
theorem WI:FK IG:=fun _ _ h=>h.cons IG (by kernel_rfl) Wh.JK afk
def Lr:iq:=⟨270,[.v fk,.v I6],[.v (.pair I6 (.pair (.own an) .unit))],Wh.GG,Wh.Tl⟩
def C_q146:Cx:=⟨cr,[],false,Gl⟩
theorem e_q146:EV C_q146 lg Tryz.f270 [.v fk,.v I6] [.v (.pair I6 (.pair (.own an) .unit))] Wh.GG:=by intro xs;kernel_rfl
theorem afn:CO Lr:=con_ok (Ls:=[]) mixed (ct _ _) cx Tryz.func270 loopsL_nil boxesL_none e_q146
theorem ada:FK Lr:=fun _ _ h=>h.cons Lr (by kernel_rfl) Wh.ZT afn
def KS:iq:=⟨181,[.v fk,.v I6,.v .str],[.v (.pair I6 (.pair (.own an) .unit)),.v I6],Wh.EM,Wh.NW⟩
def C_q103:Cx:=⟨cr,[Lr.entry,IG.entry,IS.entry,IL.entry],false,Gl⟩
theorem e_q103:EV C_q103 lg Tryz.f181 [.v fk,.v I6,.v .str] [.v (.pair I6 (.pair (.own an) .unit)),.v I6] Wh.EM:=by intro xs;kernel_rfl
theorem aeI:CO KS:=con_ok (Ls:=[]) mixed (ct _ _) (ada _ (WI _ (WS _ (WM _ cx)))) Tryz.func181 loopsL_nil boxesL_none e_q103
theorem acI:FK KS:=fun _ _ h=>h.cons KS (by kernel_rfl) Wh.Zb aeI
def LN:iq:=⟨188,[.v fk,.v an],[.v (.pair I6 (.pair (.own an) .unit))],Wh.GW,Wh.T3⟩
def V5:Cx:=⟨cr,[II.entry],false,Gl⟩
def Q3:b8:=kS ⟨[(5,.leaf I6),(4,.aZ z0 []),(2,.aZ z1 []),(3,.aZ z2 [])],[(z0,false,.var fk (.pair (.leaf I6) (.pair (.whole z3 an) (.leaf .unit)))),(z1,false,.var fk (.leaf fk)),(z2,false,.var an (.leaf an)),(z3,false,.rows an)]⟩ [((.exit 0),⟨[(4,.aZ z0 []),(5,.leaf I6),(2,.aZ z1 []),(3,.aZ z2 [])],[(z0,false,.var fk (.pair (.leaf I6) (.pair (.whole z3 an) (.leaf .unit)))),(z1,false,.var fk (.leaf fk)),(z2,false,.var an (.leaf an)),(z3,false,.rows an)]⟩)] Wh.aao Wh.DO
def Ym:LT:=[(2,Q3)]
theorem aji:∀x,round V5 Ym (jo Tryz.f188 0) Q3 x=Wh.DO x:=by intro x;kernel_rfl
theorem e_q172:EV V5 Ym Tryz.f188 [.v fk,.v an] [.v (.pair I6 (.pair (.own an) .unit))] Wh.GW:=by intro xs;kernel_rfl
theorem afN:CO LN:=con_ok (Ls:=[Q3]) mixed (ct _ _) (WJ _ cx) Tryz.func188 (loopsC (loopD_ok aji) loopsL_nil) boxesL_none e_q172
theorem adv:FK LN:=fun _ _ h=>h.cons LN (by kernel_rfl) Wh.aap afN
def Li:iq:=⟨101,[.v fk,.v I6,.v .str,.v .str],[.v (.pair I6 (.pair (.own an) .unit)),.v I6],Wh.DB,Wh.N3⟩
def C_q133:Cx:=⟨cr,[LN.entry,Iz.entry,IS.entry,IG.entry,FP.entry,IL.entry],false,Gl⟩
theorem e_q133:EV C_q133 lg Tryz.f101 [.v fk,.v I6,.v .str,.v .str] [.v (.pair I6 (.pair (.own an) .unit)),.v I6] Wh.DB:=by intro xs;kernel_rfl
theorem afa:CO Li:=con_ok (Ls:=[]) mixed (ct _ _) (adv _ (WA _ (WS _ (WI _ (Np _ (WM _ cx)))))) Tryz.func101 loopsL_nil boxesL_none e_q133
theorem ac4:FK Li:=fun _ _ h=>h.cons Li (by kernel_rfl) Wh.ZJ afa
def Lq:iq:=⟨98,[.v fk,.v .str],[.v (.pair I6 (.pair (.own an) .unit)),.v .bool],Wh.DE,Wh.Tj⟩
def C_q144:Cx:=⟨cr,[Li.entry,KS.entry,Mh.entry,IQ.entry,Lm.entry,IF.entry],false,Gl⟩
theorem e_q144:EV C_q144 lg Tryz.f98 [.v fk,.v .str] [.v (.pair I6 (.pair (.own an) .unit)),.v .bool] Wh.DE:=by intro xs;kernel_rfl
theorem afl:CO Lq:=con_ok (Ls:=[]) mixed (ct _ _) (ac4 _ (acI _ (fk_q42 _ (WR _ (ac7 _ (WH _ cx)))))) Tryz.func98 loopsL_nil boxesL_none e_q144
theorem ac_:FK Lq:=fun _ _ h=>h.cons Lq (by kernel_rfl) Wh.Tk afl
def HG:iq:=⟨61,[.v (.lst .str)],[.v (.pair I6 (.pair (.own an) .unit)),.v .bool],Wh.CM,Wh.JN⟩
def VY:Cx:=⟨cr,[Lq.entry],false,Gl⟩
def Qj:b8:=kS ⟨[(2,.aZ z0 []),(5,.leaf I6),(4,.aZ z1 []),(0,.leaf (.lst .str))],[(z0,false,.var fk (.pair (.leaf I6) (.pair (.whole z2 an) (.leaf .unit)))),(z1,false,.var fk (.pair (.leaf I6) (.pair (.whole z3 an) (.leaf .unit)))),(z2,false,.rows an),(z3,false,.rows an)]⟩ [(.ret,⟨[(2,.aZ z0 []),(3,.leaf .bool)],[(z0,false,.var fk (.pair (.leaf I6) (.pair (.whole z1 an) (.leaf .unit)))),(z1,false,.rows an)]⟩),((.exit 0),⟨[(2,.aZ z0 []),(4,.aZ z1 [])],[(z0,false,.var fk (.pair (.leaf I6) (.pair (.whole z2 an) (.leaf .unit)))),(z1,false,.var fk (.pair (.leaf I6) (.pair (.whole z3 an) (.leaf .unit)))),(z2,false,.rows an),(z3,false,.rows an)]⟩)] Wh.aaa Wh.DI
def Yf:LT:=[(3,Qj)]
theorem aiC:∀x,round VY Yf (jo Tryz.f61 0) Qj x=Wh.DI x:=by intro x;kernel_rfl
theorem e_q160:EV VY Yf Tryz.f61 [.v (.lst .str)] [.v (.pair I6 (.pair (.own an) .unit)),.v .bool] Wh.CM:=by intro xs;kernel_rfl
theorem afB:CO HG:=con_ok (Ls:=[Qj]) mixed (ct _ _) (ac_ _ cx) Tryz.func61 (loopsC (loopD_ok aiC) loopsL_nil) boxesL_none e_q160
theorem Rp:FK HG:=fun _ _ h=>h.cons HG (by kernel_rfl) Wh.Od afB
def KX:iq:=⟨59,[.v nC],[.v .bool],Wh.Gj,Wh.Sx⟩
def C_q108:Cx:=⟨cr,[HG.entry,HE.entry],false,Gl⟩
theorem e_q108:EV C_q108 lg Tryz.f59 [.v nC] [.v .bool] Wh.Gj:=by intro xs;kernel_rfl
theorem aeN:CO KX:=con_ok (Ls:=[]) mixed (ct _ _) (Rp _ (Rn _ cx)) Tryz.func59 loopsL_nil boxesL_none e_q108
theorem acN:FK KX:=fun _ _ h=>h.cons KX (by kernel_rfl) Wh.Zj aeN
def KW:iq:=⟨62,[.v fk,.v fk],[.v .bool],Wh.Dt,Wh.Su⟩
def VF:Cx:=⟨cr,[],false,Gl⟩
def QC:b8:=kS ⟨[(5,.leaf I6),(3,.aZ z0 []),(2,.aZ z1 [])],[(z0,false,.var fk (.leaf fk)),(z1,false,.var fk (.leaf fk))]⟩ [(.ret,⟨[(4,.leaf .bool)],[]⟩),((.exit 0),⟨[],[]⟩)] Wh.Zh Wh.Du
def XU:LT:=[(4,QC)]
theorem aiV:∀x,round VF XU (jo Tryz.f62 0) QC x=Wh.Du x:=by intro x;kernel_rfl
theorem e_q107:EV VF XU Tryz.f62 [.v fk,.v fk] [.v .bool] Wh.Dt:=by intro xs;kernel_rfl
theorem aeM:CO KW:=con_ok (Ls:=[QC]) mixed (ct _ _) cx Tryz.func62 (loopsC (loopD_ok aiV) loopsL_nil) boxesL_none e_q107
theorem acM:FK KW:=fun _ _ h=>h.cons KW (by kernel_rfl) Wh.Zi aeM
def LI:iq:=⟨151,[.v ng],[.v .bool],Wh.E7,Wh.TQ⟩
def C_q165:Cx:=⟨cr,[zH.entry],false,Gl⟩
theorem e_q165:EV C_q165 lg Tryz.f151 [.v ng] [.v .bool] Wh.E7:=by intro xs;kernel_rfl
theorem afG:CO LI:=con_ok (Ls:=[]) mixed (ct _ _) (Al _ cx) Tryz.func151 loopsL_nil boxesL_none e_q165
theorem adq:FK LI:=fun _ _ h=>h.cons LI (by kernel_rfl) Wh.Og afG
def LH:iq:=⟨152,[.v n4,.v I6],[.v I6],Wh.GS,Wh.TN⟩
def V0:Cx:=⟨cr,[],false,Gl⟩
def QB:b8:=kS ⟨[(6,.leaf I6),(5,.leaf I6),(1,.leaf I6),(2,.aZ z0 [])],[(z0,false,.var n4 (.leaf n4))]⟩ [((.exit 0),⟨[(5,.leaf I6)],[]⟩)] Wh.aaf Wh.DL
def Yh:LT:=[(3,QB)]
theorem aiU:∀x,round V0 Yh (jo Tryz.f152 0) QB x=Wh.DL x:=by intro x;kernel_rfl
theorem e_q164:EV V0 Yh Tryz.f152 [.v n4,.v I6] [.v I6] Wh.GS:=by intro xs;kernel_rfl
theorem afF:CO LH:=con_ok (Ls:=[QB]) mixed (ct _ _) cx Tryz.func152 (loopsC (loopD_ok aiU) loopsL_nil) boxesL_none e_q164
theorem adp:FK LH:=fun _ _ h=>h.cons LH (by kernel_rfl) Wh.Ij afF
def Ll:iq:=⟨63,[.v n4],[.v .bool],Wh.EU,Wh.S6⟩
def KJ:Cx:=⟨cr,[LH.entry,LI.entry,zH.entry],false,Gl⟩
def Qp:b8:=kS ⟨[(1,.aZ z0 []),(3,.leaf I6)],[(z0,false,.var n4 (.leaf n4))]⟩ [(.ret,⟨[(2,.leaf .bool)],[]⟩),((.exit 0),⟨[(1,.aZ z0 [])],[(z0,false,.var n4 (.leaf n4))]⟩)] Wh.ZM Wh.CG
def Qq:b8:=kS ⟨[(4,.leaf I6),(1,.aZ z0 []),(3,.leaf I6)],[(z0,false,.var n4 (.leaf n4))]⟩ [(.ret,⟨[(2,.leaf .bool)],[]⟩),((.exit 2),⟨[(1,.aZ z0 []),(3,.leaf I6)],[(z0,false,.var n4 (.leaf n4))]⟩)] Wh.ZN Wh.A4
def Qr:b8:=kS ⟨[(5,.leaf I6),(1,.aZ z0 [])],[(z0,false,.var n4 (.leaf n4))]⟩ [(.ret,⟨[(2,.leaf .bool)],[]⟩),((.exit 4),⟨[],[]⟩)] Wh.ZO Wh.CH
def NK:LT:=[(4,Qp),(9,Qq),(14,Qr)]
theorem aiI:∀x,round KJ NK (jo Tryz.f63 0) Qp x=Wh.CG x:=by intro x;kernel_rfl
theorem aiJ:∀x,round KJ NK (jo Tryz.f63 1) Qq x=Wh.A4 x:=by intro x;kernel_rfl
theorem aiK:∀x,round KJ NK (jo Tryz.f63 2) Qr x=Wh.CH x:=by intro x;kernel_rfl
theorem e_q136:EV KJ NK Tryz.f63 [.v n4] [.v .bool] Wh.EU:=by intro xs;kernel_rfl
theorem afd:CO Ll:=con_ok (Ls:=[Qp,Qq,Qr]) mixed (ct _ _) (adp _ (adq _ (Al _ cx))) Tryz.func63 (loopsC (loopD_ok aiI) (loopsC (loopD_ok aiJ) (loopsC (loopD_ok aiK) loopsL_nil))) boxesL_none e_q136
theorem ac6:FK Ll:=fun _ _ h=>h.cons Ll (by kernel_rfl) Wh.ZP afd
def IU:iq:=⟨65,[.v fk,.v I6],[.v an,.v .bool],Wh.q44,Wh.Oq⟩
def C_q44:Cx:=⟨cr,[],false,Gl⟩
def Q2:b8:=kS ⟨[(4,.aZ z0 []),(6,.leaf I6),(2,.aZ z1 []),(1,.leaf I6)],[(z0,false,.var an (.pair (.leaf I6) (.pair (.leaf .str) (.pair (.leaf I6) (.pair (.leaf .str) (.leaf .unit)))))),(z1,false,.var fk (.leaf fk))]⟩ [(.ret,⟨[(4,.aZ z0 []),(5,.leaf .bool)],[(z0,false,.var an (.leaf an))]⟩),((.exit 0),⟨[(4,.aZ z0 [])],[(z0,false,.var an (.pair (.leaf I6) (.pair (.leaf .str) (.pair (.leaf I6) (.pair (.leaf .str) (.leaf .unit))))))]⟩)] Wh.aaI Wh.D0
def YD:LT:=[(2,Q2)]
theorem ajh:∀x,round C_q44 YD (jo Tryz.f65 0) Q2 x=Wh.D0 x:=by intro x;kernel_rfl
theorem e_q44:EV C_q44 YD Tryz.f65 [.v fk,.v I6] [.v an,.v .bool] Wh.q44:=by intro xs;kernel_rfl
theorem ok_q44:CO IU:=con_ok (Ls:=[Q2]) mixed (ct _ _) cx Tryz.func65 (loopsC (loopD_ok ajh) loopsL_nil) boxesL_none e_q44
theorem WU:FK IU:=fun _ _ h=>h.cons IU (by kernel_rfl) Wh.Fk ok_q44
def MT:iq:=⟨138,[.v I6],[.v I6],Wh.q80,Wh.q80'⟩
def C_q80:Cx:=⟨cr,[],false,Gl⟩
theorem e_q80:EV C_q80 lg Tryz.f138 [.v I6] [.v I6] Wh.q80:=by intro xs;kernel_rfl
theorem ok_q80:CO MT:=con_ok (Ls:=[]) mixed (ct _ _) cx Tryz.func138 loopsL_nil boxesL_none e_q80
theorem fk_q80:FK MT:=fun _ _ h=>h.cons MT (by kernel_rfl) Wh.UW ok_q80
def Mi:iq:=⟨64,[.v nC],[.v .bool],Wh.q43,Wh.q43'⟩
def C_q43:Cx:=⟨cr,[MT.entry,IU.entry,zH.entry],false,Gl⟩
def QD:b8:=kS ⟨[(3,.leaf I6),(1,.aZ z0 [])],[(z0,false,.var nC (.leaf nC))]⟩ [(.ret,⟨[(2,.leaf .bool)],[]⟩),((.exit 0),⟨[],[]⟩)] Wh.aaH Wh.CQ
def YC:LT:=[(2,QD)]
theorem aiW:∀x,round C_q43 YC (jo Tryz.f64 0) QD x=Wh.CQ x:=by intro x;kernel_rfl
theorem e_q43:EV C_q43 YC Tryz.f64 [.v nC] [.v .bool] Wh.q43:=by intro xs;kernel_rfl
theorem ok_q43:CO Mi:=con_ok (Ls:=[QD]) mixed (ct _ _) (fk_q80 _ (WU _ (Al _ cx))) Tryz.func64 (loopsC (loopD_ok aiW) loopsL_nil) boxesL_none e_q43
theorem fk_q43:FK Mi:=fun _ _ h=>h.cons Mi (by kernel_rfl) Wh.q43_v ok_q43
def Et:iq:=⟨66,[.v r_],[.v I6],Wh.z_,Wh.y8⟩
def C_q114:Cx:=⟨cr,[],false,Gl⟩
theorem e_q114:EV C_q114 lg Tryz.f66 [.v r_] [.v I6] Wh.z_:=by intro xs;kernel_rfl
theorem aeS:CO Et:=con_ok (Ls:=[]) mixed (ct _ _) cx Tryz.func66 loopsL_nil boxesL_none e_q114
theorem Jf:FK Et:=fun _ _ h=>h.cons Et (by kernel_rfl) Wh.CD aeS
def LM:iq:=⟨67,[.v I6],[.v (.pair I6 (.pair I6 (.pair (.own I6) (.pair (.own I6) .unit))))],Wh.Fc,Wh.JR⟩
def V3:Cx:=⟨cr,[Et.entry],false,Gl⟩
def QW:b8:=kS ⟨[(3,.aZ z0 []),(2,.aZ z1 [])],[(z0,false,.var r_ (.pair (.leaf I6) (.pair (.leaf I6) (.pair (.whole z2 I6) (.pair (.whole z3 I6) (.leaf .unit)))))),(z1,false,.var r_ (.pair (.leaf I6) (.pair (.leaf I6) (.pair (.whole 500000004 I6) (.pair (.whole 500000005 I6) (.leaf .unit)))))),(z2,false,.rows I6),(z3,false,.rows I6),(500000004,false,.rows I6),(500000005,false,.rows I6)]⟩ [((.exit 0),⟨[(2,.aZ z0 []),(3,.aZ z1 [])],[(z0,false,.var r_ (.pair (.leaf I6) (.pair (.leaf I6) (.pair (.whole z2 I6) (.pair (.whole z3 I6) (.leaf .unit)))))),(z1,false,.var r_ (.pair (.leaf I6) (.pair (.leaf I6) (.pair (.whole 500000004 I6) (.pair (.whole 500000005 I6) (.leaf .unit)))))),(z2,false,.rows I6),(z3,false,.rows I6),(500000004,false,.rows I6),(500000005,false,.rows I6)]⟩)] Wh.aam Wh.DN
def Yk:LT:=[(2,QW)]
theorem ajb:∀x,round V3 Yk (jo Tryz.f67 0) QW x=Wh.DN x:=by intro x;kernel_rfl
theorem e_q170:EV V3 Yk Tryz.f67 [.v I6] [.v (.pair I6 (.pair I6 (.pair (.own I6) (.pair (.own I6) .unit))))] Wh.Fc:=by intro xs;kernel_rfl
theorem afL:CO LM:=con_ok (Ls:=[QW]) mixed (ct _ _) (Jf _ cx) Tryz.func67 (loopsC (loopD_ok ajb) loopsL_nil) boxesL_none e_q170
theorem adu:FK LM:=fun _ _ h=>h.cons LM (by kernel_rfl) Wh.Ok afL
def MO:iq:=⟨68,[.v nI],[.v .bool],Wh.q76,Wh.q76'⟩
def C_q76:Cx:=⟨cr,[zH.entry],false,Gl⟩
theorem e_q76:EV C_q76 lg Tryz.f68 [.v nI] [.v .bool] Wh.q76:=by intro xs;kernel_rfl
theorem ok_q76:CO MO:=con_ok (Ls:=[]) mixed (ct _ _) (Al _ cx) Tryz.func68 loopsL_nil boxesL_none e_q76
theorem fk_q76:FK MO:=fun _ _ h=>h.cons MO (by kernel_rfl) Wh.q76_v ok_q76
def MQ:iq:=⟨15,[.v nC],[.v .bool],Wh.q78,Wh.q78'⟩
def Pa:Cx:=⟨cr,[MO.entry,Et.entry,LM.entry,IU.entry,Mi.entry,Ll.entry,KW.entry,HG.entry,HE.entry,KX.entry,zH.entry],false,Gl⟩
def Qt:b8:=kS ⟨[(7,.leaf I6),(1,.aZ z0 [])],[(z0,false,.var nC (.leaf nC))]⟩ [(.ret,⟨[(2,.leaf .bool)],[]⟩),((.exit 0),⟨[(1,.aZ z0 [])],[(z0,false,.var nC (.leaf nC))]⟩)] Wh.aaZ Wh.Bk
def Qu:b8:=kS ⟨[(10,.leaf I6),(1,.aZ z0 [])],[(z0,false,.var nC (.leaf nC))]⟩ [(.ret,⟨[(2,.leaf .bool)],[]⟩),((.exit 2),⟨[],[]⟩)] Wh.aa0 Wh.D5
def R2:LT:=[(10,Qt),(16,Qu)]
theorem aiM:∀x,round Pa R2 (jo Tryz.f15 0) Qt x=Wh.Bk x:=by intro x;kernel_rfl
theorem aiN:∀x,round Pa R2 (jo Tryz.f15 1) Qu x=Wh.D5 x:=by intro x;kernel_rfl
theorem e_q78:EV Pa R2 Tryz.f15 [.v nC] [.v .bool] Wh.q78:=by intro xs;kernel_rfl
theorem ok_q78:CO MQ:=con_ok (Ls:=[Qt,Qu]) mixed (ct _ _) (fk_q76 _ (Jf _ (adu _ (WU _ (fk_q43 _ (ac6 _ (acM _ (Rp _ (Rn _ (acN _ (Al _ cx))))))))))) Tryz.func15 (loopsC (loopD_ok aiM) (loopsC (loopD_ok aiN) loopsL_nil)) boxesL_none e_q78
theorem fk_q78:FK MQ:=fun _ _ h=>h.cons MQ (by kernel_rfl) Wh.UR ok_q78
def zY:iq:=⟨73,[.v I6,.v I6,.v I6],[.v .bool],Wh.xR,Wh.n_⟩
def C_q120:Cx:=⟨cr,[],false,Gl⟩
theorem e_q120:EV C_q120 lg Tryz.f73 [.v I6,.v I6,.v I6] [.v .bool] Wh.xR:=by intro xs;kernel_rfl
theorem aeY:CO zY:=con_ok (Ls:=[]) mixed (ct _ _) cx Tryz.func73 loopsL_nil boxesL_none e_q120
theorem AP:FK zY:=fun _ _ h=>h.cons zY (by kernel_rfl) Wh.zL aeY
def K7:iq:=⟨389,[.v I3,.v I6],[.v I3],Wh.AH,Wh.Bf⟩
def C_q119:Cx:=⟨cr,[],false,Gl⟩
theorem e_q119:EV C_q119 lg Tryz.f389 [.v I3,.v I6] [.v I3] Wh.AH:=by intro xs;kernel_rfl
theorem aeX:CO K7:=con_ok (Ls:=[]) mixed (ct _ _) cx Tryz.func389 loopsL_nil boxesL_none e_q119
theorem acU:FK K7:=fun _ _ h=>h.cons K7 (by kernel_rfl) Wh.q119_v aeX
def Mq:iq:=⟨334,[.v .str],[.v .str],Wh.q55,Wh.q55'⟩
def Es:Cx:=⟨cr,[K7.entry],false,Gl⟩
def PJ:b8:=kS ⟨[(4,.whole z0 I8),(3,.aZ z1 []),(0,.leaf .str)],[(z0,false,.rows I8),(z1,false,.var (.arr 8 I3) (.leaf (.arr 8 I3)))]⟩ [((.exit 0),⟨[(4,.whole z0 I8),(3,.aZ z1 []),(0,.leaf .str)],[(z0,false,.rows I8),(z1,false,.var (.arr 8 I3) (.leaf (.arr 8 I3)))]⟩)] Wh.aaO Wh.Fm
def PK:b8:=kS ⟨[(6,.leaf I6),(5,.leaf (.int .u64)),(4,.whole z0 I8),(3,.aZ z1 [])],[(z0,false,.rows I8),(z1,false,.var (.arr 8 I3) (.leaf (.arr 8 I3)))]⟩ [((.exit 2),⟨[(4,.whole z0 I8),(3,.aZ z1 [])],[(z0,false,.rows I8),(z1,false,.var (.arr 8 I3) (.leaf (.arr 8 I3)))]⟩)] Wh.aaP Wh.G6
def PL:b8:=kS ⟨[(4,.piece z0 I8),(3,.aZ z1 [])],[(z0,false,.rows I8),(z1,false,.var (.arr 8 I3) (.leaf (.arr 8 I3)))]⟩ [((.exit 4),⟨[(3,.aZ z0 [])],[(z0,false,.var (.arr 8 I3) (.leaf (.arr 8 I3)))]⟩)] Wh.aaQ Wh.Fo
def PM:b8:=kS ⟨[(54,.leaf I6),(7,.aZ z0 []),(4,.piece z1 I8),(3,.aZ z2 [])],[(z0,false,.var (.arr 64 I3) (.leaf (.arr 64 I3))),(z1,false,.rows I8),(z2,false,.var (.arr 8 I3) (.leaf (.arr 8 I3)))]⟩ [((.exit 6),⟨[(7,.aZ z0 []),(3,.aZ z1 []),(4,.piece z2 I8)],[(z0,false,.var (.arr 64 I3) (.leaf (.arr 64 I3))),(z1,false,.var (.arr 8 I3) (.leaf (.arr 8 I3))),(z2,false,.rows I8)]⟩)] Wh.aaR Wh.Fp
def PN:b8:=kS ⟨[(133,.leaf I6),(11,.aZ z0 []),(7,.aZ z1 []),(3,.aZ z2 []),(4,.piece z3 I8)],[(z0,false,.var (.arr 8 I3) (.leaf (.arr 8 I3))),(z1,false,.var (.arr 64 I3) (.leaf (.arr 64 I3))),(z2,false,.var (.arr 8 I3) (.leaf (.arr 8 I3))),(z3,false,.rows I8)]⟩ [((.exit 8),⟨[(3,.aZ z0 []),(11,.aZ z1 []),(4,.piece z2 I8)],[(z0,false,.var (.arr 8 I3) (.leaf (.arr 8 I3))),(z1,false,.var (.arr 8 I3) (.leaf (.arr 8 I3))),(z2,false,.rows I8)]⟩)] Wh.aaS Wh.G7
def PO:b8:=kS ⟨[(213,.leaf I6),(3,.aZ z0 []),(11,.aZ z1 []),(4,.piece z2 I8)],[(z0,false,.var (.arr 8 I3) (.leaf (.arr 8 I3))),(z1,false,.var (.arr 8 I3) (.leaf (.arr 8 I3))),(z2,false,.rows I8)]⟩ [((.exit 10),⟨[(3,.aZ z0 []),(4,.piece z1 I8)],[(z0,false,.var (.arr 8 I3) (.leaf (.arr 8 I3))),(z1,false,.rows I8)]⟩)] Wh.aaT Wh.J1
def PR:b8:=kS ⟨[(227,.leaf I6),(18,.whole z0 I8),(226,.leaf (.arr 8 I3))],[(z0,false,.rows I8)]⟩ [((.exit 12),⟨[(18,.whole z0 I8)],[(z0,false,.rows I8)]⟩)] Wh.aaU Wh.J2
def EH:LT:=[(3,PJ),(7,PK),(10,PL),(14,PM),(23,PN),(31,PO),(37,PR)]
theorem ah5:∀x,round Es EH (jo Tryz.f334 0) PJ x=Wh.Fm x:=by intro x;kernel_rfl
theorem ah6:∀x,round Es EH (jo Tryz.f334 1) PK x=Wh.G6 x:=by intro x;kernel_rfl
theorem ah7:∀x,round Es EH (jo Tryz.f334 2) PL x=Wh.Fo x:=by intro x;kernel_rfl
theorem ah8:∀x,round Es EH (jo Tryz.f334 3) PM x=Wh.Fp x:=by intro x;kernel_rfl
theorem ah9:∀x,round Es EH (jo Tryz.f334 4) PN x=Wh.G7 x:=by intro x;kernel_rfl
theorem ah_:∀x,round Es EH (jo Tryz.f334 5) PO x=Wh.J1 x:=by intro x;kernel_rfl
theorem aia:∀x,round Es EH (jo Tryz.f334 6) PR x=Wh.J2 x:=by intro x;kernel_rfl
theorem e_q55:EV Es EH Tryz.f334 [.v .str] [.v .str] Wh.q55:=by intro xs;kernel_rfl
theorem ok_q55:CO Mq:=con_ok (Ls:=[PJ,PK,PL,PM,PN,PO,PR]) mixed (ct _ _) (acU _ cx) Tryz.func334 (loopsC (loopD_ok ah5) (loopsC (loopD_ok ah6) (loopsC (loopD_ok ah7) (loopsC (loopD_ok ah8) (loopsC (loopD_ok ah9) (loopsC (loopD_ok ah_) (loopsC (loopD_ok aia) loopsL_nil))))))) boxesL_none e_q55
theorem fk_q55:FK Mq:=fun _ _ h=>h.cons Mq (by kernel_rfl) Wh.q55_v ok_q55
def Lw:iq:=⟨333,[.v .str],[.v .str],Wh.Ih,Wh.Ts⟩
def VU:Cx:=⟨cr,[],false,Gl⟩
def PF:b8:=kS ⟨[(4,.leaf I6),(0,.leaf .str),(3,.whole z0 I8)],[(z0,false,.rows I8)]⟩ [((.exit 0),⟨[(3,.whole z0 I8)],[(z0,false,.rows I8)]⟩)] Wh.ZZ Wh.Oa
def Ya:LT:=[(3,PF)]
theorem ah2:∀x,round VU Ya (jo Tryz.f333 0) PF x=Wh.Oa x:=by intro x;kernel_rfl
theorem e_q151:EV VU Ya Tryz.f333 [.v .str] [.v .str] Wh.Ih:=by intro xs;kernel_rfl
theorem afs:CO Lw:=con_ok (Ls:=[PF]) mixed (ct _ _) cx Tryz.func333 (loopsC (loopD_ok ah2) loopsL_nil) boxesL_none e_q151
theorem adg:FK Lw:=fun _ _ h=>h.cons Lw (by kernel_rfl) Wh.Z0 afs
def MY:iq:=⟨263,[.v .str],[.v .str],Wh.q85,Wh.Fw⟩
def C_q85:Cx:=⟨cr,[Lw.entry,Mq.entry],false,Gl⟩
theorem e_q85:EV C_q85 lg Tryz.f263 [.v .str] [.v .str] Wh.q85:=by intro xs;kernel_rfl
theorem ok_q85:CO MY:=con_ok (Ls:=[]) mixed (ct _ _) (adg _ (fk_q55 _ cx)) Tryz.func263 loopsL_nil boxesL_none e_q85
theorem fk_q85:FK MY:=fun _ _ h=>h.cons MY (by kernel_rfl) Wh.q85_v ok_q85
def M5:iq:=⟨159,[.v I6,.v .str],[.v .str],Wh.q91,Wh.q91'⟩
def C_q91:Cx:=⟨cr,[MY.entry,HI.entry],false,Gl⟩
theorem e_q91:EV C_q91 lg Tryz.f159 [.v I6,.v .str] [.v .str] Wh.q91:=by intro xs;kernel_rfl
theorem ok_q91:CO M5:=con_ok (Ls:=[]) mixed (ct _ _) (fk_q85 _ (Rr _ cx)) Tryz.func159 loopsL_nil boxesL_none e_q91
theorem fk_q91:FK M5:=fun _ _ h=>h.cons M5 (by kernel_rfl) Wh.Va ok_q91
def Mv:iq:=⟨243,[.v .str,.v .str],[.v .bool],Wh.q6,Wh.q6'⟩
def C_q6:Cx:=⟨cr,[],false,Gl⟩
theorem e_q6:EV C_q6 lg Tryz.f243 [.v .str,.v .str] [.v .bool] Wh.q6:=by intro xs;kernel_rfl
theorem ok_q6:CO Mv:=con_ok (Ls:=[]) mixed (ct _ _) cx Tryz.func243 loopsL_nil boxesL_none e_q6
theorem fk_q6:FK Mv:=fun _ _ h=>h.cons Mv (by kernel_rfl) Wh.q6_v ok_q6
def Le:iq:=⟨140,[.v .str,.v .str],[.v .bool],Wh.q13,Wh.q13'⟩
def C_q13:Cx:=⟨cr,[Mv.entry],false,Gl⟩
theorem e_q13:EV C_q13 lg Tryz.f140 [.v .str,.v .str] [.v .bool] Wh.q13:=by intro xs;kernel_rfl
theorem ok_q13:CO Le:=con_ok (Ls:=[]) mixed (ct _ _) (fk_q6 _ cx) Tryz.func140 loopsL_nil boxesL_none e_q13
theorem fk_q13:FK Le:=fun _ _ h=>h.cons Le (by kernel_rfl) Wh.Td ok_q13
def IX:iq:=⟨74,[.v .str],[.v (.own .str),.v I6],Wh.CS,Wh.Oy⟩
def C_q86:Cx:=⟨cr,[Le.entry,M5.entry,zY.entry,HI.entry,Ix.entry,I1.entry],false,Gl⟩
def Ph:b8:=kS ⟨[(5,.leaf I6),(4,.whole z0 .str),(0,.leaf .str)],[(z0,false,.rows .str)]⟩ [(.ret,⟨[(2,.whole z0 .str),(3,.leaf I6)],[(z0,false,.rows .str)]⟩)] Wh.aa8 Wh.CT
def YJ:LT:=[(3,Ph)]
theorem ahH:∀x,round C_q86 YJ (jo Tryz.f74 0) Ph x=Wh.CT x:=by intro x;kernel_rfl
theorem e_q86:EV C_q86 YJ Tryz.f74 [.v .str] [.v (.own .str),.v I6] Wh.CS:=by intro xs;kernel_rfl
theorem ok_q86:CO IX:=con_ok (Ls:=[Ph]) mixed (ct _ _) (fk_q13 _ (fk_q91 _ (AP _ (Rr _ (Wy _ (W0 _ cx)))))) Tryz.func74 (loopsC (loopD_ok ahH) loopsL_nil) boxesL_none e_q86
theorem WX:FK IX:=fun _ _ h=>h.cons IX (by kernel_rfl) Wh.U2 ok_q86
def HF:iq:=⟨233,[.v I6],[.v .bool],Wh.Bh,Wh.JM⟩
def C_q152:Cx:=⟨cr,[zY.entry],false,Gl⟩
theorem e_q152:EV C_q152 lg Tryz.f233 [.v I6] [.v .bool] Wh.Bh:=by intro xs;kernel_rfl
theorem aft:CO HF:=con_ok (Ls:=[]) mixed (ct _ _) (AP _ cx) Tryz.func233 loopsL_nil boxesL_none e_q152
theorem Ro:FK HF:=fun _ _ h=>h.cons HF (by kernel_rfl) Wh.Ob aft
def HD:iq:=⟨213,[.v .str],[.v .bool],Wh.BH,Wh.JD⟩
def VI:Cx:=⟨cr,[zY.entry],false,Gl⟩
def Pj:b8:=kS ⟨[(6,.leaf I6),(0,.leaf .str),(5,.leaf I6)],[]⟩ [(.ret,⟨[(2,.leaf .bool)],[]⟩),((.exit 0),⟨[(0,.leaf .str)],[]⟩)] Wh.Zv Wh.A1
def XX:LT:=[(2,Pj)]
theorem ahI:∀x,round VI XX (jo Tryz.f213 0) Pj x=Wh.A1 x:=by intro x;kernel_rfl
theorem e_q116:EV VI XX Tryz.f213 [.v .str] [.v .bool] Wh.BH:=by intro xs;kernel_rfl
theorem aeU:CO HD:=con_ok (Ls:=[Pj]) mixed (ct _ _) (AP _ cx) Tryz.func213 (loopsC (loopD_ok ahI) loopsL_nil) boxesL_none e_q116
theorem Rm:FK HD:=fun _ _ h=>h.cons HD (by kernel_rfl) Wh.NZ aeU
def LZ:iq:=⟨192,[.v I6,.v .str,.v .str],[.v .str],Wh.q25,Wh.q25'⟩
def C_q25:Cx:=⟨cr,[HI.entry,HD.entry,HF.entry],false,Gl⟩
theorem e_q25:EV C_q25 lg Tryz.f192 [.v I6,.v .str,.v .str] [.v .str] Wh.q25:=by intro xs;kernel_rfl
theorem ok_q25:CO LZ:=con_ok (Ls:=[]) mixed (ct _ _) (Rr _ (Rm _ (Ro _ cx))) Tryz.func192 loopsL_nil boxesL_none e_q25
theorem fk_q25:FK LZ:=fun _ _ h=>h.cons LZ (by kernel_rfl) Wh.Ud ok_q25
def IW:iq:=⟨267,[.v fk],[.v (.pair I6 (.pair (.own an) .unit))],Wh.D4,Wh.J0⟩
def C_q53:Cx:=⟨cr,[],false,Gl⟩
theorem e_q53:EV C_q53 lg Tryz.f267 [.v fk] [.v (.pair I6 (.pair (.own an) .unit))] Wh.D4:=by intro xs;kernel_rfl
theorem ok_q53:CO IW:=con_ok (Ls:=[]) mixed (ct _ _) cx Tryz.func267 loopsL_nil boxesL_none e_q53
theorem WW:FK IW:=fun _ _ h=>h.cons IW (by kernel_rfl) Wh.G5 ok_q53
def LU:iq:=⟨276,[.v an,.v (.ref I6),.v (.ref .str)],[.v .bool],Wh.q19,Wh.q19'⟩
def C_q19:Cx:=⟨cr,[],false,Gl⟩
theorem e_q19:EV C_q19 lg Tryz.f276 [.v an,.v (.ref I6),.v (.ref .str)] [.v .bool] Wh.q19:=by intro xs;kernel_rfl
theorem ok_q19:CO LU:=con_ok (Ls:=[]) mixed (ct _ _) cx Tryz.func276 loopsL_nil boxesL_none e_q19
theorem fk_q19:FK LU:=fun _ _ h=>h.cons LU (by kernel_rfl) Wh.T_ ok_q19
def L4:iq:=⟨165,[.v (.lst an),.f 276 (.pair (.ref I6) (.pair (.ref .str) .unit))],[.v I6],Wh.q3,Wh.q3'⟩
def C_q3:Cx:=⟨cr,[LU.entry],false,Gl⟩
def Qf:b8:=kS ⟨[(8,.leaf I6),(0,.leaf (.lst an)),(1,.fn 276 (.bB (.leaf (.ref I6)) (.bB (.leaf (.ref .str)) (.b7)))),(7,.leaf I6)],[]⟩ [(.ret,⟨[(4,.leaf I6)],[]⟩),((.exit 0),⟨[],[]⟩)] Wh.aaF Wh.DZ
def lt_q3:LT:=[(2,Qf)]
theorem aiy:∀x,round C_q3 lt_q3 (jo Tryz.f165 0) Qf x=Wh.DZ x:=by intro x;kernel_rfl
theorem e_q3:EV C_q3 lt_q3 Tryz.f165 [.v (.lst an),.f 276 (.pair (.ref I6) (.pair (.ref .str) .unit))] [.v I6] Wh.q3:=by intro xs;kernel_rfl
theorem ok_q3:CO L4:=con_ok (Ls:=[Qf]) mixed (ct _ _) (fk_q19 _ cx) Tryz.func165 (loopsC (loopD_ok aiy) loopsL_nil) boxesL_none e_q3
theorem fk_q3:FK L4:=fun _ _ h=>h.cons L4 (by kernel_rfl) Wh.q3_v ok_q3
def IV:iq:=⟨193,[.v fk,.v I6,.v .str],[.v I6],Wh.Ca,Wh.Ou⟩
def C_q47:Cx:=⟨cr,[L4.entry],false,Gl⟩
theorem e_q47:EV C_q47 lg Tryz.f193 [.v fk,.v I6,.v .str] [.v I6] Wh.Ca:=by intro xs;kernel_rfl
theorem ok_q47:CO IV:=con_ok (Ls:=[]) mixed (ct _ _) (fk_q3 _ cx) Tryz.func193 loopsL_nil boxesL_none e_q47
theorem WV:FK IV:=fun _ _ h=>h.cons IV (by kernel_rfl) Wh.JX ok_q47
def KP:iq:=⟨277,[.k (.own an),.v I6,.v I6],[.v (.own an)],Wh.q10,Wh.q10'⟩
def C_q10:Cx:=⟨cr,[],false,Gl⟩
theorem e_q10:EV C_q10 lg Tryz.f277 [.k (.own an),.v I6,.v I6] [.v (.own an)] Wh.q10:=by intro xs;kernel_rfl
theorem ok_q10:CO KP:=con_ok (Ls:=[]) mixed (ct _ _) cx Tryz.func277 loopsL_nil boxesL_none e_q10
theorem fk_q10:FK KP:=fun _ _ h=>h.cons KP (by kernel_rfl) Wh.q10_v ok_q10
def Ml:iq:=⟨194,[.v fk,.v I6,.v .str],[.v (.pair I6 (.pair (.own an) .unit)),.v I6],Wh.q48,Wh.q48'⟩
def C_q48:Cx:=⟨cr,[KP.entry,IV.entry,IW.entry],false,Gl⟩
theorem e_q48:EV C_q48 lg Tryz.f194 [.v fk,.v I6,.v .str] [.v (.pair I6 (.pair (.own an) .unit)),.v I6] Wh.q48:=by intro xs;kernel_rfl
theorem ok_q48:CO Ml:=con_ok (Ls:=[]) mixed (ct _ _) (fk_q10 _ (WV _ (WW _ cx))) Tryz.func194 loopsL_nil boxesL_none e_q48
theorem fk_q48:FK Ml:=fun _ _ h=>h.cons Ml (by kernel_rfl) Wh.q48_v ok_q48
def IP:iq:=⟨130,[.v I6,.v .str,.v .str],[.v .bool],Wh.q17,Wh.Oj⟩
def C_q17:Cx:=⟨cr,[zY.entry,HD.entry,HF.entry],false,Gl⟩
theorem e_q17:EV C_q17 lg Tryz.f130 [.v I6,.v .str,.v .str] [.v .bool] Wh.q17:=by intro xs;kernel_rfl
theorem ok_q17:CO IP:=con_ok (Ls:=[]) mixed (ct _ _) (AP _ (Rm _ (Ro _ cx))) Tryz.func130 loopsL_nil boxesL_none e_q17
theorem WQ:FK IP:=fun _ _ h=>h.cons IP (by kernel_rfl) Wh.JV ok_q17
def L1:iq:=⟨273,[.v fk,.v I6],[.v I6],Wh.q27,Wh.q27'⟩
def C_q27:Cx:=⟨cr,[],false,Gl⟩
def Pg:b8:=kS ⟨[(11,.leaf I6),(5,.leaf I6),(1,.leaf I6),(9,.leaf (.lst an)),(10,.leaf I6)],[]⟩ [((.exit 0),⟨[(5,.leaf I6)],[]⟩)] Wh.aaw Wh.DU
def Yr:LT:=[(3,Pg)]
theorem ahG:∀x,round C_q27 Yr (jo Tryz.f273 0) Pg x=Wh.DU x:=by intro x;kernel_rfl
theorem e_q27:EV C_q27 Yr Tryz.f273 [.v fk,.v I6] [.v I6] Wh.q27:=by intro xs;kernel_rfl
theorem ok_q27:CO L1:=con_ok (Ls:=[Pg]) mixed (ct _ _) cx Tryz.func273 (loopsC (loopD_ok ahG) loopsL_nil) boxesL_none e_q27
theorem fk_q27:FK L1:=fun _ _ h=>h.cons L1 (by kernel_rfl) Wh.q27_v ok_q27
def Mj:iq:=⟨398,[.v I6],[.v .bool],Wh.q45,Wh.Ot⟩
def C_q45:Cx:=⟨cr,[],false,Gl⟩
theorem e_q45:EV C_q45 lg Tryz.f398 [.v I6] [.v .bool] Wh.q45:=by intro xs;kernel_rfl
theorem ok_q45:CO Mj:=con_ok (Ls:=[]) mixed (ct _ _) cx Tryz.func398 loopsL_nil boxesL_none e_q45
theorem fk_q45:FK Mj:=fun _ _ h=>h.cons Mj (by kernel_rfl) Wh.q45_v ok_q45
def LS:iq:=⟨337,[.v I6,.v I6],[.v I6],Wh.q18,Wh.q18'⟩
def C_q18:Cx:=⟨cr,[Mj.entry],false,Gl⟩
theorem e_q18:EV C_q18 lg Tryz.f337 [.v I6,.v I6] [.v I6] Wh.q18:=by intro xs;kernel_rfl
theorem ok_q18:CO LS:=con_ok (Ls:=[]) mixed (ct _ _) (fk_q45 _ cx) Tryz.func337 loopsL_nil boxesL_none e_q18
theorem fk_q18:FK LS:=fun _ _ h=>h.cons LS (by kernel_rfl) Wh.q18_v ok_q18
def Ln:iq:=⟨399,[.v .str],[.v .bool],Wh.q14,Wh.N5⟩
def C_q14:Cx:=⟨cr,[],false,Gl⟩
theorem e_q14:EV C_q14 lg Tryz.f399 [.v .str] [.v .bool] Wh.q14:=by intro xs;kernel_rfl
theorem ok_q14:CO Ln:=con_ok (Ls:=[]) mixed (ct _ _) cx Tryz.func399 loopsL_nil boxesL_none e_q14
theorem fk_q14:FK Ln:=fun _ _ h=>h.cons Ln (by kernel_rfl) Wh.q14_v ok_q14
def MH:iq:=⟨338,[.v .str,.v .str],[.v I6],Wh.q7,Wh.q7'⟩
def C_q7:Cx:=⟨cr,[Ln.entry],false,Gl⟩
theorem e_q7:EV C_q7 lg Tryz.f338 [.v .str,.v .str] [.v I6] Wh.q7:=by intro xs;kernel_rfl
theorem ok_q7:CO MH:=con_ok (Ls:=[]) mixed (ct _ _) (fk_q14 _ cx) Tryz.func338 loopsL_nil boxesL_none e_q7
theorem fk_q7:FK MH:=fun _ _ h=>h.cons MH (by kernel_rfl) Wh.q7_v ok_q7
def Lt:iq:=⟨336,[.v (.lst I6)],[.v I6],Wh.GH,Wh.Tm⟩
def VR:Cx:=⟨cr,[],false,Gl⟩
def Pe:b8:=kS ⟨[(8,.leaf I6),(3,.leaf I6),(6,.leaf (.lst I6)),(7,.leaf I6)],[]⟩ [(.ret,⟨[(2,.leaf I6)],[]⟩),((.exit 0),⟨[(3,.leaf I6)],[]⟩)] Wh.ZU Wh.EX
def X8:LT:=[(3,Pe)]
theorem ahE:∀x,round VR X8 (jo Tryz.f336 0) Pe x=Wh.EX x:=by intro x;kernel_rfl
theorem e_q147:EV VR X8 Tryz.f336 [.v (.lst I6)] [.v I6] Wh.GH:=by intro xs;kernel_rfl
theorem afo:CO Lt:=con_ok (Ls:=[Pe]) mixed (ct _ _) cx Tryz.func336 (loopsC (loopD_ok ahE) loopsL_nil) boxesL_none e_q147
theorem adb:FK Lt:=fun _ _ h=>h.cons Lt (by kernel_rfl) Wh.ZV afo
def IT:iq:=⟨275,[.v an,.v an],[.v I6],Wh.q29,Wh.q29'⟩
def C_q29:Cx:=⟨cr,[Lt.entry,MH.entry,LS.entry],false,Gl⟩
theorem e_q29:EV C_q29 lg Tryz.f275 [.v an,.v an] [.v I6] Wh.q29:=by intro xs;kernel_rfl
theorem ok_q29:CO IT:=con_ok (Ls:=[]) mixed (ct _ _) (adb _ (fk_q7 _ (fk_q18 _ cx))) Tryz.func275 loopsL_nil boxesL_none e_q29
theorem WT:FK IT:=fun _ _ h=>h.cons IT (by kernel_rfl) Wh.On ok_q29
def KN:iq:=⟨390,[.m an,.v I6,.v I6,.f 275 .unit],[],Wh.q0,Wh.q0'⟩
def C_q0:Cx:=⟨cr,[IT.entry],false,Gl⟩
def Qg:b8:=kS ⟨[(0,.whole 900 an),(8,.leaf I6),(3,.fn 275 (.b7)),(1,.leaf I6),(2,.leaf I6)],[(900,false,.rows an)]⟩ [((.exit 0),⟨[],[(900,false,.rows an)]⟩)] Wh.Y7 Wh.B5
def Qh:b8:=kS ⟨[(9,.leaf I6),(0,.whole 900 an),(3,.fn 275 (.b7)),(1,.leaf I6),(2,.leaf I6),(8,.leaf I6)],[(900,false,.rows an)]⟩ [((.exit 2),⟨[(0,.whole 900 an),(3,.fn 275 (.b7)),(1,.leaf I6),(2,.leaf I6),(8,.leaf I6)],[(900,false,.rows an)]⟩)] Wh.Y8 Wh.CB
def RU:LT:=[(1,Qg),(4,Qh)]
theorem aiz:∀x,round C_q0 RU (jo Tryz.f390 0) Qg x=Wh.B5 x:=by intro x;kernel_rfl
theorem aiA:∀x,round C_q0 RU (jo Tryz.f390 1) Qh x=Wh.CB x:=by intro x;kernel_rfl
theorem e_q0:EV C_q0 RU Tryz.f390 [.m an,.v I6,.v I6,.f 275 .unit] [] Wh.q0:=by intro xs;kernel_rfl
theorem ok_q0:CO KN:=con_ok (Ls:=[Qg,Qh]) mixed (ct _ _) (WT _ cx) Tryz.func390 (loopsC (loopD_ok aiz) (loopsC (loopD_ok aiA) loopsL_nil)) boxesL_none e_q0
theorem fk_q0:FK KN:=fun _ _ h=>h.cons KN (by kernel_rfl) Wh.q0_v ok_q0
def KO:iq:=⟨335,[.m an,.v I6,.v I6,.v I6,.f 275 .unit],[],Wh.q1,Wh.q1'⟩
def C_q1:Cx:=⟨cr,[IT.entry,KN.entry],false,Gl⟩
def Qi:b8:=kS ⟨[(4,.fn 275 (.b7)),(2,.leaf I6),(1,.leaf I6),(0,.whole 900 an),(11,.leaf .bool),(10,.leaf .bool),(3,.leaf I6)],[(900,false,.rows an)]⟩ [(.ret,⟨[],[(900,false,.rows an)]⟩)] Wh.aat Wh.Ik
def lt_q1:LT:=[(2,Qi)]
theorem aiB:∀x,round C_q1 lt_q1 (jo Tryz.f335 0) Qi x=Wh.Ik x:=by intro x;kernel_rfl
theorem e_q1:EV C_q1 lt_q1 Tryz.f335 [.m an,.v I6,.v I6,.v I6,.f 275 .unit] [] Wh.q1:=by intro xs;kernel_rfl
theorem ok_q1:CO KO:=con_ok (Ls:=[Qi]) mixed (ct _ _) (WT _ (fk_q0 _ cx)) Tryz.func335 (loopsC (loopD_ok aiB) loopsL_nil) boxesL_none e_q1
theorem fk_q1:FK KO:=fun _ _ h=>h.cons KO (by kernel_rfl) Wh.q1_v ok_q1
def Me:iq:=⟨274,[.m an,.f 275 .unit],[],Wh.q4,Wh.q4'⟩
def C_q4:Cx:=⟨cr,[KO.entry,KM.entry],false,Gl⟩
theorem e_q4:EV C_q4 lg Tryz.f274 [.m an,.f 275 .unit] [] Wh.q4:=by intro xs;kernel_rfl
theorem ok_q4:CO Me:=con_ok (Ls:=[]) mixed (ct _ _) (fk_q1 _ (acF _ cx)) Tryz.func274 loopsL_nil boxesL_none e_q4
theorem fk_q4:FK Me:=fun _ _ h=>h.cons Me (by kernel_rfl) Wh.q4_v ok_q4
def MX:iq:=⟨190,[.v fk,.v I6,.v .str,.v .str],[.v (.pair I6 (.pair (.own an) .unit)),.v I6],Wh.D9,Wh.q84'⟩
def C_q84:Cx:=⟨cr,[Me.entry,L1.entry,IV.entry,IP.entry,IW.entry],false,Gl⟩
theorem e_q84:EV C_q84 lg Tryz.f190 [.v fk,.v I6,.v .str,.v .str] [.v (.pair I6 (.pair (.own an) .unit)),.v I6] Wh.D9:=by intro xs;kernel_rfl
theorem ok_q84:CO MX:=con_ok (Ls:=[]) mixed (ct _ _) (fk_q4 _ (fk_q27 _ (WV _ (WQ _ (WW _ cx))))) Tryz.func190 loopsL_nil boxesL_none e_q84
theorem fk_q84:FK MX:=fun _ _ h=>h.cons MX (by kernel_rfl) Wh.q84_v ok_q84
def L0:iq:=⟨160,[.v fk,.v .str],[.v (.pair I6 (.pair (.own an) .unit)),.v .bool],Wh.q26,Wh.q26'⟩
def C_q26:Cx:=⟨cr,[MX.entry,Ml.entry,LZ.entry,Ix.entry,I1.entry],false,Gl⟩
theorem e_q26:EV C_q26 lg Tryz.f160 [.v fk,.v .str] [.v (.pair I6 (.pair (.own an) .unit)),.v .bool] Wh.q26:=by intro xs;kernel_rfl
theorem ok_q26:CO L0:=con_ok (Ls:=[]) mixed (ct _ _) (fk_q84 _ (fk_q48 _ (fk_q25 _ (Wy _ (W0 _ cx))))) Tryz.func160 loopsL_nil boxesL_none e_q26
theorem fk_q26:FK L0:=fun _ _ h=>h.cons L0 (by kernel_rfl) Wh.Ue ok_q26
def IJ:iq:=⟨75,[.v (.lst .str)],[.v (.pair I6 (.pair (.own an) .unit)),.v .bool],Wh.DF,Wh.N9⟩
def VS:Cx:=⟨cr,[L0.entry],false,Gl⟩
def Pf:b8:=kS ⟨[(2,.aZ z0 []),(13,.leaf I6),(4,.aZ z1 []),(11,.leaf (.lst .str)),(12,.leaf I6)],[(z0,false,.var fk (.pair (.leaf I6) (.pair (.whole z2 an) (.leaf .unit)))),(z1,false,.var fk (.pair (.leaf I6) (.pair (.whole z3 an) (.leaf .unit)))),(z2,false,.rows an),(z3,false,.rows an)]⟩ [(.ret,⟨[(2,.aZ z0 []),(3,.leaf .bool)],[(z0,false,.var fk (.pair (.leaf I6) (.pair (.whole z1 an) (.leaf .unit)))),(z1,false,.rows an)]⟩),((.exit 0),⟨[(2,.aZ z0 []),(4,.aZ z1 [])],[(z0,false,.var fk (.pair (.leaf I6) (.pair (.whole z2 an) (.leaf .unit)))),(z1,false,.var fk (.pair (.leaf I6) (.pair (.whole z3 an) (.leaf .unit)))),(z2,false,.rows an),(z3,false,.rows an)]⟩)] Wh.ZW Wh.DG
def X9:LT:=[(3,Pf)]
theorem ahF:∀x,round VS X9 (jo Tryz.f75 0) Pf x=Wh.DG x:=by intro x;kernel_rfl
theorem e_q148:EV VS X9 Tryz.f75 [.v (.lst .str)] [.v (.pair I6 (.pair (.own an) .unit)),.v .bool] Wh.DF:=by intro xs;kernel_rfl
theorem afp:CO IJ:=con_ok (Ls:=[Pf]) mixed (ct _ _) (fk_q26 _ cx) Tryz.func75 (loopsC (loopD_ok ahF) loopsL_nil) boxesL_none e_q148
theorem WK:FK IJ:=fun _ _ h=>h.cons IJ (by kernel_rfl) Wh.Tp afp
def K8:iq:=⟨161,[.v (.lst an),.v (.lst an)],[.v .bool],Wh.q12,Wh.q12'⟩
def C_q12:Cx:=⟨cr,[],false,Gl⟩
def Qd:b8:=kS ⟨[(13,.leaf I6),(1,.leaf (.lst an)),(0,.leaf (.lst an)),(12,.leaf I6)],[]⟩ [(.ret,⟨[(4,.leaf .bool)],[]⟩),((.exit 0),⟨[],[]⟩)] Wh.ZF Wh.DA
def XZ:LT:=[(4,Qd)]
theorem aiw:∀x,round C_q12 XZ (jo Tryz.f161 0) Qd x=Wh.DA x:=by intro x;kernel_rfl
theorem e_q12:EV C_q12 XZ Tryz.f161 [.v (.lst an),.v (.lst an)] [.v .bool] Wh.q12:=by intro xs;kernel_rfl
theorem ok_q12:CO K8:=con_ok (Ls:=[Qd]) mixed (ct _ _) cx Tryz.func161 (loopsC (loopD_ok aiw) loopsL_nil) boxesL_none e_q12
theorem fk_q12:FK K8:=fun _ _ h=>h.cons K8 (by kernel_rfl) Wh.q12_v ok_q12
def M6:iq:=⟨76,[.v fk,.v fk],[.v .bool],Wh.q92,Wh.q92'⟩
def C_q92:Cx:=⟨cr,[K8.entry],false,Gl⟩
theorem e_q92:EV C_q92 lg Tryz.f76 [.v fk,.v fk] [.v .bool] Wh.q92:=by intro xs;kernel_rfl
theorem ok_q92:CO M6:=con_ok (Ls:=[]) mixed (ct _ _) (fk_q12 _ cx) Tryz.func76 loopsL_nil boxesL_none e_q92
theorem fk_q92:FK M6:=fun _ _ h=>h.cons M6 (by kernel_rfl) Wh.q92_v ok_q92
def L3:iq:=⟨264,[.v n4,.v I6,.v I6],[.v I6],Wh.q28,Wh.q28'⟩
def C_q28:Cx:=⟨cr,[],false,Gl⟩
def Pq:b8:=kS ⟨[(12,.leaf I6),(2,.leaf I6),(1,.leaf I6),(10,.leaf (.lst ng)),(11,.leaf I6)],[]⟩ [(.ret,⟨[(6,.leaf I6)],[]⟩),((.exit 0),⟨[],[]⟩)] Wh.aax Wh.DW
def Yt:LT:=[(2,Pq)]
theorem ahN:∀x,round C_q28 Yt (jo Tryz.f264 0) Pq x=Wh.DW x:=by intro x;kernel_rfl
theorem e_q28:EV C_q28 Yt Tryz.f264 [.v n4,.v I6,.v I6] [.v I6] Wh.q28:=by intro xs;kernel_rfl
theorem ok_q28:CO L3:=con_ok (Ls:=[Pq]) mixed (ct _ _) cx Tryz.func264 (loopsC (loopD_ok ahN) loopsL_nil) boxesL_none e_q28
theorem fk_q28:FK L3:=fun _ _ h=>h.cons L3 (by kernel_rfl) Wh.q28_v ok_q28
def M0:iq:=⟨265,[.v n4,.v I6],[.v I6],Wh.q88,Wh.q88'⟩
def C_q88:Cx:=⟨cr,[],false,Gl⟩
def Pr:b8:=kS ⟨[(11,.leaf I6),(5,.leaf I6),(1,.leaf I6),(9,.leaf (.lst ng)),(10,.leaf I6)],[]⟩ [((.exit 0),⟨[(5,.leaf I6)],[]⟩)] Wh.aa_ Wh.D_
def YL:LT:=[(3,Pr)]
theorem ahO:∀x,round C_q88 YL (jo Tryz.f265 0) Pr x=Wh.D_ x:=by intro x;kernel_rfl
theorem e_q88:EV C_q88 YL Tryz.f265 [.v n4,.v I6] [.v I6] Wh.q88:=by intro xs;kernel_rfl
theorem ok_q88:CO M0:=con_ok (Ls:=[Pr]) mixed (ct _ _) cx Tryz.func265 (loopsC (loopD_ok ahO) loopsL_nil) boxesL_none e_q88
theorem fk_q88:FK M0:=fun _ _ h=>h.cons M0 (by kernel_rfl) Wh.Io ok_q88
def K6:iq:=⟨162,[.v n4],[.v .bool],Wh.ES,Wh.SM⟩
def O7:Cx:=⟨cr,[M0.entry,L3.entry,HF.entry,zY.entry],false,Gl⟩
def Pn:b8:=kS ⟨[(19,.leaf I6),(1,.aZ z0 []),(17,.leaf (.lst ng)),(18,.leaf I6)],[(z0,false,.var n4 (.leaf n4))]⟩ [(.ret,⟨[(2,.leaf .bool)],[]⟩),((.exit 0),⟨[(1,.aZ z0 [])],[(z0,false,.var n4 (.leaf n4))]⟩)] Wh.Zx Wh.CE
def Pp:b8:=kS ⟨[(63,.leaf I6),(1,.aZ z0 [])],[(z0,false,.var n4 (.leaf n4))]⟩ [(.ret,⟨[(2,.leaf .bool)],[]⟩),((.exit 2),⟨[],[]⟩)] Wh.Zy Wh.CF
def RY:LT:=[(4,Pn),(13,Pp)]
theorem ahL:∀x,round O7 RY (jo Tryz.f162 0) Pn x=Wh.CE x:=by intro x;kernel_rfl
theorem ahM:∀x,round O7 RY (jo Tryz.f162 1) Pp x=Wh.CF x:=by intro x;kernel_rfl
theorem e_q118:EV O7 RY Tryz.f162 [.v n4] [.v .bool] Wh.ES:=by intro xs;kernel_rfl
theorem aeW:CO K6:=con_ok (Ls:=[Pn,Pp]) mixed (ct _ _) (fk_q88 _ (fk_q28 _ (Ro _ (AP _ cx)))) Tryz.func162 (loopsC (loopD_ok ahL) (loopsC (loopD_ok ahM) loopsL_nil)) boxesL_none e_q118
theorem acT:FK K6:=fun _ _ h=>h.cons K6 (by kernel_rfl) Wh.SP aeW
def MS:iq:=⟨166,[.v an,.v (.ref I6)],[.v .bool],Wh.Im,Wh.q8'⟩
def C_q8:Cx:=⟨cr,[],false,Gl⟩
theorem e_q8:EV C_q8 lg Tryz.f166 [.v an,.v (.ref I6)] [.v .bool] Wh.Im:=by intro xs;kernel_rfl
theorem ok_q8:CO MS:=con_ok (Ls:=[]) mixed (ct _ _) cx Tryz.func166 loopsL_nil boxesL_none e_q8
theorem fk_q8:FK MS:=fun _ _ h=>h.cons MS (by kernel_rfl) Wh.q8_v ok_q8
def LV:iq:=⟨165,[.v (.lst an),.f 166 (.pair (.ref I6) .unit)],[.v I6],Wh.q2,Wh.DS⟩
def C_q2:Cx:=⟨cr,[MS.entry],false,Gl⟩
def Qe:b8:=kS ⟨[(8,.leaf I6),(0,.leaf (.lst an)),(1,.fn 166 (.bB (.leaf (.ref I6)) (.b7))),(7,.leaf I6)],[]⟩ [(.ret,⟨[(4,.leaf I6)],[]⟩),((.exit 0),⟨[],[]⟩)] Wh.aay Wh.DX
def lt_q2:LT:=[(2,Qe)]
theorem aix:∀x,round C_q2 lt_q2 (jo Tryz.f165 0) Qe x=Wh.DX x:=by intro x;kernel_rfl
theorem e_q2:EV C_q2 lt_q2 Tryz.f165 [.v (.lst an),.f 166 (.pair (.ref I6) .unit)] [.v I6] Wh.q2:=by intro xs;kernel_rfl
theorem ok_q2:CO LV:=con_ok (Ls:=[Qe]) mixed (ct _ _) (fk_q8 _ cx) Tryz.func165 (loopsC (loopD_ok aix) loopsL_nil) boxesL_none e_q2
theorem fk_q2:FK LV:=fun _ _ h=>h.cons LV (by kernel_rfl) Wh.q2_v ok_q2
def IK:iq:=⟨80,[.v fk,.v I6],[.v I6],Wh.DH,Wh.N_⟩
def C_q15:Cx:=⟨cr,[LV.entry],false,Gl⟩
theorem e_q15:EV C_q15 lg Tryz.f80 [.v fk,.v I6] [.v I6] Wh.DH:=by intro xs;kernel_rfl
theorem ok_q15:CO IK:=con_ok (Ls:=[]) mixed (ct _ _) (fk_q2 _ cx) Tryz.func80 loopsL_nil boxesL_none e_q15
theorem WL:FK IK:=fun _ _ h=>h.cons IK (by kernel_rfl) Wh.GQ ok_q15
def FQ:iq:=⟨164,[.v r_],[.v I6],Wh.AI,Wh.zi⟩
def C_q20:Cx:=⟨cr,[],false,Gl⟩
theorem e_q20:EV C_q20 lg Tryz.f164 [.v r_] [.v I6] Wh.AI:=by intro xs;kernel_rfl
theorem ok_q20:CO FQ:=con_ok (Ls:=[]) mixed (ct _ _) cx Tryz.func164 loopsL_nil boxesL_none e_q20
theorem Nq:FK FQ:=fun _ _ h=>h.cons FQ (by kernel_rfl) Wh.q20_v ok_q20
def MZ:iq:=⟨163,[.v I6],[.v (.pair I6 (.pair I6 (.pair (.own I6) (.pair (.own I6) .unit))))],Wh.q87,Wh.q87'⟩
def C_q87:Cx:=⟨cr,[FQ.entry,zY.entry],false,Gl⟩
def Pk:b8:=kS ⟨[(3,.aZ z0 []),(2,.aZ z1 [])],[(z0,false,.var r_ (.pair (.leaf I6) (.pair (.leaf I6) (.pair (.whole z2 I6) (.pair (.whole z3 I6) (.leaf .unit)))))),(z1,false,.var r_ (.pair (.leaf I6) (.pair (.leaf I6) (.pair (.whole 500000004 I6) (.pair (.whole 500000005 I6) (.leaf .unit)))))),(z2,false,.rows I6),(z3,false,.rows I6),(500000004,false,.rows I6),(500000005,false,.rows I6)]⟩ [((.exit 0),⟨[(2,.aZ z0 []),(3,.aZ z1 [])],[(z0,false,.var r_ (.pair (.leaf I6) (.pair (.leaf I6) (.pair (.whole z2 I6) (.pair (.whole z3 I6) (.leaf .unit)))))),(z1,false,.var r_ (.pair (.leaf I6) (.pair (.leaf I6) (.pair (.whole 500000004 I6) (.pair (.whole 500000005 I6) (.leaf .unit)))))),(z2,false,.rows I6),(z3,false,.rows I6),(500000004,false,.rows I6),(500000005,false,.rows I6)]⟩)] Wh.aa9 Wh.J4
def YK:LT:=[(4,Pk)]
theorem ahJ:∀x,round C_q87 YK (jo Tryz.f163 0) Pk x=Wh.J4 x:=by intro x;kernel_rfl
theorem e_q87:EV C_q87 YK Tryz.f163 [.v I6] [.v (.pair I6 (.pair I6 (.pair (.own I6) (.pair (.own I6) .unit))))] Wh.q87:=by intro xs;kernel_rfl
theorem ok_q87:CO MZ:=con_ok (Ls:=[Pk]) mixed (ct _ _) (Nq _ (AP _ cx)) Tryz.func163 (loopsC (loopD_ok ahJ) loopsL_nil) boxesL_none e_q87
theorem fk_q87:FK MZ:=fun _ _ h=>h.cons MZ (by kernel_rfl) Wh.q87_v ok_q87
def Mp:iq:=⟨77,[.v n4,.v fk],[.v .bool],Wh.q54,Wh.q54'⟩
def C_q54:Cx:=⟨cr,[FQ.entry,MZ.entry,IK.entry,K6.entry],false,Gl⟩
def PI:b8:=kS ⟨[(14,.leaf I6),(3,.aZ z0 []),(12,.leaf (.lst ng)),(13,.leaf I6)],[(z0,false,.var fk (.leaf fk))]⟩ [(.ret,⟨[(4,.leaf .bool)],[]⟩),((.exit 0),⟨[],[]⟩)] Wh.aaN Wh.Bj
def YE:LT:=[(4,PI)]
theorem ah4:∀x,round C_q54 YE (jo Tryz.f77 0) PI x=Wh.Bj x:=by intro x;kernel_rfl
theorem e_q54:EV C_q54 YE Tryz.f77 [.v n4,.v fk] [.v .bool] Wh.q54:=by intro xs;kernel_rfl
theorem ok_q54:CO Mp:=con_ok (Ls:=[PI]) mixed (ct _ _) (Nq _ (fk_q87 _ (WL _ (acT _ cx)))) Tryz.func77 (loopsC (loopD_ok ah4) loopsL_nil) boxesL_none e_q54
theorem fk_q54:FK Mp:=fun _ _ h=>h.cons Mp (by kernel_rfl) Wh.q54_v ok_q54
def Mk:iq:=⟨78,[.v nI],[.v .bool],Wh.q46,Wh.q46'⟩
def C_q46:Cx:=⟨cr,[zY.entry],false,Gl⟩
theorem e_q46:EV C_q46 lg Tryz.f78 [.v nI] [.v .bool] Wh.q46:=by intro xs;kernel_rfl
theorem ok_q46:CO Mk:=con_ok (Ls:=[]) mixed (ct _ _) (AP _ cx) Tryz.func78 loopsL_nil boxesL_none e_q46
theorem fk_q46:FK Mk:=fun _ _ h=>h.cons Mk (by kernel_rfl) Wh.q46_v ok_q46
def HH:iq:=⟨79,[.v I6],[.v .bool],Wh.Cd,Wh.Il⟩
def C_q52:Cx:=⟨cr,[zY.entry],false,Gl⟩
theorem e_q52:EV C_q52 lg Tryz.f79 [.v I6] [.v .bool] Wh.Cd:=by intro xs;kernel_rfl
theorem ok_q52:CO HH:=con_ok (Ls:=[]) mixed (ct _ _) (AP _ cx) Tryz.func79 loopsL_nil boxesL_none e_q52
theorem Rq:FK HH:=fun _ _ h=>h.cons HH (by kernel_rfl) Wh.JZ ok_q52
def M4:iq:=⟨81,[.v I6],[.v I6],Wh.q90,Wh.q90'⟩
def C_q90:Cx:=⟨cr,[],false,Gl⟩
theorem e_q90:EV C_q90 lg Tryz.f81 [.v I6] [.v I6] Wh.q90:=by intro xs;kernel_rfl
theorem ok_q90:CO M4:=con_ok (Ls:=[]) mixed (ct _ _) cx Tryz.func81 loopsL_nil boxesL_none e_q90
theorem fk_q90:FK M4:=fun _ _ h=>h.cons M4 (by kernel_rfl) Wh.U_ ok_q90
def Mn:iq:=⟨17,[.v nC],[.v .bool],Wh.q50,Wh.q50'⟩
def O9:Cx:=⟨cr,[M4.entry,IK.entry,HH.entry,Mk.entry,Mp.entry,M6.entry,IJ.entry,IX.entry,zY.entry],false,Gl⟩
def Pu:b8:=kS ⟨[(105,.leaf I6),(1,.aZ z0 []),(103,.leaf (.lst nI)),(104,.leaf I6)],[(z0,false,.var nC (.leaf nC))]⟩ [(.ret,⟨[(2,.leaf .bool)],[]⟩),((.exit 0),⟨[(1,.aZ z0 [])],[(z0,false,.var nC (.leaf nC))]⟩)] Wh.aaJ Wh.D3
def Pv:b8:=kS ⟨[(133,.leaf I6),(1,.aZ z0 []),(131,.leaf (.lst r5)),(132,.leaf I6)],[(z0,false,.var nC (.leaf nC))]⟩ [(.ret,⟨[(2,.leaf .bool)],[]⟩),((.exit 2),⟨[],[]⟩)] Wh.aaK Wh.CR
def R0:LT:=[(13,Pu),(19,Pv)]
theorem ahQ:∀x,round O9 R0 (jo Tryz.f17 0) Pu x=Wh.D3 x:=by intro x;kernel_rfl
theorem ahR:∀x,round O9 R0 (jo Tryz.f17 1) Pv x=Wh.CR x:=by intro x;kernel_rfl
theorem e_q50:EV O9 R0 Tryz.f17 [.v nC] [.v .bool] Wh.q50:=by intro xs;kernel_rfl
theorem ok_q50:CO Mn:=con_ok (Ls:=[Pu,Pv]) mixed (ct _ _) (fk_q90 _ (WL _ (Rq _ (fk_q46 _ (fk_q54 _ (fk_q92 _ (WK _ (WX _ (AP _ cx))))))))) Tryz.func17 (loopsC (loopD_ok ahQ) (loopsC (loopD_ok ahR) loopsL_nil)) boxesL_none e_q50
theorem fk_q50:FK Mn:=fun _ _ h=>h.cons Mn (by kernel_rfl) Wh.Ux ok_q50
def K9:iq:=⟨235,[.v an,.v an],[.v .bool],Wh.Gv,Wh.SR⟩
def C_q122:Cx:=⟨cr,[],false,Gl⟩
theorem e_q122:EV C_q122 lg Tryz.f235 [.v an,.v an] [.v .bool] Wh.Gv:=by intro xs;kernel_rfl
theorem ae0:CO K9:=con_ok (Ls:=[]) mixed (ct _ _) cx Tryz.func235 loopsL_nil boxesL_none e_q122
theorem acV:FK K9:=fun _ _ h=>h.cons K9 (by kernel_rfl) Wh.ZA ae0
def IY:iq:=⟨133,[.v (.lst an),.v (.lst an)],[.v .bool],Wh.q94,Wh.Oz⟩
def C_q94:Cx:=⟨cr,[K9.entry],false,Gl⟩
def PZ:b8:=kS ⟨[(5,.leaf I6),(1,.leaf (.lst an)),(0,.leaf (.lst an))],[]⟩ [(.ret,⟨[(4,.leaf .bool)],[]⟩),((.exit 0),⟨[],[]⟩)] Wh.abf Wh.Hg
def YM:LT:=[(4,PZ)]
theorem aih:∀x,round C_q94 YM (jo Tryz.f133 0) PZ x=Wh.Hg x:=by intro x;kernel_rfl
theorem e_q94:EV C_q94 YM Tryz.f133 [.v (.lst an),.v (.lst an)] [.v .bool] Wh.q94:=by intro xs;kernel_rfl
theorem ok_q94:CO IY:=con_ok (Ls:=[PZ]) mixed (ct _ _) (acV _ cx) Tryz.func133 (loopsC (loopD_ok aih) loopsL_nil) boxesL_none e_q94
theorem WY:FK IY:=fun _ _ h=>h.cons IY (by kernel_rfl) Wh.Vc ok_q94
def Ly:iq:=⟨82,[.v fk,.v fk],[.v .bool],Wh.GJ,Wh.Tv⟩
def C_q154:Cx:=⟨cr,[IY.entry],false,Gl⟩
theorem e_q154:EV C_q154 lg Tryz.f82 [.v fk,.v fk] [.v .bool] Wh.GJ:=by intro xs;kernel_rfl
theorem afv:CO Ly:=con_ok (Ls:=[]) mixed (ct _ _) (WY _ cx) Tryz.func82 loopsL_nil boxesL_none e_q154
theorem adi:FK Ly:=fun _ _ h=>h.cons Ly (by kernel_rfl) Wh.Z4 afv
def M7:iq:=⟨266,[.v ng,.v ng],[.v .bool],Wh.q93,Wh.q93'⟩
def C_q93:Cx:=⟨cr,[],false,Gl⟩
theorem e_q93:EV C_q93 lg Tryz.f266 [.v ng,.v ng] [.v .bool] Wh.q93:=by intro xs;kernel_rfl
theorem ok_q93:CO M7:=con_ok (Ls:=[]) mixed (ct _ _) cx Tryz.func266 loopsL_nil boxesL_none e_q93
theorem fk_q93:FK M7:=fun _ _ h=>h.cons M7 (by kernel_rfl) Wh.q93_v ok_q93
def Mt:iq:=⟨167,[.v (.lst ng),.v (.lst ng)],[.v .bool],Wh.q58,Wh.q58'⟩
def C_q58:Cx:=⟨cr,[M7.entry],false,Gl⟩
def PX:b8:=kS ⟨[(5,.leaf I6),(1,.leaf (.lst ng)),(0,.leaf (.lst ng))],[]⟩ [(.ret,⟨[(4,.leaf .bool)],[]⟩),((.exit 0),⟨[],[]⟩)] Wh.aaV Wh.G8
def YF:LT:=[(4,PX)]
theorem aie:∀x,round C_q58 YF (jo Tryz.f167 0) PX x=Wh.G8 x:=by intro x;kernel_rfl
theorem e_q58:EV C_q58 YF Tryz.f167 [.v (.lst ng),.v (.lst ng)] [.v .bool] Wh.q58:=by intro xs;kernel_rfl
theorem ok_q58:CO Mt:=con_ok (Ls:=[PX]) mixed (ct _ _) (fk_q93 _ cx) Tryz.func167 (loopsC (loopD_ok aie) loopsL_nil) boxesL_none e_q58
theorem fk_q58:FK Mt:=fun _ _ h=>h.cons Mt (by kernel_rfl) Wh.q58_v ok_q58
def La:iq:=⟨83,[.v n4,.v n4],[.v .bool],Wh.Gx,Wh.SS⟩
def C_q124:Cx:=⟨cr,[Mt.entry],false,Gl⟩
theorem e_q124:EV C_q124 lg Tryz.f83 [.v n4,.v n4] [.v .bool] Wh.Gx:=by intro xs;kernel_rfl
theorem ae2:CO La:=con_ok (Ls:=[]) mixed (ct _ _) (fk_q58 _ cx) Tryz.func83 loopsL_nil boxesL_none e_q124
theorem acX:FK La:=fun _ _ h=>h.cons La (by kernel_rfl) Wh.ZB ae2
def Mr:iq:=⟨168,[.v nI,.v nI],[.v .bool],Wh.q56,Wh.q56'⟩
def C_q56:Cx:=⟨cr,[],false,Gl⟩
theorem e_q56:EV C_q56 lg Tryz.f168 [.v nI,.v nI] [.v .bool] Wh.q56:=by intro xs;kernel_rfl
theorem ok_q56:CO Mr:=con_ok (Ls:=[]) mixed (ct _ _) cx Tryz.func168 loopsL_nil boxesL_none e_q56
theorem fk_q56:FK Mr:=fun _ _ h=>h.cons Mr (by kernel_rfl) Wh.q56_v ok_q56
def L5:iq:=⟨84,[.v (.lst nI),.v (.lst nI)],[.v .bool],Wh.q30,Wh.q30'⟩
def C_q30:Cx:=⟨cr,[Mr.entry],false,Gl⟩
def PU:b8:=kS ⟨[(5,.leaf I6),(1,.leaf (.lst nI)),(0,.leaf (.lst nI))],[]⟩ [(.ret,⟨[(4,.leaf .bool)],[]⟩),((.exit 0),⟨[],[]⟩)] Wh.aaz Wh.G2
def Yu:LT:=[(4,PU)]
theorem aib:∀x,round C_q30 Yu (jo Tryz.f84 0) PU x=Wh.G2 x:=by intro x;kernel_rfl
theorem e_q30:EV C_q30 Yu Tryz.f84 [.v (.lst nI),.v (.lst nI)] [.v .bool] Wh.q30:=by intro xs;kernel_rfl
theorem ok_q30:CO L5:=con_ok (Ls:=[PU]) mixed (ct _ _) (fk_q56 _ cx) Tryz.func84 (loopsC (loopD_ok aib) loopsL_nil) boxesL_none e_q30
theorem fk_q30:FK L5:=fun _ _ h=>h.cons L5 (by kernel_rfl) Wh.q30_v ok_q30
def M8:iq:=⟨169,[.v r5,.v r5],[.v .bool],Wh.q95,Wh.q95'⟩
def C_q95:Cx:=⟨cr,[],false,Gl⟩
theorem e_q95:EV C_q95 lg Tryz.f169 [.v r5,.v r5] [.v .bool] Wh.q95:=by intro xs;kernel_rfl
theorem ok_q95:CO M8:=con_ok (Ls:=[]) mixed (ct _ _) cx Tryz.func169 loopsL_nil boxesL_none e_q95
theorem fk_q95:FK M8:=fun _ _ h=>h.cons M8 (by kernel_rfl) Wh.q95_v ok_q95
def Mw:iq:=⟨85,[.v (.lst r5),.v (.lst r5)],[.v .bool],Wh.q60,Wh.q60'⟩
def C_q60:Cx:=⟨cr,[M8.entry],false,Gl⟩
def P1:b8:=kS ⟨[(5,.leaf I6),(1,.leaf (.lst r5)),(0,.leaf (.lst r5))],[]⟩ [(.ret,⟨[(4,.leaf .bool)],[]⟩),((.exit 0),⟨[],[]⟩)] Wh.aaW Wh.G9
def YG:LT:=[(4,P1)]
theorem aij:∀x,round C_q60 YG (jo Tryz.f85 0) P1 x=Wh.G9 x:=by intro x;kernel_rfl
theorem e_q60:EV C_q60 YG Tryz.f85 [.v (.lst r5),.v (.lst r5)] [.v .bool] Wh.q60:=by intro xs;kernel_rfl
theorem ok_q60:CO Mw:=con_ok (Ls:=[P1]) mixed (ct _ _) (fk_q95 _ cx) Tryz.func85 (loopsC (loopD_ok aij) loopsL_nil) boxesL_none e_q60
theorem fk_q60:FK Mw:=fun _ _ h=>h.cons Mw (by kernel_rfl) Wh.q60_v ok_q60
def Mx:iq:=⟨18,[.v nC,.v nC],[.v .bool],Wh.q61,Wh.q61'⟩
def C_q61:Cx:=⟨cr,[Mw.entry,L5.entry,La.entry,Ly.entry],false,Gl⟩
theorem e_q61:EV C_q61 lg Tryz.f18 [.v nC,.v nC] [.v .bool] Wh.q61:=by intro xs;kernel_rfl
theorem ok_q61:CO Mx:=con_ok (Ls:=[]) mixed (ct _ _) (fk_q60 _ (fk_q30 _ (acX _ (adi _ cx)))) Tryz.func18 loopsL_nil boxesL_none e_q61
theorem fk_q61:FK Mx:=fun _ _ h=>h.cons Mx (by kernel_rfl) Wh.q61_v ok_q61
def IB:iq:=⟨278,[.v (.lst I6),.v I6],[.v I6],Wh.Dy,Wh.JF⟩
def C_q125:Cx:=⟨cr,[],false,Gl⟩
theorem e_q125:EV C_q125 lg Tryz.f278 [.v (.lst I6),.v I6] [.v I6] Wh.Dy:=by intro xs;kernel_rfl
theorem ae3:CO IB:=con_ok (Ls:=[]) mixed (ct _ _) cx Tryz.func278 loopsL_nil boxesL_none e_q125
theorem WC:FK IB:=fun _ _ h=>h.cons IB (by kernel_rfl) Wh.N1 ae3
def Lc:iq:=⟨196,[.v r_,.v I6],[.v I6],Wh.Gz,Wh.SW⟩
def C_q127:Cx:=⟨cr,[IB.entry],false,Gl⟩
theorem e_q127:EV C_q127 lg Tryz.f196 [.v r_,.v I6] [.v I6] Wh.Gz:=by intro xs;kernel_rfl
theorem ae5:CO Lc:=con_ok (Ls:=[]) mixed (ct _ _) (WC _ cx) Tryz.func196 loopsL_nil boxesL_none e_q127
theorem acZ:FK Lc:=fun _ _ h=>h.cons Lc (by kernel_rfl) Wh.ZC ae5
def LQ:iq:=⟨339,[.v nW,.v I6],[.v I6],Wh.G0,Wh.T6⟩
def C_q175:Cx:=⟨cr,[IB.entry],false,Gl⟩
theorem e_q175:EV C_q175 lg Tryz.f339 [.v nW,.v I6] [.v I6] Wh.G0:=by intro xs;kernel_rfl
theorem afQ:CO LQ:=con_ok (Ls:=[]) mixed (ct _ _) (WC _ cx) Tryz.func339 loopsL_nil boxesL_none e_q175
theorem ady:FK LQ:=fun _ _ h=>h.cons LQ (by kernel_rfl) Wh.T7 afQ
def LB:iq:=⟨279,[.v (.lst nW),.v I6],[.v I6],Wh.GN,Wh.Tz⟩
def VW:Cx:=⟨cr,[LQ.entry],false,Gl⟩
def P3:b8:=kS ⟨[(5,.leaf I6),(1,.leaf I6),(0,.leaf (.lst nW))],[]⟩ [(.ret,⟨[(4,.leaf I6)],[]⟩),((.exit 0),⟨[(1,.leaf I6)],[]⟩)] Wh.TC Wh.E0
def Yc:LT:=[(5,P3)]
theorem ail:∀x,round VW Yc (jo Tryz.f279 0) P3 x=Wh.E0 x:=by intro x;kernel_rfl
theorem e_q157:EV VW Yc Tryz.f279 [.v (.lst nW),.v I6] [.v I6] Wh.GN:=by intro xs;kernel_rfl
theorem afy:CO LB:=con_ok (Ls:=[P3]) mixed (ct _ _) (ady _ cx) Tryz.func279 (loopsC (loopD_ok ail) loopsL_nil) boxesL_none e_q157
theorem adl:FK LB:=fun _ _ h=>h.cons LB (by kernel_rfl) Wh.Z7 afy
def ME:iq:=⟨197,[.v mb,.v I6],[.v I6],Wh.q68,Wh.q68'⟩
def C_q68:Cx:=⟨cr,[LB.entry],false,Gl⟩
theorem e_q68:EV C_q68 lg Tryz.f197 [.v mb,.v I6] [.v I6] Wh.q68:=by intro xs;kernel_rfl
theorem ok_q68:CO ME:=con_ok (Ls:=[]) mixed (ct _ _) (adl _ cx) Tryz.func197 loopsL_nil boxesL_none e_q68
theorem fk_q68:FK ME:=fun _ _ h=>h.cons ME (by kernel_rfl) Wh.q68_v ok_q68
def Ma:iq:=⟨108,[.v xO,.v I6],[.v I6],Wh.q36,Wh.q36'⟩
def C_q36:Cx:=⟨cr,[ME.entry,Lc.entry],false,Gl⟩
theorem e_q36:EV C_q36 lg Tryz.f108 [.v xO,.v I6] [.v I6] Wh.q36:=by intro xs;kernel_rfl
theorem ok_q36:CO Ma:=con_ok (Ls:=[]) mixed (ct _ _) (fk_q68 _ (acZ _ cx)) Tryz.func108 loopsL_nil boxesL_none e_q36
theorem fk_q36:FK Ma:=fun _ _ h=>h.cons Ma (by kernel_rfl) Wh.q36_v ok_q36
def Mz:iq:=⟨29,[.v nc,.v I6],[.v I6],Wh.q63,Wh.q63'⟩
def C_q63:Cx:=⟨cr,[Ma.entry],false,Gl⟩
theorem e_q63:EV C_q63 lg Tryz.f29 [.v nc,.v I6] [.v I6] Wh.q63:=by intro xs;kernel_rfl
theorem ok_q63:CO Mz:=con_ok (Ls:=[]) mixed (ct _ _) (fk_q36 _ cx) Tryz.func29 loopsL_nil boxesL_none e_q63
theorem fk_q63:FK Mz:=fun _ _ h=>h.cons Mz (by kernel_rfl) Wh.UL ok_q63
def L_:iq:=⟨123,[.v (.lst nc),.v I6],[.v I6],Wh.q35,Wh.q35'⟩
def C_q35:Cx:=⟨cr,[Mz.entry],false,Gl⟩
def P2:b8:=kS ⟨[(5,.leaf I6),(1,.leaf I6),(0,.leaf (.lst nc))],[]⟩ [(.ret,⟨[(4,.leaf I6)],[]⟩),((.exit 0),⟨[(1,.leaf I6)],[]⟩)] Wh.aaC Wh.DY
def Yx:LT:=[(5,P2)]
theorem aik:∀x,round C_q35 Yx (jo Tryz.f123 0) P2 x=Wh.DY x:=by intro x;kernel_rfl
theorem e_q35:EV C_q35 Yx Tryz.f123 [.v (.lst nc),.v I6] [.v I6] Wh.q35:=by intro xs;kernel_rfl
theorem ok_q35:CO L_:=con_ok (Ls:=[P2]) mixed (ct _ _) (fk_q63 _ cx) Tryz.func123 (loopsC (loopD_ok aik) loopsL_nil) boxesL_none e_q35
theorem fk_q35:FK L_:=fun _ _ h=>h.cons L_ (by kernel_rfl) Wh.q35_v ok_q35
def MB:iq:=⟨228,[.v pg,.v I6],[.v I6],Wh.q65,Wh.q65'⟩
def C_q65:Cx:=⟨cr,[],false,Gl⟩
theorem e_q65:EV C_q65 lg Tryz.f228 [.v pg,.v I6] [.v I6] Wh.q65:=by intro xs;kernel_rfl
theorem ok_q65:CO MB:=con_ok (Ls:=[]) mixed (ct _ _) cx Tryz.func228 loopsL_nil boxesL_none e_q65
theorem fk_q65:FK MB:=fun _ _ h=>h.cons MB (by kernel_rfl) Wh.UM ok_q65
def Mb:iq:=⟨124,[.v (.lst pg),.v I6],[.v I6],Wh.q37,Wh.q37'⟩
def C_q37:Cx:=⟨cr,[MB.entry],false,Gl⟩
def P5:b8:=kS ⟨[(5,.leaf I6),(1,.leaf I6),(0,.leaf (.lst pg))],[]⟩ [(.ret,⟨[(4,.leaf I6)],[]⟩),((.exit 0),⟨[(1,.leaf I6)],[]⟩)] Wh.Un Wh.Fg
def Yy:LT:=[(5,P5)]
theorem ain:∀x,round C_q37 Yy (jo Tryz.f124 0) P5 x=Wh.Fg x:=by intro x;kernel_rfl
theorem e_q37:EV C_q37 Yy Tryz.f124 [.v (.lst pg),.v I6] [.v I6] Wh.q37:=by intro xs;kernel_rfl
theorem ok_q37:CO Mb:=con_ok (Ls:=[P5]) mixed (ct _ _) (fk_q65 _ cx) Tryz.func124 (loopsC (loopD_ok ain) loopsL_nil) boxesL_none e_q37
theorem fk_q37:FK Mb:=fun _ _ h=>h.cons Mb (by kernel_rfl) Wh.q37_v ok_q37
def M_:iq:=⟨41,[.v fT,.v I6],[.v I6],Wh.q98,Wh.q98'⟩
def C_q98:Cx:=⟨cr,[IZ.entry,Mb.entry,L_.entry,MD.entry],false,Gl⟩
theorem e_q98:EV C_q98 lg Tryz.f41 [.v fT,.v I6] [.v I6] Wh.q98:=by intro xs;kernel_rfl
theorem ok_q98:CO M_:=con_ok (Ls:=[]) mixed (ct _ _) (WZ _ (fk_q37 _ (fk_q35 _ (fk_q67 _ cx)))) Tryz.func41 loopsL_nil boxesL_none e_q98
theorem fk_q98:FK M_:=fun _ _ h=>h.cons M_ (by kernel_rfl) Wh.q98_v ok_q98
def IC:iq:=⟨288,[.v (.lst I6)],[.v (.own I6)],Wh.Dz,Wh.JG⟩
def VL:Cx:=⟨cr,[],false,Gl⟩
def P_:b8:=kS ⟨[(4,.leaf I6),(0,.leaf (.lst I6)),(3,.whole z0 I6)],[(z0,false,.rows I6)]⟩ [((.exit 0),⟨[(3,.whole z0 I6)],[(z0,false,.rows I6)]⟩)] Wh.ZE Wh.ET
def X2:LT:=[(3,P_)]
theorem ais:∀x,round VL X2 (jo Tryz.f288 0) P_ x=Wh.ET x:=by intro x;kernel_rfl
theorem e_q129:EV VL X2 Tryz.f288 [.v (.lst I6)] [.v (.own I6)] Wh.Dz:=by intro xs;kernel_rfl
theorem ae7:CO IC:=con_ok (Ls:=[P_]) mixed (ct _ _) cx Tryz.func288 (loopsC (loopD_ok ais) loopsL_nil) boxesL_none e_q129
theorem WD:FK IC:=fun _ _ h=>h.cons IC (by kernel_rfl) Wh.N2 ae7
def Lg:iq:=⟨209,[.v r_],[.v (.pair I6 (.pair I6 (.pair (.own I6) (.pair (.own I6) .unit))))],Wh.GB,Wh.S1⟩
def C_q131:Cx:=⟨cr,[IC.entry],false,Gl⟩
theorem e_q131:EV C_q131 lg Tryz.f209 [.v r_] [.v (.pair I6 (.pair I6 (.pair (.own I6) (.pair (.own I6) .unit))))] Wh.GB:=by intro xs;kernel_rfl
theorem ae9:CO Lg:=con_ok (Ls:=[]) mixed (ct _ _) (WD _ cx) Tryz.func209 loopsL_nil boxesL_none e_q131
theorem ac2:FK Lg:=fun _ _ h=>h.cons Lg (by kernel_rfl) Wh.ZH ae9
def LR:iq:=⟨344,[.v nW],[.v (.pair (.own I6) Eg)],Wh.G1,Wh.T8⟩
def C_q176:Cx:=⟨cr,[IC.entry],false,Gl⟩
theorem e_q176:EV C_q176 lg Tryz.f344 [.v nW] [.v (.pair (.own I6) Eg)] Wh.G1:=by intro xs;kernel_rfl
theorem afR:CO LR:=con_ok (Ls:=[]) mixed (ct _ _) (WD _ cx) Tryz.func344 loopsL_nil boxesL_none e_q176
theorem adz:FK LR:=fun _ _ h=>h.cons LR (by kernel_rfl) Wh.aar afR
def LD:iq:=⟨289,[.v (.lst nW)],[.v (.own nW)],Wh.GP,Wh.TE⟩
def VX:Cx:=⟨cr,[LR.entry],false,Gl⟩
def P8:b8:=kS ⟨[(4,.leaf I6),(0,.leaf (.lst nW)),(3,.whole z0 nW)],[(z0,false,.rows nW)]⟩ [((.exit 0),⟨[(3,.whole z0 nW)],[(z0,false,.rows nW)]⟩)] Wh.Z9 Wh.E3
def Yd:LT:=[(3,P8)]
theorem aiq:∀x,round VX Yd (jo Tryz.f289 0) P8 x=Wh.E3 x:=by intro x;kernel_rfl
theorem e_q159:EV VX Yd Tryz.f289 [.v (.lst nW)] [.v (.own nW)] Wh.GP:=by intro xs;kernel_rfl
theorem afA:CO LD:=con_ok (Ls:=[P8]) mixed (ct _ _) (adz _ cx) Tryz.func289 (loopsC (loopD_ok aiq) loopsL_nil) boxesL_none e_q159
theorem adn:FK LD:=fun _ _ h=>h.cons LD (by kernel_rfl) Wh.Z_ afA
def MN:iq:=⟨210,[.v mb],[.v (.pair I6 (.pair I6 (.pair (.own nW) .unit)))],Wh.q75,Wh.q75'⟩
def C_q75:Cx:=⟨cr,[LD.entry],false,Gl⟩
theorem e_q75:EV C_q75 lg Tryz.f210 [.v mb] [.v (.pair I6 (.pair I6 (.pair (.own nW) .unit)))] Wh.q75:=by intro xs;kernel_rfl
theorem ok_q75:CO MN:=con_ok (Ls:=[]) mixed (ct _ _) (adn _ cx) Tryz.func210 loopsL_nil boxesL_none e_q75
theorem fk_q75:FK MN:=fun _ _ h=>h.cons MN (by kernel_rfl) Wh.q75_v ok_q75
def Mf:iq:=⟨115,[.v xO],[.v (.pair (.pair I6 (.pair I6 (.pair (.own I6) (.pair (.own I6) .unit)))) (.pair (.pair I6 (.pair I6 (.pair (.own nW) .unit))) .unit))],Wh.q40,Wh.q40'⟩
def C_q40:Cx:=⟨cr,[MN.entry,Lg.entry],false,Gl⟩
theorem e_q40:EV C_q40 lg Tryz.f115 [.v xO] [.v (.pair (.pair I6 (.pair I6 (.pair (.own I6) (.pair (.own I6) .unit)))) (.pair (.pair I6 (.pair I6 (.pair (.own nW) .unit))) .unit))] Wh.q40:=by intro xs;kernel_rfl
theorem ok_q40:CO Mf:=con_ok (Ls:=[]) mixed (ct _ _) (fk_q75 _ (ac2 _ cx)) Tryz.func115 loopsL_nil boxesL_none e_q40
theorem fk_q40:FK Mf:=fun _ _ h=>h.cons Mf (by kernel_rfl) Wh.q40_v ok_q40
def MI:iq:=⟨32,[.v nc],[.v (.pair I6 (.pair I6 (.pair I6 (.pair .str (.pair I6 (.pair (.pair (.pair I6 (.pair I6 (.pair (.own I6) (.pair (.own I6) .unit)))) (.pair (.pair I6 (.pair I6 (.pair (.own nW) .unit))) .unit)) .unit))))))],Wh.q70,Wh.q70'⟩
def C_q70:Cx:=⟨cr,[Mf.entry],false,Gl⟩
theorem e_q70:EV C_q70 lg Tryz.f32 [.v nc] [.v (.pair I6 (.pair I6 (.pair I6 (.pair .str (.pair I6 (.pair (.pair (.pair I6 (.pair I6 (.pair (.own I6) (.pair (.own I6) .unit)))) (.pair (.pair I6 (.pair I6 (.pair (.own nW) .unit))) .unit)) .unit))))))] Wh.q70:=by intro xs;kernel_rfl
theorem ok_q70:CO MI:=con_ok (Ls:=[]) mixed (ct _ _) (fk_q40 _ cx) Tryz.func32 loopsL_nil boxesL_none e_q70
theorem fk_q70:FK MI:=fun _ _ h=>h.cons MI (by kernel_rfl) Wh.q70_v ok_q70
def Md:iq:=⟨127,[.v (.lst nc)],[.v (.own nc)],Wh.q39,Wh.q39'⟩
def C_q39:Cx:=⟨cr,[MI.entry],false,Gl⟩
def P7:b8:=kS ⟨[(4,.leaf I6),(0,.leaf (.lst nc)),(3,.whole z0 nc)],[(z0,false,.rows nc)]⟩ [((.exit 0),⟨[(3,.whole z0 nc)],[(z0,false,.rows nc)]⟩)] Wh.aaE Wh.Fi
def YA:LT:=[(3,P7)]
theorem aip:∀x,round C_q39 YA (jo Tryz.f127 0) P7 x=Wh.Fi x:=by intro x;kernel_rfl
theorem e_q39:EV C_q39 YA Tryz.f127 [.v (.lst nc)] [.v (.own nc)] Wh.q39:=by intro xs;kernel_rfl
theorem ok_q39:CO Md:=con_ok (Ls:=[P7]) mixed (ct _ _) (fk_q70 _ cx) Tryz.func127 (loopsC (loopD_ok aip) loopsL_nil) boxesL_none e_q39
theorem fk_q39:FK Md:=fun _ _ h=>h.cons Md (by kernel_rfl) Wh.q39_v ok_q39
def MK:iq:=⟨231,[.v pg],[.v pg],Wh.q72,Wh.q72'⟩
def C_q72:Cx:=⟨cr,[],false,Gl⟩
theorem e_q72:EV C_q72 lg Tryz.f231 [.v pg] [.v pg] Wh.q72:=by intro xs;kernel_rfl
theorem ok_q72:CO MK:=con_ok (Ls:=[]) mixed (ct _ _) cx Tryz.func231 loopsL_nil boxesL_none e_q72
theorem fk_q72:FK MK:=fun _ _ h=>h.cons MK (by kernel_rfl) Wh.q72_v ok_q72
def Mg:iq:=⟨128,[.v (.lst pg)],[.v (.own pg)],Wh.q41,Wh.q41'⟩
def C_q41:Cx:=⟨cr,[MK.entry],false,Gl⟩
def Qb:b8:=kS ⟨[(4,.leaf I6),(0,.leaf (.lst pg)),(3,.whole z0 pg)],[(z0,false,.rows pg)]⟩ [((.exit 0),⟨[(3,.whole z0 pg)],[(z0,false,.rows pg)]⟩)] Wh.aaG Wh.Fj
def YB:LT:=[(3,Qb)]
theorem aiu:∀x,round C_q41 YB (jo Tryz.f128 0) Qb x=Wh.Fj x:=by intro x;kernel_rfl
theorem e_q41:EV C_q41 YB Tryz.f128 [.v (.lst pg)] [.v (.own pg)] Wh.q41:=by intro xs;kernel_rfl
theorem ok_q41:CO Mg:=con_ok (Ls:=[Qb]) mixed (ct _ _) (fk_q72 _ cx) Tryz.func128 (loopsC (loopD_ok aiu) loopsL_nil) boxesL_none e_q41
theorem fk_q41:FK Mg:=fun _ _ h=>h.cons Mg (by kernel_rfl) Wh.q41_v ok_q41
def KR:iq:=⟨43,[.v fT],[.v (.pair (.pair .bool (.pair I6 (.pair .str (.pair (.pair I6 (.pair (.own an) .unit)) (.pair (.pair (.own ng) (.pair I6 .unit)) (.pair (.own nI) (.pair (.own r5) .unit))))))) (.pair (.own nc) (.pair (.own pg) (.pair (.own an) .unit))))],Wh.Dp,Wh.Sp⟩
def C_q102:Cx:=⟨cr,[Iy.entry,Mg.entry,Md.entry,MM.entry],false,Gl⟩
theorem e_q102:EV C_q102 lg Tryz.f43 [.v fT] [.v (.pair (.pair .bool (.pair I6 (.pair .str (.pair (.pair I6 (.pair (.own an) .unit)) (.pair (.pair (.own ng) (.pair I6 .unit)) (.pair (.own nI) (.pair (.own r5) .unit))))))) (.pair (.own nc) (.pair (.own pg) (.pair (.own an) .unit))))] Wh.Dp:=by intro xs;kernel_rfl
theorem aeH:CO KR:=con_ok (Ls:=[]) mixed (ct _ _) (Wz _ (fk_q41 _ (fk_q39 _ (fk_q74 _ cx)))) Tryz.func43 loopsL_nil boxesL_none e_q102
theorem acH:FK KR:=fun _ _ h=>h.cons KR (by kernel_rfl) Wh.Za aeH
def K0:iq:=⟨230,[.v fT],[.v .bool],Wh.Gm,Wh.Sz⟩
def VG:Cx:=⟨cr,[zH.entry,HG.entry,HE.entry],false,Gl⟩
def QE:b8:=kS ⟨[(7,.leaf I6),(1,.aZ z0 []),(5,.aZ z1 [])],[(z0,false,.var fT (.leaf fT)),(z1,false,.var fk (.pair (.leaf I6) (.pair (.whole z2 an) (.leaf .unit)))),(z2,false,.rows an)]⟩ [(.ret,⟨[(2,.leaf .bool)],[]⟩),((.exit 0),⟨[(1,.aZ z0 []),(5,.aZ z1 [])],[(z0,false,.var fT (.leaf fT)),(z1,false,.var fk (.pair (.leaf I6) (.pair (.whole z2 an) (.leaf .unit)))),(z2,false,.rows an)]⟩)] Wh.Zl Wh.Dv
def XV:LT:=[(4,QE)]
theorem aiX:∀x,round VG XV (jo Tryz.f230 0) QE x=Wh.Dv x:=by intro x;kernel_rfl
theorem e_q110:EV VG XV Tryz.f230 [.v fT] [.v .bool] Wh.Gm:=by intro xs;kernel_rfl
theorem aeP:CO K0:=con_ok (Ls:=[QE]) mixed (ct _ _) (Al _ (Rp _ (Rn _ cx))) Tryz.func230 (loopsC (loopD_ok aiX) loopsL_nil) boxesL_none e_q110
theorem acP:FK K0:=fun _ _ h=>h.cons K0 (by kernel_rfl) Wh.Zm aeP
def MU:iq:=⟨126,[.v fT],[.v .bool],Wh.q81,Wh.q81'⟩
def Pb:Cx:=⟨cr,[K0.entry,FP.entry],false,Gl⟩
def QF:b8:=kS ⟨[(3,.leaf I6),(1,.aZ z0 [])],[(z0,false,.var fT (.leaf fT))]⟩ [(.ret,⟨[(2,.leaf .bool)],[]⟩),((.exit 0),⟨[(1,.aZ z0 [])],[(z0,false,.var fT (.leaf fT))]⟩)] Wh.aa4 Wh.D7
def QG:b8:=kS ⟨[(4,.leaf I6),(1,.aZ z0 [])],[(z0,false,.var fT (.leaf fT))]⟩ [(.ret,⟨[(2,.leaf .bool)],[]⟩),((.exit 2),⟨[(1,.aZ z0 [])],[(z0,false,.var fT (.leaf fT))]⟩)] Wh.aa5 Wh.D8
def R3:LT:=[(2,QF),(7,QG)]
theorem aiY:∀x,round Pb R3 (jo Tryz.f126 0) QF x=Wh.D7 x:=by intro x;kernel_rfl
theorem aiZ:∀x,round Pb R3 (jo Tryz.f126 1) QG x=Wh.D8 x:=by intro x;kernel_rfl
theorem e_q81:EV Pb R3 Tryz.f126 [.v fT] [.v .bool] Wh.q81:=by intro xs;kernel_rfl
theorem ok_q81:CO MU:=con_ok (Ls:=[QF,QG]) mixed (ct _ _) (acP _ (Np _ cx)) Tryz.func126 (loopsC (loopD_ok aiY) (loopsC (loopD_ok aiZ) loopsL_nil)) boxesL_none e_q81
theorem fk_q81:FK MU:=fun _ _ h=>h.cons MU (by kernel_rfl) Wh.q81_v ok_q81
def KY:iq:=⟨198,[.v nc],[.v .bool],Wh.Gk,Wh.Sy⟩
def C_q109:Cx:=⟨cr,[],false,Gl⟩
theorem e_q109:EV C_q109 lg Tryz.f198 [.v nc] [.v .bool] Wh.Gk:=by intro xs;kernel_rfl
theorem aeO:CO KY:=con_ok (Ls:=[]) mixed (ct _ _) cx Tryz.func198 loopsL_nil boxesL_none e_q109
theorem acO:FK KY:=fun _ _ h=>h.cons KY (by kernel_rfl) Wh.Zk aeO
def Lj:iq:=⟨280,[.v r_],[.v .bool],Wh.Bg,Wh.JH⟩
def VN:Cx:=⟨cr,[Et.entry,zH.entry],false,Gl⟩
def Qo:b8:=kS ⟨[(3,.leaf I6),(1,.aZ z0 [])],[(z0,false,.var r_ (.leaf r_))]⟩ [(.ret,⟨[(2,.leaf .bool)],[]⟩),((.exit 0),⟨[(1,.aZ z0 [])],[(z0,false,.var r_ (.leaf r_))]⟩)] Wh.ZL Wh.BJ
def X4:LT:=[(4,Qo)]
theorem aiH:∀x,round VN X4 (jo Tryz.f280 0) Qo x=Wh.BJ x:=by intro x;kernel_rfl
theorem e_q135:EV VN X4 Tryz.f280 [.v r_] [.v .bool] Wh.Bg:=by intro xs;kernel_rfl
theorem afc:CO Lj:=con_ok (Ls:=[Qo]) mixed (ct _ _) (Jf _ (Al _ cx)) Tryz.func280 (loopsC (loopD_ok aiH) loopsL_nil) boxesL_none e_q135
theorem ac5:FK Lj:=fun _ _ h=>h.cons Lj (by kernel_rfl) Wh.q135_v afc
def LG:iq:=⟨340,[.v (.lst I6),.v I6],[.v .bool],Wh.E6,Wh.JO⟩
def VZ:Cx:=⟨cr,[zH.entry],false,Gl⟩
def Qs:b8:=kS ⟨[(5,.leaf I6),(0,.leaf (.lst I6)),(1,.leaf I6)],[]⟩ [(.ret,⟨[(4,.leaf .bool)],[]⟩),((.exit 0),⟨[(1,.leaf I6)],[]⟩)] Wh.aae Wh.CN
def Yg:LT:=[(2,Qs)]
theorem aiL:∀x,round VZ Yg (jo Tryz.f340 0) Qs x=Wh.CN x:=by intro x;kernel_rfl
theorem e_q163:EV VZ Yg Tryz.f340 [.v (.lst I6),.v I6] [.v .bool] Wh.E6:=by intro xs;kernel_rfl
theorem afE:CO LG:=con_ok (Ls:=[Qs]) mixed (ct _ _) (Al _ cx) Tryz.func340 (loopsC (loopD_ok aiL) loopsL_nil) boxesL_none e_q163
theorem ado:FK LG:=fun _ _ h=>h.cons LG (by kernel_rfl) Wh.q163_v afE
def LL:iq:=⟨341,[.v (.lst I6),.v I6],[.v .bool],Wh.Fa,Wh.JQ⟩
def V2:Cx:=⟨cr,[],false,Gl⟩
def QU:b8:=kS ⟨[(5,.leaf I6),(1,.leaf I6),(0,.leaf (.lst I6))],[]⟩ [(.ret,⟨[(4,.leaf .bool)],[]⟩),((.exit 0),⟨[],[]⟩)] Wh.aak Wh.Fb
def Yj:LT:=[(2,QU)]
theorem ai_:∀x,round V2 Yj (jo Tryz.f341 0) QU x=Wh.Fb x:=by intro x;kernel_rfl
theorem e_q169:EV V2 Yj Tryz.f341 [.v (.lst I6),.v I6] [.v .bool] Wh.Fa:=by intro xs;kernel_rfl
theorem afK:CO LL:=con_ok (Ls:=[QU]) mixed (ct _ _) cx Tryz.func341 (loopsC (loopD_ok ai_) loopsL_nil) boxesL_none e_q169
theorem adt:FK LL:=fun _ _ h=>h.cons LL (by kernel_rfl) Wh.q169_v afK
def MR:iq:=⟨281,[.v mb],[.v .bool],Wh.Ce,Wh.J3⟩
def KL:Cx:=⟨cr,[LL.entry,LG.entry,zH.entry],false,Gl⟩
def Qv:b8:=kS ⟨[(3,.leaf I6),(1,.aZ z0 [])],[(z0,false,.var mb (.leaf mb))]⟩ [(.ret,⟨[(2,.leaf .bool)],[]⟩),((.exit 0),⟨[(1,.aZ z0 [])],[(z0,false,.var mb (.leaf mb))]⟩)] Wh.aa1 Wh.D6
def Qw:b8:=kS ⟨[(5,.leaf I6),(1,.aZ z0 [])],[(z0,false,.var mb (.leaf mb))]⟩ [(.ret,⟨[(2,.leaf .bool)],[]⟩),((.exit 2),⟨[],[]⟩)] Wh.aa2 Wh.Ft
def Qx:b8:=kS ⟨[(6,.leaf I6),(5,.leaf I6),(1,.aZ z0 [])],[(z0,false,.var mb (.leaf mb))]⟩ [(.ret,⟨[(2,.leaf .bool)],[]⟩),((.exit 4),⟨[(1,.aZ z0 []),(5,.leaf I6)],[(z0,false,.var mb (.leaf mb))]⟩)] Wh.aa3 Wh.Fu
def NM:LT:=[(4,Qv),(10,Qw),(13,Qx)]
theorem aiO:∀x,round KL NM (jo Tryz.f281 0) Qv x=Wh.D6 x:=by intro x;kernel_rfl
theorem aiP:∀x,round KL NM (jo Tryz.f281 1) Qw x=Wh.Ft x:=by intro x;kernel_rfl
theorem aiQ:∀x,round KL NM (jo Tryz.f281 2) Qx x=Wh.Fu x:=by intro x;kernel_rfl
theorem e_q79:EV KL NM Tryz.f281 [.v mb] [.v .bool] Wh.Ce:=by intro xs;kernel_rfl
theorem ok_q79:CO MR:=con_ok (Ls:=[Qv,Qw,Qx]) mixed (ct _ _) (adt _ (ado _ (Al _ cx))) Tryz.func281 (loopsC (loopD_ok aiO) (loopsC (loopD_ok aiP) (loopsC (loopD_ok aiQ) loopsL_nil))) boxesL_none e_q79
theorem fk_q79:FK MR:=fun _ _ h=>h.cons MR (by kernel_rfl) Wh.q79_v ok_q79
def IM:iq:=⟨199,[.v xO],[.v .bool],Wh.DK,Wh.Of⟩
def C_q162:Cx:=⟨cr,[Et.entry,MR.entry,Lj.entry],false,Gl⟩
theorem e_q162:EV C_q162 lg Tryz.f199 [.v xO] [.v .bool] Wh.DK:=by intro xs;kernel_rfl
theorem afD:CO IM:=con_ok (Ls:=[]) mixed (ct _ _) (Jf _ (fk_q79 _ (ac5 _ cx))) Tryz.func199 loopsL_nil boxesL_none e_q162
theorem WN:FK IM:=fun _ _ h=>h.cons IM (by kernel_rfl) Wh.TL afD
def KT:iq:=⟨201,[.v xO],[.v .bool],Wh.CC,Wh.JA⟩
def C_q104:Cx:=⟨cr,[Et.entry,IM.entry],false,Gl⟩
theorem e_q104:EV C_q104 lg Tryz.f201 [.v xO] [.v .bool] Wh.CC:=by intro xs;kernel_rfl
theorem aeJ:CO KT:=con_ok (Ls:=[]) mixed (ct _ _) (Jf _ (WN _ cx)) Tryz.func201 loopsL_nil boxesL_none e_q104
theorem acJ:FK KT:=fun _ _ h=>h.cons KT (by kernel_rfl) Wh.Zc aeJ
def MP:iq:=⟨109,[.v nc],[.v .bool],Wh.q77,Wh.G_⟩
def C_q77:Cx:=⟨cr,[KT.entry,ID.entry,IM.entry,KY.entry,zH.entry],false,Gl⟩
theorem e_q77:EV C_q77 lg Tryz.f109 [.v nc] [.v .bool] Wh.q77:=by intro xs;kernel_rfl
theorem ok_q77:CO MP:=con_ok (Ls:=[]) mixed (ct _ _) (acJ _ (WE _ (WN _ (acO _ (Al _ cx))))) Tryz.func109 loopsL_nil boxesL_none e_q77
theorem fk_q77:FK MP:=fun _ _ h=>h.cons MP (by kernel_rfl) Wh.q77_v ok_q77
def KV:iq:=⟨42,[.v fT],[.v .bool],Wh.EO,Wh.Sq⟩
def O5:Cx:=⟨cr,[zH.entry,MP.entry,MU.entry,MQ.entry],false,Gl⟩
def Qy:b8:=kS ⟨[(3,.leaf I6),(1,.aZ z0 [])],[(z0,false,.var fT (.leaf fT))]⟩ [(.ret,⟨[(2,.leaf .bool)],[]⟩),((.exit 0),⟨[(1,.aZ z0 [])],[(z0,false,.var fT (.leaf fT))]⟩)] Wh.Ze Wh.Dq
def Qz:b8:=kS ⟨[(4,.leaf I6),(1,.aZ z0 [])],[(z0,false,.var fT (.leaf fT))]⟩ [(.ret,⟨[(2,.leaf .bool)],[]⟩),((.exit 2),⟨[],[]⟩)] Wh.Zf Wh.Dr
def RW:LT:=[(4,Qy),(9,Qz)]
theorem aiR:∀x,round O5 RW (jo Tryz.f42 0) Qy x=Wh.Dq x:=by intro x;kernel_rfl
theorem aiS:∀x,round O5 RW (jo Tryz.f42 1) Qz x=Wh.Dr x:=by intro x;kernel_rfl
theorem e_q106:EV O5 RW Tryz.f42 [.v fT] [.v .bool] Wh.EO:=by intro xs;kernel_rfl
theorem aeL:CO KV:=con_ok (Ls:=[Qy,Qz]) mixed (ct _ _) (Al _ (fk_q77 _ (fk_q81 _ (fk_q78 _ cx)))) Tryz.func42 (loopsC (loopD_ok aiR) (loopsC (loopD_ok aiS) loopsL_nil)) boxesL_none e_q106
theorem acL:FK KV:=fun _ _ h=>h.cons KV (by kernel_rfl) Wh.Zg aeL
def Lx:iq:=⟨211,[.v xO],[.v .bool],Wh.GI,Wh.Tu⟩
def C_q153:Cx:=⟨cr,[],false,Gl⟩
theorem e_q153:EV C_q153 lg Tryz.f211 [.v xO] [.v .bool] Wh.GI:=by intro xs;kernel_rfl
theorem afu:CO Lx:=con_ok (Ls:=[]) mixed (ct _ _) cx Tryz.func211 loopsL_nil boxesL_none e_q153
theorem adh:FK Lx:=fun _ _ h=>h.cons Lx (by kernel_rfl) Wh.Z3 afu
def K5:iq:=⟨290,[.v r_],[.v .bool],Wh.A2,Wh.JE⟩
def VJ:Cx:=⟨cr,[FQ.entry,zY.entry],false,Gl⟩
def Pm:b8:=kS ⟨[(50,.leaf I6),(1,.aZ z0 []),(48,.leaf (.lst I6)),(49,.leaf I6)],[(z0,false,.var r_ (.leaf r_))]⟩ [(.ret,⟨[(2,.leaf .bool)],[]⟩),((.exit 0),⟨[],[]⟩)] Wh.Zw Wh.BI
def XY:LT:=[(6,Pm)]
theorem ahK:∀x,round VJ XY (jo Tryz.f290 0) Pm x=Wh.BI x:=by intro x;kernel_rfl
theorem e_q117:EV VJ XY Tryz.f290 [.v r_] [.v .bool] Wh.A2:=by intro xs;kernel_rfl
theorem aeV:CO K5:=con_ok (Ls:=[Pm]) mixed (ct _ _) (Nq _ (AP _ cx)) Tryz.func290 (loopsC (loopD_ok ahK) loopsL_nil) boxesL_none e_q117
theorem acS:FK K5:=fun _ _ h=>h.cons K5 (by kernel_rfl) Wh.q117_v aeV
def Lv:iq:=⟨345,[.v (.lst I6),.v I6],[.v .bool],Wh.EZ,Wh.JL⟩
def VT:Cx:=⟨cr,[zY.entry],false,Gl⟩
def Pt:b8:=kS ⟨[(9,.leaf I6),(0,.leaf (.lst I6)),(1,.leaf I6),(7,.leaf (.lst I6)),(8,.leaf I6)],[]⟩ [(.ret,⟨[(4,.leaf .bool)],[]⟩),((.exit 0),⟨[(1,.leaf I6)],[]⟩)] Wh.ZY Wh.CL
def X_:LT:=[(2,Pt)]
theorem ahP:∀x,round VT X_ (jo Tryz.f345 0) Pt x=Wh.CL x:=by intro x;kernel_rfl
theorem e_q150:EV VT X_ Tryz.f345 [.v (.lst I6),.v I6] [.v .bool] Wh.EZ:=by intro xs;kernel_rfl
theorem afr:CO Lv:=con_ok (Ls:=[Pt]) mixed (ct _ _) (AP _ cx) Tryz.func345 (loopsC (loopD_ok ahP) loopsL_nil) boxesL_none e_q150
theorem adf:FK Lv:=fun _ _ h=>h.cons Lv (by kernel_rfl) Wh.q150_v afr
def LO:iq:=⟨346,[.v (.lst I6)],[.v I3],Wh.GX,Wh.JT⟩
def V6:Cx:=⟨cr,[],false,Gl⟩
def PG:b8:=kS ⟨[(8,.leaf I6),(3,.leaf I3),(6,.leaf (.lst I6)),(7,.leaf I6)],[]⟩ [((.exit 0),⟨[(3,.leaf I3)],[]⟩)] Wh.aaq Wh.GY
def Yn:LT:=[(3,PG)]
theorem ah3:∀x,round V6 Yn (jo Tryz.f346 0) PG x=Wh.GY x:=by intro x;kernel_rfl
theorem e_q173:EV V6 Yn Tryz.f346 [.v (.lst I6)] [.v I3] Wh.GX:=by intro xs;kernel_rfl
theorem afO:CO LO:=con_ok (Ls:=[PG]) mixed (ct _ _) cx Tryz.func346 (loopsC (loopD_ok ah3) loopsL_nil) boxesL_none e_q173
theorem adw:FK LO:=fun _ _ h=>h.cons LO (by kernel_rfl) Wh.q173_v afO
def Mo:iq:=⟨291,[.v mb],[.v .bool],Wh.Cb,Wh.JY⟩
def O_:Cx:=⟨cr,[LO.entry,Lv.entry,zY.entry],false,Gl⟩
def Pw:b8:=kS ⟨[(21,.leaf I6),(3,.leaf I3),(1,.aZ z0 []),(19,.leaf (.lst nW)),(20,.leaf I6)],[(z0,false,.var mb (.leaf mb))]⟩ [(.ret,⟨[(2,.leaf .bool)],[]⟩),((.exit 0),⟨[(3,.leaf I3),(1,.aZ z0 [])],[(z0,false,.var mb (.leaf mb))]⟩)] Wh.aaL Wh.Cc
def Px:b8:=kS ⟨[(77,.leaf I6),(3,.leaf I3),(75,.leaf (.lst nW)),(76,.leaf I6)],[]⟩ [(.ret,⟨[(2,.leaf .bool)],[]⟩),((.exit 2),⟨[],[]⟩)] Wh.aaM Wh.Fl
def R1:LT:=[(5,Pw),(12,Px)]
theorem ahS:∀x,round O_ R1 (jo Tryz.f291 0) Pw x=Wh.Cc x:=by intro x;kernel_rfl
theorem ahT:∀x,round O_ R1 (jo Tryz.f291 1) Px x=Wh.Fl x:=by intro x;kernel_rfl
theorem e_q51:EV O_ R1 Tryz.f291 [.v mb] [.v .bool] Wh.Cb:=by intro xs;kernel_rfl
theorem ok_q51:CO Mo:=con_ok (Ls:=[Pw,Px]) mixed (ct _ _) (adw _ (adf _ (AP _ cx))) Tryz.func291 (loopsC (loopD_ok ahS) (loopsC (loopD_ok ahT) loopsL_nil)) boxesL_none e_q51
theorem fk_q51:FK Mo:=fun _ _ h=>h.cons Mo (by kernel_rfl) Wh.q51_v ok_q51
def Lu:iq:=⟨212,[.v xO],[.v .bool],Wh.EY,Wh.Tq⟩
def C_q149:Cx:=⟨cr,[FQ.entry,Mo.entry,K5.entry],false,Gl⟩
theorem e_q149:EV C_q149 lg Tryz.f212 [.v xO] [.v .bool] Wh.EY:=by intro xs;kernel_rfl
theorem afq:CO Lu:=con_ok (Ls:=[]) mixed (ct _ _) (Nq _ (fk_q51 _ (acS _ cx))) Tryz.func212 loopsL_nil boxesL_none e_q149
theorem ade:FK Lu:=fun _ _ h=>h.cons Lu (by kernel_rfl) Wh.ZX afq
def LW:iq:=⟨312,[.v mb,.v I6],[.v .str,.v .bool],Wh.q21,Wh.JW⟩
def C_q21:Cx:=⟨cr,[],false,Gl⟩
def Py:b8:=kS ⟨[(11,.leaf I6),(1,.leaf I6),(9,.leaf (.lst nW)),(10,.leaf I6)],[]⟩ [(.ret,⟨[(4,.leaf .str),(5,.leaf .bool)],[]⟩),((.exit 0),⟨[],[]⟩)] Wh.aau Wh.Ff
def Yp:LT:=[(2,Py)]
theorem ahU:∀x,round C_q21 Yp (jo Tryz.f312 0) Py x=Wh.Ff x:=by intro x;kernel_rfl
theorem e_q21:EV C_q21 Yp Tryz.f312 [.v mb,.v I6] [.v .str,.v .bool] Wh.q21:=by intro xs;kernel_rfl
theorem ok_q21:CO LW:=con_ok (Ls:=[Py]) mixed (ct _ _) cx Tryz.func312 (loopsC (loopD_ok ahU) loopsL_nil) boxesL_none e_q21
theorem fk_q21:FK LW:=fun _ _ h=>h.cons LW (by kernel_rfl) Wh.q21_v ok_q21
def M3:iq:=⟨292,[.v mb],[.v I6],Wh.Hf,Wh.q9'⟩
def C_q9:Cx:=⟨cr,[LW.entry],false,Gl⟩
def Pz:b8:=kS ⟨[(3,.leaf I6),(1,.aZ z0 [])],[(z0,false,.var mb (.leaf mb))]⟩ [((.exit 0),⟨[(3,.leaf I6)],[]⟩)] Wh.abg Wh.Fy
def lt_q9:LT:=[(2,Pz)]
theorem ahV:∀x,round C_q9 lt_q9 (jo Tryz.f292 0) Pz x=Wh.Fy x:=by intro x;kernel_rfl
theorem e_q9:EV C_q9 lt_q9 Tryz.f292 [.v mb] [.v I6] Wh.Hf:=by intro xs;kernel_rfl
theorem ok_q9:CO M3:=con_ok (Ls:=[Pz]) mixed (ct _ _) (fk_q21 _ cx) Tryz.func292 (loopsC (loopD_ok ahV) loopsL_nil) boxesL_none e_q9
theorem fk_q9:FK M3:=fun _ _ h=>h.cons M3 (by kernel_rfl) Wh.q9_v ok_q9
def KZ:iq:=⟨214,[.v xO],[.v .bool],Wh.BG,Wh.EP⟩
def C_q11:Cx:=⟨cr,[M3.entry],false,Gl⟩
theorem e_q11:EV C_q11 lg Tryz.f214 [.v xO] [.v .bool] Wh.BG:=by intro xs;kernel_rfl
theorem ok_q11:CO KZ:=con_ok (Ls:=[]) mixed (ct _ _) (fk_q9 _ cx) Tryz.func214 loopsL_nil boxesL_none e_q11
theorem fk_q11:FK KZ:=fun _ _ h=>h.cons KZ (by kernel_rfl) Wh.q11_v ok_q11
def Mm:iq:=⟨116,[.v nc],[.v .bool],Wh.q49,Wh.q49'⟩
def C_q49:Cx:=⟨cr,[KZ.entry,HD.entry,Lu.entry,Lx.entry,zY.entry,HH.entry],false,Gl⟩
theorem e_q49:EV C_q49 lg Tryz.f116 [.v nc] [.v .bool] Wh.q49:=by intro xs;kernel_rfl
theorem ok_q49:CO Mm:=con_ok (Ls:=[]) mixed (ct _ _) (fk_q11 _ (Rm _ (ade _ (adh _ (AP _ (Rq _ cx)))))) Tryz.func116 loopsL_nil boxesL_none e_q49
theorem fk_q49:FK Mm:=fun _ _ h=>h.cons Mm (by kernel_rfl) Wh.q49_v ok_q49
def M1:iq:=⟨44,[.v fT],[.v .bool],Wh.q89,Wh.q89'⟩
def HB:Cx:=⟨cr,[zY.entry,IJ.entry,IX.entry,IP.entry,HH.entry,Mm.entry,Mn.entry],false,Gl⟩
def PA:b8:=kS ⟨[(34,.leaf I6),(1,.aZ z0 []),(32,.leaf (.lst nc)),(33,.leaf I6)],[(z0,false,.var fT (.leaf fT))]⟩ [(.ret,⟨[(2,.leaf .bool)],[]⟩),((.exit 0),⟨[(1,.aZ z0 [])],[(z0,false,.var fT (.leaf fT))]⟩)] Wh.aba Wh.Ea
def PB:b8:=kS ⟨[(60,.leaf I6),(58,.leaf (.lst pg)),(1,.aZ z0 []),(59,.leaf I6)],[(z0,false,.var fT (.leaf fT))]⟩ [(.ret,⟨[(2,.leaf .bool)],[]⟩),((.exit 2),⟨[(1,.aZ z0 [])],[(z0,false,.var fT (.leaf fT))]⟩)] Wh.abb Wh.Eb
def PC:b8:=kS ⟨[(83,.leaf I6),(81,.leaf (.lst an)),(1,.aZ z0 []),(82,.leaf I6)],[(z0,false,.var fT (.leaf fT))]⟩ [(.ret,⟨[(2,.leaf .bool)],[]⟩),((.exit 4),⟨[(1,.aZ z0 [])],[(z0,false,.var fT (.leaf fT))]⟩)] Wh.abc Wh.Ec
def PD:b8:=kS ⟨[(138,.leaf I6),(1,.aZ z0 []),(136,.whole z1 an),(137,.leaf I6)],[(z0,false,.var fT (.leaf fT)),(z1,false,.rows an)]⟩ [(.ret,⟨[(2,.leaf .bool)],[]⟩),((.exit 6),⟨[],[]⟩)] Wh.abd Wh.Ed
def V8:b8:=kS ⟨[(138,.leaf I6),(1,.aZ z0 []),(136,.leaf (.lst an)),(137,.leaf I6)],[(z0,false,.var fT (.leaf fT))]⟩ [(.ret,⟨[(2,.leaf .bool)],[]⟩),((.exit 6),⟨[],[]⟩)] Wh.abe Wh.Ee
def H7:LT:=[(4,PA),(10,PB),(16,PC),(29,PD),(500029,V8)]
theorem ahW:∀x,round HB H7 (jo Tryz.f44 0) PA x=Wh.Ea x:=by intro x;kernel_rfl
theorem ahX:∀x,round HB H7 (jo Tryz.f44 1) PB x=Wh.Eb x:=by intro x;kernel_rfl
theorem ahY:∀x,round HB H7 (jo Tryz.f44 2) PC x=Wh.Ec x:=by intro x;kernel_rfl
theorem ahZ:∀x,round HB H7 (jo Tryz.f44 3) PD x=Wh.Ed x:=by intro x;kernel_rfl
theorem ah0:∀x,round HB H7 (jo Tryz.f44 3) V8 x=Wh.Ee x:=by intro x;kernel_rfl
theorem e_q89:EV HB H7 Tryz.f44 [.v fT] [.v .bool] Wh.q89:=by intro xs;kernel_rfl
theorem ok_q89:CO M1:=con_ok (Ls:=[PA,PB,PC,PD]) mixed (ct _ _) (AP _ (WK _ (WX _ (WQ _ (Rq _ (fk_q49 _ (fk_q50 _ cx))))))) Tryz.func44 (loopsC (loopD_ok ahW) (loopsC (loopD_ok ahX) (loopsC (loopD_ok ahY) (loopsL_two (by kernel_rfl) (loopD_ok ahZ) (by kernel_rfl) (loopD_ok ah0) loopsL_nil)))) boxesL_none e_q89
theorem fk_q89:FK M1:=fun _ _ h=>h.cons M1 (by kernel_rfl) Wh.q89_v ok_q89
def IA:iq:=⟨300,[.v (.lst I6),.v (.lst I6)],[.v .bool],Wh.Dx,Wh.Gt⟩
def VK:Cx:=⟨cr,[],false,Gl⟩
def PY:b8:=kS ⟨[(5,.leaf I6),(1,.leaf (.lst I6)),(0,.leaf (.lst I6))],[]⟩ [(.ret,⟨[(4,.leaf .bool)],[]⟩),((.exit 0),⟨[],[]⟩)] Wh.Zz Wh.Gu
def X1:LT:=[(4,PY)]
theorem aif:∀x,round VK X1 (jo Tryz.f300 0) PY x=Wh.Gu x:=by intro x;kernel_rfl
theorem e_q121:EV VK X1 Tryz.f300 [.v (.lst I6),.v (.lst I6)] [.v .bool] Wh.Dx:=by intro xs;kernel_rfl
theorem aeZ:CO IA:=con_ok (Ls:=[PY]) mixed (ct _ _) cx Tryz.func300 (loopsC (loopD_ok aif) loopsL_nil) boxesL_none e_q121
theorem WB:FK IA:=fun _ _ h=>h.cons IA (by kernel_rfl) Wh.q121_v aeZ
def K_:iq:=⟨222,[.v r_,.v r_],[.v .bool],Wh.Gw,Wh.N0⟩
def C_q123:Cx:=⟨cr,[IA.entry],false,Gl⟩
theorem e_q123:EV C_q123 lg Tryz.f222 [.v r_,.v r_] [.v .bool] Wh.Gw:=by intro xs;kernel_rfl
theorem ae1:CO K_:=con_ok (Ls:=[]) mixed (ct _ _) (WB _ cx) Tryz.func222 loopsL_nil boxesL_none e_q123
theorem acW:FK K_:=fun _ _ h=>h.cons K_ (by kernel_rfl) Wh.q123_v ae1
def LP:iq:=⟨355,[.v nW,.v nW],[.v .bool],Wh.GZ,Wh.Ol⟩
def C_q174:Cx:=⟨cr,[IA.entry],false,Gl⟩
theorem e_q174:EV C_q174 lg Tryz.f355 [.v nW,.v nW] [.v .bool] Wh.GZ:=by intro xs;kernel_rfl
theorem afP:CO LP:=con_ok (Ls:=[]) mixed (ct _ _) (WB _ cx) Tryz.func355 loopsL_nil boxesL_none e_q174
theorem adx:FK LP:=fun _ _ h=>h.cons LP (by kernel_rfl) Wh.q174_v afP
def Lz:iq:=⟨301,[.v (.lst nW),.v (.lst nW)],[.v .bool],Wh.GK,Wh.Oc⟩
def VV:Cx:=⟨cr,[LP.entry],false,Gl⟩
def PW:b8:=kS ⟨[(5,.leaf I6),(1,.leaf (.lst nW)),(0,.leaf (.lst nW))],[]⟩ [(.ret,⟨[(4,.leaf .bool)],[]⟩),((.exit 0),⟨[],[]⟩)] Wh.Z5 Wh.GL
def Yb:LT:=[(4,PW)]
theorem aid:∀x,round VV Yb (jo Tryz.f301 0) PW x=Wh.GL x:=by intro x;kernel_rfl
theorem e_q155:EV VV Yb Tryz.f301 [.v (.lst nW),.v (.lst nW)] [.v .bool] Wh.GK:=by intro xs;kernel_rfl
theorem afw:CO Lz:=con_ok (Ls:=[PW]) mixed (ct _ _) (adx _ cx) Tryz.func301 (loopsC (loopD_ok aid) loopsL_nil) boxesL_none e_q155
theorem adj:FK Lz:=fun _ _ h=>h.cons Lz (by kernel_rfl) Wh.q155_v afw
def My:iq:=⟨223,[.v mb,.v mb],[.v .bool],Wh.q62,Wh.Ox⟩
def C_q62:Cx:=⟨cr,[Lz.entry],false,Gl⟩
theorem e_q62:EV C_q62 lg Tryz.f223 [.v mb,.v mb] [.v .bool] Wh.q62:=by intro xs;kernel_rfl
theorem ok_q62:CO My:=con_ok (Ls:=[]) mixed (ct _ _) (adj _ cx) Tryz.func223 loopsL_nil boxesL_none e_q62
theorem fk_q62:FK My:=fun _ _ h=>h.cons My (by kernel_rfl) Wh.q62_v ok_q62
def L7:iq:=⟨118,[.v xO,.v xO],[.v .bool],Wh.q32,Wh.Oo⟩
def C_q32:Cx:=⟨cr,[My.entry,K_.entry],false,Gl⟩
theorem e_q32:EV C_q32 lg Tryz.f118 [.v xO,.v xO] [.v .bool] Wh.q32:=by intro xs;kernel_rfl
theorem ok_q32:CO L7:=con_ok (Ls:=[]) mixed (ct _ _) (fk_q62 _ (acW _ cx)) Tryz.func118 loopsL_nil boxesL_none e_q32
theorem fk_q32:FK L7:=fun _ _ h=>h.cons L7 (by kernel_rfl) Wh.q32_v ok_q32
def Ms:iq:=⟨35,[.v nc,.v nc],[.v .bool],Wh.q57,Wh.Ov⟩
def C_q57:Cx:=⟨cr,[L7.entry],false,Gl⟩
theorem e_q57:EV C_q57 lg Tryz.f35 [.v nc,.v nc] [.v .bool] Wh.q57:=by intro xs;kernel_rfl
theorem ok_q57:CO Ms:=con_ok (Ls:=[]) mixed (ct _ _) (fk_q32 _ cx) Tryz.func35 loopsL_nil boxesL_none e_q57
theorem fk_q57:FK Ms:=fun _ _ h=>h.cons Ms (by kernel_rfl) Wh.q57_v ok_q57
def L6:iq:=⟨131,[.v (.lst nc),.v (.lst nc)],[.v .bool],Wh.q31,Wh.q31'⟩
def C_q31:Cx:=⟨cr,[Ms.entry],false,Gl⟩
def PV:b8:=kS ⟨[(5,.leaf I6),(1,.leaf (.lst nc)),(0,.leaf (.lst nc))],[]⟩ [(.ret,⟨[(4,.leaf .bool)],[]⟩),((.exit 0),⟨[],[]⟩)] Wh.aaA Wh.G3
def Yv:LT:=[(4,PV)]
theorem aic:∀x,round C_q31 Yv (jo Tryz.f131 0) PV x=Wh.G3 x:=by intro x;kernel_rfl
theorem e_q31:EV C_q31 Yv Tryz.f131 [.v (.lst nc),.v (.lst nc)] [.v .bool] Wh.q31:=by intro xs;kernel_rfl
theorem ok_q31:CO L6:=con_ok (Ls:=[PV]) mixed (ct _ _) (fk_q57 _ cx) Tryz.func131 (loopsC (loopD_ok aic) loopsL_nil) boxesL_none e_q31
theorem fk_q31:FK L6:=fun _ _ h=>h.cons L6 (by kernel_rfl) Wh.q31_v ok_q31
def Mu:iq:=⟨234,[.v pg,.v pg],[.v .bool],Wh.q59,Wh.Ow⟩
def C_q59:Cx:=⟨cr,[],false,Gl⟩
theorem e_q59:EV C_q59 lg Tryz.f234 [.v pg,.v pg] [.v .bool] Wh.q59:=by intro xs;kernel_rfl
theorem ok_q59:CO Mu:=con_ok (Ls:=[]) mixed (ct _ _) cx Tryz.func234 loopsL_nil boxesL_none e_q59
theorem fk_q59:FK Mu:=fun _ _ h=>h.cons Mu (by kernel_rfl) Wh.q59_v ok_q59
def L8:iq:=⟨132,[.v (.lst pg),.v (.lst pg)],[.v .bool],Wh.q33,Wh.q33'⟩
def C_q33:Cx:=⟨cr,[Mu.entry],false,Gl⟩
def P0:b8:=kS ⟨[(5,.leaf I6),(1,.leaf (.lst pg)),(0,.leaf (.lst pg))],[]⟩ [(.ret,⟨[(4,.leaf .bool)],[]⟩),((.exit 0),⟨[],[]⟩)] Wh.aaB Wh.G4
def Yw:LT:=[(4,P0)]
theorem aii:∀x,round C_q33 Yw (jo Tryz.f132 0) P0 x=Wh.G4 x:=by intro x;kernel_rfl
theorem e_q33:EV C_q33 Yw Tryz.f132 [.v (.lst pg),.v (.lst pg)] [.v .bool] Wh.q33:=by intro xs;kernel_rfl
theorem ok_q33:CO L8:=con_ok (Ls:=[P0]) mixed (ct _ _) (fk_q59 _ cx) Tryz.func132 (loopsC (loopD_ok aii) loopsL_nil) boxesL_none e_q33
theorem fk_q33:FK L8:=fun _ _ h=>h.cons L8 (by kernel_rfl) Wh.q33_v ok_q33
def M9:iq:=⟨45,[.v fT,.v fT],[.v .bool],Wh.q96,Wh.q96'⟩
def C_q96:Cx:=⟨cr,[IY.entry,L8.entry,L6.entry,Mx.entry],false,Gl⟩
theorem e_q96:EV C_q96 lg Tryz.f45 [.v fT,.v fT] [.v .bool] Wh.q96:=by intro xs;kernel_rfl
theorem ok_q96:CO M9:=con_ok (Ls:=[]) mixed (ct _ _) (WY _ (fk_q33 _ (fk_q31 _ (fk_q61 _ cx)))) Tryz.func45 loopsL_nil boxesL_none e_q96
theorem fk_q96:FK M9:=fun _ _ h=>h.cons M9 (by kernel_rfl) Wh.q96_v ok_q96
def LY:iq:=⟨46,[.v fT],[.v .bool],Wh.q23,Wh.q23'⟩
def C_q23:Cx:=⟨cr,[KV.entry],false,Gl⟩
def QA:b8:=kS ⟨[(3,.leaf I6),(1,.aZ z0 [])],[(z0,false,.var fT (.leaf fT))]⟩ [(.ret,⟨[(2,.leaf .bool)],[]⟩),((.exit 0),⟨[],[]⟩)] Wh.aav Wh.DT
def Yq:LT:=[(4,QA)]
theorem aiT:∀x,round C_q23 Yq (jo Tryz.f46 0) QA x=Wh.DT x:=by intro x;kernel_rfl
theorem e_q23:EV C_q23 Yq Tryz.f46 [.v fT] [.v .bool] Wh.q23:=by intro xs;kernel_rfl
theorem ok_q23:CO LY:=con_ok (Ls:=[QA]) mixed (ct _ _) (acL _ cx) Tryz.func46 (loopsC (loopD_ok aiT) loopsL_nil) boxesL_none e_q23
theorem fk_q23:FK LY:=fun _ _ h=>h.cons LY (by kernel_rfl) Wh.q23_v ok_q23
def LF:iq:=⟨134,[.v fT],[.v .bool],Wh.q16,Wh.q16'⟩
def C_q16:Cx:=⟨cr,[],false,Gl⟩
def PE:b8:=kS ⟨[(8,.leaf I6),(6,.leaf (.lst nc)),(7,.leaf I6)],[]⟩ [(.ret,⟨[(2,.leaf .bool)],[]⟩),((.exit 0),⟨[],[]⟩)] Wh.aal Wh.DM
def Ye:LT:=[(2,PE)]
theorem ah1:∀x,round C_q16 Ye (jo Tryz.f134 0) PE x=Wh.DM x:=by intro x;kernel_rfl
theorem e_q16:EV C_q16 Ye Tryz.f134 [.v fT] [.v .bool] Wh.q16:=by intro xs;kernel_rfl
theorem ok_q16:CO LF:=con_ok (Ls:=[PE]) mixed (ct _ _) cx Tryz.func134 (loopsC (loopD_ok ah1) loopsL_nil) boxesL_none e_q16
theorem fk_q16:FK LF:=fun _ _ h=>h.cons LF (by kernel_rfl) Wh.q16_v ok_q16
def LX:iq:=⟨47,[.v fT],[.v .bool],Wh.q22,Wh.q22'⟩
def C_q22:Cx:=⟨cr,[LF.entry,M1.entry],false,Gl⟩
theorem e_q22:EV C_q22 lg Tryz.f47 [.v fT] [.v .bool] Wh.q22:=by intro xs;kernel_rfl
theorem ok_q22:CO LX:=con_ok (Ls:=[]) mixed (ct _ _) (fk_q16 _ (fk_q89 _ cx)) Tryz.func47 loopsL_nil boxesL_none e_q22
theorem fk_q22:FK LX:=fun _ _ h=>h.cons LX (by kernel_rfl) Wh.q22_v ok_q22
def K_q5:iq:=⟨10,[.v fT],[.v .bool],Wh.q5,Wh.q5'⟩
def C_q5:Cx:=⟨cr,[M9.entry,LX.entry,LY.entry,KR.entry,M_.entry],false,Gl⟩
theorem e_q5:EV C_q5 lg Tryz.f10 [.v fT] [.v .bool] Wh.q5:=by intro xs;kernel_rfl
theorem ok_q5:CO K_q5:=con_ok (Ls:=[]) mixed (ct _ _) (fk_q96 _ (fk_q22 _ (fk_q23 _ (acH _ (fk_q98 _ cx))))) Tryz.func10 loopsL_nil boxesL_none e_q5
end
end Go.Proofs.Br
