import Derived.Test.YtfeoanopdlpabaaGreatDoorX12
import Derived.Test.YtfeoanopdlpabaaGreatDoorProg
import Derived.KernelRfl
open Go Go.Ab
namespace Go.Proofs.Bp
noncomputable section
def cr:List (Nat×TI):=[(2,⟨(.int .i64),0⟩),(3,⟨(.int .i64),0⟩),(4,⟨.bool,0⟩),(5,⟨(.int .u8),0⟩),(6,⟨(.int .u8),0⟩),(7,⟨Vb,1⟩),(8,⟨Vb,1⟩),(9,⟨.str,0⟩),(10,⟨.str,0⟩),(11,⟨.str,0⟩),(12,⟨(.int .u64),0⟩),(13,⟨Vc,0⟩),(14,⟨Vc,0⟩),(21,⟨(.int .i32),0⟩),(455,⟨(.int .i32),0⟩),(454,⟨(.int .i32),0⟩),(422,⟨(.ref (.int .u8)),0⟩),(452,⟨(.int .u8),0⟩),(451,⟨(.int .u8),0⟩),(345,⟨(.int .u32),0⟩),(118,⟨an,1⟩),(260,⟨an,1⟩),(22,⟨(.lst an),0⟩),(23,⟨fk,0⟩),(24,⟨fk,0⟩),(122,⟨nc,1⟩),(282,⟨nc,1⟩),(25,⟨(.lst nc),0⟩),(26,⟨n4,0⟩),(27,⟨n4,0⟩),(126,⟨nI,1⟩),(204,⟨nI,1⟩),(28,⟨(.lst nI),0⟩),(134,⟨pg,1⟩),(206,⟨pg,1⟩),(29,⟨(.lst pg),0⟩),(30,⟨ng,0⟩),(31,⟨ng,0⟩),(119,⟨an,1⟩),(34,⟨(.lst an),0⟩),(35,⟨fk,0⟩),(36,⟨fk,0⟩),(123,⟨nc,1⟩),(37,⟨(.lst nc),0⟩),(38,⟨n4,0⟩),(39,⟨n4,0⟩),(127,⟨nI,1⟩),(40,⟨(.lst nI),0⟩),(135,⟨pg,1⟩),(41,⟨(.lst pg),0⟩),(42,⟨ng,0⟩),(43,⟨ng,0⟩),(56,⟨(.lst (.int .i64)),0⟩),(57,⟨r5,0⟩),(58,⟨r5,0⟩),(320,⟨nW,0⟩),(340,⟨nW,0⟩),(59,⟨(.lst nW),0⟩),(60,⟨lg,0⟩),(61,⟨lg,0⟩),(62,⟨xN,0⟩),(63,⟨xN,0⟩),(64,⟨nE,0⟩),(65,⟨nE,0⟩),(66,⟨J9,1⟩),(67,⟨J9,1⟩),(70,⟨r5,0⟩),(321,⟨nW,0⟩),(71,⟨(.lst nW),0⟩),(72,⟨lg,0⟩),(73,⟨lg,0⟩),(74,⟨xN,0⟩),(75,⟨xN,0⟩),(76,⟨nE,0⟩),(77,⟨nE,0⟩),(82,⟨J9,1⟩),(78,⟨(.lst J9),0⟩),(89,⟨(.lst nE),0⟩),(174,⟨ov,1⟩),(258,⟨ov,1⟩),(90,⟨(.lst ov),0⟩),(91,⟨gv,0⟩),(92,⟨gv,0⟩),(95,⟨(.lst nE),0⟩),(175,⟨ov,1⟩),(96,⟨(.lst ov),0⟩),(97,⟨gv,0⟩),(98,⟨gv,0⟩),(111,⟨(.lst .str),0⟩),(192,⟨OF,1⟩),(193,⟨OF,1⟩),(189,⟨(.lst OF),0⟩),(256,⟨(.lst (.int .u8)),0⟩),(314,⟨(.ref ng),0⟩),(331,⟨(.int .u64),0⟩),(332,⟨(.ref nc),0⟩),(357,⟨(.int .i64),0⟩),(366,⟨(.int .u64),0⟩),(369,⟨(.int .i64),0⟩),(375,⟨(.arr 24 (.int .u8)),0⟩),(379,⟨(.arr 8 (.int .u32)),0⟩),(380,⟨(.arr 64 (.int .u32)),0⟩),(399,⟨(.int .u64),0⟩),(403,⟨(.ref (.int .i64)),0⟩),(405,⟨(.lst (.int .u32)),0⟩),(416,⟨(.arr 20 (.int .u64)),0⟩),(417,⟨(.arr 65 (.int .u8)),0⟩),(425,⟨(.ref (.int .u64)),0⟩),(432,⟨Ed,1⟩),(433,⟨Ed,1⟩),(431,⟨(.ref Ed),0⟩),(440,⟨(.arr 32 (.int .u8)),0⟩),(441,⟨(.arr 64 (.int .u8)),0⟩),(442,⟨(.arr 256 (.int .u8)),0⟩),(443,⟨Vd,1⟩),(444,⟨Vd,1⟩)]
theorem tab_ok:cn (fun x=>(cK Tryz.prog x.2.t).1 x.1&&(!(Nat.beq x.2.e 1) || eqB Tryz.prog x.1)) cr=true:=by kernel_rfl
theorem ct (fns:List (Nat×List Ab.Mode×(List Arg→Option Res)))(dp:Bool):bH Tryz.prog ⟨cr,fns,dp,Gl⟩:=cxOk_of tab_ok
theorem mixed:Tryz.prog.follows .mixedOrders=true:=by kernel_rfl
abbrev FT:Type:=List (Nat×List Ab.Mode×(List Arg→Option Res))
abbrev FK (c:iq):Prop:=∀(fns:FT) {dp:Bool},dD Tryz.prog Gb ⟨cr,fns,dp,Gl⟩→dD Tryz.prog Gb ⟨cr,c.entry::fns,dp,Gl⟩
abbrev EV (C:Cx)(lt:List (Nat×b8))(f:Func)(ps:List PT)(ws:List Want)(g:gE ps→Option (jr ws×ij ps)):Prop:=∀xs,evT C lt f ps ws xs=g xs
abbrev CO (c:iq):Prop:=ConOk Tryz.prog Gb c
abbrev LT:Type:=List (Nat×b8)
def gT:LT:=[]
abbrev z0:Nat:=500000000
abbrev z1:Nat:=500000001
abbrev z2:Nat:=500000002
abbrev z3:Nat:=500000003
abbrev I6:Ty:=.int .i64
abbrev I8:Ty:=.int .u8
abbrev I3:Ty:=.int .u32
theorem cx:dD Tryz.prog Gb ⟨cr,[],false,Gl⟩:=dD.nil cr false gl_ok
def K4:iq:=⟨229,[.v an,.v I6],[.v I6],Wh.Gt,Wh.SD⟩
def C_q123:Cx:=⟨cr,[],false,Gl⟩
theorem e_q123:EV C_q123 gT Tryz.f229 [.v an,.v I6] [.v I6] Wh.Gt:=by intro xs;kernel_rfl
theorem aez:CO K4:=con_ok (Ls:=[]) mixed (ct _ _) cx Tryz.func229 loopsL_nil boxesL_none e_q123
theorem acw:FK K4:=fun _ _ h=>h.cons K4 (by kernel_rfl) Wh.SE aez
def IS:iq:=⟨125,[.v (.lst an),.v I6],[.v I6],Wh.q94,Wh.On⟩
def C_q94:Cx:=⟨cr,[K4.entry],false,Gl⟩
def PU:b8:=kS ⟨[(5,.leaf I6),(1,.leaf I6),(0,.leaf (.lst an))],[]⟩ [(.ret,⟨[(4,.leaf I6)],[]⟩),((.exit 0),⟨[(1,.leaf I6)],[]⟩)] Wh.UX Wh.Fq
def Yr:LT:=[(5,PU)]
theorem ahO:∀x,round C_q94 Yr (jo Tryz.f125 0) PU x=Wh.Fq x:=by intro x;kernel_rfl
theorem e_q94:EV C_q94 Yr Tryz.f125 [.v (.lst an),.v I6] [.v I6] Wh.q94:=by intro xs;kernel_rfl
theorem ok_q94:CO IS:=con_ok (Ls:=[PU]) mixed (ct _ _) (acw _ cx) Tryz.func125 (loopsC (loopD_ok ahO) loopsL_nil) boxesL_none e_q94
theorem WG:FK IS:=fun _ _ h=>h.cons IS (by kernel_rfl) Wh.UY ok_q94
def Lr:iq:=⟨54,[.v fk,.v I6],[.v I6],Wh.GH,Wh.Th⟩
def C_q153:Cx:=⟨cr,[IS.entry],false,Gl⟩
theorem e_q153:EV C_q153 gT Tryz.f54 [.v fk,.v I6] [.v I6] Wh.GH:=by intro xs;kernel_rfl
theorem ae3:CO Lr:=con_ok (Ls:=[]) mixed (ct _ _) (WG _ cx) Tryz.func54 loopsL_nil boxesL_none e_q153
theorem acS:FK Lr:=fun _ _ h=>h.cons Lr (by kernel_rfl) Wh.ZH ae3
def Mp:iq:=⟨149,[.v (.lst nc),.v I6],[.v I6],Wh.q61,Wh.q61'⟩
def C_q61:Cx:=⟨cr,[],false,Gl⟩
theorem e_q61:EV C_q61 gT Tryz.f149 [.v (.lst nc),.v I6] [.v I6] Wh.q61:=by intro xs;kernel_rfl
theorem ok_q61:CO Mp:=con_ok (Ls:=[]) mixed (ct _ _) cx Tryz.func149 loopsL_nil boxesL_none e_q61
theorem fk_q61:FK Mp:=fun _ _ h=>h.cons Mp (by kernel_rfl) Wh.q61_v ok_q61
def K6:iq:=⟨55,[.v n4,.v I6],[.v I6],Wh.Gv,Wh.SG⟩
def C_q125:Cx:=⟨cr,[Mp.entry],false,Gl⟩
theorem e_q125:EV C_q125 gT Tryz.f55 [.v n4,.v I6] [.v I6] Wh.Gv:=by intro xs;kernel_rfl
theorem aeB:CO K6:=con_ok (Ls:=[]) mixed (ct _ _) (fk_q61 _ cx) Tryz.func55 loopsL_nil boxesL_none e_q125
theorem acz:FK K6:=fun _ _ h=>h.cons K6 (by kernel_rfl) Wh.Zf aeB
def LX:iq:=⟨56,[.v (.lst nI),.v I6],[.v I6],Wh.q31,Wh.q31'⟩
def C_q31:Cx:=⟨cr,[],false,Gl⟩
theorem e_q31:EV C_q31 gT Tryz.f56 [.v (.lst nI),.v I6] [.v I6] Wh.q31:=by intro xs;kernel_rfl
theorem ok_q31:CO LX:=con_ok (Ls:=[]) mixed (ct _ _) cx Tryz.func56 loopsL_nil boxesL_none e_q31
theorem fk_q31:FK LX:=fun _ _ h=>h.cons LX (by kernel_rfl) Wh.q31_v ok_q31
def Mr:iq:=⟨57,[.v (.lst pg),.v I6],[.v I6],Wh.q63,Wh.q63'⟩
def C_q63:Cx:=⟨cr,[],false,Gl⟩
theorem e_q63:EV C_q63 gT Tryz.f57 [.v (.lst pg),.v I6] [.v I6] Wh.q63:=by intro xs;kernel_rfl
theorem ok_q63:CO Mr:=con_ok (Ls:=[]) mixed (ct _ _) cx Tryz.func57 loopsL_nil boxesL_none e_q63
theorem fk_q63:FK Mr:=fun _ _ h=>h.cons Mr (by kernel_rfl) Wh.q63_v ok_q63
def Ms:iq:=⟨14,[.v ng,.v I6],[.v I6],Wh.q64,Wh.q64'⟩
def C_q64:Cx:=⟨cr,[Mr.entry,LX.entry,K6.entry,Lr.entry],false,Gl⟩
theorem e_q64:EV C_q64 gT Tryz.f14 [.v ng,.v I6] [.v I6] Wh.q64:=by intro xs;kernel_rfl
theorem ok_q64:CO Ms:=con_ok (Ls:=[]) mixed (ct _ _) (fk_q63 _ (fk_q31 _ (acz _ (acS _ cx)))) Tryz.func14 loopsL_nil boxesL_none e_q64
theorem fk_q64:FK Ms:=fun _ _ h=>h.cons Ms (by kernel_rfl) Wh.q64_v ok_q64
def K7:iq:=⟨232,[.v an],[.v an],Wh.H7,Wh.SI⟩
def C_q127:Cx:=⟨cr,[],false,Gl⟩
theorem e_q127:EV C_q127 gT Tryz.f232 [.v an] [.v an] Wh.H7:=by intro xs;kernel_rfl
theorem aeD:CO K7:=con_ok (Ls:=[]) mixed (ct _ _) cx Tryz.func232 loopsL_nil boxesL_none e_q127
theorem acA:FK K7:=fun _ _ h=>h.cons K7 (by kernel_rfl) Wh.Zh aeD
def IT:iq:=⟨129,[.v (.lst an)],[.v (.own an)],Wh.q97,Wh.Oo⟩
def C_q97:Cx:=⟨cr,[K7.entry],false,Gl⟩
def P1:b8:=kS ⟨[(4,.leaf I6),(0,.leaf (.lst an)),(3,.whole z0 an)],[(z0,false,.rows an)]⟩ [((.exit 0),⟨[(3,.whole z0 an)],[(z0,false,.rows an)]⟩)] Wh.aaS Wh.Fs
def Yt:LT:=[(3,P1)]
theorem ahV:∀x,round C_q97 Yt (jo Tryz.f129 0) P1 x=Wh.Fs x:=by intro x;kernel_rfl
theorem e_q97:EV C_q97 Yt Tryz.f129 [.v (.lst an)] [.v (.own an)] Wh.q97:=by intro xs;kernel_rfl
theorem ok_q97:CO IT:=con_ok (Ls:=[P1]) mixed (ct _ _) (acA _ cx) Tryz.func129 (loopsC (loopD_ok ahV) loopsL_nil) boxesL_none e_q97
theorem WH:FK IT:=fun _ _ h=>h.cons IT (by kernel_rfl) Wh.U0 ok_q97
def Lu:iq:=⟨69,[.v fk],[.v (.pair I6 (.pair (.own an) .unit))],Wh.GJ,Wh.Tl⟩
def C_q155:Cx:=⟨cr,[IT.entry],false,Gl⟩
theorem e_q155:EV C_q155 gT Tryz.f69 [.v fk] [.v (.pair I6 (.pair (.own an) .unit))] Wh.GJ:=by intro xs;kernel_rfl
theorem ae5:CO Lu:=con_ok (Ls:=[]) mixed (ct _ _) (WH _ cx) Tryz.func69 loopsL_nil boxesL_none e_q155
theorem acU:FK Lu:=fun _ _ h=>h.cons Lu (by kernel_rfl) Wh.ZJ ae5
def MZ:iq:=⟨259,[.v nc],[.v nc],Wh.q96,Wh.q96'⟩
def C_q96:Cx:=⟨cr,[],false,Gl⟩
theorem e_q96:EV C_q96 gT Tryz.f259 [.v nc] [.v nc] Wh.q96:=by intro xs;kernel_rfl
theorem ok_q96:CO MZ:=con_ok (Ls:=[]) mixed (ct _ _) cx Tryz.func259 loopsL_nil boxesL_none e_q96
theorem fk_q96:FK MZ:=fun _ _ h=>h.cons MZ (by kernel_rfl) Wh.q96_v ok_q96
def Mw:iq:=⟨153,[.v (.lst nc)],[.v (.own nc)],Wh.q68,Wh.q68'⟩
def C_q68:Cx:=⟨cr,[MZ.entry],false,Gl⟩
def PZ:b8:=kS ⟨[(4,.leaf I6),(0,.leaf (.lst nc)),(3,.whole z0 nc)],[(z0,false,.rows nc)]⟩ [((.exit 0),⟨[(3,.whole z0 nc)],[(z0,false,.rows nc)]⟩)] Wh.aay Wh.Fj
def Yl:LT:=[(3,PZ)]
theorem ahT:∀x,round C_q68 Yl (jo Tryz.f153 0) PZ x=Wh.Fj x:=by intro x;kernel_rfl
theorem e_q68:EV C_q68 Yl Tryz.f153 [.v (.lst nc)] [.v (.own nc)] Wh.q68:=by intro xs;kernel_rfl
theorem ok_q68:CO Mw:=con_ok (Ls:=[PZ]) mixed (ct _ _) (fk_q96 _ cx) Tryz.func153 (loopsC (loopD_ok ahT) loopsL_nil) boxesL_none e_q68
theorem fk_q68:FK Mw:=fun _ _ h=>h.cons Mw (by kernel_rfl) Wh.q68_v ok_q68
def K9:iq:=⟨70,[.v n4],[.v (.pair (.own nc) (.pair I6 .unit))],Wh.Gx,Wh.SK⟩
def C_q129:Cx:=⟨cr,[Mw.entry],false,Gl⟩
theorem e_q129:EV C_q129 gT Tryz.f70 [.v n4] [.v (.pair (.own nc) (.pair I6 .unit))] Wh.Gx:=by intro xs;kernel_rfl
theorem aeF:CO K9:=con_ok (Ls:=[]) mixed (ct _ _) (fk_q68 _ cx) Tryz.func70 loopsL_nil boxesL_none e_q129
theorem acC:FK K9:=fun _ _ h=>h.cons K9 (by kernel_rfl) Wh.Zj aeF
def Mu:iq:=⟨154,[.v nI],[.v nI],Wh.q66,Wh.q66'⟩
def C_q66:Cx:=⟨cr,[],false,Gl⟩
theorem e_q66:EV C_q66 gT Tryz.f154 [.v nI] [.v nI] Wh.q66:=by intro xs;kernel_rfl
theorem ok_q66:CO Mu:=con_ok (Ls:=[]) mixed (ct _ _) cx Tryz.func154 loopsL_nil boxesL_none e_q66
theorem fk_q66:FK Mu:=fun _ _ h=>h.cons Mu (by kernel_rfl) Wh.q66_v ok_q66
def L1:iq:=⟨71,[.v (.lst nI)],[.v (.own nI)],Wh.q35,Wh.q35'⟩
def C_q35:Cx:=⟨cr,[Mu.entry],false,Gl⟩
def PW:b8:=kS ⟨[(4,.leaf I6),(0,.leaf (.lst nI)),(3,.whole z0 nI)],[(z0,false,.rows nI)]⟩ [((.exit 0),⟨[(3,.whole z0 nI)],[(z0,false,.rows nI)]⟩)] Wh.aae Wh.Fa
def Yd:LT:=[(3,PW)]
theorem ahQ:∀x,round C_q35 Yd (jo Tryz.f71 0) PW x=Wh.Fa x:=by intro x;kernel_rfl
theorem e_q35:EV C_q35 Yd Tryz.f71 [.v (.lst nI)] [.v (.own nI)] Wh.q35:=by intro xs;kernel_rfl
theorem ok_q35:CO L1:=con_ok (Ls:=[PW]) mixed (ct _ _) (fk_q66 _ cx) Tryz.func71 (loopsC (loopD_ok ahQ) loopsL_nil) boxesL_none e_q35
theorem fk_q35:FK L1:=fun _ _ h=>h.cons L1 (by kernel_rfl) Wh.q35_v ok_q35
def M0:iq:=⟨155,[.v pg],[.v pg],Wh.q98,Wh.q98'⟩
def C_q98:Cx:=⟨cr,[],false,Gl⟩
theorem e_q98:EV C_q98 gT Tryz.f155 [.v pg] [.v pg] Wh.q98:=by intro xs;kernel_rfl
theorem ok_q98:CO M0:=con_ok (Ls:=[]) mixed (ct _ _) cx Tryz.func155 loopsL_nil boxesL_none e_q98
theorem fk_q98:FK M0:=fun _ _ h=>h.cons M0 (by kernel_rfl) Wh.q98_v ok_q98
def Mz:iq:=⟨72,[.v (.lst pg)],[.v (.own pg)],Wh.q70,Wh.q70'⟩
def C_q70:Cx:=⟨cr,[M0.entry],false,Gl⟩
def P3:b8:=kS ⟨[(4,.leaf I6),(0,.leaf (.lst pg)),(3,.whole z0 pg)],[(z0,false,.rows pg)]⟩ [((.exit 0),⟨[(3,.whole z0 pg)],[(z0,false,.rows pg)]⟩)] Wh.aaz Wh.Fk
def Ym:LT:=[(3,P3)]
theorem ahX:∀x,round C_q70 Ym (jo Tryz.f72 0) P3 x=Wh.Fk x:=by intro x;kernel_rfl
theorem e_q70:EV C_q70 Ym Tryz.f72 [.v (.lst pg)] [.v (.own pg)] Wh.q70:=by intro xs;kernel_rfl
theorem ok_q70:CO Mz:=con_ok (Ls:=[P3]) mixed (ct _ _) (fk_q98 _ cx) Tryz.func72 (loopsC (loopD_ok ahX) loopsL_nil) boxesL_none e_q70
theorem fk_q70:FK Mz:=fun _ _ h=>h.cons Mz (by kernel_rfl) Wh.q70_v ok_q70
def MA:iq:=⟨16,[.v ng],[.v (.pair .bool (.pair I6 (.pair .str (.pair (.pair I6 (.pair (.own an) .unit)) (.pair (.pair (.own nc) (.pair I6 .unit)) (.pair (.own nI) (.pair (.own pg) .unit)))))))],Wh.q71,Wh.q71'⟩
def C_q71:Cx:=⟨cr,[Mz.entry,L1.entry,K9.entry,Lu.entry],false,Gl⟩
theorem e_q71:EV C_q71 gT Tryz.f16 [.v ng] [.v (.pair .bool (.pair I6 (.pair .str (.pair (.pair I6 (.pair (.own an) .unit)) (.pair (.pair (.own nc) (.pair I6 .unit)) (.pair (.own nI) (.pair (.own pg) .unit)))))))] Wh.q71:=by intro xs;kernel_rfl
theorem ok_q71:CO MA:=con_ok (Ls:=[]) mixed (ct _ _) (fk_q70 _ (fk_q35 _ (acC _ (acU _ cx)))) Tryz.func16 loopsL_nil boxesL_none e_q71
theorem fk_q71:FK MA:=fun _ _ h=>h.cons MA (by kernel_rfl) Wh.q71_v ok_q71
def zG:iq:=⟨58,[.v I6,.v I6,.v I6],[.v .bool],Wh.xd,Wh.nS⟩
def C_q174:Cx:=⟨cr,[],false,Gl⟩
theorem e_q174:EV C_q174 gT Tryz.f58 [.v I6,.v I6,.v I6] [.v .bool] Wh.xd:=by intro xs;kernel_rfl
theorem afn:CO zG:=con_ok (Ls:=[]) mixed (ct _ _) cx Tryz.func58 loopsL_nil boxesL_none e_q174
theorem Al:FK zG:=fun _ _ h=>h.cons zG (by kernel_rfl) Wh.zm afn
def Iy:iq:=⟨178,[.v .str,.v I6,.v I8],[.v I6],Wh.zA,Wh.JC⟩
def Vy:Cx:=⟨cr,[],false,Gl⟩
def QK:b8:=kS ⟨[(7,.leaf I6),(2,.leaf I8),(0,.leaf .str)],[]⟩ [(.ret,⟨[(6,.leaf I6)],[]⟩),((.exit 0),⟨[],[]⟩)] Wh.Zu Wh.CH
def XM:LT:=[(2,QK)]
theorem aiF:∀x,round Vy XM (jo Tryz.f178 0) QK x=Wh.CH x:=by intro x;kernel_rfl
theorem e_q136:EV Vy XM Tryz.f178 [.v .str,.v I6,.v I8] [.v I6] Wh.zA:=by intro xs;kernel_rfl
theorem aeM:CO Iy:=con_ok (Ls:=[QK]) mixed (ct _ _) cx Tryz.func178 (loopsC (loopD_ok aiF) loopsL_nil) boxesL_none e_q136
theorem Wn:FK Iy:=fun _ _ h=>h.cons Iy (by kernel_rfl) Wh.CI aeM
def II:iq:=⟨180,[.v .str],[.v I6],Wh.Bg,Wh.JM⟩
def VN:Cx:=⟨cr,[zG.entry],false,Gl⟩
def QJ:b8:=kS ⟨[(4,.leaf I6),(0,.leaf .str),(3,.leaf I6)],[]⟩ [(.ret,⟨[(2,.leaf I6)],[]⟩),((.exit 0),⟨[(3,.leaf I6)],[]⟩)] Wh.ZY Wh.E8
def X2:LT:=[(5,QJ)]
theorem aiE:∀x,round VN X2 (jo Tryz.f180 0) QJ x=Wh.E8 x:=by intro x;kernel_rfl
theorem e_q168:EV VN X2 Tryz.f180 [.v .str] [.v I6] Wh.Bg:=by intro xs;kernel_rfl
theorem afh:CO II:=con_ok (Ls:=[QJ]) mixed (ct _ _) (Al _ cx) Tryz.func180 (loopsC (loopD_ok aiE) loopsL_nil) boxesL_none e_q168
theorem Wx:FK II:=fun _ _ h=>h.cons II (by kernel_rfl) Wh.GP afh
def IG:iq:=⟨189,[.v I6],[.v .str],Wh.CN,Wh.B5⟩
def Ip (g:((Int))→Option (((List UInt8))×(Unit)))(g':((Int))→((List UInt8))×(Unit)):iq:=⟨189,[.v I6],[.v .str],g,g'⟩
def C_q163 (g:((Int))→Option (((List UInt8))×(Unit)))(g':((Int))→((List UInt8))×(Unit)):Cx:=⟨cr,[(Ip g g').entry],false,Gl⟩
theorem e_q163 (g:((Int))→Option (((List UInt8))×(Unit)))(g':((Int))→((List UInt8))×(Unit)):∀xs,evT (C_q163 g g') gT Tryz.f189 [.v I6] [.v .str] xs=Wh.q21 g g' xs:=by intro xs;kernel_rfl
theorem s_q163 (g:((Int))→Option (((List UInt8))×(Unit)))(g':((Int))→((List UInt8))×(Unit))(hv:∀x y,g x=some y→g' x=y)(h:CO (Ip g g')):CO (Ip (Wh.q21 g g') (fun x=>match Wh.q21 g g' x with | some y=>y|none=>default)):=con_ok (Ls:=[]) mixed (ct _ _) (dD.cons cx (Ip g g') (by kernel_rfl) hv h) Tryz.func189 loopsL_nil boxesL_none (e_q163 g g')
theorem n_q163 (n:Nat):CO (Ip (Wh.Bc n) (fun x=>match Wh.Bc n x with | some y=>y|none=>default)):=by
 induction n with
 |zero=>intro xs y h;exact absurd (show none=some y from h) (by simp)
 |succ n ih=>
  rw[Wh.Tx n]
  exact s_q163 _ _ (fun x y h=>by simp only[h]) ih
theorem afc:CO IG:=n_q163 20
theorem Ww:FK IG:=fun _ _ h=>h.cons IG (by kernel_rfl) Wh.N9 afc
def ML:iq:=⟨423,[.v .str],[.v (.own I8)],Wh.q80,Wh.q80'⟩
def O4:Cx:=⟨cr,[],false,Gl⟩
def QA:b8:=kS ⟨[(3,.whole z0 I8),(0,.leaf .str)],[(z0,false,.rows I8)]⟩ [((.exit 0),⟨[(3,.whole z0 I8),(0,.leaf .str)],[(z0,false,.rows I8)]⟩)] Wh.aaH Wh.Fo
def QB:b8:=kS ⟨[(5,.leaf I6),(4,.leaf I6),(3,.whole z0 I8)],[(z0,false,.rows I8)]⟩ [((.exit 2),⟨[(3,.whole z0 I8)],[(z0,false,.rows I8)]⟩)] Wh.aaI Wh.G6
def RR:LT:=[(2,QA),(6,QB)]
theorem aiv:∀x,round O4 RR (jo Tryz.f423 0) QA x=Wh.Fo x:=by intro x;kernel_rfl
theorem aiw:∀x,round O4 RR (jo Tryz.f423 1) QB x=Wh.G6 x:=by intro x;kernel_rfl
theorem e_q80:EV O4 RR Tryz.f423 [.v .str] [.v (.own I8)] Wh.q80:=by intro xs;kernel_rfl
theorem ok_q80:CO ML:=con_ok (Ls:=[QA,QB]) mixed (ct _ _) cx Tryz.func423 (loopsC (loopD_ok aiv) (loopsC (loopD_ok aiw) loopsL_nil)) boxesL_none e_q80
theorem fk_q80:FK ML:=fun _ _ h=>h.cons ML (by kernel_rfl) Wh.q80_v ok_q80
def Ix:iq:=⟨449,[.v I3,.v I6],[.v I3],Wh.yH,Wh.zU⟩
def C_q134:Cx:=⟨cr,[],false,Gl⟩
theorem e_q134:EV C_q134 gT Tryz.f449 [.v I3,.v I6] [.v I3] Wh.yH:=by intro xs;kernel_rfl
theorem aeK:CO Ix:=con_ok (Ls:=[]) mixed (ct _ _) cx Tryz.func449 loopsL_nil boxesL_none e_q134
theorem Wm:FK Ix:=fun _ _ h=>h.cons Ix (by kernel_rfl) Wh.q134_v aeK
def KU:iq:=⟨447,[.v (.lst I8)],[.v (.own I3)],Wh.Gj,Wh.So⟩
def OX:Cx:=⟨cr,[Ix.entry],false,Gl⟩
def QE:b8:=kS ⟨[(4,.leaf I6),(0,.leaf (.lst I8)),(3,.whole z0 I3)],[(z0,false,.rows I3)]⟩ [((.exit 0),⟨[(3,.whole z0 I3)],[(z0,false,.rows I3)]⟩)] Wh.Y4 Wh.Gk
def QF:b8:=kS ⟨[(5,.leaf I6),(3,.whole z0 I3)],[(z0,false,.rows I3)]⟩ [((.exit 2),⟨[(3,.whole z0 I3)],[(z0,false,.rows I3)]⟩)] Wh.Y5 Wh.Gm
def RJ:LT:=[(3,QE),(7,QF)]
theorem aiz:∀x,round OX RJ (jo Tryz.f447 0) QE x=Wh.Gk x:=by intro x;kernel_rfl
theorem aiA:∀x,round OX RJ (jo Tryz.f447 1) QF x=Wh.Gm x:=by intro x;kernel_rfl
theorem e_q110:EV OX RJ Tryz.f447 [.v (.lst I8)] [.v (.own I3)] Wh.Gj:=by intro xs;kernel_rfl
theorem aem:CO KU:=con_ok (Ls:=[QE,QF]) mixed (ct _ _) (Wm _ cx) Tryz.func447 (loopsC (loopD_ok aiz) (loopsC (loopD_ok aiA) loopsL_nil)) boxesL_none e_q110
theorem aco:FK KU:=fun _ _ h=>h.cons KU (by kernel_rfl) Wh.Y6 aem
def MJ:iq:=⟨448,[],[.v (.own I3)],Wh.q79,Wh.q79'⟩
def C_q79:Cx:=⟨cr,[],false,Gl⟩
theorem e_q79:EV C_q79 gT Tryz.f448 [] [.v (.own I3)] Wh.q79:=by intro xs;kernel_rfl
theorem ok_q79:CO MJ:=con_ok (Ls:=[]) mixed (ct _ _) cx Tryz.func448 loopsL_nil boxesL_none e_q79
theorem fk_q79:FK MJ:=fun _ _ h=>h.cons MJ (by kernel_rfl) Wh.q79_v ok_q79
def KS:iq:=⟨424,[.v (.lst I3),.v (.lst I8)],[.v (.own I3)],Wh.Gh,Wh.Sj⟩
def KC:Cx:=⟨cr,[Ix.entry,MJ.entry,KU.entry],false,Gl⟩
def Qw:b8:=kS ⟨[(7,.whole z0 I3),(8,.leaf I6),(5,.whole z1 I3),(6,.whole z2 I3),(0,.leaf (.lst I3))],[(z0,false,.rows I3),(z1,false,.rows I3),(z2,false,.rows I3)]⟩ [((.exit 0),⟨[(7,.whole z0 I3),(0,.leaf (.lst I3))],[(z0,false,.rows I3)]⟩)] Wh.Y1 Wh.Gi
def Qx:b8:=kS ⟨[(14,.leaf I6),(7,.whole z0 I3),(5,.whole z1 I3),(6,.whole z2 I3),(0,.leaf (.lst I3)),(8,.leaf I6),(13,.leaf I3),(12,.leaf I3),(11,.leaf I3)],[(z0,false,.rows I3),(z1,false,.rows I3),(z2,false,.rows I3)]⟩ [((.exit 2),⟨[(7,.whole z0 I3),(5,.whole z1 I3),(6,.whole z2 I3),(0,.leaf (.lst I3)),(8,.leaf I6),(13,.leaf I3),(12,.leaf I3),(11,.leaf I3)],[(z0,false,.rows I3),(z1,false,.rows I3),(z2,false,.rows I3)]⟩)] Wh.Sm Wh.Jv
def Qy:b8:=kS ⟨[(16,.leaf I6),(7,.whole z0 I3),(0,.leaf (.lst I3)),(15,.whole z1 I3)],[(z0,false,.rows I3),(z1,false,.rows I3)]⟩ [((.exit 4),⟨[(15,.whole z0 I3)],[(z0,false,.rows I3)]⟩)] Wh.Y2 Wh.Jw
def Nz:LT:=[(5,Qw),(13,Qx),(20,Qy)]
theorem air:∀x,round KC Nz (jo Tryz.f424 0) Qw x=Wh.Gi x:=by intro x;kernel_rfl
theorem ais:∀x,round KC Nz (jo Tryz.f424 1) Qx x=Wh.Jv x:=by intro x;kernel_rfl
theorem ait:∀x,round KC Nz (jo Tryz.f424 2) Qy x=Wh.Jw x:=by intro x;kernel_rfl
theorem e_q108:EV KC Nz Tryz.f424 [.v (.lst I3),.v (.lst I8)] [.v (.own I3)] Wh.Gh:=by intro xs;kernel_rfl
theorem ael:CO KS:=con_ok (Ls:=[Qw,Qx,Qy]) mixed (ct _ _) (Wm _ (fk_q79 _ (aco _ cx))) Tryz.func424 (loopsC (loopD_ok air) (loopsC (loopD_ok ais) (loopsC (loopD_ok ait) loopsL_nil))) boxesL_none e_q108
theorem acn:FK KS:=fun _ _ h=>h.cons KS (by kernel_rfl) Wh.Y3 ael
def LA:iq:=⟨375,[.v .str],[.v .str],Wh.GO,Wh.TC⟩
def OZ:Cx:=⟨cr,[KS.entry,ML.entry],false,Gl⟩
def QC:b8:=kS ⟨[(5,.leaf I6),(4,.whole z0 I8),(3,.whole z1 I3)],[(z0,false,.rows I8),(z1,false,.rows I3)]⟩ [((.exit 0),⟨[(3,.whole z0 I3)],[(z0,false,.rows I3)]⟩)] Wh.ZT Wh.E4
def QD:b8:=kS ⟨[(7,.leaf I6),(3,.whole z0 I3),(6,.whole z1 I8)],[(z0,false,.rows I3),(z1,false,.rows I8)]⟩ [((.exit 2),⟨[(6,.whole z0 I8)],[(z0,false,.rows I8)]⟩)] Wh.ZU Wh.JJ
def RM:LT:=[(4,QC),(9,QD)]
theorem aix:∀x,round OZ RM (jo Tryz.f375 0) QC x=Wh.E4 x:=by intro x;kernel_rfl
theorem aiy:∀x,round OZ RM (jo Tryz.f375 1) QD x=Wh.JJ x:=by intro x;kernel_rfl
theorem e_q165:EV OZ RM Tryz.f375 [.v .str] [.v .str] Wh.GO:=by intro xs;kernel_rfl
theorem afe:CO LA:=con_ok (Ls:=[QC,QD]) mixed (ct _ _) (acn _ (fk_q80 _ cx)) Tryz.func375 (loopsC (loopD_ok aix) (loopsC (loopD_ok aiy) loopsL_nil)) boxesL_none e_q165
theorem ac0:FK LA:=fun _ _ h=>h.cons LA (by kernel_rfl) Wh.ZV afe
def Lz:iq:=⟨374,[.v .str],[.v .str],Wh.E0,Wh.N_⟩
def VK:Cx:=⟨cr,[],false,Gl⟩
def Qz:b8:=kS ⟨[(4,.leaf I6),(0,.leaf .str),(3,.whole z0 I8)],[(z0,false,.rows I8)]⟩ [((.exit 0),⟨[(3,.whole z0 I8)],[(z0,false,.rows I8)]⟩)] Wh.ZS Wh.E3
def XY:LT:=[(3,Qz)]
theorem aiu:∀x,round VK XY (jo Tryz.f374 0) Qz x=Wh.E3 x:=by intro x;kernel_rfl
theorem e_q164:EV VK XY Tryz.f374 [.v .str] [.v .str] Wh.E0:=by intro xs;kernel_rfl
theorem afd:CO Lz:=con_ok (Ls:=[Qz]) mixed (ct _ _) cx Tryz.func374 (loopsC (loopD_ok aiu) loopsL_nil) boxesL_none e_q164
theorem acZ:FK Lz:=fun _ _ h=>h.cons Lz (by kernel_rfl) Wh.TA afd
def KM:iq:=⟨328,[.v .str],[.v .str],Wh.Gd,Wh.EH⟩
def C_q102:Cx:=⟨cr,[Lz.entry,LA.entry],false,Gl⟩
theorem e_q102:EV C_q102 gT Tryz.f328 [.v .str] [.v .str] Wh.Gd:=by intro xs;kernel_rfl
theorem aef:CO KM:=con_ok (Ls:=[]) mixed (ct _ _) (acZ _ (ac0 _ cx)) Tryz.func328 loopsL_nil boxesL_none e_q102
theorem acg:FK KM:=fun _ _ h=>h.cons KM (by kernel_rfl) Wh.YR aef
def Le:iq:=⟨258,[.v I6,.v .str],[.v .str],Wh.Gy,Wh.SY⟩
def C_q137:Cx:=⟨cr,[KM.entry,IG.entry],false,Gl⟩
theorem e_q137:EV C_q137 gT Tryz.f258 [.v I6,.v .str] [.v .str] Wh.Gy:=by intro xs;kernel_rfl
theorem aeN:CO Le:=con_ok (Ls:=[]) mixed (ct _ _) (acg _ (Ww _ cx)) Tryz.func258 loopsL_nil boxesL_none e_q137
theorem acH:FK Le:=fun _ _ h=>h.cons Le (by kernel_rfl) Wh.SZ aeN
def Lf:iq:=⟨150,[.v .str,.v I6,.v I6],[.v .str,.v I6],Wh.DB,Wh.S0⟩
def C_q138:Cx:=⟨cr,[Le.entry,zG.entry,II.entry,Iy.entry],false,Gl⟩
theorem e_q138:EV C_q138 gT Tryz.f150 [.v .str,.v I6,.v I6] [.v .str,.v I6] Wh.DB:=by intro xs;kernel_rfl
theorem aeO:CO Lf:=con_ok (Ls:=[]) mixed (ct _ _) (acH _ (Al _ (Wx _ (Wn _ cx)))) Tryz.func150 loopsL_nil boxesL_none e_q138
theorem acI:FK Lf:=fun _ _ h=>h.cons Lf (by kernel_rfl) Wh.S1 aeO
def Hy:iq:=⟨60,[.v .str],[.v (.own .str),.v I6],Wh.B4,Wh.JD⟩
def Vz:Cx:=⟨cr,[Lf.entry],false,Gl⟩
def QL:b8:=kS ⟨[(5,.leaf I6),(4,.whole z0 .str),(0,.leaf .str)],[(z0,false,.rows .str)]⟩ [(.ret,⟨[(2,.whole z0 .str),(3,.leaf I6)],[(z0,false,.rows .str)]⟩)] Wh.Zv Wh.EO
def XN:LT:=[(3,QL)]
theorem aiG:∀x,round Vz XN (jo Tryz.f60 0) QL x=Wh.EO x:=by intro x;kernel_rfl
theorem e_q139:EV Vz XN Tryz.f60 [.v .str] [.v (.own .str),.v I6] Wh.B4:=by intro xs;kernel_rfl
theorem aeP:CO Hy:=con_ok (Ls:=[QL]) mixed (ct _ _) (acI _ cx) Tryz.func60 (loopsC (loopD_ok aiG) loopsL_nil) boxesL_none e_q139
theorem Rc:FK Hy:=fun _ _ h=>h.cons Hy (by kernel_rfl) Wh.NV aeP
def Ld:iq:=⟨179,[.v .str,.v I8],[.v (.own .str)],Wh.DA,Wh.SU⟩
def Vx:Cx:=⟨cr,[],false,Gl⟩
def QH:b8:=kS ⟨[(7,.leaf I6),(6,.leaf I6),(0,.leaf .str),(5,.whole z0 .str),(1,.leaf I8)],[(z0,false,.rows .str)]⟩ [((.exit 0),⟨[(6,.leaf I6),(0,.leaf .str),(5,.whole z0 .str)],[(z0,false,.rows .str)]⟩)] Wh.Zt Wh.z_
def XL:LT:=[(4,QH)]
theorem aiC:∀x,round Vx XL (jo Tryz.f179 0) QH x=Wh.z_ x:=by intro x;kernel_rfl
theorem e_q135:EV Vx XL Tryz.f179 [.v .str,.v I8] [.v (.own .str)] Wh.DA:=by intro xs;kernel_rfl
theorem aeL:CO Ld:=con_ok (Ls:=[QH]) mixed (ct _ _) cx Tryz.func179 (loopsC (loopD_ok aiC) loopsL_nil) boxesL_none e_q135
theorem acG:FK Ld:=fun _ _ h=>h.cons Ld (by kernel_rfl) Wh.SW aeL
def Iw:iq:=⟨200,[.v .str],[.v .bool],Wh.B3,Wh.NU⟩
def Vv:Cx:=⟨cr,[zG.entry],false,Gl⟩
def Qd:b8:=kS ⟨[(3,.leaf I6),(0,.leaf .str)],[]⟩ [(.ret,⟨[(2,.leaf .bool)],[]⟩),((.exit 0),⟨[(0,.leaf .str)],[]⟩)] Wh.Zm Wh.A1
def XJ:LT:=[(2,Qd)]
theorem ah8:∀x,round Vv XJ (jo Tryz.f200 0) Qd x=Wh.A1 x:=by intro x;kernel_rfl
theorem e_q131:EV Vv XJ Tryz.f200 [.v .str] [.v .bool] Wh.B3:=by intro xs;kernel_rfl
theorem aeH:CO Iw:=con_ok (Ls:=[Qd]) mixed (ct _ _) (Al _ cx) Tryz.func200 (loopsC (loopD_ok ah8) loopsL_nil) boxesL_none e_q131
theorem Wl:FK Iw:=fun _ _ h=>h.cons Iw (by kernel_rfl) Wh.SN aeH
def FI:iq:=⟨185,[.v an],[.v .bool],Wh.B7,Wh.DN⟩
def C_q176:Cx:=⟨cr,[Iw.entry,zG.entry],false,Gl⟩
theorem e_q176:EV C_q176 gT Tryz.f185 [.v an] [.v .bool] Wh.B7:=by intro xs;kernel_rfl
theorem afp:CO FI:=con_ok (Ls:=[]) mixed (ct _ _) (Wl _ (Al _ cx)) Tryz.func185 loopsL_nil boxesL_none e_q176
theorem Nf:FK FI:=fun _ _ h=>h.cons FI (by kernel_rfl) Wh.DO afp
def L6:iq:=⟨103,[.v I6,.v .str,.v .str],[.v .str],Wh.q39,Wh.q39'⟩
def C_q39:Cx:=⟨cr,[IG.entry,FI.entry],false,Gl⟩
theorem e_q39:EV C_q39 gT Tryz.f103 [.v I6,.v .str,.v .str] [.v .str] Wh.q39:=by intro xs;kernel_rfl
theorem ok_q39:CO L6:=con_ok (Ls:=[]) mixed (ct _ _) (Ww _ (Nf _ cx)) Tryz.func103 loopsL_nil boxesL_none e_q39
theorem fk_q39:FK L6:=fun _ _ h=>h.cons L6 (by kernel_rfl) Wh.T_ ok_q39
def IA:iq:=⟨272,[.v an,.v I6,.v .str],[.v .bool],Wh.Gz,Wh.NX⟩
def C_q142:Cx:=⟨cr,[],false,Gl⟩
theorem e_q142:EV C_q142 gT Tryz.f272 [.v an,.v I6,.v .str] [.v .bool] Wh.Gz:=by intro xs;kernel_rfl
theorem aeS:CO IA:=con_ok (Ls:=[]) mixed (ct _ _) cx Tryz.func272 loopsL_nil boxesL_none e_q142
theorem Wp:FK IA:=fun _ _ h=>h.cons IA (by kernel_rfl) Wh.NY aeS
def Ir:iq:=⟨187,[.v (.lst an),.v I6],[.v I6],Wh.EK,Wh.NN⟩
def Vq:Cx:=⟨cr,[],false,Gl⟩
def QN:b8:=kS ⟨[(6,.leaf I6),(0,.leaf (.lst an)),(5,.leaf I6),(1,.leaf I6)],[]⟩ [((.exit 0),⟨[(5,.leaf I6)],[]⟩)] Wh.Y7 Wh.Du
def XD:LT:=[(3,QN)]
theorem aiI:∀x,round Vq XD (jo Tryz.f187 0) QN x=Wh.Du x:=by intro x;kernel_rfl
theorem e_q112:EV Vq XD Tryz.f187 [.v (.lst an),.v I6] [.v I6] Wh.EK:=by intro xs;kernel_rfl
theorem aeo:CO Ir:=con_ok (Ls:=[QN]) mixed (ct _ _) cx Tryz.func187 (loopsC (loopD_ok aiI) loopsL_nil) boxesL_none e_q112
theorem Wg:FK Ir:=fun _ _ h=>h.cons Ir (by kernel_rfl) Wh.NO aeo
def ID:iq:=⟨184,[.v fk],[.v .bool],Wh.EW,Wh.N5⟩
def KE:Cx:=⟨cr,[Ir.entry,IA.entry,FI.entry,zG.entry],false,Gl⟩
def Qa:b8:=kS ⟨[(1,.aZ z0 []),(3,.leaf I6)],[(z0,false,.var fk (.leaf fk))]⟩ [(.ret,⟨[(2,.leaf .bool)],[]⟩),((.exit 0),⟨[(1,.aZ z0 [])],[(z0,false,.var fk (.leaf fk))]⟩)] Wh.ZN Wh.DH
def Qb:b8:=kS ⟨[(5,.leaf I6),(4,.aZ z0 []),(1,.aZ z1 []),(3,.leaf I6)],[(z0,false,.var an (.leaf an)),(z1,false,.var fk (.leaf fk))]⟩ [(.ret,⟨[(2,.leaf .bool)],[]⟩),((.exit 2),⟨[(1,.aZ z0 []),(3,.leaf I6)],[(z0,false,.var fk (.leaf fk))]⟩)] Wh.ZO Wh.EX
def Qc:b8:=kS ⟨[(6,.leaf I6),(1,.aZ z0 [])],[(z0,false,.var fk (.leaf fk))]⟩ [(.ret,⟨[(2,.leaf .bool)],[]⟩),((.exit 4),⟨[],[]⟩)] Wh.ZP Wh.GL
def NB:LT:=[(4,Qa),(10,Qb),(15,Qc)]
theorem ah5:∀x,round KE NB (jo Tryz.f184 0) Qa x=Wh.DH x:=by intro x;kernel_rfl
theorem ah6:∀x,round KE NB (jo Tryz.f184 1) Qb x=Wh.EX x:=by intro x;kernel_rfl
theorem ah7:∀x,round KE NB (jo Tryz.f184 2) Qc x=Wh.GL x:=by intro x;kernel_rfl
theorem e_q158:EV KE NB Tryz.f184 [.v fk] [.v .bool] Wh.EW:=by intro xs;kernel_rfl
theorem ae8:CO ID:=con_ok (Ls:=[Qa,Qb,Qc]) mixed (ct _ _) (Wg _ (Wp _ (Nf _ (Al _ cx)))) Tryz.func184 (loopsC (loopD_ok ah5) (loopsC (loopD_ok ah6) (loopsC (loopD_ok ah7) loopsL_nil))) boxesL_none e_q158
theorem Wt:FK ID:=fun _ _ h=>h.cons ID (by kernel_rfl) Wh.H_ ae8
def IJ:iq:=⟨186,[.v fk,.v I6,.v .str],[.v I6],Wh.B6,Wh.Oc⟩
def VQ:Cx:=⟨cr,[],false,Gl⟩
def QM:b8:=kS ⟨[(7,.leaf I6),(2,.leaf .str),(3,.aZ z0 []),(1,.leaf I6)],[(z0,false,.var fk (.leaf fk))]⟩ [(.ret,⟨[(6,.leaf I6)],[]⟩),((.exit 0),⟨[],[]⟩)] Wh.Z5 Wh.DM
def X5:LT:=[(2,QM)]
theorem aiH:∀x,round VQ X5 (jo Tryz.f186 0) QM x=Wh.DM x:=by intro x;kernel_rfl
theorem e_q175:EV VQ X5 Tryz.f186 [.v fk,.v I6,.v .str] [.v I6] Wh.B6:=by intro xs;kernel_rfl
theorem afo:CO IJ:=con_ok (Ls:=[QM]) mixed (ct _ _) cx Tryz.func186 (loopsC (loopD_ok aiH) loopsL_nil) boxesL_none e_q175
theorem Wy:FK IJ:=fun _ _ h=>h.cons IJ (by kernel_rfl) Wh.JP afo
def Iz:iq:=⟨170,[.v fk],[.v (.pair I6 (.pair (.own an) .unit))],Wh.CJ,Wh.H8⟩
def C_q140:Cx:=⟨cr,[],false,Gl⟩
theorem e_q140:EV C_q140 gT Tryz.f170 [.v fk] [.v (.pair I6 (.pair (.own an) .unit))] Wh.CJ:=by intro xs;kernel_rfl
theorem aeQ:CO Iz:=con_ok (Ls:=[]) mixed (ct _ _) cx Tryz.func170 loopsL_nil boxesL_none e_q140
theorem Wo:FK Iz:=fun _ _ h=>h.cons Iz (by kernel_rfl) Wh.JE aeQ
def Li:iq:=⟨270,[.v fk,.v I6],[.v (.pair I6 (.pair (.own an) .unit))],Wh.GA,Wh.S6⟩
def C_q143:Cx:=⟨cr,[],false,Gl⟩
theorem e_q143:EV C_q143 gT Tryz.f270 [.v fk,.v I6] [.v (.pair I6 (.pair (.own an) .unit))] Wh.GA:=by intro xs;kernel_rfl
theorem aeT:CO Li:=con_ok (Ls:=[]) mixed (ct _ _) cx Tryz.func270 loopsL_nil boxesL_none e_q143
theorem acK:FK Li:=fun _ _ h=>h.cons Li (by kernel_rfl) Wh.Zw aeT
def KK:iq:=⟨181,[.v fk,.v I6,.v .str],[.v (.pair I6 (.pair (.own an) .unit)),.v I6],Wh.EG,Wh.NM⟩
def C_q100:Cx:=⟨cr,[Li.entry,Iz.entry,IJ.entry,ID.entry],false,Gl⟩
theorem e_q100:EV C_q100 gT Tryz.f181 [.v fk,.v I6,.v .str] [.v (.pair I6 (.pair (.own an) .unit)),.v I6] Wh.EG:=by intro xs;kernel_rfl
theorem aed:CO KK:=con_ok (Ls:=[]) mixed (ct _ _) (acK _ (Wo _ (Wy _ (Wt _ cx)))) Tryz.func181 loopsL_nil boxesL_none e_q100
theorem ace:FK KK:=fun _ _ h=>h.cons KK (by kernel_rfl) Wh.YP aed
def LD:iq:=⟨188,[.v fk,.v an],[.v (.pair I6 (.pair (.own an) .unit))],Wh.GQ,Wh.TJ⟩
def VO:Cx:=⟨cr,[IA.entry],false,Gl⟩
def QS:b8:=kS ⟨[(5,.leaf I6),(4,.aZ z0 []),(2,.aZ z1 []),(3,.aZ z2 [])],[(z0,false,.var fk (.pair (.leaf I6) (.pair (.whole z3 an) (.leaf .unit)))),(z1,false,.var fk (.leaf fk)),(z2,false,.var an (.leaf an)),(z3,false,.rows an)]⟩ [((.exit 0),⟨[(4,.aZ z0 []),(5,.leaf I6),(2,.aZ z1 []),(3,.aZ z2 [])],[(z0,false,.var fk (.pair (.leaf I6) (.pair (.whole z3 an) (.leaf .unit)))),(z1,false,.var fk (.leaf fk)),(z2,false,.var an (.leaf an)),(z3,false,.rows an)]⟩)] Wh.ZZ Wh.DL
def X3:LT:=[(2,QS)]
theorem aiK:∀x,round VO X3 (jo Tryz.f188 0) QS x=Wh.DL x:=by intro x;kernel_rfl
theorem e_q169:EV VO X3 Tryz.f188 [.v fk,.v an] [.v (.pair I6 (.pair (.own an) .unit))] Wh.GQ:=by intro xs;kernel_rfl
theorem afi:CO LD:=con_ok (Ls:=[QS]) mixed (ct _ _) (Wp _ cx) Tryz.func188 (loopsC (loopD_ok aiK) loopsL_nil) boxesL_none e_q169
theorem ac3:FK LD:=fun _ _ h=>h.cons LD (by kernel_rfl) Wh.Z0 afi
def La:iq:=⟨101,[.v fk,.v I6,.v .str,.v .str],[.v (.pair I6 (.pair (.own an) .unit)),.v I6],Wh.Dz,Wh.NT⟩
def C_q130:Cx:=⟨cr,[LD.entry,Ir.entry,IJ.entry,Iz.entry,FI.entry,ID.entry],false,Gl⟩
theorem e_q130:EV C_q130 gT Tryz.f101 [.v fk,.v I6,.v .str,.v .str] [.v (.pair I6 (.pair (.own an) .unit)),.v I6] Wh.Dz:=by intro xs;kernel_rfl
theorem aeG:CO La:=con_ok (Ls:=[]) mixed (ct _ _) (ac3 _ (Wg _ (Wy _ (Wo _ (Nf _ (Wt _ cx)))))) Tryz.func101 loopsL_nil boxesL_none e_q130
theorem acD:FK La:=fun _ _ h=>h.cons La (by kernel_rfl) Wh.Zl aeG
def Lh:iq:=⟨98,[.v fk,.v .str],[.v (.pair I6 (.pair (.own an) .unit)),.v .bool],Wh.DC,Wh.S4⟩
def C_q141:Cx:=⟨cr,[La.entry,KK.entry,L6.entry,II.entry,Ld.entry,Iy.entry],false,Gl⟩
theorem e_q141:EV C_q141 gT Tryz.f98 [.v fk,.v .str] [.v (.pair I6 (.pair (.own an) .unit)),.v .bool] Wh.DC:=by intro xs;kernel_rfl
theorem aeR:CO Lh:=con_ok (Ls:=[]) mixed (ct _ _) (acD _ (ace _ (fk_q39 _ (Wx _ (acG _ (Wn _ cx)))))) Tryz.func98 loopsL_nil boxesL_none e_q141
theorem acJ:FK Lh:=fun _ _ h=>h.cons Lh (by kernel_rfl) Wh.S5 aeR
def HA:iq:=⟨61,[.v (.lst .str)],[.v (.pair I6 (.pair (.own an) .unit)),.v .bool],Wh.CL,Wh.JH⟩
def VH:Cx:=⟨cr,[Lh.entry],false,Gl⟩
def P_:b8:=kS ⟨[(2,.aZ z0 []),(5,.leaf I6),(4,.aZ z1 []),(0,.leaf (.lst .str))],[(z0,false,.var fk (.pair (.leaf I6) (.pair (.whole z2 an) (.leaf .unit)))),(z1,false,.var fk (.pair (.leaf I6) (.pair (.whole z3 an) (.leaf .unit)))),(z2,false,.rows an),(z3,false,.rows an)]⟩ [(.ret,⟨[(2,.aZ z0 []),(3,.leaf .bool)],[(z0,false,.var fk (.pair (.leaf I6) (.pair (.whole z1 an) (.leaf .unit)))),(z1,false,.rows an)]⟩),((.exit 0),⟨[(2,.aZ z0 []),(4,.aZ z1 [])],[(z0,false,.var fk (.pair (.leaf I6) (.pair (.whole z2 an) (.leaf .unit)))),(z1,false,.var fk (.pair (.leaf I6) (.pair (.whole z3 an) (.leaf .unit)))),(z2,false,.rows an),(z3,false,.rows an)]⟩)] Wh.ZM Wh.DG
def XV:LT:=[(3,P_)]
theorem ah4:∀x,round VH XV (jo Tryz.f61 0) P_ x=Wh.DG x:=by intro x;kernel_rfl
theorem e_q157:EV VH XV Tryz.f61 [.v (.lst .str)] [.v (.pair I6 (.pair (.own an) .unit)),.v .bool] Wh.CL:=by intro xs;kernel_rfl
theorem ae7:CO HA:=con_ok (Ls:=[P_]) mixed (ct _ _) (acJ _ cx) Tryz.func61 (loopsC (loopD_ok ah4) loopsL_nil) boxesL_none e_q157
theorem Re:FK HA:=fun _ _ h=>h.cons HA (by kernel_rfl) Wh.N4 ae7
def KP:iq:=⟨59,[.v ng],[.v .bool],Wh.Ge,Wh.Se⟩
def C_q105:Cx:=⟨cr,[HA.entry,Hy.entry],false,Gl⟩
theorem e_q105:EV C_q105 gT Tryz.f59 [.v ng] [.v .bool] Wh.Ge:=by intro xs;kernel_rfl
theorem aei:CO KP:=con_ok (Ls:=[]) mixed (ct _ _) (Re _ (Rc _ cx)) Tryz.func59 loopsL_nil boxesL_none e_q105
theorem acj:FK KP:=fun _ _ h=>h.cons KP (by kernel_rfl) Wh.YX aei
def KO:iq:=⟨62,[.v fk,.v fk],[.v .bool],Wh.Dq,Wh.Sc⟩
def Vo:Cx:=⟨cr,[],false,Gl⟩
def Qr:b8:=kS ⟨[(5,.leaf I6),(3,.aZ z0 []),(2,.aZ z1 [])],[(z0,false,.var fk (.leaf fk)),(z1,false,.var fk (.leaf fk))]⟩ [(.ret,⟨[(4,.leaf .bool)],[]⟩),((.exit 0),⟨[],[]⟩)] Wh.YV Wh.Dr
def XB:LT:=[(4,Qr)]
theorem aim:∀x,round Vo XB (jo Tryz.f62 0) Qr x=Wh.Dr x:=by intro x;kernel_rfl
theorem e_q104:EV Vo XB Tryz.f62 [.v fk,.v fk] [.v .bool] Wh.Dq:=by intro xs;kernel_rfl
theorem aeh:CO KO:=con_ok (Ls:=[Qr]) mixed (ct _ _) cx Tryz.func62 (loopsC (loopD_ok aim) loopsL_nil) boxesL_none e_q104
theorem aci:FK KO:=fun _ _ h=>h.cons KO (by kernel_rfl) Wh.YW aeh
def Ly:iq:=⟨151,[.v nc],[.v .bool],Wh.EZ,Wh.Tw⟩
def C_q162:Cx:=⟨cr,[zG.entry],false,Gl⟩
theorem e_q162:EV C_q162 gT Tryz.f151 [.v nc] [.v .bool] Wh.EZ:=by intro xs;kernel_rfl
theorem afb:CO Ly:=con_ok (Ls:=[]) mixed (ct _ _) (Al _ cx) Tryz.func151 loopsL_nil boxesL_none e_q162
theorem acY:FK Ly:=fun _ _ h=>h.cons Ly (by kernel_rfl) Wh.N8 afb
def Lx:iq:=⟨152,[.v n4,.v I6],[.v I6],Wh.GN,Wh.Tu⟩
def VJ:Cx:=⟨cr,[],false,Gl⟩
def Qq:b8:=kS ⟨[(6,.leaf I6),(5,.leaf I6),(1,.leaf I6),(2,.aZ z0 [])],[(z0,false,.var n4 (.leaf n4))]⟩ [((.exit 0),⟨[(5,.leaf I6)],[]⟩)] Wh.ZR Wh.DJ
def XX:LT:=[(3,Qq)]
theorem ail:∀x,round VJ XX (jo Tryz.f152 0) Qq x=Wh.DJ x:=by intro x;kernel_rfl
theorem e_q161:EV VJ XX Tryz.f152 [.v n4,.v I6] [.v I6] Wh.GN:=by intro xs;kernel_rfl
theorem afa:CO Lx:=con_ok (Ls:=[Qq]) mixed (ct _ _) cx Tryz.func152 (loopsC (loopD_ok ail) loopsL_nil) boxesL_none e_q161
theorem acX:FK Lx:=fun _ _ h=>h.cons Lx (by kernel_rfl) Wh.Ia afa
def Lc:iq:=⟨63,[.v n4],[.v .bool],Wh.EN,Wh.SP⟩
def KD:Cx:=⟨cr,[Lx.entry,Ly.entry,zG.entry],false,Gl⟩
def Qf:b8:=kS ⟨[(1,.aZ z0 []),(3,.leaf I6)],[(z0,false,.var n4 (.leaf n4))]⟩ [(.ret,⟨[(2,.leaf .bool)],[]⟩),((.exit 0),⟨[(1,.aZ z0 [])],[(z0,false,.var n4 (.leaf n4))]⟩)] Wh.Zo Wh.CF
def Qg:b8:=kS ⟨[(4,.leaf I6),(1,.aZ z0 []),(3,.leaf I6)],[(z0,false,.var n4 (.leaf n4))]⟩ [(.ret,⟨[(2,.leaf .bool)],[]⟩),((.exit 2),⟨[(1,.aZ z0 []),(3,.leaf I6)],[(z0,false,.var n4 (.leaf n4))]⟩)] Wh.Zp Wh.A2
def Qh:b8:=kS ⟨[(5,.leaf I6),(1,.aZ z0 [])],[(z0,false,.var n4 (.leaf n4))]⟩ [(.ret,⟨[(2,.leaf .bool)],[]⟩),((.exit 4),⟨[],[]⟩)] Wh.Zq Wh.CG
def NA:LT:=[(4,Qf),(9,Qg),(14,Qh)]
theorem ah_:∀x,round KD NA (jo Tryz.f63 0) Qf x=Wh.CF x:=by intro x;kernel_rfl
theorem aia:∀x,round KD NA (jo Tryz.f63 1) Qg x=Wh.A2 x:=by intro x;kernel_rfl
theorem aib:∀x,round KD NA (jo Tryz.f63 2) Qh x=Wh.CG x:=by intro x;kernel_rfl
theorem e_q133:EV KD NA Tryz.f63 [.v n4] [.v .bool] Wh.EN:=by intro xs;kernel_rfl
theorem aeJ:CO Lc:=con_ok (Ls:=[Qf,Qg,Qh]) mixed (ct _ _) (acX _ (acY _ (Al _ cx))) Tryz.func63 (loopsC (loopD_ok ah_) (loopsC (loopD_ok aia) (loopsC (loopD_ok aib) loopsL_nil))) boxesL_none e_q133
theorem acF:FK Lc:=fun _ _ h=>h.cons Lc (by kernel_rfl) Wh.Zr aeJ
def IL:iq:=⟨65,[.v fk,.v I6],[.v an,.v .bool],Wh.q41,Wh.Of⟩
def C_q41:Cx:=⟨cr,[],false,Gl⟩
def QO:b8:=kS ⟨[(4,.aZ z0 []),(6,.leaf I6),(2,.aZ z1 []),(1,.leaf I6)],[(z0,false,.var an (.pair (.leaf I6) (.pair (.leaf .str) (.pair (.leaf I6) (.pair (.leaf .str) (.leaf .unit)))))),(z1,false,.var fk (.leaf fk))]⟩ [(.ret,⟨[(4,.aZ z0 []),(5,.leaf .bool)],[(z0,false,.var an (.leaf an))]⟩),((.exit 0),⟨[(4,.aZ z0 [])],[(z0,false,.var an (.pair (.leaf I6) (.pair (.leaf .str) (.pair (.leaf I6) (.pair (.leaf .str) (.leaf .unit))))))]⟩)] Wh.aaj Wh.DW
def Yh:LT:=[(2,QO)]
theorem aiJ:∀x,round C_q41 Yh (jo Tryz.f65 0) QO x=Wh.DW x:=by intro x;kernel_rfl
theorem e_q41:EV C_q41 Yh Tryz.f65 [.v fk,.v I6] [.v an,.v .bool] Wh.q41:=by intro xs;kernel_rfl
theorem ok_q41:CO IL:=con_ok (Ls:=[QO]) mixed (ct _ _) cx Tryz.func65 (loopsC (loopD_ok aiJ) loopsL_nil) boxesL_none e_q41
theorem WA:FK IL:=fun _ _ h=>h.cons IL (by kernel_rfl) Wh.Fe ok_q41
def MH:iq:=⟨138,[.v I6],[.v I6],Wh.q77,Wh.q77'⟩
def C_q77:Cx:=⟨cr,[],false,Gl⟩
theorem e_q77:EV C_q77 gT Tryz.f138 [.v I6] [.v I6] Wh.q77:=by intro xs;kernel_rfl
theorem ok_q77:CO MH:=con_ok (Ls:=[]) mixed (ct _ _) cx Tryz.func138 loopsL_nil boxesL_none e_q77
theorem fk_q77:FK MH:=fun _ _ h=>h.cons MH (by kernel_rfl) Wh.UD ok_q77
def L8:iq:=⟨64,[.v ng],[.v .bool],Wh.q40,Wh.q40'⟩
def C_q40:Cx:=⟨cr,[MH.entry,IL.entry,zG.entry],false,Gl⟩
def Qs:b8:=kS ⟨[(3,.leaf I6),(1,.aZ z0 [])],[(z0,false,.var ng (.leaf ng))]⟩ [(.ret,⟨[(2,.leaf .bool)],[]⟩),((.exit 0),⟨[],[]⟩)] Wh.aai Wh.CP
def Yg:LT:=[(2,Qs)]
theorem ain:∀x,round C_q40 Yg (jo Tryz.f64 0) Qs x=Wh.CP x:=by intro x;kernel_rfl
theorem e_q40:EV C_q40 Yg Tryz.f64 [.v ng] [.v .bool] Wh.q40:=by intro xs;kernel_rfl
theorem ok_q40:CO L8:=con_ok (Ls:=[Qs]) mixed (ct _ _) (fk_q77 _ (WA _ (Al _ cx))) Tryz.func64 (loopsC (loopD_ok ain) loopsL_nil) boxesL_none e_q40
theorem fk_q40:FK L8:=fun _ _ h=>h.cons L8 (by kernel_rfl) Wh.q40_v ok_q40
def Eo:iq:=⟨66,[.v r5],[.v I6],Wh.z8,Wh.y6⟩
def C_q111:Cx:=⟨cr,[],false,Gl⟩
theorem e_q111:EV C_q111 gT Tryz.f66 [.v r5] [.v I6] Wh.z8:=by intro xs;kernel_rfl
theorem aen:CO Eo:=con_ok (Ls:=[]) mixed (ct _ _) cx Tryz.func66 loopsL_nil boxesL_none e_q111
theorem I_:FK Eo:=fun _ _ h=>h.cons Eo (by kernel_rfl) Wh.CC aen
def LC:iq:=⟨67,[.v I6],[.v (.pair I6 (.pair I6 (.pair (.own I6) (.pair (.own I6) .unit))))],Wh.E7,Wh.JL⟩
def VM:Cx:=⟨cr,[Eo.entry],false,Gl⟩
def QI:b8:=kS ⟨[(3,.aZ z0 []),(2,.aZ z1 [])],[(z0,false,.var r5 (.pair (.leaf I6) (.pair (.leaf I6) (.pair (.whole z2 I6) (.pair (.whole z3 I6) (.leaf .unit)))))),(z1,false,.var r5 (.pair (.leaf I6) (.pair (.leaf I6) (.pair (.whole 500000004 I6) (.pair (.whole 500000005 I6) (.leaf .unit)))))),(z2,false,.rows I6),(z3,false,.rows I6),(500000004,false,.rows I6),(500000005,false,.rows I6)]⟩ [((.exit 0),⟨[(2,.aZ z0 []),(3,.aZ z1 [])],[(z0,false,.var r5 (.pair (.leaf I6) (.pair (.leaf I6) (.pair (.whole z2 I6) (.pair (.whole z3 I6) (.leaf .unit)))))),(z1,false,.var r5 (.pair (.leaf I6) (.pair (.leaf I6) (.pair (.whole 500000004 I6) (.pair (.whole 500000005 I6) (.leaf .unit)))))),(z2,false,.rows I6),(z3,false,.rows I6),(500000004,false,.rows I6),(500000005,false,.rows I6)]⟩)] Wh.ZX Wh.DK
def X1:LT:=[(2,QI)]
theorem aiD:∀x,round VM X1 (jo Tryz.f67 0) QI x=Wh.DK x:=by intro x;kernel_rfl
theorem e_q167:EV VM X1 Tryz.f67 [.v I6] [.v (.pair I6 (.pair I6 (.pair (.own I6) (.pair (.own I6) .unit))))] Wh.E7:=by intro xs;kernel_rfl
theorem afg:CO LC:=con_ok (Ls:=[QI]) mixed (ct _ _) (I_ _ cx) Tryz.func67 (loopsC (loopD_ok aiD) loopsL_nil) boxesL_none e_q167
theorem ac2:FK LC:=fun _ _ h=>h.cons LC (by kernel_rfl) Wh.Oa afg
def MC:iq:=⟨68,[.v nI],[.v .bool],Wh.q73,Wh.q73'⟩
def C_q73:Cx:=⟨cr,[zG.entry],false,Gl⟩
theorem e_q73:EV C_q73 gT Tryz.f68 [.v nI] [.v .bool] Wh.q73:=by intro xs;kernel_rfl
theorem ok_q73:CO MC:=con_ok (Ls:=[]) mixed (ct _ _) (Al _ cx) Tryz.func68 loopsL_nil boxesL_none e_q73
theorem fk_q73:FK MC:=fun _ _ h=>h.cons MC (by kernel_rfl) Wh.q73_v ok_q73
def ME:iq:=⟨15,[.v ng],[.v .bool],Wh.q75,Wh.q75'⟩
def O2:Cx:=⟨cr,[MC.entry,Eo.entry,LC.entry,IL.entry,L8.entry,Lc.entry,KO.entry,HA.entry,Hy.entry,KP.entry,zG.entry],false,Gl⟩
def Qj:b8:=kS ⟨[(7,.leaf I6),(1,.aZ z0 [])],[(z0,false,.var ng (.leaf ng))]⟩ [(.ret,⟨[(2,.leaf .bool)],[]⟩),((.exit 0),⟨[(1,.aZ z0 [])],[(z0,false,.var ng (.leaf ng))]⟩)] Wh.aaA Wh.Bi
def Qk:b8:=kS ⟨[(10,.leaf I6),(1,.aZ z0 [])],[(z0,false,.var ng (.leaf ng))]⟩ [(.ret,⟨[(2,.leaf .bool)],[]⟩),((.exit 2),⟨[],[]⟩)] Wh.aaB Wh.DZ
def RP:LT:=[(10,Qj),(16,Qk)]
theorem aid:∀x,round O2 RP (jo Tryz.f15 0) Qj x=Wh.Bi x:=by intro x;kernel_rfl
theorem aie:∀x,round O2 RP (jo Tryz.f15 1) Qk x=Wh.DZ x:=by intro x;kernel_rfl
theorem e_q75:EV O2 RP Tryz.f15 [.v ng] [.v .bool] Wh.q75:=by intro xs;kernel_rfl
theorem ok_q75:CO ME:=con_ok (Ls:=[Qj,Qk]) mixed (ct _ _) (fk_q73 _ (I_ _ (ac2 _ (WA _ (fk_q40 _ (acF _ (aci _ (Re _ (Rc _ (acj _ (Al _ cx))))))))))) Tryz.func15 (loopsC (loopD_ok aid) (loopsC (loopD_ok aie) loopsL_nil)) boxesL_none e_q75
theorem fk_q75:FK ME:=fun _ _ h=>h.cons ME (by kernel_rfl) Wh.Uy ok_q75
def zW:iq:=⟨73,[.v I6,.v I6,.v I6],[.v .bool],Wh.xR,Wh.n_⟩
def C_q117:Cx:=⟨cr,[],false,Gl⟩
theorem e_q117:EV C_q117 gT Tryz.f73 [.v I6,.v I6,.v I6] [.v .bool] Wh.xR:=by intro xs;kernel_rfl
theorem aet:CO zW:=con_ok (Ls:=[]) mixed (ct _ _) cx Tryz.func73 loopsL_nil boxesL_none e_q117
theorem AN:FK zW:=fun _ _ h=>h.cons zW (by kernel_rfl) Wh.zK aet
def KX:iq:=⟨389,[.v I3,.v I6],[.v I3],Wh.AF,Wh.Bd⟩
def C_q116:Cx:=⟨cr,[],false,Gl⟩
theorem e_q116:EV C_q116 gT Tryz.f389 [.v I3,.v I6] [.v I3] Wh.AF:=by intro xs;kernel_rfl
theorem aes:CO KX:=con_ok (Ls:=[]) mixed (ct _ _) cx Tryz.func389 loopsL_nil boxesL_none e_q116
theorem acr:FK KX:=fun _ _ h=>h.cons KX (by kernel_rfl) Wh.q116_v aes
def Mg:iq:=⟨334,[.v .str],[.v .str],Wh.q52,Wh.q52'⟩
def En:Cx:=⟨cr,[KX.entry],false,Gl⟩
def Py:b8:=kS ⟨[(4,.whole z0 I8),(3,.aZ z1 []),(0,.leaf .str)],[(z0,false,.rows I8),(z1,false,.var (.arr 8 I3) (.leaf (.arr 8 I3)))]⟩ [((.exit 0),⟨[(4,.whole z0 I8),(3,.aZ z1 []),(0,.leaf .str)],[(z0,false,.rows I8),(z1,false,.var (.arr 8 I3) (.leaf (.arr 8 I3)))]⟩)] Wh.aap Wh.Fg
def Pz:b8:=kS ⟨[(6,.leaf I6),(5,.leaf (.int .u64)),(4,.whole z0 I8),(3,.aZ z1 [])],[(z0,false,.rows I8),(z1,false,.var (.arr 8 I3) (.leaf (.arr 8 I3)))]⟩ [((.exit 2),⟨[(4,.whole z0 I8),(3,.aZ z1 [])],[(z0,false,.rows I8),(z1,false,.var (.arr 8 I3) (.leaf (.arr 8 I3)))]⟩)] Wh.aaq Wh.G1
def PA:b8:=kS ⟨[(4,.piece z0 I8),(3,.aZ z1 [])],[(z0,false,.rows I8),(z1,false,.var (.arr 8 I3) (.leaf (.arr 8 I3)))]⟩ [((.exit 4),⟨[(3,.aZ z0 [])],[(z0,false,.var (.arr 8 I3) (.leaf (.arr 8 I3)))]⟩)] Wh.aar Wh.Fh
def PB:b8:=kS ⟨[(54,.leaf I6),(7,.aZ z0 []),(4,.piece z1 I8),(3,.aZ z2 [])],[(z0,false,.var (.arr 64 I3) (.leaf (.arr 64 I3))),(z1,false,.rows I8),(z2,false,.var (.arr 8 I3) (.leaf (.arr 8 I3)))]⟩ [((.exit 6),⟨[(7,.aZ z0 []),(3,.aZ z1 []),(4,.piece z2 I8)],[(z0,false,.var (.arr 64 I3) (.leaf (.arr 64 I3))),(z1,false,.var (.arr 8 I3) (.leaf (.arr 8 I3))),(z2,false,.rows I8)]⟩)] Wh.aas Wh.Fi
def PC:b8:=kS ⟨[(133,.leaf I6),(11,.aZ z0 []),(7,.aZ z1 []),(3,.aZ z2 []),(4,.piece z3 I8)],[(z0,false,.var (.arr 8 I3) (.leaf (.arr 8 I3))),(z1,false,.var (.arr 64 I3) (.leaf (.arr 64 I3))),(z2,false,.var (.arr 8 I3) (.leaf (.arr 8 I3))),(z3,false,.rows I8)]⟩ [((.exit 8),⟨[(3,.aZ z0 []),(11,.aZ z1 []),(4,.piece z2 I8)],[(z0,false,.var (.arr 8 I3) (.leaf (.arr 8 I3))),(z1,false,.var (.arr 8 I3) (.leaf (.arr 8 I3))),(z2,false,.rows I8)]⟩)] Wh.aat Wh.G2
def PD:b8:=kS ⟨[(213,.leaf I6),(3,.aZ z0 []),(11,.aZ z1 []),(4,.piece z2 I8)],[(z0,false,.var (.arr 8 I3) (.leaf (.arr 8 I3))),(z1,false,.var (.arr 8 I3) (.leaf (.arr 8 I3))),(z2,false,.rows I8)]⟩ [((.exit 10),⟨[(3,.aZ z0 []),(4,.piece z1 I8)],[(z0,false,.var (.arr 8 I3) (.leaf (.arr 8 I3))),(z1,false,.rows I8)]⟩)] Wh.aau Wh.JV
def PE:b8:=kS ⟨[(227,.leaf I6),(18,.whole z0 I8),(226,.leaf (.arr 8 I3))],[(z0,false,.rows I8)]⟩ [((.exit 12),⟨[(18,.whole z0 I8)],[(z0,false,.rows I8)]⟩)] Wh.aav Wh.JW
def EC:LT:=[(3,Py),(7,Pz),(10,PA),(14,PB),(23,PC),(31,PD),(37,PE)]
theorem ahx:∀x,round En EC (jo Tryz.f334 0) Py x=Wh.Fg x:=by intro x;kernel_rfl
theorem ahy:∀x,round En EC (jo Tryz.f334 1) Pz x=Wh.G1 x:=by intro x;kernel_rfl
theorem ahz:∀x,round En EC (jo Tryz.f334 2) PA x=Wh.Fh x:=by intro x;kernel_rfl
theorem ahA:∀x,round En EC (jo Tryz.f334 3) PB x=Wh.Fi x:=by intro x;kernel_rfl
theorem ahB:∀x,round En EC (jo Tryz.f334 4) PC x=Wh.G2 x:=by intro x;kernel_rfl
theorem ahC:∀x,round En EC (jo Tryz.f334 5) PD x=Wh.JV x:=by intro x;kernel_rfl
theorem ahD:∀x,round En EC (jo Tryz.f334 6) PE x=Wh.JW x:=by intro x;kernel_rfl
theorem e_q52:EV En EC Tryz.f334 [.v .str] [.v .str] Wh.q52:=by intro xs;kernel_rfl
theorem ok_q52:CO Mg:=con_ok (Ls:=[Py,Pz,PA,PB,PC,PD,PE]) mixed (ct _ _) (acr _ cx) Tryz.func334 (loopsC (loopD_ok ahx) (loopsC (loopD_ok ahy) (loopsC (loopD_ok ahz) (loopsC (loopD_ok ahA) (loopsC (loopD_ok ahB) (loopsC (loopD_ok ahC) (loopsC (loopD_ok ahD) loopsL_nil))))))) boxesL_none e_q52
theorem fk_q52:FK Mg:=fun _ _ h=>h.cons Mg (by kernel_rfl) Wh.q52_v ok_q52
def Ln:iq:=⟨333,[.v .str],[.v .str],Wh.H9,Wh.Tc⟩
def VD:Cx:=⟨cr,[],false,Gl⟩
def Pv:b8:=kS ⟨[(4,.leaf I6),(0,.leaf .str),(3,.whole z0 I8)],[(z0,false,.rows I8)]⟩ [((.exit 0),⟨[(3,.whole z0 I8)],[(z0,false,.rows I8)]⟩)] Wh.ZC Wh.N0
def XR:LT:=[(3,Pv)]
theorem ahu:∀x,round VD XR (jo Tryz.f333 0) Pv x=Wh.N0 x:=by intro x;kernel_rfl
theorem e_q148:EV VD XR Tryz.f333 [.v .str] [.v .str] Wh.H9:=by intro xs;kernel_rfl
theorem aeY:CO Ln:=con_ok (Ls:=[Pv]) mixed (ct _ _) cx Tryz.func333 (loopsC (loopD_ok ahu) loopsL_nil) boxesL_none e_q148
theorem acO:FK Ln:=fun _ _ h=>h.cons Ln (by kernel_rfl) Wh.ZD aeY
def MN:iq:=⟨263,[.v .str],[.v .str],Wh.q82,Wh.Fp⟩
def C_q82:Cx:=⟨cr,[Ln.entry,Mg.entry],false,Gl⟩
theorem e_q82:EV C_q82 gT Tryz.f263 [.v .str] [.v .str] Wh.q82:=by intro xs;kernel_rfl
theorem ok_q82:CO MN:=con_ok (Ls:=[]) mixed (ct _ _) (acO _ (fk_q52 _ cx)) Tryz.func263 loopsL_nil boxesL_none e_q82
theorem fk_q82:FK MN:=fun _ _ h=>h.cons MN (by kernel_rfl) Wh.q82_v ok_q82
def MS:iq:=⟨159,[.v I6,.v .str],[.v .str],Wh.q88,Wh.q88'⟩
def C_q88:Cx:=⟨cr,[MN.entry,HC.entry],false,Gl⟩
theorem e_q88:EV C_q88 gT Tryz.f159 [.v I6,.v .str] [.v .str] Wh.q88:=by intro xs;kernel_rfl
theorem ok_q88:CO MS:=con_ok (Ls:=[]) mixed (ct _ _) (fk_q82 _ (Rg _ cx)) Tryz.func159 loopsL_nil boxesL_none e_q88
theorem fk_q88:FK MS:=fun _ _ h=>h.cons MS (by kernel_rfl) Wh.US ok_q88
def Me:iq:=⟨243,[.v .str,.v .str],[.v .bool],Wh.q5,Wh.q5'⟩
def C_q5:Cx:=⟨cr,[],false,Gl⟩
theorem e_q5:EV C_q5 gT Tryz.f243 [.v .str,.v .str] [.v .bool] Wh.q5:=by intro xs;kernel_rfl
theorem ok_q5:CO Me:=con_ok (Ls:=[]) mixed (ct _ _) cx Tryz.func243 loopsL_nil boxesL_none e_q5
theorem fk_q5:FK Me:=fun _ _ h=>h.cons Me (by kernel_rfl) Wh.q5_v ok_q5
def K_:iq:=⟨140,[.v .str,.v .str],[.v .bool],Wh.q13,Wh.q13'⟩
def C_q13:Cx:=⟨cr,[Me.entry],false,Gl⟩
theorem e_q13:EV C_q13 gT Tryz.f140 [.v .str,.v .str] [.v .bool] Wh.q13:=by intro xs;kernel_rfl
theorem ok_q13:CO K_:=con_ok (Ls:=[]) mixed (ct _ _) (fk_q5 _ cx) Tryz.func140 loopsL_nil boxesL_none e_q13
theorem fk_q13:FK K_:=fun _ _ h=>h.cons K_ (by kernel_rfl) Wh.S3 ok_q13
def IP:iq:=⟨74,[.v .str],[.v (.own .str),.v I6],Wh.CR,Wh.Ol⟩
def C_q83:Cx:=⟨cr,[K_.entry,MS.entry,zW.entry,HC.entry,Iq.entry,IU.entry],false,Gl⟩
def O8:b8:=kS ⟨[(5,.leaf I6),(4,.whole z0 .str),(0,.leaf .str)],[(z0,false,.rows .str)]⟩ [(.ret,⟨[(2,.whole z0 .str),(3,.leaf I6)],[(z0,false,.rows .str)]⟩)] Wh.aaJ Wh.CS
def Yn:LT:=[(3,O8)]
theorem aha:∀x,round C_q83 Yn (jo Tryz.f74 0) O8 x=Wh.CS x:=by intro x;kernel_rfl
theorem e_q83:EV C_q83 Yn Tryz.f74 [.v .str] [.v (.own .str),.v I6] Wh.CR:=by intro xs;kernel_rfl
theorem ok_q83:CO IP:=con_ok (Ls:=[O8]) mixed (ct _ _) (fk_q13 _ (fk_q88 _ (AN _ (Rg _ (Wf _ (WI _ cx)))))) Tryz.func74 (loopsC (loopD_ok aha) loopsL_nil) boxesL_none e_q83
theorem WD:FK IP:=fun _ _ h=>h.cons IP (by kernel_rfl) Wh.UJ ok_q83
def Hz:iq:=⟨233,[.v I6],[.v .bool],Wh.Bf,Wh.JG⟩
def C_q149:Cx:=⟨cr,[zW.entry],false,Gl⟩
theorem e_q149:EV C_q149 gT Tryz.f233 [.v I6] [.v .bool] Wh.Bf:=by intro xs;kernel_rfl
theorem aeZ:CO Hz:=con_ok (Ls:=[]) mixed (ct _ _) (AN _ cx) Tryz.func233 loopsL_nil boxesL_none e_q149
theorem Rd:FK Hz:=fun _ _ h=>h.cons Hz (by kernel_rfl) Wh.N1 aeZ
def Hx:iq:=⟨213,[.v .str],[.v .bool],Wh.BD,Wh.Jx⟩
def Vr:Cx:=⟨cr,[zW.entry],false,Gl⟩
def O9:b8:=kS ⟨[(6,.leaf I6),(0,.leaf .str),(5,.leaf I6)],[]⟩ [(.ret,⟨[(2,.leaf .bool)],[]⟩),((.exit 0),⟨[(0,.leaf .str)],[]⟩)] Wh.Y8 Wh.AZ
def XE:LT:=[(2,O9)]
theorem ahb:∀x,round Vr XE (jo Tryz.f213 0) O9 x=Wh.AZ x:=by intro x;kernel_rfl
theorem e_q113:EV Vr XE Tryz.f213 [.v .str] [.v .bool] Wh.BD:=by intro xs;kernel_rfl
theorem aep:CO Hx:=con_ok (Ls:=[O9]) mixed (ct _ _) (AN _ cx) Tryz.func213 (loopsC (loopD_ok ahb) loopsL_nil) boxesL_none e_q113
theorem Rb:FK Hx:=fun _ _ h=>h.cons Hx (by kernel_rfl) Wh.NP aep
def LN:iq:=⟨192,[.v I6,.v .str,.v .str],[.v .str],Wh.q22,Wh.q22'⟩
def C_q22:Cx:=⟨cr,[HC.entry,Hx.entry,Hz.entry],false,Gl⟩
theorem e_q22:EV C_q22 gT Tryz.f192 [.v I6,.v .str,.v .str] [.v .str] Wh.q22:=by intro xs;kernel_rfl
theorem ok_q22:CO LN:=con_ok (Ls:=[]) mixed (ct _ _) (Rg _ (Rb _ (Rd _ cx))) Tryz.func192 loopsL_nil boxesL_none e_q22
theorem fk_q22:FK LN:=fun _ _ h=>h.cons LN (by kernel_rfl) Wh.TU ok_q22
def IN:iq:=⟨267,[.v fk],[.v (.pair I6 (.pair (.own an) .unit))],Wh.DY,Wh.JU⟩
def C_q50:Cx:=⟨cr,[],false,Gl⟩
theorem e_q50:EV C_q50 gT Tryz.f267 [.v fk] [.v (.pair I6 (.pair (.own an) .unit))] Wh.DY:=by intro xs;kernel_rfl
theorem ok_q50:CO IN:=con_ok (Ls:=[]) mixed (ct _ _) cx Tryz.func267 loopsL_nil boxesL_none e_q50
theorem WC:FK IN:=fun _ _ h=>h.cons IN (by kernel_rfl) Wh.G0 ok_q50
def LK:iq:=⟨276,[.v an,.v (.ref I6),.v (.ref .str)],[.v .bool],Wh.q18,Wh.q18'⟩
def C_q18:Cx:=⟨cr,[],false,Gl⟩
theorem e_q18:EV C_q18 gT Tryz.f276 [.v an,.v (.ref I6),.v (.ref .str)] [.v .bool] Wh.q18:=by intro xs;kernel_rfl
theorem ok_q18:CO LK:=con_ok (Ls:=[]) mixed (ct _ _) cx Tryz.func276 loopsL_nil boxesL_none e_q18
theorem fk_q18:FK LK:=fun _ _ h=>h.cons LK (by kernel_rfl) Wh.TR ok_q18
def LV:iq:=⟨165,[.v (.lst an),.f 276 (.pair (.ref I6) (.pair (.ref .str) .unit))],[.v I6],Wh.q3,Wh.q3'⟩
def C_q3:Cx:=⟨cr,[LK.entry],false,Gl⟩
def P6:b8:=kS ⟨[(8,.leaf I6),(0,.leaf (.lst an)),(1,.fn 276 (.bB (.leaf (.ref I6)) (.bB (.leaf (.ref .str)) (.b7)))),(7,.leaf I6)],[]⟩ [(.ret,⟨[(4,.leaf I6)],[]⟩),((.exit 0),⟨[],[]⟩)] Wh.aah Wh.DU
def lt_q3:LT:=[(2,P6)]
theorem ah0:∀x,round C_q3 lt_q3 (jo Tryz.f165 0) P6 x=Wh.DU x:=by intro x;kernel_rfl
theorem e_q3:EV C_q3 lt_q3 Tryz.f165 [.v (.lst an),.f 276 (.pair (.ref I6) (.pair (.ref .str) .unit))] [.v I6] Wh.q3:=by intro xs;kernel_rfl
theorem ok_q3:CO LV:=con_ok (Ls:=[P6]) mixed (ct _ _) (fk_q18 _ cx) Tryz.func165 (loopsC (loopD_ok ah0) loopsL_nil) boxesL_none e_q3
theorem fk_q3:FK LV:=fun _ _ h=>h.cons LV (by kernel_rfl) Wh.q3_v ok_q3
def IM:iq:=⟨193,[.v fk,.v I6,.v .str],[.v I6],Wh.B8,Wh.Oh⟩
def C_q44:Cx:=⟨cr,[LV.entry],false,Gl⟩
theorem e_q44:EV C_q44 gT Tryz.f193 [.v fk,.v I6,.v .str] [.v I6] Wh.B8:=by intro xs;kernel_rfl
theorem ok_q44:CO IM:=con_ok (Ls:=[]) mixed (ct _ _) (fk_q3 _ cx) Tryz.func193 loopsL_nil boxesL_none e_q44
theorem WB:FK IM:=fun _ _ h=>h.cons IM (by kernel_rfl) Wh.JR ok_q44
def KJ:iq:=⟨277,[.k (.own an),.v I6,.v I6],[.v (.own an)],Wh.q10,Wh.q10'⟩
def C_q10:Cx:=⟨cr,[],false,Gl⟩
theorem e_q10:EV C_q10 gT Tryz.f277 [.k (.own an),.v I6,.v I6] [.v (.own an)] Wh.q10:=by intro xs;kernel_rfl
theorem ok_q10:CO KJ:=con_ok (Ls:=[]) mixed (ct _ _) cx Tryz.func277 loopsL_nil boxesL_none e_q10
theorem fk_q10:FK KJ:=fun _ _ h=>h.cons KJ (by kernel_rfl) Wh.q10_v ok_q10
def Ma:iq:=⟨194,[.v fk,.v I6,.v .str],[.v (.pair I6 (.pair (.own an) .unit)),.v I6],Wh.q45,Wh.q45'⟩
def C_q45:Cx:=⟨cr,[KJ.entry,IM.entry,IN.entry],false,Gl⟩
theorem e_q45:EV C_q45 gT Tryz.f194 [.v fk,.v I6,.v .str] [.v (.pair I6 (.pair (.own an) .unit)),.v I6] Wh.q45:=by intro xs;kernel_rfl
theorem ok_q45:CO Ma:=con_ok (Ls:=[]) mixed (ct _ _) (fk_q10 _ (WB _ (WC _ cx))) Tryz.func194 loopsL_nil boxesL_none e_q45
theorem fk_q45:FK Ma:=fun _ _ h=>h.cons Ma (by kernel_rfl) Wh.q45_v ok_q45
def IF:iq:=⟨130,[.v I6,.v .str,.v .str],[.v .bool],Wh.q16,Wh.N7⟩
def C_q16:Cx:=⟨cr,[zW.entry,Hx.entry,Hz.entry],false,Gl⟩
theorem e_q16:EV C_q16 gT Tryz.f130 [.v I6,.v .str,.v .str] [.v .bool] Wh.q16:=by intro xs;kernel_rfl
theorem ok_q16:CO IF:=con_ok (Ls:=[]) mixed (ct _ _) (AN _ (Rb _ (Rd _ cx))) Tryz.func130 loopsL_nil boxesL_none e_q16
theorem Wv:FK IF:=fun _ _ h=>h.cons IF (by kernel_rfl) Wh.JN ok_q16
def LP:iq:=⟨273,[.v fk,.v I6],[.v I6],Wh.q24,Wh.q24'⟩
def C_q24:Cx:=⟨cr,[],false,Gl⟩
def O7:b8:=kS ⟨[(11,.leaf I6),(5,.leaf I6),(1,.leaf I6),(9,.leaf (.lst an)),(10,.leaf I6)],[]⟩ [((.exit 0),⟨[(5,.leaf I6)],[]⟩)] Wh.Z8 Wh.DQ
def X7:LT:=[(3,O7)]
theorem ag_:∀x,round C_q24 X7 (jo Tryz.f273 0) O7 x=Wh.DQ x:=by intro x;kernel_rfl
theorem e_q24:EV C_q24 X7 Tryz.f273 [.v fk,.v I6] [.v I6] Wh.q24:=by intro xs;kernel_rfl
theorem ok_q24:CO LP:=con_ok (Ls:=[O7]) mixed (ct _ _) cx Tryz.func273 (loopsC (loopD_ok ag_) loopsL_nil) boxesL_none e_q24
theorem fk_q24:FK LP:=fun _ _ h=>h.cons LP (by kernel_rfl) Wh.q24_v ok_q24
def L9:iq:=⟨398,[.v I6],[.v .bool],Wh.q42,Wh.Og⟩
def C_q42:Cx:=⟨cr,[],false,Gl⟩
theorem e_q42:EV C_q42 gT Tryz.f398 [.v I6] [.v .bool] Wh.q42:=by intro xs;kernel_rfl
theorem ok_q42:CO L9:=con_ok (Ls:=[]) mixed (ct _ _) cx Tryz.func398 loopsL_nil boxesL_none e_q42
theorem fk_q42:FK L9:=fun _ _ h=>h.cons L9 (by kernel_rfl) Wh.q42_v ok_q42
def LF:iq:=⟨337,[.v I6,.v I6],[.v I6],Wh.q17,Wh.q17'⟩
def C_q17:Cx:=⟨cr,[L9.entry],false,Gl⟩
theorem e_q17:EV C_q17 gT Tryz.f337 [.v I6,.v I6] [.v I6] Wh.q17:=by intro xs;kernel_rfl
theorem ok_q17:CO LF:=con_ok (Ls:=[]) mixed (ct _ _) (fk_q42 _ cx) Tryz.func337 loopsL_nil boxesL_none e_q17
theorem fk_q17:FK LF:=fun _ _ h=>h.cons LF (by kernel_rfl) Wh.q17_v ok_q17
def Lg:iq:=⟨399,[.v .str],[.v .bool],Wh.q14,Wh.NW⟩
def C_q14:Cx:=⟨cr,[],false,Gl⟩
theorem e_q14:EV C_q14 gT Tryz.f399 [.v .str] [.v .bool] Wh.q14:=by intro xs;kernel_rfl
theorem ok_q14:CO Lg:=con_ok (Ls:=[]) mixed (ct _ _) cx Tryz.func399 loopsL_nil boxesL_none e_q14
theorem fk_q14:FK Lg:=fun _ _ h=>h.cons Lg (by kernel_rfl) Wh.q14_v ok_q14
def My:iq:=⟨338,[.v .str,.v .str],[.v I6],Wh.q7,Wh.q7'⟩
def C_q7:Cx:=⟨cr,[Lg.entry],false,Gl⟩
theorem e_q7:EV C_q7 gT Tryz.f338 [.v .str,.v .str] [.v I6] Wh.q7:=by intro xs;kernel_rfl
theorem ok_q7:CO My:=con_ok (Ls:=[]) mixed (ct _ _) (fk_q14 _ cx) Tryz.func338 loopsL_nil boxesL_none e_q7
theorem fk_q7:FK My:=fun _ _ h=>h.cons My (by kernel_rfl) Wh.q7_v ok_q7
def Lj:iq:=⟨336,[.v (.lst I6)],[.v I6],Wh.GB,Wh.S7⟩
def VA:Cx:=⟨cr,[],false,Gl⟩
def O5:b8:=kS ⟨[(8,.leaf I6),(3,.leaf I6),(6,.leaf (.lst I6)),(7,.leaf I6)],[]⟩ [(.ret,⟨[(2,.leaf I6)],[]⟩),((.exit 0),⟨[(3,.leaf I6)],[]⟩)] Wh.Zx Wh.EP
def XO:LT:=[(3,O5)]
theorem ag8:∀x,round VA XO (jo Tryz.f336 0) O5 x=Wh.EP x:=by intro x;kernel_rfl
theorem e_q144:EV VA XO Tryz.f336 [.v (.lst I6)] [.v I6] Wh.GB:=by intro xs;kernel_rfl
theorem aeU:CO Lj:=con_ok (Ls:=[O5]) mixed (ct _ _) cx Tryz.func336 (loopsC (loopD_ok ag8) loopsL_nil) boxesL_none e_q144
theorem acL:FK Lj:=fun _ _ h=>h.cons Lj (by kernel_rfl) Wh.Zy aeU
def IK:iq:=⟨275,[.v an,.v an],[.v I6],Wh.q26,Wh.q26'⟩
def C_q26:Cx:=⟨cr,[Lj.entry,My.entry,LF.entry],false,Gl⟩
theorem e_q26:EV C_q26 gT Tryz.f275 [.v an,.v an] [.v I6] Wh.q26:=by intro xs;kernel_rfl
theorem ok_q26:CO IK:=con_ok (Ls:=[]) mixed (ct _ _) (acL _ (fk_q7 _ (fk_q17 _ cx))) Tryz.func275 loopsL_nil boxesL_none e_q26
theorem Wz:FK IK:=fun _ _ h=>h.cons IK (by kernel_rfl) Wh.Od ok_q26
def KH:iq:=⟨390,[.m an,.v I6,.v I6,.f 275 .unit],[],Wh.q0,Wh.q0'⟩
def C_q0:Cx:=⟨cr,[IK.entry],false,Gl⟩
def P7:b8:=kS ⟨[(0,.whole 900 an),(8,.leaf I6),(3,.fn 275 (.b7)),(1,.leaf I6),(2,.leaf I6)],[(900,false,.rows an)]⟩ [((.exit 0),⟨[],[(900,false,.rows an)]⟩)] Wh.YN Wh.BZ
def P8:b8:=kS ⟨[(9,.leaf I6),(0,.whole 900 an),(3,.fn 275 (.b7)),(1,.leaf I6),(2,.leaf I6),(8,.leaf I6)],[(900,false,.rows an)]⟩ [((.exit 2),⟨[(0,.whole 900 an),(3,.fn 275 (.b7)),(1,.leaf I6),(2,.leaf I6),(8,.leaf I6)],[(900,false,.rows an)]⟩)] Wh.YO Wh.CA
def RH:LT:=[(1,P7),(4,P8)]
theorem ah1:∀x,round C_q0 RH (jo Tryz.f390 0) P7 x=Wh.BZ x:=by intro x;kernel_rfl
theorem ah2:∀x,round C_q0 RH (jo Tryz.f390 1) P8 x=Wh.CA x:=by intro x;kernel_rfl
theorem e_q0:EV C_q0 RH Tryz.f390 [.m an,.v I6,.v I6,.f 275 .unit] [] Wh.q0:=by intro xs;kernel_rfl
theorem ok_q0:CO KH:=con_ok (Ls:=[P7,P8]) mixed (ct _ _) (Wz _ cx) Tryz.func390 (loopsC (loopD_ok ah1) (loopsC (loopD_ok ah2) loopsL_nil)) boxesL_none e_q0
theorem fk_q0:FK KH:=fun _ _ h=>h.cons KH (by kernel_rfl) Wh.q0_v ok_q0
def KI:iq:=⟨335,[.m an,.v I6,.v I6,.v I6,.f 275 .unit],[],Wh.q1,Wh.q1'⟩
def C_q1:Cx:=⟨cr,[IK.entry,KH.entry],false,Gl⟩
def P9:b8:=kS ⟨[(4,.fn 275 (.b7)),(2,.leaf I6),(1,.leaf I6),(0,.whole 900 an),(11,.leaf .bool),(10,.leaf .bool),(3,.leaf I6)],[(900,false,.rows an)]⟩ [(.ret,⟨[],[(900,false,.rows an)]⟩)] Wh.Z6 Wh.Ib
def lt_q1:LT:=[(2,P9)]
theorem ah3:∀x,round C_q1 lt_q1 (jo Tryz.f335 0) P9 x=Wh.Ib x:=by intro x;kernel_rfl
theorem e_q1:EV C_q1 lt_q1 Tryz.f335 [.m an,.v I6,.v I6,.v I6,.f 275 .unit] [] Wh.q1:=by intro xs;kernel_rfl
theorem ok_q1:CO KI:=con_ok (Ls:=[P9]) mixed (ct _ _) (Wz _ (fk_q0 _ cx)) Tryz.func335 (loopsC (loopD_ok ah3) loopsL_nil) boxesL_none e_q1
theorem fk_q1:FK KI:=fun _ _ h=>h.cons KI (by kernel_rfl) Wh.q1_v ok_q1
def L7:iq:=⟨274,[.m an,.f 275 .unit],[],Wh.q4,Wh.q4'⟩
def C_q4:Cx:=⟨cr,[KI.entry,KG.entry],false,Gl⟩
theorem e_q4:EV C_q4 gT Tryz.f274 [.m an,.f 275 .unit] [] Wh.q4:=by intro xs;kernel_rfl
theorem ok_q4:CO L7:=con_ok (Ls:=[]) mixed (ct _ _) (fk_q1 _ (acd _ cx)) Tryz.func274 loopsL_nil boxesL_none e_q4
theorem fk_q4:FK L7:=fun _ _ h=>h.cons L7 (by kernel_rfl) Wh.q4_v ok_q4
def MM:iq:=⟨190,[.v fk,.v I6,.v .str,.v .str],[.v (.pair I6 (.pair (.own an) .unit)),.v I6],Wh.D5,Wh.q81'⟩
def C_q81:Cx:=⟨cr,[L7.entry,LP.entry,IM.entry,IF.entry,IN.entry],false,Gl⟩
theorem e_q81:EV C_q81 gT Tryz.f190 [.v fk,.v I6,.v .str,.v .str] [.v (.pair I6 (.pair (.own an) .unit)),.v I6] Wh.D5:=by intro xs;kernel_rfl
theorem ok_q81:CO MM:=con_ok (Ls:=[]) mixed (ct _ _) (fk_q4 _ (fk_q24 _ (WB _ (Wv _ (WC _ cx))))) Tryz.func190 loopsL_nil boxesL_none e_q81
theorem fk_q81:FK MM:=fun _ _ h=>h.cons MM (by kernel_rfl) Wh.q81_v ok_q81
def LO:iq:=⟨160,[.v fk,.v .str],[.v (.pair I6 (.pair (.own an) .unit)),.v .bool],Wh.q23,Wh.q23'⟩
def C_q23:Cx:=⟨cr,[MM.entry,Ma.entry,LN.entry,Iq.entry,IU.entry],false,Gl⟩
theorem e_q23:EV C_q23 gT Tryz.f160 [.v fk,.v .str] [.v (.pair I6 (.pair (.own an) .unit)),.v .bool] Wh.q23:=by intro xs;kernel_rfl
theorem ok_q23:CO LO:=con_ok (Ls:=[]) mixed (ct _ _) (fk_q81 _ (fk_q45 _ (fk_q22 _ (Wf _ (WI _ cx))))) Tryz.func160 loopsL_nil boxesL_none e_q23
theorem fk_q23:FK LO:=fun _ _ h=>h.cons LO (by kernel_rfl) Wh.TV ok_q23
def IB:iq:=⟨75,[.v (.lst .str)],[.v (.pair I6 (.pair (.own an) .unit)),.v .bool],Wh.DD,Wh.NZ⟩
def VB:Cx:=⟨cr,[LO.entry],false,Gl⟩
def O6:b8:=kS ⟨[(2,.aZ z0 []),(13,.leaf I6),(4,.aZ z1 []),(11,.leaf (.lst .str)),(12,.leaf I6)],[(z0,false,.var fk (.pair (.leaf I6) (.pair (.whole z2 an) (.leaf .unit)))),(z1,false,.var fk (.pair (.leaf I6) (.pair (.whole z3 an) (.leaf .unit)))),(z2,false,.rows an),(z3,false,.rows an)]⟩ [(.ret,⟨[(2,.aZ z0 []),(3,.leaf .bool)],[(z0,false,.var fk (.pair (.leaf I6) (.pair (.whole z1 an) (.leaf .unit)))),(z1,false,.rows an)]⟩),((.exit 0),⟨[(2,.aZ z0 []),(4,.aZ z1 [])],[(z0,false,.var fk (.pair (.leaf I6) (.pair (.whole z2 an) (.leaf .unit)))),(z1,false,.var fk (.pair (.leaf I6) (.pair (.whole z3 an) (.leaf .unit)))),(z2,false,.rows an),(z3,false,.rows an)]⟩)] Wh.Zz Wh.DE
def XP:LT:=[(3,O6)]
theorem ag9:∀x,round VB XP (jo Tryz.f75 0) O6 x=Wh.DE x:=by intro x;kernel_rfl
theorem e_q145:EV VB XP Tryz.f75 [.v (.lst .str)] [.v (.pair I6 (.pair (.own an) .unit)),.v .bool] Wh.DD:=by intro xs;kernel_rfl
theorem aeV:CO IB:=con_ok (Ls:=[O6]) mixed (ct _ _) (fk_q23 _ cx) Tryz.func75 (loopsC (loopD_ok ag9) loopsL_nil) boxesL_none e_q145
theorem Wq:FK IB:=fun _ _ h=>h.cons IB (by kernel_rfl) Wh.S_ aeV
def KZ:iq:=⟨161,[.v (.lst an),.v (.lst an)],[.v .bool],Wh.q12,Wh.q12'⟩
def C_q12:Cx:=⟨cr,[],false,Gl⟩
def P4:b8:=kS ⟨[(13,.leaf I6),(1,.leaf (.lst an)),(0,.leaf (.lst an)),(12,.leaf I6)],[]⟩ [(.ret,⟨[(4,.leaf .bool)],[]⟩),((.exit 0),⟨[],[]⟩)] Wh.Zk Wh.Dy
def XH:LT:=[(4,P4)]
theorem ahY:∀x,round C_q12 XH (jo Tryz.f161 0) P4 x=Wh.Dy x:=by intro x;kernel_rfl
theorem e_q12:EV C_q12 XH Tryz.f161 [.v (.lst an),.v (.lst an)] [.v .bool] Wh.q12:=by intro xs;kernel_rfl
theorem ok_q12:CO KZ:=con_ok (Ls:=[P4]) mixed (ct _ _) cx Tryz.func161 (loopsC (loopD_ok ahY) loopsL_nil) boxesL_none e_q12
theorem fk_q12:FK KZ:=fun _ _ h=>h.cons KZ (by kernel_rfl) Wh.q12_v ok_q12
def MT:iq:=⟨76,[.v fk,.v fk],[.v .bool],Wh.q89,Wh.q89'⟩
def C_q89:Cx:=⟨cr,[KZ.entry],false,Gl⟩
theorem e_q89:EV C_q89 gT Tryz.f76 [.v fk,.v fk] [.v .bool] Wh.q89:=by intro xs;kernel_rfl
theorem ok_q89:CO MT:=con_ok (Ls:=[]) mixed (ct _ _) (fk_q12 _ cx) Tryz.func76 loopsL_nil boxesL_none e_q89
theorem fk_q89:FK MT:=fun _ _ h=>h.cons MT (by kernel_rfl) Wh.q89_v ok_q89
def LQ:iq:=⟨264,[.v n4,.v I6,.v I6],[.v I6],Wh.q25,Wh.q25'⟩
def C_q25:Cx:=⟨cr,[],false,Gl⟩
def Pe:b8:=kS ⟨[(12,.leaf I6),(2,.leaf I6),(1,.leaf I6),(10,.leaf (.lst nc)),(11,.leaf I6)],[]⟩ [(.ret,⟨[(6,.leaf I6)],[]⟩),((.exit 0),⟨[],[]⟩)] Wh.Z9 Wh.DR
def X8:LT:=[(2,Pe)]
theorem ahg:∀x,round C_q25 X8 (jo Tryz.f264 0) Pe x=Wh.DR x:=by intro x;kernel_rfl
theorem e_q25:EV C_q25 X8 Tryz.f264 [.v n4,.v I6,.v I6] [.v I6] Wh.q25:=by intro xs;kernel_rfl
theorem ok_q25:CO LQ:=con_ok (Ls:=[Pe]) mixed (ct _ _) cx Tryz.func264 (loopsC (loopD_ok ahg) loopsL_nil) boxesL_none e_q25
theorem fk_q25:FK LQ:=fun _ _ h=>h.cons LQ (by kernel_rfl) Wh.q25_v ok_q25
def MP:iq:=⟨265,[.v n4,.v I6],[.v I6],Wh.q85,Wh.q85'⟩
def C_q85:Cx:=⟨cr,[],false,Gl⟩
def Pf:b8:=kS ⟨[(11,.leaf I6),(5,.leaf I6),(1,.leaf I6),(9,.leaf (.lst nc)),(10,.leaf I6)],[]⟩ [((.exit 0),⟨[(5,.leaf I6)],[]⟩)] Wh.aaL Wh.D6
def Yp:LT:=[(3,Pf)]
theorem ahh:∀x,round C_q85 Yp (jo Tryz.f265 0) Pf x=Wh.D6 x:=by intro x;kernel_rfl
theorem e_q85:EV C_q85 Yp Tryz.f265 [.v n4,.v I6] [.v I6] Wh.q85:=by intro xs;kernel_rfl
theorem ok_q85:CO MP:=con_ok (Ls:=[Pf]) mixed (ct _ _) cx Tryz.func265 (loopsC (loopD_ok ahh) loopsL_nil) boxesL_none e_q85
theorem fk_q85:FK MP:=fun _ _ h=>h.cons MP (by kernel_rfl) Wh.Ig ok_q85
def KW:iq:=⟨162,[.v n4],[.v .bool],Wh.EL,Wh.Sw⟩
def OY:Cx:=⟨cr,[MP.entry,LQ.entry,Hz.entry,zW.entry],false,Gl⟩
def Pb:b8:=kS ⟨[(19,.leaf I6),(1,.aZ z0 []),(17,.leaf (.lst nc)),(18,.leaf I6)],[(z0,false,.var n4 (.leaf n4))]⟩ [(.ret,⟨[(2,.leaf .bool)],[]⟩),((.exit 0),⟨[(1,.aZ z0 [])],[(z0,false,.var n4 (.leaf n4))]⟩)] Wh.Y_ Wh.CD
def Pd:b8:=kS ⟨[(63,.leaf I6),(1,.aZ z0 [])],[(z0,false,.var n4 (.leaf n4))]⟩ [(.ret,⟨[(2,.leaf .bool)],[]⟩),((.exit 2),⟨[],[]⟩)] Wh.Za Wh.CE
def RL:LT:=[(4,Pb),(13,Pd)]
theorem ahe:∀x,round OY RL (jo Tryz.f162 0) Pb x=Wh.CD x:=by intro x;kernel_rfl
theorem ahf:∀x,round OY RL (jo Tryz.f162 1) Pd x=Wh.CE x:=by intro x;kernel_rfl
theorem e_q115:EV OY RL Tryz.f162 [.v n4] [.v .bool] Wh.EL:=by intro xs;kernel_rfl
theorem aer:CO KW:=con_ok (Ls:=[Pb,Pd]) mixed (ct _ _) (fk_q85 _ (fk_q25 _ (Rd _ (AN _ cx)))) Tryz.func162 (loopsC (loopD_ok ahe) (loopsC (loopD_ok ahf) loopsL_nil)) boxesL_none e_q115
theorem acq:FK KW:=fun _ _ h=>h.cons KW (by kernel_rfl) Wh.Sz aer
def MK:iq:=⟨166,[.v an,.v (.ref I6)],[.v .bool],Wh.Ie,Wh.q8'⟩
def C_q8:Cx:=⟨cr,[],false,Gl⟩
theorem e_q8:EV C_q8 gT Tryz.f166 [.v an,.v (.ref I6)] [.v .bool] Wh.Ie:=by intro xs;kernel_rfl
theorem ok_q8:CO MK:=con_ok (Ls:=[]) mixed (ct _ _) cx Tryz.func166 loopsL_nil boxesL_none e_q8
theorem fk_q8:FK MK:=fun _ _ h=>h.cons MK (by kernel_rfl) Wh.q8_v ok_q8
def LL:iq:=⟨165,[.v (.lst an),.f 166 (.pair (.ref I6) .unit)],[.v I6],Wh.q2,Wh.DP⟩
def C_q2:Cx:=⟨cr,[MK.entry],false,Gl⟩
def P5:b8:=kS ⟨[(8,.leaf I6),(0,.leaf (.lst an)),(1,.fn 166 (.bB (.leaf (.ref I6)) (.b7))),(7,.leaf I6)],[]⟩ [(.ret,⟨[(4,.leaf I6)],[]⟩),((.exit 0),⟨[],[]⟩)] Wh.aab Wh.DS
def lt_q2:LT:=[(2,P5)]
theorem ahZ:∀x,round C_q2 lt_q2 (jo Tryz.f165 0) P5 x=Wh.DS x:=by intro x;kernel_rfl
theorem e_q2:EV C_q2 lt_q2 Tryz.f165 [.v (.lst an),.f 166 (.pair (.ref I6) .unit)] [.v I6] Wh.q2:=by intro xs;kernel_rfl
theorem ok_q2:CO LL:=con_ok (Ls:=[P5]) mixed (ct _ _) (fk_q8 _ cx) Tryz.func165 (loopsC (loopD_ok ahZ) loopsL_nil) boxesL_none e_q2
theorem fk_q2:FK LL:=fun _ _ h=>h.cons LL (by kernel_rfl) Wh.q2_v ok_q2
def IC:iq:=⟨80,[.v fk,.v I6],[.v I6],Wh.DF,Wh.N2⟩
def C_q15:Cx:=⟨cr,[LL.entry],false,Gl⟩
theorem e_q15:EV C_q15 gT Tryz.f80 [.v fk,.v I6] [.v I6] Wh.DF:=by intro xs;kernel_rfl
theorem ok_q15:CO IC:=con_ok (Ls:=[]) mixed (ct _ _) (fk_q2 _ cx) Tryz.func80 loopsL_nil boxesL_none e_q15
theorem Wr:FK IC:=fun _ _ h=>h.cons IC (by kernel_rfl) Wh.GM ok_q15
def FJ:iq:=⟨164,[.v r5],[.v I6],Wh.AG,Wh.zg⟩
def C_q19:Cx:=⟨cr,[],false,Gl⟩
theorem e_q19:EV C_q19 gT Tryz.f164 [.v r5] [.v I6] Wh.AG:=by intro xs;kernel_rfl
theorem ok_q19:CO FJ:=con_ok (Ls:=[]) mixed (ct _ _) cx Tryz.func164 loopsL_nil boxesL_none e_q19
theorem Ng:FK FJ:=fun _ _ h=>h.cons FJ (by kernel_rfl) Wh.q19_v ok_q19
def MO:iq:=⟨163,[.v I6],[.v (.pair I6 (.pair I6 (.pair (.own I6) (.pair (.own I6) .unit))))],Wh.q84,Wh.q84'⟩
def C_q84:Cx:=⟨cr,[FJ.entry,zW.entry],false,Gl⟩
def O_:b8:=kS ⟨[(3,.aZ z0 []),(2,.aZ z1 [])],[(z0,false,.var r5 (.pair (.leaf I6) (.pair (.leaf I6) (.pair (.whole z2 I6) (.pair (.whole z3 I6) (.leaf .unit)))))),(z1,false,.var r5 (.pair (.leaf I6) (.pair (.leaf I6) (.pair (.whole 500000004 I6) (.pair (.whole 500000005 I6) (.leaf .unit)))))),(z2,false,.rows I6),(z3,false,.rows I6),(500000004,false,.rows I6),(500000005,false,.rows I6)]⟩ [((.exit 0),⟨[(2,.aZ z0 []),(3,.aZ z1 [])],[(z0,false,.var r5 (.pair (.leaf I6) (.pair (.leaf I6) (.pair (.whole z2 I6) (.pair (.whole z3 I6) (.leaf .unit)))))),(z1,false,.var r5 (.pair (.leaf I6) (.pair (.leaf I6) (.pair (.whole 500000004 I6) (.pair (.whole 500000005 I6) (.leaf .unit)))))),(z2,false,.rows I6),(z3,false,.rows I6),(500000004,false,.rows I6),(500000005,false,.rows I6)]⟩)] Wh.aaK Wh.JY
def Yo:LT:=[(4,O_)]
theorem ahc:∀x,round C_q84 Yo (jo Tryz.f163 0) O_ x=Wh.JY x:=by intro x;kernel_rfl
theorem e_q84:EV C_q84 Yo Tryz.f163 [.v I6] [.v (.pair I6 (.pair I6 (.pair (.own I6) (.pair (.own I6) .unit))))] Wh.q84:=by intro xs;kernel_rfl
theorem ok_q84:CO MO:=con_ok (Ls:=[O_]) mixed (ct _ _) (Ng _ (AN _ cx)) Tryz.func163 (loopsC (loopD_ok ahc) loopsL_nil) boxesL_none e_q84
theorem fk_q84:FK MO:=fun _ _ h=>h.cons MO (by kernel_rfl) Wh.q84_v ok_q84
def Mf:iq:=⟨77,[.v n4,.v fk],[.v .bool],Wh.q51,Wh.q51'⟩
def C_q51:Cx:=⟨cr,[FJ.entry,MO.entry,IC.entry,KW.entry],false,Gl⟩
def Px:b8:=kS ⟨[(14,.leaf I6),(3,.aZ z0 []),(12,.leaf (.lst nc)),(13,.leaf I6)],[(z0,false,.var fk (.leaf fk))]⟩ [(.ret,⟨[(4,.leaf .bool)],[]⟩),((.exit 0),⟨[],[]⟩)] Wh.aao Wh.Bh
def Yi:LT:=[(4,Px)]
theorem ahw:∀x,round C_q51 Yi (jo Tryz.f77 0) Px x=Wh.Bh x:=by intro x;kernel_rfl
theorem e_q51:EV C_q51 Yi Tryz.f77 [.v n4,.v fk] [.v .bool] Wh.q51:=by intro xs;kernel_rfl
theorem ok_q51:CO Mf:=con_ok (Ls:=[Px]) mixed (ct _ _) (Ng _ (fk_q84 _ (Wr _ (acq _ cx)))) Tryz.func77 (loopsC (loopD_ok ahw) loopsL_nil) boxesL_none e_q51
theorem fk_q51:FK Mf:=fun _ _ h=>h.cons Mf (by kernel_rfl) Wh.q51_v ok_q51
def L_:iq:=⟨78,[.v nI],[.v .bool],Wh.q43,Wh.q43'⟩
def C_q43:Cx:=⟨cr,[zW.entry],false,Gl⟩
theorem e_q43:EV C_q43 gT Tryz.f78 [.v nI] [.v .bool] Wh.q43:=by intro xs;kernel_rfl
theorem ok_q43:CO L_:=con_ok (Ls:=[]) mixed (ct _ _) (AN _ cx) Tryz.func78 loopsL_nil boxesL_none e_q43
theorem fk_q43:FK L_:=fun _ _ h=>h.cons L_ (by kernel_rfl) Wh.q43_v ok_q43
def HB:iq:=⟨79,[.v I6],[.v .bool],Wh.Ca,Wh.Ic⟩
def C_q49:Cx:=⟨cr,[zW.entry],false,Gl⟩
theorem e_q49:EV C_q49 gT Tryz.f79 [.v I6] [.v .bool] Wh.Ca:=by intro xs;kernel_rfl
theorem ok_q49:CO HB:=con_ok (Ls:=[]) mixed (ct _ _) (AN _ cx) Tryz.func79 loopsL_nil boxesL_none e_q49
theorem Rf:FK HB:=fun _ _ h=>h.cons HB (by kernel_rfl) Wh.JT ok_q49
def MR:iq:=⟨81,[.v I6],[.v I6],Wh.q87,Wh.q87'⟩
def C_q87:Cx:=⟨cr,[],false,Gl⟩
theorem e_q87:EV C_q87 gT Tryz.f81 [.v I6] [.v I6] Wh.q87:=by intro xs;kernel_rfl
theorem ok_q87:CO MR:=con_ok (Ls:=[]) mixed (ct _ _) cx Tryz.func81 loopsL_nil boxesL_none e_q87
theorem fk_q87:FK MR:=fun _ _ h=>h.cons MR (by kernel_rfl) Wh.UR ok_q87
def Mc:iq:=⟨17,[.v ng],[.v .bool],Wh.q47,Wh.q47'⟩
def O0:Cx:=⟨cr,[MR.entry,IC.entry,HB.entry,L_.entry,Mf.entry,MT.entry,IB.entry,IP.entry,zW.entry],false,Gl⟩
def Ph:b8:=kS ⟨[(105,.leaf I6),(1,.aZ z0 []),(103,.leaf (.lst nI)),(104,.leaf I6)],[(z0,false,.var ng (.leaf ng))]⟩ [(.ret,⟨[(2,.leaf .bool)],[]⟩),((.exit 0),⟨[(1,.aZ z0 [])],[(z0,false,.var ng (.leaf ng))]⟩)] Wh.aak Wh.DX
def Pj:b8:=kS ⟨[(133,.leaf I6),(1,.aZ z0 []),(131,.leaf (.lst pg)),(132,.leaf I6)],[(z0,false,.var ng (.leaf ng))]⟩ [(.ret,⟨[(2,.leaf .bool)],[]⟩),((.exit 2),⟨[],[]⟩)] Wh.aal Wh.CQ
def RN:LT:=[(13,Ph),(19,Pj)]
theorem ahj:∀x,round O0 RN (jo Tryz.f17 0) Ph x=Wh.DX x:=by intro x;kernel_rfl
theorem ahk:∀x,round O0 RN (jo Tryz.f17 1) Pj x=Wh.CQ x:=by intro x;kernel_rfl
theorem e_q47:EV O0 RN Tryz.f17 [.v ng] [.v .bool] Wh.q47:=by intro xs;kernel_rfl
theorem ok_q47:CO Mc:=con_ok (Ls:=[Ph,Pj]) mixed (ct _ _) (fk_q87 _ (Wr _ (Rf _ (fk_q43 _ (fk_q51 _ (fk_q89 _ (Wq _ (WD _ (AN _ cx))))))))) Tryz.func17 (loopsC (loopD_ok ahj) (loopsC (loopD_ok ahk) loopsL_nil)) boxesL_none e_q47
theorem fk_q47:FK Mc:=fun _ _ h=>h.cons Mc (by kernel_rfl) Wh.Uf ok_q47
def KY:iq:=⟨235,[.v an,.v an],[.v .bool],Wh.Gq,Wh.SB⟩
def C_q119:Cx:=⟨cr,[],false,Gl⟩
theorem e_q119:EV C_q119 gT Tryz.f235 [.v an,.v an] [.v .bool] Wh.Gq:=by intro xs;kernel_rfl
theorem aev:CO KY:=con_ok (Ls:=[]) mixed (ct _ _) cx Tryz.func235 loopsL_nil boxesL_none e_q119
theorem acs:FK KY:=fun _ _ h=>h.cons KY (by kernel_rfl) Wh.Zc aev
def IQ:iq:=⟨133,[.v (.lst an),.v (.lst an)],[.v .bool],Wh.q91,Wh.Om⟩
def C_q91:Cx:=⟨cr,[KY.entry],false,Gl⟩
def PL:b8:=kS ⟨[(5,.leaf I6),(1,.leaf (.lst an)),(0,.leaf (.lst an))],[]⟩ [(.ret,⟨[(4,.leaf .bool)],[]⟩),((.exit 0),⟨[],[]⟩)] Wh.aaR Wh.G8
def Yq:LT:=[(4,PL)]
theorem ahJ:∀x,round C_q91 Yq (jo Tryz.f133 0) PL x=Wh.G8 x:=by intro x;kernel_rfl
theorem e_q91:EV C_q91 Yq Tryz.f133 [.v (.lst an),.v (.lst an)] [.v .bool] Wh.q91:=by intro xs;kernel_rfl
theorem ok_q91:CO IQ:=con_ok (Ls:=[PL]) mixed (ct _ _) (acs _ cx) Tryz.func133 (loopsC (loopD_ok ahJ) loopsL_nil) boxesL_none e_q91
theorem WE:FK IQ:=fun _ _ h=>h.cons IQ (by kernel_rfl) Wh.UU ok_q91
def Lp:iq:=⟨82,[.v fk,.v fk],[.v .bool],Wh.GD,Wh.Tf⟩
def C_q151:Cx:=⟨cr,[IQ.entry],false,Gl⟩
theorem e_q151:EV C_q151 gT Tryz.f82 [.v fk,.v fk] [.v .bool] Wh.GD:=by intro xs;kernel_rfl
theorem ae1:CO Lp:=con_ok (Ls:=[]) mixed (ct _ _) (WE _ cx) Tryz.func82 loopsL_nil boxesL_none e_q151
theorem acQ:FK Lp:=fun _ _ h=>h.cons Lp (by kernel_rfl) Wh.ZF ae1
def MV:iq:=⟨266,[.v nc,.v nc],[.v .bool],Wh.q90,Wh.q90'⟩
def C_q90:Cx:=⟨cr,[],false,Gl⟩
theorem e_q90:EV C_q90 gT Tryz.f266 [.v nc,.v nc] [.v .bool] Wh.q90:=by intro xs;kernel_rfl
theorem ok_q90:CO MV:=con_ok (Ls:=[]) mixed (ct _ _) cx Tryz.func266 loopsL_nil boxesL_none e_q90
theorem fk_q90:FK MV:=fun _ _ h=>h.cons MV (by kernel_rfl) Wh.q90_v ok_q90
def Mj:iq:=⟨167,[.v (.lst nc),.v (.lst nc)],[.v .bool],Wh.q55,Wh.q55'⟩
def C_q55:Cx:=⟨cr,[MV.entry],false,Gl⟩
def PJ:b8:=kS ⟨[(5,.leaf I6),(1,.leaf (.lst nc)),(0,.leaf (.lst nc))],[]⟩ [(.ret,⟨[(4,.leaf .bool)],[]⟩),((.exit 0),⟨[],[]⟩)] Wh.aaw Wh.G3
def Yj:LT:=[(4,PJ)]
theorem ahH:∀x,round C_q55 Yj (jo Tryz.f167 0) PJ x=Wh.G3 x:=by intro x;kernel_rfl
theorem e_q55:EV C_q55 Yj Tryz.f167 [.v (.lst nc),.v (.lst nc)] [.v .bool] Wh.q55:=by intro xs;kernel_rfl
theorem ok_q55:CO Mj:=con_ok (Ls:=[PJ]) mixed (ct _ _) (fk_q90 _ cx) Tryz.func167 (loopsC (loopD_ok ahH) loopsL_nil) boxesL_none e_q55
theorem fk_q55:FK Mj:=fun _ _ h=>h.cons Mj (by kernel_rfl) Wh.q55_v ok_q55
def K3:iq:=⟨83,[.v n4,.v n4],[.v .bool],Wh.Gs,Wh.SC⟩
def C_q121:Cx:=⟨cr,[Mj.entry],false,Gl⟩
theorem e_q121:EV C_q121 gT Tryz.f83 [.v n4,.v n4] [.v .bool] Wh.Gs:=by intro xs;kernel_rfl
theorem aex:CO K3:=con_ok (Ls:=[]) mixed (ct _ _) (fk_q55 _ cx) Tryz.func83 loopsL_nil boxesL_none e_q121
theorem acv:FK K3:=fun _ _ h=>h.cons K3 (by kernel_rfl) Wh.Zd aex
def Mh:iq:=⟨168,[.v nI,.v nI],[.v .bool],Wh.q53,Wh.q53'⟩
def C_q53:Cx:=⟨cr,[],false,Gl⟩
theorem e_q53:EV C_q53 gT Tryz.f168 [.v nI,.v nI] [.v .bool] Wh.q53:=by intro xs;kernel_rfl
theorem ok_q53:CO Mh:=con_ok (Ls:=[]) mixed (ct _ _) cx Tryz.func168 loopsL_nil boxesL_none e_q53
theorem fk_q53:FK Mh:=fun _ _ h=>h.cons Mh (by kernel_rfl) Wh.q53_v ok_q53
def LR:iq:=⟨84,[.v (.lst nI),.v (.lst nI)],[.v .bool],Wh.q27,Wh.q27'⟩
def C_q27:Cx:=⟨cr,[Mh.entry],false,Gl⟩
def PF:b8:=kS ⟨[(5,.leaf I6),(1,.leaf (.lst nI)),(0,.leaf (.lst nI))],[]⟩ [(.ret,⟨[(4,.leaf .bool)],[]⟩),((.exit 0),⟨[],[]⟩)] Wh.Z_ Wh.GX
def X9:LT:=[(4,PF)]
theorem ahE:∀x,round C_q27 X9 (jo Tryz.f84 0) PF x=Wh.GX x:=by intro x;kernel_rfl
theorem e_q27:EV C_q27 X9 Tryz.f84 [.v (.lst nI),.v (.lst nI)] [.v .bool] Wh.q27:=by intro xs;kernel_rfl
theorem ok_q27:CO LR:=con_ok (Ls:=[PF]) mixed (ct _ _) (fk_q53 _ cx) Tryz.func84 (loopsC (loopD_ok ahE) loopsL_nil) boxesL_none e_q27
theorem fk_q27:FK LR:=fun _ _ h=>h.cons LR (by kernel_rfl) Wh.q27_v ok_q27
def MW:iq:=⟨169,[.v pg,.v pg],[.v .bool],Wh.q92,Wh.q92'⟩
def C_q92:Cx:=⟨cr,[],false,Gl⟩
theorem e_q92:EV C_q92 gT Tryz.f169 [.v pg,.v pg] [.v .bool] Wh.q92:=by intro xs;kernel_rfl
theorem ok_q92:CO MW:=con_ok (Ls:=[]) mixed (ct _ _) cx Tryz.func169 loopsL_nil boxesL_none e_q92
theorem fk_q92:FK MW:=fun _ _ h=>h.cons MW (by kernel_rfl) Wh.q92_v ok_q92
def Ml:iq:=⟨85,[.v (.lst pg),.v (.lst pg)],[.v .bool],Wh.q57,Wh.q57'⟩
def C_q57:Cx:=⟨cr,[MW.entry],false,Gl⟩
def PN:b8:=kS ⟨[(5,.leaf I6),(1,.leaf (.lst pg)),(0,.leaf (.lst pg))],[]⟩ [(.ret,⟨[(4,.leaf .bool)],[]⟩),((.exit 0),⟨[],[]⟩)] Wh.aax Wh.G4
def Yk:LT:=[(4,PN)]
theorem ahL:∀x,round C_q57 Yk (jo Tryz.f85 0) PN x=Wh.G4 x:=by intro x;kernel_rfl
theorem e_q57:EV C_q57 Yk Tryz.f85 [.v (.lst pg),.v (.lst pg)] [.v .bool] Wh.q57:=by intro xs;kernel_rfl
theorem ok_q57:CO Ml:=con_ok (Ls:=[PN]) mixed (ct _ _) (fk_q92 _ cx) Tryz.func85 (loopsC (loopD_ok ahL) loopsL_nil) boxesL_none e_q57
theorem fk_q57:FK Ml:=fun _ _ h=>h.cons Ml (by kernel_rfl) Wh.q57_v ok_q57
def Mm:iq:=⟨18,[.v ng,.v ng],[.v .bool],Wh.q58,Wh.q58'⟩
def C_q58:Cx:=⟨cr,[Ml.entry,LR.entry,K3.entry,Lp.entry],false,Gl⟩
theorem e_q58:EV C_q58 gT Tryz.f18 [.v ng,.v ng] [.v .bool] Wh.q58:=by intro xs;kernel_rfl
theorem ok_q58:CO Mm:=con_ok (Ls:=[]) mixed (ct _ _) (fk_q57 _ (fk_q27 _ (acv _ (acQ _ cx)))) Tryz.func18 loopsL_nil boxesL_none e_q58
theorem fk_q58:FK Mm:=fun _ _ h=>h.cons Mm (by kernel_rfl) Wh.q58_v ok_q58
def Iu:iq:=⟨278,[.v (.lst I6),.v I6],[.v I6],Wh.Dw,Wh.Jz⟩
def C_q122:Cx:=⟨cr,[],false,Gl⟩
theorem e_q122:EV C_q122 gT Tryz.f278 [.v (.lst I6),.v I6] [.v I6] Wh.Dw:=by intro xs;kernel_rfl
theorem aey:CO Iu:=con_ok (Ls:=[]) mixed (ct _ _) cx Tryz.func278 loopsL_nil boxesL_none e_q122
theorem Wj:FK Iu:=fun _ _ h=>h.cons Iu (by kernel_rfl) Wh.NR aey
def K5:iq:=⟨196,[.v r5,.v I6],[.v I6],Wh.Gu,Wh.SF⟩
def C_q124:Cx:=⟨cr,[Iu.entry],false,Gl⟩
theorem e_q124:EV C_q124 gT Tryz.f196 [.v r5,.v I6] [.v I6] Wh.Gu:=by intro xs;kernel_rfl
theorem aeA:CO K5:=con_ok (Ls:=[]) mixed (ct _ _) (Wj _ cx) Tryz.func196 loopsL_nil boxesL_none e_q124
theorem acy:FK K5:=fun _ _ h=>h.cons K5 (by kernel_rfl) Wh.Ze aeA
def LI:iq:=⟨339,[.v nW,.v I6],[.v I6],Wh.GV,Wh.TM⟩
def C_q172:Cx:=⟨cr,[Iu.entry],false,Gl⟩
theorem e_q172:EV C_q172 gT Tryz.f339 [.v nW,.v I6] [.v I6] Wh.GV:=by intro xs;kernel_rfl
theorem afl:CO LI:=con_ok (Ls:=[]) mixed (ct _ _) (Wj _ cx) Tryz.func339 loopsL_nil boxesL_none e_q172
theorem ac6:FK LI:=fun _ _ h=>h.cons LI (by kernel_rfl) Wh.TN afl
def Lt:iq:=⟨279,[.v (.lst nW),.v I6],[.v I6],Wh.GI,Wh.Ti⟩
def VF:Cx:=⟨cr,[LI.entry],false,Gl⟩
def PR:b8:=kS ⟨[(5,.leaf I6),(1,.leaf I6),(0,.leaf (.lst nW))],[]⟩ [(.ret,⟨[(4,.leaf I6)],[]⟩),((.exit 0),⟨[(1,.leaf I6)],[]⟩)] Wh.Tk Wh.ET
def XT:LT:=[(5,PR)]
theorem ahN:∀x,round VF XT (jo Tryz.f279 0) PR x=Wh.ET x:=by intro x;kernel_rfl
theorem e_q154:EV VF XT Tryz.f279 [.v (.lst nW),.v I6] [.v I6] Wh.GI:=by intro xs;kernel_rfl
theorem ae4:CO Lt:=con_ok (Ls:=[PR]) mixed (ct _ _) (ac6 _ cx) Tryz.func279 (loopsC (loopD_ok ahN) loopsL_nil) boxesL_none e_q154
theorem acT:FK Lt:=fun _ _ h=>h.cons Lt (by kernel_rfl) Wh.ZI ae4
def Mt:iq:=⟨197,[.v lg,.v I6],[.v I6],Wh.q65,Wh.q65'⟩
def C_q65:Cx:=⟨cr,[Lt.entry],false,Gl⟩
theorem e_q65:EV C_q65 gT Tryz.f197 [.v lg,.v I6] [.v I6] Wh.q65:=by intro xs;kernel_rfl
theorem ok_q65:CO Mt:=con_ok (Ls:=[]) mixed (ct _ _) (acT _ cx) Tryz.func197 loopsL_nil boxesL_none e_q65
theorem fk_q65:FK Mt:=fun _ _ h=>h.cons Mt (by kernel_rfl) Wh.q65_v ok_q65
def LZ:iq:=⟨108,[.v xN,.v I6],[.v I6],Wh.q33,Wh.q33'⟩
def C_q33:Cx:=⟨cr,[Mt.entry,K5.entry],false,Gl⟩
theorem e_q33:EV C_q33 gT Tryz.f108 [.v xN,.v I6] [.v I6] Wh.q33:=by intro xs;kernel_rfl
theorem ok_q33:CO LZ:=con_ok (Ls:=[]) mixed (ct _ _) (fk_q65 _ (acy _ cx)) Tryz.func108 loopsL_nil boxesL_none e_q33
theorem fk_q33:FK LZ:=fun _ _ h=>h.cons LZ (by kernel_rfl) Wh.q33_v ok_q33
def Mo:iq:=⟨29,[.v nE,.v I6],[.v I6],Wh.q60,Wh.q60'⟩
def C_q60:Cx:=⟨cr,[LZ.entry],false,Gl⟩
theorem e_q60:EV C_q60 gT Tryz.f29 [.v nE,.v I6] [.v I6] Wh.q60:=by intro xs;kernel_rfl
theorem ok_q60:CO Mo:=con_ok (Ls:=[]) mixed (ct _ _) (fk_q33 _ cx) Tryz.func29 loopsL_nil boxesL_none e_q60
theorem fk_q60:FK Mo:=fun _ _ h=>h.cons Mo (by kernel_rfl) Wh.Us ok_q60
def LY:iq:=⟨123,[.v (.lst nE),.v I6],[.v I6],Wh.q32,Wh.q32'⟩
def C_q32:Cx:=⟨cr,[Mo.entry],false,Gl⟩
def PO:b8:=kS ⟨[(5,.leaf I6),(1,.leaf I6),(0,.leaf (.lst nE))],[]⟩ [(.ret,⟨[(4,.leaf I6)],[]⟩),((.exit 0),⟨[(1,.leaf I6)],[]⟩)] Wh.aad Wh.DT
def Yb:LT:=[(5,PO)]
theorem ahM:∀x,round C_q32 Yb (jo Tryz.f123 0) PO x=Wh.DT x:=by intro x;kernel_rfl
theorem e_q32:EV C_q32 Yb Tryz.f123 [.v (.lst nE),.v I6] [.v I6] Wh.q32:=by intro xs;kernel_rfl
theorem ok_q32:CO LY:=con_ok (Ls:=[PO]) mixed (ct _ _) (fk_q60 _ cx) Tryz.func123 (loopsC (loopD_ok ahM) loopsL_nil) boxesL_none e_q32
theorem fk_q32:FK LY:=fun _ _ h=>h.cons LY (by kernel_rfl) Wh.q32_v ok_q32
def Mq:iq:=⟨228,[.v ov,.v I6],[.v I6],Wh.q62,Wh.q62'⟩
def C_q62:Cx:=⟨cr,[],false,Gl⟩
theorem e_q62:EV C_q62 gT Tryz.f228 [.v ov,.v I6] [.v I6] Wh.q62:=by intro xs;kernel_rfl
theorem ok_q62:CO Mq:=con_ok (Ls:=[]) mixed (ct _ _) cx Tryz.func228 loopsL_nil boxesL_none e_q62
theorem fk_q62:FK Mq:=fun _ _ h=>h.cons Mq (by kernel_rfl) Wh.Ut ok_q62
def L0:iq:=⟨124,[.v (.lst ov),.v I6],[.v I6],Wh.q34,Wh.q34'⟩
def C_q34:Cx:=⟨cr,[Mq.entry],false,Gl⟩
def PV:b8:=kS ⟨[(5,.leaf I6),(1,.leaf I6),(0,.leaf (.lst ov))],[]⟩ [(.ret,⟨[(4,.leaf I6)],[]⟩),((.exit 0),⟨[(1,.leaf I6)],[]⟩)] Wh.T6 Wh.E_
def Yc:LT:=[(5,PV)]
theorem ahP:∀x,round C_q34 Yc (jo Tryz.f124 0) PV x=Wh.E_ x:=by intro x;kernel_rfl
theorem e_q34:EV C_q34 Yc Tryz.f124 [.v (.lst ov),.v I6] [.v I6] Wh.q34:=by intro xs;kernel_rfl
theorem ok_q34:CO L0:=con_ok (Ls:=[PV]) mixed (ct _ _) (fk_q62 _ cx) Tryz.func124 (loopsC (loopD_ok ahP) loopsL_nil) boxesL_none e_q34
theorem fk_q34:FK L0:=fun _ _ h=>h.cons L0 (by kernel_rfl) Wh.q34_v ok_q34
def MY:iq:=⟨41,[.v gv,.v I6],[.v I6],Wh.q95,Wh.q95'⟩
def C_q95:Cx:=⟨cr,[IS.entry,L0.entry,LY.entry,Ms.entry],false,Gl⟩
theorem e_q95:EV C_q95 gT Tryz.f41 [.v gv,.v I6] [.v I6] Wh.q95:=by intro xs;kernel_rfl
theorem ok_q95:CO MY:=con_ok (Ls:=[]) mixed (ct _ _) (WG _ (fk_q34 _ (fk_q32 _ (fk_q64 _ cx)))) Tryz.func41 loopsL_nil boxesL_none e_q95
theorem fk_q95:FK MY:=fun _ _ h=>h.cons MY (by kernel_rfl) Wh.q95_v ok_q95
def Iv:iq:=⟨288,[.v (.lst I6)],[.v (.own I6)],Wh.Dx,Wh.JA⟩
def Vu:Cx:=⟨cr,[],false,Gl⟩
def P0:b8:=kS ⟨[(4,.leaf I6),(0,.leaf (.lst I6)),(3,.whole z0 I6)],[(z0,false,.rows I6)]⟩ [((.exit 0),⟨[(3,.whole z0 I6)],[(z0,false,.rows I6)]⟩)] Wh.Zg Wh.EM
def XI:LT:=[(3,P0)]
theorem ahU:∀x,round Vu XI (jo Tryz.f288 0) P0 x=Wh.EM x:=by intro x;kernel_rfl
theorem e_q126:EV Vu XI Tryz.f288 [.v (.lst I6)] [.v (.own I6)] Wh.Dx:=by intro xs;kernel_rfl
theorem aeC:CO Iv:=con_ok (Ls:=[P0]) mixed (ct _ _) cx Tryz.func288 (loopsC (loopD_ok ahU) loopsL_nil) boxesL_none e_q126
theorem Wk:FK Iv:=fun _ _ h=>h.cons Iv (by kernel_rfl) Wh.NS aeC
def K8:iq:=⟨209,[.v r5],[.v (.pair I6 (.pair I6 (.pair (.own I6) (.pair (.own I6) .unit))))],Wh.Gw,Wh.SJ⟩
def C_q128:Cx:=⟨cr,[Iv.entry],false,Gl⟩
theorem e_q128:EV C_q128 gT Tryz.f209 [.v r5] [.v (.pair I6 (.pair I6 (.pair (.own I6) (.pair (.own I6) .unit))))] Wh.Gw:=by intro xs;kernel_rfl
theorem aeE:CO K8:=con_ok (Ls:=[]) mixed (ct _ _) (Wk _ cx) Tryz.func209 loopsL_nil boxesL_none e_q128
theorem acB:FK K8:=fun _ _ h=>h.cons K8 (by kernel_rfl) Wh.Zi aeE
def LJ:iq:=⟨344,[.v nW],[.v (.pair (.own I6) Ed)],Wh.GW,Wh.TP⟩
def C_q173:Cx:=⟨cr,[Iv.entry],false,Gl⟩
theorem e_q173:EV C_q173 gT Tryz.f344 [.v nW] [.v (.pair (.own I6) Ed)] Wh.GW:=by intro xs;kernel_rfl
theorem afm:CO LJ:=con_ok (Ls:=[]) mixed (ct _ _) (Wk _ cx) Tryz.func344 loopsL_nil boxesL_none e_q173
theorem ac7:FK LJ:=fun _ _ h=>h.cons LJ (by kernel_rfl) Wh.Z4 afm
def Lv:iq:=⟨289,[.v (.lst nW)],[.v (.own nW)],Wh.GK,Wh.Tm⟩
def VG:Cx:=⟨cr,[LJ.entry],false,Gl⟩
def PY:b8:=kS ⟨[(4,.leaf I6),(0,.leaf (.lst nW)),(3,.whole z0 nW)],[(z0,false,.rows nW)]⟩ [((.exit 0),⟨[(3,.whole z0 nW)],[(z0,false,.rows nW)]⟩)] Wh.ZK Wh.EU
def XU:LT:=[(3,PY)]
theorem ahS:∀x,round VG XU (jo Tryz.f289 0) PY x=Wh.EU x:=by intro x;kernel_rfl
theorem e_q156:EV VG XU Tryz.f289 [.v (.lst nW)] [.v (.own nW)] Wh.GK:=by intro xs;kernel_rfl
theorem ae6:CO Lv:=con_ok (Ls:=[PY]) mixed (ct _ _) (ac7 _ cx) Tryz.func289 (loopsC (loopD_ok ahS) loopsL_nil) boxesL_none e_q156
theorem acV:FK Lv:=fun _ _ h=>h.cons Lv (by kernel_rfl) Wh.ZL ae6
def MB:iq:=⟨210,[.v lg],[.v (.pair I6 (.pair I6 (.pair (.own nW) .unit)))],Wh.q72,Wh.q72'⟩
def C_q72:Cx:=⟨cr,[Lv.entry],false,Gl⟩
theorem e_q72:EV C_q72 gT Tryz.f210 [.v lg] [.v (.pair I6 (.pair I6 (.pair (.own nW) .unit)))] Wh.q72:=by intro xs;kernel_rfl
theorem ok_q72:CO MB:=con_ok (Ls:=[]) mixed (ct _ _) (acV _ cx) Tryz.func210 loopsL_nil boxesL_none e_q72
theorem fk_q72:FK MB:=fun _ _ h=>h.cons MB (by kernel_rfl) Wh.q72_v ok_q72
def L4:iq:=⟨115,[.v xN],[.v (.pair (.pair I6 (.pair I6 (.pair (.own I6) (.pair (.own I6) .unit)))) (.pair (.pair I6 (.pair I6 (.pair (.own nW) .unit))) .unit))],Wh.q37,Wh.q37'⟩
def C_q37:Cx:=⟨cr,[MB.entry,K8.entry],false,Gl⟩
theorem e_q37:EV C_q37 gT Tryz.f115 [.v xN] [.v (.pair (.pair I6 (.pair I6 (.pair (.own I6) (.pair (.own I6) .unit)))) (.pair (.pair I6 (.pair I6 (.pair (.own nW) .unit))) .unit))] Wh.q37:=by intro xs;kernel_rfl
theorem ok_q37:CO L4:=con_ok (Ls:=[]) mixed (ct _ _) (fk_q72 _ (acB _ cx)) Tryz.func115 loopsL_nil boxesL_none e_q37
theorem fk_q37:FK L4:=fun _ _ h=>h.cons L4 (by kernel_rfl) Wh.q37_v ok_q37
def Mv:iq:=⟨32,[.v nE],[.v (.pair I6 (.pair I6 (.pair I6 (.pair .str (.pair I6 (.pair (.pair (.pair I6 (.pair I6 (.pair (.own I6) (.pair (.own I6) .unit)))) (.pair (.pair I6 (.pair I6 (.pair (.own nW) .unit))) .unit)) .unit))))))],Wh.q67,Wh.q67'⟩
def C_q67:Cx:=⟨cr,[L4.entry],false,Gl⟩
theorem e_q67:EV C_q67 gT Tryz.f32 [.v nE] [.v (.pair I6 (.pair I6 (.pair I6 (.pair .str (.pair I6 (.pair (.pair (.pair I6 (.pair I6 (.pair (.own I6) (.pair (.own I6) .unit)))) (.pair (.pair I6 (.pair I6 (.pair (.own nW) .unit))) .unit)) .unit))))))] Wh.q67:=by intro xs;kernel_rfl
theorem ok_q67:CO Mv:=con_ok (Ls:=[]) mixed (ct _ _) (fk_q37 _ cx) Tryz.func32 loopsL_nil boxesL_none e_q67
theorem fk_q67:FK Mv:=fun _ _ h=>h.cons Mv (by kernel_rfl) Wh.q67_v ok_q67
def L3:iq:=⟨127,[.v (.lst nE)],[.v (.own nE)],Wh.q36,Wh.q36'⟩
def C_q36:Cx:=⟨cr,[Mv.entry],false,Gl⟩
def PX:b8:=kS ⟨[(4,.leaf I6),(0,.leaf (.lst nE)),(3,.whole z0 nE)],[(z0,false,.rows nE)]⟩ [((.exit 0),⟨[(3,.whole z0 nE)],[(z0,false,.rows nE)]⟩)] Wh.aaf Wh.Fb
def Ye:LT:=[(3,PX)]
theorem ahR:∀x,round C_q36 Ye (jo Tryz.f127 0) PX x=Wh.Fb x:=by intro x;kernel_rfl
theorem e_q36:EV C_q36 Ye Tryz.f127 [.v (.lst nE)] [.v (.own nE)] Wh.q36:=by intro xs;kernel_rfl
theorem ok_q36:CO L3:=con_ok (Ls:=[PX]) mixed (ct _ _) (fk_q67 _ cx) Tryz.func127 (loopsC (loopD_ok ahR) loopsL_nil) boxesL_none e_q36
theorem fk_q36:FK L3:=fun _ _ h=>h.cons L3 (by kernel_rfl) Wh.q36_v ok_q36
def Mx:iq:=⟨231,[.v ov],[.v ov],Wh.q69,Wh.q69'⟩
def C_q69:Cx:=⟨cr,[],false,Gl⟩
theorem e_q69:EV C_q69 gT Tryz.f231 [.v ov] [.v ov] Wh.q69:=by intro xs;kernel_rfl
theorem ok_q69:CO Mx:=con_ok (Ls:=[]) mixed (ct _ _) cx Tryz.func231 loopsL_nil boxesL_none e_q69
theorem fk_q69:FK Mx:=fun _ _ h=>h.cons Mx (by kernel_rfl) Wh.q69_v ok_q69
def L5:iq:=⟨128,[.v (.lst ov)],[.v (.own ov)],Wh.q38,Wh.q38'⟩
def C_q38:Cx:=⟨cr,[Mx.entry],false,Gl⟩
def P2:b8:=kS ⟨[(4,.leaf I6),(0,.leaf (.lst ov)),(3,.whole z0 ov)],[(z0,false,.rows ov)]⟩ [((.exit 0),⟨[(3,.whole z0 ov)],[(z0,false,.rows ov)]⟩)] Wh.aag Wh.Fc
def Yf:LT:=[(3,P2)]
theorem ahW:∀x,round C_q38 Yf (jo Tryz.f128 0) P2 x=Wh.Fc x:=by intro x;kernel_rfl
theorem e_q38:EV C_q38 Yf Tryz.f128 [.v (.lst ov)] [.v (.own ov)] Wh.q38:=by intro xs;kernel_rfl
theorem ok_q38:CO L5:=con_ok (Ls:=[P2]) mixed (ct _ _) (fk_q69 _ cx) Tryz.func128 (loopsC (loopD_ok ahW) loopsL_nil) boxesL_none e_q38
theorem fk_q38:FK L5:=fun _ _ h=>h.cons L5 (by kernel_rfl) Wh.q38_v ok_q38
def M1:iq:=⟨43,[.v gv],[.v (.pair (.pair .bool (.pair I6 (.pair .str (.pair (.pair I6 (.pair (.own an) .unit)) (.pair (.pair (.own nc) (.pair I6 .unit)) (.pair (.own nI) (.pair (.own pg) .unit))))))) (.pair (.own nE) (.pair (.own ov) (.pair (.own an) .unit))))],Wh.Eb,Wh.q99'⟩
def C_q99:Cx:=⟨cr,[IT.entry,L5.entry,L3.entry,MA.entry],false,Gl⟩
theorem e_q99:EV C_q99 gT Tryz.f43 [.v gv] [.v (.pair (.pair .bool (.pair I6 (.pair .str (.pair (.pair I6 (.pair (.own an) .unit)) (.pair (.pair (.own nc) (.pair I6 .unit)) (.pair (.own nI) (.pair (.own pg) .unit))))))) (.pair (.own nE) (.pair (.own ov) (.pair (.own an) .unit))))] Wh.Eb:=by intro xs;kernel_rfl
theorem ok_q99:CO M1:=con_ok (Ls:=[]) mixed (ct _ _) (WH _ (fk_q38 _ (fk_q36 _ (fk_q71 _ cx)))) Tryz.func43 loopsL_nil boxesL_none e_q99
theorem fk_q99:FK M1:=fun _ _ h=>h.cons M1 (by kernel_rfl) Wh.q99_v ok_q99
def KR:iq:=⟨230,[.v gv],[.v .bool],Wh.Gg,Wh.Sg⟩
def Vp:Cx:=⟨cr,[zG.entry,HA.entry,Hy.entry],false,Gl⟩
def Qt:b8:=kS ⟨[(7,.leaf I6),(1,.aZ z0 []),(5,.aZ z1 [])],[(z0,false,.var gv (.leaf gv)),(z1,false,.var fk (.pair (.leaf I6) (.pair (.whole z2 an) (.leaf .unit)))),(z2,false,.rows an)]⟩ [(.ret,⟨[(2,.leaf .bool)],[]⟩),((.exit 0),⟨[(1,.aZ z0 []),(5,.aZ z1 [])],[(z0,false,.var gv (.leaf gv)),(z1,false,.var fk (.pair (.leaf I6) (.pair (.whole z2 an) (.leaf .unit)))),(z2,false,.rows an)]⟩)] Wh.YZ Wh.Dt
def XC:LT:=[(4,Qt)]
theorem aio:∀x,round Vp XC (jo Tryz.f230 0) Qt x=Wh.Dt x:=by intro x;kernel_rfl
theorem e_q107:EV Vp XC Tryz.f230 [.v gv] [.v .bool] Wh.Gg:=by intro xs;kernel_rfl
theorem aek:CO KR:=con_ok (Ls:=[Qt]) mixed (ct _ _) (Al _ (Re _ (Rc _ cx))) Tryz.func230 (loopsC (loopD_ok aio) loopsL_nil) boxesL_none e_q107
theorem acm:FK KR:=fun _ _ h=>h.cons KR (by kernel_rfl) Wh.Y0 aek
def MI:iq:=⟨126,[.v gv],[.v .bool],Wh.q78,Wh.q78'⟩
def O3:Cx:=⟨cr,[KR.entry,FI.entry],false,Gl⟩
def Qu:b8:=kS ⟨[(3,.leaf I6),(1,.aZ z0 [])],[(z0,false,.var gv (.leaf gv))]⟩ [(.ret,⟨[(2,.leaf .bool)],[]⟩),((.exit 0),⟨[(1,.aZ z0 [])],[(z0,false,.var gv (.leaf gv))]⟩)] Wh.aaF Wh.D3
def Qv:b8:=kS ⟨[(4,.leaf I6),(1,.aZ z0 [])],[(z0,false,.var gv (.leaf gv))]⟩ [(.ret,⟨[(2,.leaf .bool)],[]⟩),((.exit 2),⟨[(1,.aZ z0 [])],[(z0,false,.var gv (.leaf gv))]⟩)] Wh.aaG Wh.D4
def RQ:LT:=[(2,Qu),(7,Qv)]
theorem aip:∀x,round O3 RQ (jo Tryz.f126 0) Qu x=Wh.D3 x:=by intro x;kernel_rfl
theorem aiq:∀x,round O3 RQ (jo Tryz.f126 1) Qv x=Wh.D4 x:=by intro x;kernel_rfl
theorem e_q78:EV O3 RQ Tryz.f126 [.v gv] [.v .bool] Wh.q78:=by intro xs;kernel_rfl
theorem ok_q78:CO MI:=con_ok (Ls:=[Qu,Qv]) mixed (ct _ _) (acm _ (Nf _ cx)) Tryz.func126 (loopsC (loopD_ok aip) (loopsC (loopD_ok aiq) loopsL_nil)) boxesL_none e_q78
theorem fk_q78:FK MI:=fun _ _ h=>h.cons MI (by kernel_rfl) Wh.q78_v ok_q78
def KQ:iq:=⟨198,[.v nE],[.v .bool],Wh.Gf,Wh.Sf⟩
def C_q106:Cx:=⟨cr,[],false,Gl⟩
theorem e_q106:EV C_q106 gT Tryz.f198 [.v nE] [.v .bool] Wh.Gf:=by intro xs;kernel_rfl
theorem aej:CO KQ:=con_ok (Ls:=[]) mixed (ct _ _) cx Tryz.func198 loopsL_nil boxesL_none e_q106
theorem ack:FK KQ:=fun _ _ h=>h.cons KQ (by kernel_rfl) Wh.YY aej
def Lb:iq:=⟨280,[.v r5],[.v .bool],Wh.Be,Wh.JB⟩
def Vw:Cx:=⟨cr,[Eo.entry,zG.entry],false,Gl⟩
def Qe:b8:=kS ⟨[(3,.leaf I6),(1,.aZ z0 [])],[(z0,false,.var r5 (.leaf r5))]⟩ [(.ret,⟨[(2,.leaf .bool)],[]⟩),((.exit 0),⟨[(1,.aZ z0 [])],[(z0,false,.var r5 (.leaf r5))]⟩)] Wh.Zn Wh.BF
def XK:LT:=[(4,Qe)]
theorem ah9:∀x,round Vw XK (jo Tryz.f280 0) Qe x=Wh.BF x:=by intro x;kernel_rfl
theorem e_q132:EV Vw XK Tryz.f280 [.v r5] [.v .bool] Wh.Be:=by intro xs;kernel_rfl
theorem aeI:CO Lb:=con_ok (Ls:=[Qe]) mixed (ct _ _) (I_ _ (Al _ cx)) Tryz.func280 (loopsC (loopD_ok ah9) loopsL_nil) boxesL_none e_q132
theorem acE:FK Lb:=fun _ _ h=>h.cons Lb (by kernel_rfl) Wh.q132_v aeI
def Lw:iq:=⟨340,[.v (.lst I6),.v I6],[.v .bool],Wh.EY,Wh.JI⟩
def VI:Cx:=⟨cr,[zG.entry],false,Gl⟩
def Qi:b8:=kS ⟨[(5,.leaf I6),(0,.leaf (.lst I6)),(1,.leaf I6)],[]⟩ [(.ret,⟨[(4,.leaf .bool)],[]⟩),((.exit 0),⟨[(1,.leaf I6)],[]⟩)] Wh.ZQ Wh.CM
def XW:LT:=[(2,Qi)]
theorem aic:∀x,round VI XW (jo Tryz.f340 0) Qi x=Wh.CM x:=by intro x;kernel_rfl
theorem e_q160:EV VI XW Tryz.f340 [.v (.lst I6),.v I6] [.v .bool] Wh.EY:=by intro xs;kernel_rfl
theorem ae_:CO Lw:=con_ok (Ls:=[Qi]) mixed (ct _ _) (Al _ cx) Tryz.func340 (loopsC (loopD_ok aic) loopsL_nil) boxesL_none e_q160
theorem acW:FK Lw:=fun _ _ h=>h.cons Lw (by kernel_rfl) Wh.q160_v ae_
def LB:iq:=⟨341,[.v (.lst I6),.v I6],[.v .bool],Wh.E5,Wh.JK⟩
def VL:Cx:=⟨cr,[],false,Gl⟩
def QG:b8:=kS ⟨[(5,.leaf I6),(1,.leaf I6),(0,.leaf (.lst I6))],[]⟩ [(.ret,⟨[(4,.leaf .bool)],[]⟩),((.exit 0),⟨[],[]⟩)] Wh.ZW Wh.E6
def XZ:LT:=[(2,QG)]
theorem aiB:∀x,round VL XZ (jo Tryz.f341 0) QG x=Wh.E6 x:=by intro x;kernel_rfl
theorem e_q166:EV VL XZ Tryz.f341 [.v (.lst I6),.v I6] [.v .bool] Wh.E5:=by intro xs;kernel_rfl
theorem aff:CO LB:=con_ok (Ls:=[QG]) mixed (ct _ _) cx Tryz.func341 (loopsC (loopD_ok aiB) loopsL_nil) boxesL_none e_q166
theorem ac1:FK LB:=fun _ _ h=>h.cons LB (by kernel_rfl) Wh.q166_v aff
def MG:iq:=⟨281,[.v lg],[.v .bool],Wh.Cb,Wh.JX⟩
def KF:Cx:=⟨cr,[LB.entry,Lw.entry,zG.entry],false,Gl⟩
def Ql:b8:=kS ⟨[(3,.leaf I6),(1,.aZ z0 [])],[(z0,false,.var lg (.leaf lg))]⟩ [(.ret,⟨[(2,.leaf .bool)],[]⟩),((.exit 0),⟨[(1,.aZ z0 [])],[(z0,false,.var lg (.leaf lg))]⟩)] Wh.aaC Wh.D0
def Qm:b8:=kS ⟨[(5,.leaf I6),(1,.aZ z0 [])],[(z0,false,.var lg (.leaf lg))]⟩ [(.ret,⟨[(2,.leaf .bool)],[]⟩),((.exit 2),⟨[],[]⟩)] Wh.aaD Wh.Fl
def Qn:b8:=kS ⟨[(6,.leaf I6),(5,.leaf I6),(1,.aZ z0 [])],[(z0,false,.var lg (.leaf lg))]⟩ [(.ret,⟨[(2,.leaf .bool)],[]⟩),((.exit 4),⟨[(1,.aZ z0 []),(5,.leaf I6)],[(z0,false,.var lg (.leaf lg))]⟩)] Wh.aaE Wh.Fm
def NC:LT:=[(4,Ql),(10,Qm),(13,Qn)]
theorem aif:∀x,round KF NC (jo Tryz.f281 0) Ql x=Wh.D0 x:=by intro x;kernel_rfl
theorem aih:∀x,round KF NC (jo Tryz.f281 1) Qm x=Wh.Fl x:=by intro x;kernel_rfl
theorem aii:∀x,round KF NC (jo Tryz.f281 2) Qn x=Wh.Fm x:=by intro x;kernel_rfl
theorem e_q76:EV KF NC Tryz.f281 [.v lg] [.v .bool] Wh.Cb:=by intro xs;kernel_rfl
theorem ok_q76:CO MG:=con_ok (Ls:=[Ql,Qm,Qn]) mixed (ct _ _) (ac1 _ (acW _ (Al _ cx))) Tryz.func281 (loopsC (loopD_ok aif) (loopsC (loopD_ok aih) (loopsC (loopD_ok aii) loopsL_nil))) boxesL_none e_q76
theorem fk_q76:FK MG:=fun _ _ h=>h.cons MG (by kernel_rfl) Wh.q76_v ok_q76
def IE:iq:=⟨199,[.v xN],[.v .bool],Wh.DI,Wh.N6⟩
def C_q159:Cx:=⟨cr,[Eo.entry,MG.entry,Lb.entry],false,Gl⟩
theorem e_q159:EV C_q159 gT Tryz.f199 [.v xN] [.v .bool] Wh.DI:=by intro xs;kernel_rfl
theorem ae9:CO IE:=con_ok (Ls:=[]) mixed (ct _ _) (I_ _ (fk_q76 _ (acE _ cx))) Tryz.func199 loopsL_nil boxesL_none e_q159
theorem Wu:FK IE:=fun _ _ h=>h.cons IE (by kernel_rfl) Wh.Ts ae9
def KL:iq:=⟨201,[.v xN],[.v .bool],Wh.CB,Wh.Ju⟩
def C_q101:Cx:=⟨cr,[Eo.entry,IE.entry],false,Gl⟩
theorem e_q101:EV C_q101 gT Tryz.f201 [.v xN] [.v .bool] Wh.CB:=by intro xs;kernel_rfl
theorem aee:CO KL:=con_ok (Ls:=[]) mixed (ct _ _) (I_ _ (Wu _ cx)) Tryz.func201 loopsL_nil boxesL_none e_q101
theorem acf:FK KL:=fun _ _ h=>h.cons KL (by kernel_rfl) Wh.YQ aee
def MD:iq:=⟨109,[.v nE],[.v .bool],Wh.q74,Wh.G5⟩
def C_q74:Cx:=⟨cr,[KL.entry,Iw.entry,IE.entry,KQ.entry,zG.entry],false,Gl⟩
theorem e_q74:EV C_q74 gT Tryz.f109 [.v nE] [.v .bool] Wh.q74:=by intro xs;kernel_rfl
theorem ok_q74:CO MD:=con_ok (Ls:=[]) mixed (ct _ _) (acf _ (Wl _ (Wu _ (ack _ (Al _ cx))))) Tryz.func109 loopsL_nil boxesL_none e_q74
theorem fk_q74:FK MD:=fun _ _ h=>h.cons MD (by kernel_rfl) Wh.q74_v ok_q74
def KN:iq:=⟨42,[.v gv],[.v .bool],Wh.EI,Wh.R_⟩
def OW:Cx:=⟨cr,[zG.entry,MD.entry,MI.entry,ME.entry],false,Gl⟩
def Qo:b8:=kS ⟨[(3,.leaf I6),(1,.aZ z0 [])],[(z0,false,.var gv (.leaf gv))]⟩ [(.ret,⟨[(2,.leaf .bool)],[]⟩),((.exit 0),⟨[(1,.aZ z0 [])],[(z0,false,.var gv (.leaf gv))]⟩)] Wh.YS Wh.Dn
def Qp:b8:=kS ⟨[(4,.leaf I6),(1,.aZ z0 [])],[(z0,false,.var gv (.leaf gv))]⟩ [(.ret,⟨[(2,.leaf .bool)],[]⟩),((.exit 2),⟨[],[]⟩)] Wh.YT Wh.Dp
def RI:LT:=[(4,Qo),(9,Qp)]
theorem aij:∀x,round OW RI (jo Tryz.f42 0) Qo x=Wh.Dn x:=by intro x;kernel_rfl
theorem aik:∀x,round OW RI (jo Tryz.f42 1) Qp x=Wh.Dp x:=by intro x;kernel_rfl
theorem e_q103:EV OW RI Tryz.f42 [.v gv] [.v .bool] Wh.EI:=by intro xs;kernel_rfl
theorem aeg:CO KN:=con_ok (Ls:=[Qo,Qp]) mixed (ct _ _) (Al _ (fk_q74 _ (fk_q78 _ (fk_q75 _ cx)))) Tryz.func42 (loopsC (loopD_ok aij) (loopsC (loopD_ok aik) loopsL_nil)) boxesL_none e_q103
theorem ach:FK KN:=fun _ _ h=>h.cons KN (by kernel_rfl) Wh.YU aeg
def Lo:iq:=⟨211,[.v xN],[.v .bool],Wh.GC,Wh.Te⟩
def C_q150:Cx:=⟨cr,[],false,Gl⟩
theorem e_q150:EV C_q150 gT Tryz.f211 [.v xN] [.v .bool] Wh.GC:=by intro xs;kernel_rfl
theorem ae0:CO Lo:=con_ok (Ls:=[]) mixed (ct _ _) cx Tryz.func211 loopsL_nil boxesL_none e_q150
theorem acP:FK Lo:=fun _ _ h=>h.cons Lo (by kernel_rfl) Wh.ZE ae0
def KV:iq:=⟨290,[.v r5],[.v .bool],Wh.A0,Wh.Jy⟩
def Vs:Cx:=⟨cr,[FJ.entry,zW.entry],false,Gl⟩
def Pa:b8:=kS ⟨[(50,.leaf I6),(1,.aZ z0 []),(48,.leaf (.lst I6)),(49,.leaf I6)],[(z0,false,.var r5 (.leaf r5))]⟩ [(.ret,⟨[(2,.leaf .bool)],[]⟩),((.exit 0),⟨[],[]⟩)] Wh.Y9 Wh.BE
def XF:LT:=[(6,Pa)]
theorem ahd:∀x,round Vs XF (jo Tryz.f290 0) Pa x=Wh.BE x:=by intro x;kernel_rfl
theorem e_q114:EV Vs XF Tryz.f290 [.v r5] [.v .bool] Wh.A0:=by intro xs;kernel_rfl
theorem aeq:CO KV:=con_ok (Ls:=[Pa]) mixed (ct _ _) (Ng _ (AN _ cx)) Tryz.func290 (loopsC (loopD_ok ahd) loopsL_nil) boxesL_none e_q114
theorem acp:FK KV:=fun _ _ h=>h.cons KV (by kernel_rfl) Wh.q114_v aeq
def Lm:iq:=⟨345,[.v (.lst I6),.v I6],[.v .bool],Wh.ES,Wh.JF⟩
def VC:Cx:=⟨cr,[zW.entry],false,Gl⟩
def Pg:b8:=kS ⟨[(9,.leaf I6),(0,.leaf (.lst I6)),(1,.leaf I6),(7,.leaf (.lst I6)),(8,.leaf I6)],[]⟩ [(.ret,⟨[(4,.leaf .bool)],[]⟩),((.exit 0),⟨[(1,.leaf I6)],[]⟩)] Wh.ZB Wh.CK
def XQ:LT:=[(2,Pg)]
theorem ahi:∀x,round VC XQ (jo Tryz.f345 0) Pg x=Wh.CK x:=by intro x;kernel_rfl
theorem e_q147:EV VC XQ Tryz.f345 [.v (.lst I6),.v I6] [.v .bool] Wh.ES:=by intro xs;kernel_rfl
theorem aeX:CO Lm:=con_ok (Ls:=[Pg]) mixed (ct _ _) (AN _ cx) Tryz.func345 (loopsC (loopD_ok ahi) loopsL_nil) boxesL_none e_q147
theorem acN:FK Lm:=fun _ _ h=>h.cons Lm (by kernel_rfl) Wh.q147_v aeX
def LG:iq:=⟨346,[.v (.lst I6)],[.v I3],Wh.GR,Wh.JO⟩
def VP:Cx:=⟨cr,[],false,Gl⟩
def Pw:b8:=kS ⟨[(8,.leaf I6),(3,.leaf I3),(6,.leaf (.lst I6)),(7,.leaf I6)],[]⟩ [((.exit 0),⟨[(3,.leaf I3)],[]⟩)] Wh.Z3 Wh.GS
def X4:LT:=[(3,Pw)]
theorem ahv:∀x,round VP X4 (jo Tryz.f346 0) Pw x=Wh.GS x:=by intro x;kernel_rfl
theorem e_q170:EV VP X4 Tryz.f346 [.v (.lst I6)] [.v I3] Wh.GR:=by intro xs;kernel_rfl
theorem afj:CO LG:=con_ok (Ls:=[Pw]) mixed (ct _ _) cx Tryz.func346 (loopsC (loopD_ok ahv) loopsL_nil) boxesL_none e_q170
theorem ac4:FK LG:=fun _ _ h=>h.cons LG (by kernel_rfl) Wh.q170_v afj
def Md:iq:=⟨291,[.v lg],[.v .bool],Wh.B9,Wh.JS⟩
def O1:Cx:=⟨cr,[LG.entry,Lm.entry,zW.entry],false,Gl⟩
def Pk:b8:=kS ⟨[(21,.leaf I6),(3,.leaf I3),(1,.aZ z0 []),(19,.leaf (.lst nW)),(20,.leaf I6)],[(z0,false,.var lg (.leaf lg))]⟩ [(.ret,⟨[(2,.leaf .bool)],[]⟩),((.exit 0),⟨[(3,.leaf I3),(1,.aZ z0 [])],[(z0,false,.var lg (.leaf lg))]⟩)] Wh.aam Wh.B_
def Pm:b8:=kS ⟨[(77,.leaf I6),(3,.leaf I3),(75,.leaf (.lst nW)),(76,.leaf I6)],[]⟩ [(.ret,⟨[(2,.leaf .bool)],[]⟩),((.exit 2),⟨[],[]⟩)] Wh.aan Wh.Ff
def RO:LT:=[(5,Pk),(12,Pm)]
theorem ahl:∀x,round O1 RO (jo Tryz.f291 0) Pk x=Wh.B_ x:=by intro x;kernel_rfl
theorem ahm:∀x,round O1 RO (jo Tryz.f291 1) Pm x=Wh.Ff x:=by intro x;kernel_rfl
theorem e_q48:EV O1 RO Tryz.f291 [.v lg] [.v .bool] Wh.B9:=by intro xs;kernel_rfl
theorem ok_q48:CO Md:=con_ok (Ls:=[Pk,Pm]) mixed (ct _ _) (ac4 _ (acN _ (AN _ cx))) Tryz.func291 (loopsC (loopD_ok ahl) (loopsC (loopD_ok ahm) loopsL_nil)) boxesL_none e_q48
theorem fk_q48:FK Md:=fun _ _ h=>h.cons Md (by kernel_rfl) Wh.q48_v ok_q48
def Ll:iq:=⟨212,[.v xN],[.v .bool],Wh.ER,Wh.Ta⟩
def C_q146:Cx:=⟨cr,[FJ.entry,Md.entry,KV.entry],false,Gl⟩
theorem e_q146:EV C_q146 gT Tryz.f212 [.v xN] [.v .bool] Wh.ER:=by intro xs;kernel_rfl
theorem aeW:CO Ll:=con_ok (Ls:=[]) mixed (ct _ _) (Ng _ (fk_q48 _ (acp _ cx))) Tryz.func212 loopsL_nil boxesL_none e_q146
theorem acM:FK Ll:=fun _ _ h=>h.cons Ll (by kernel_rfl) Wh.ZA aeW
def LM:iq:=⟨312,[.v lg,.v I6],[.v .str,.v .bool],Wh.q20,Wh.JQ⟩
def C_q20:Cx:=⟨cr,[],false,Gl⟩
def Pn:b8:=kS ⟨[(11,.leaf I6),(1,.leaf I6),(9,.leaf (.lst nW)),(10,.leaf I6)],[]⟩ [(.ret,⟨[(4,.leaf .str),(5,.leaf .bool)],[]⟩),((.exit 0),⟨[],[]⟩)] Wh.Z7 Wh.E9
def X6:LT:=[(2,Pn)]
theorem ahn:∀x,round C_q20 X6 (jo Tryz.f312 0) Pn x=Wh.E9 x:=by intro x;kernel_rfl
theorem e_q20:EV C_q20 X6 Tryz.f312 [.v lg,.v I6] [.v .str,.v .bool] Wh.q20:=by intro xs;kernel_rfl
theorem ok_q20:CO LM:=con_ok (Ls:=[Pn]) mixed (ct _ _) cx Tryz.func312 (loopsC (loopD_ok ahn) loopsL_nil) boxesL_none e_q20
theorem fk_q20:FK LM:=fun _ _ h=>h.cons LM (by kernel_rfl) Wh.q20_v ok_q20
def MU:iq:=⟨292,[.v lg],[.v I6],Wh.G7,Wh.q9'⟩
def C_q9:Cx:=⟨cr,[LM.entry],false,Gl⟩
def Pp:b8:=kS ⟨[(3,.leaf I6),(1,.aZ z0 [])],[(z0,false,.var lg (.leaf lg))]⟩ [((.exit 0),⟨[(3,.leaf I6)],[]⟩)] Wh.aaT Wh.Ft
def lt_q9:LT:=[(2,Pp)]
theorem aho:∀x,round C_q9 lt_q9 (jo Tryz.f292 0) Pp x=Wh.Ft x:=by intro x;kernel_rfl
theorem e_q9:EV C_q9 lt_q9 Tryz.f292 [.v lg] [.v I6] Wh.G7:=by intro xs;kernel_rfl
theorem ok_q9:CO MU:=con_ok (Ls:=[Pp]) mixed (ct _ _) (fk_q20 _ cx) Tryz.func292 (loopsC (loopD_ok aho) loopsL_nil) boxesL_none e_q9
theorem fk_q9:FK MU:=fun _ _ h=>h.cons MU (by kernel_rfl) Wh.q9_v ok_q9
def KT:iq:=⟨214,[.v xN],[.v .bool],Wh.BB,Wh.EJ⟩
def C_q11:Cx:=⟨cr,[MU.entry],false,Gl⟩
theorem e_q11:EV C_q11 gT Tryz.f214 [.v xN] [.v .bool] Wh.BB:=by intro xs;kernel_rfl
theorem ok_q11:CO KT:=con_ok (Ls:=[]) mixed (ct _ _) (fk_q9 _ cx) Tryz.func214 loopsL_nil boxesL_none e_q11
theorem fk_q11:FK KT:=fun _ _ h=>h.cons KT (by kernel_rfl) Wh.q11_v ok_q11
def Mb:iq:=⟨116,[.v nE],[.v .bool],Wh.q46,Wh.q46'⟩
def C_q46:Cx:=⟨cr,[KT.entry,Hx.entry,Ll.entry,Lo.entry,zW.entry,HB.entry],false,Gl⟩
theorem e_q46:EV C_q46 gT Tryz.f116 [.v nE] [.v .bool] Wh.q46:=by intro xs;kernel_rfl
theorem ok_q46:CO Mb:=con_ok (Ls:=[]) mixed (ct _ _) (fk_q11 _ (Rb _ (acM _ (acP _ (AN _ (Rf _ cx)))))) Tryz.func116 loopsL_nil boxesL_none e_q46
theorem fk_q46:FK Mb:=fun _ _ h=>h.cons Mb (by kernel_rfl) Wh.q46_v ok_q46
def MQ:iq:=⟨44,[.v gv],[.v .bool],Wh.q86,Wh.q86'⟩
def Hv:Cx:=⟨cr,[zW.entry,IB.entry,IP.entry,IF.entry,HB.entry,Mb.entry,Mc.entry],false,Gl⟩
def Pq:b8:=kS ⟨[(34,.leaf I6),(1,.aZ z0 []),(32,.leaf (.lst nE)),(33,.leaf I6)],[(z0,false,.var gv (.leaf gv))]⟩ [(.ret,⟨[(2,.leaf .bool)],[]⟩),((.exit 0),⟨[(1,.aZ z0 [])],[(z0,false,.var gv (.leaf gv))]⟩)] Wh.aaM Wh.D7
def Pr:b8:=kS ⟨[(60,.leaf I6),(58,.leaf (.lst ov)),(1,.aZ z0 []),(59,.leaf I6)],[(z0,false,.var gv (.leaf gv))]⟩ [(.ret,⟨[(2,.leaf .bool)],[]⟩),((.exit 2),⟨[(1,.aZ z0 [])],[(z0,false,.var gv (.leaf gv))]⟩)] Wh.aaN Wh.D8
def Pt:b8:=kS ⟨[(83,.leaf I6),(81,.leaf (.lst an)),(1,.aZ z0 []),(82,.leaf I6)],[(z0,false,.var gv (.leaf gv))]⟩ [(.ret,⟨[(2,.leaf .bool)],[]⟩),((.exit 4),⟨[(1,.aZ z0 [])],[(z0,false,.var gv (.leaf gv))]⟩)] Wh.aaO Wh.D9
def Pu:b8:=kS ⟨[(138,.leaf I6),(1,.aZ z0 []),(136,.whole z1 an),(137,.leaf I6)],[(z0,false,.var gv (.leaf gv)),(z1,false,.rows an)]⟩ [(.ret,⟨[(2,.leaf .bool)],[]⟩),((.exit 6),⟨[],[]⟩)] Wh.aaP Wh.D_
def VR:b8:=kS ⟨[(138,.leaf I6),(1,.aZ z0 []),(136,.leaf (.lst an)),(137,.leaf I6)],[(z0,false,.var gv (.leaf gv))]⟩ [(.ret,⟨[(2,.leaf .bool)],[]⟩),((.exit 6),⟨[],[]⟩)] Wh.aaQ Wh.Ea
def HV:LT:=[(4,Pq),(10,Pr),(16,Pt),(29,Pu),(500029,VR)]
theorem ahp:∀x,round Hv HV (jo Tryz.f44 0) Pq x=Wh.D7 x:=by intro x;kernel_rfl
theorem ahq:∀x,round Hv HV (jo Tryz.f44 1) Pr x=Wh.D8 x:=by intro x;kernel_rfl
theorem ahr:∀x,round Hv HV (jo Tryz.f44 2) Pt x=Wh.D9 x:=by intro x;kernel_rfl
theorem ahs:∀x,round Hv HV (jo Tryz.f44 3) Pu x=Wh.D_ x:=by intro x;kernel_rfl
theorem aht:∀x,round Hv HV (jo Tryz.f44 3) VR x=Wh.Ea x:=by intro x;kernel_rfl
theorem e_q86:EV Hv HV Tryz.f44 [.v gv] [.v .bool] Wh.q86:=by intro xs;kernel_rfl
theorem ok_q86:CO MQ:=con_ok (Ls:=[Pq,Pr,Pt,Pu]) mixed (ct _ _) (AN _ (Wq _ (WD _ (Wv _ (Rf _ (fk_q46 _ (fk_q47 _ cx))))))) Tryz.func44 (loopsC (loopD_ok ahp) (loopsC (loopD_ok ahq) (loopsC (loopD_ok ahr) (loopsL_two (by kernel_rfl) (loopD_ok ahs) (by kernel_rfl) (loopD_ok aht) loopsL_nil)))) boxesL_none e_q86
theorem fk_q86:FK MQ:=fun _ _ h=>h.cons MQ (by kernel_rfl) Wh.q86_v ok_q86
def Is:iq:=⟨300,[.v (.lst I6),.v (.lst I6)],[.v .bool],Wh.Dv,Wh.Gn⟩
def Vt:Cx:=⟨cr,[],false,Gl⟩
def PK:b8:=kS ⟨[(5,.leaf I6),(1,.leaf (.lst I6)),(0,.leaf (.lst I6))],[]⟩ [(.ret,⟨[(4,.leaf .bool)],[]⟩),((.exit 0),⟨[],[]⟩)] Wh.Zb Wh.Gp
def XG:LT:=[(4,PK)]
theorem ahI:∀x,round Vt XG (jo Tryz.f300 0) PK x=Wh.Gp x:=by intro x;kernel_rfl
theorem e_q118:EV Vt XG Tryz.f300 [.v (.lst I6),.v (.lst I6)] [.v .bool] Wh.Dv:=by intro xs;kernel_rfl
theorem aeu:CO Is:=con_ok (Ls:=[PK]) mixed (ct _ _) cx Tryz.func300 (loopsC (loopD_ok ahI) loopsL_nil) boxesL_none e_q118
theorem Wi:FK Is:=fun _ _ h=>h.cons Is (by kernel_rfl) Wh.q118_v aeu
def K0:iq:=⟨222,[.v r5,.v r5],[.v .bool],Wh.Gr,Wh.NQ⟩
def C_q120:Cx:=⟨cr,[Is.entry],false,Gl⟩
theorem e_q120:EV C_q120 gT Tryz.f222 [.v r5,.v r5] [.v .bool] Wh.Gr:=by intro xs;kernel_rfl
theorem aew:CO K0:=con_ok (Ls:=[]) mixed (ct _ _) (Wi _ cx) Tryz.func222 loopsL_nil boxesL_none e_q120
theorem acu:FK K0:=fun _ _ h=>h.cons K0 (by kernel_rfl) Wh.q120_v aew
def LH:iq:=⟨355,[.v nW,.v nW],[.v .bool],Wh.GU,Wh.Ob⟩
def C_q171:Cx:=⟨cr,[Is.entry],false,Gl⟩
theorem e_q171:EV C_q171 gT Tryz.f355 [.v nW,.v nW] [.v .bool] Wh.GU:=by intro xs;kernel_rfl
theorem afk:CO LH:=con_ok (Ls:=[]) mixed (ct _ _) (Wi _ cx) Tryz.func355 loopsL_nil boxesL_none e_q171
theorem ac5:FK LH:=fun _ _ h=>h.cons LH (by kernel_rfl) Wh.q171_v afk
def Lq:iq:=⟨301,[.v (.lst nW),.v (.lst nW)],[.v .bool],Wh.GF,Wh.N3⟩
def VE:Cx:=⟨cr,[LH.entry],false,Gl⟩
def PI:b8:=kS ⟨[(5,.leaf I6),(1,.leaf (.lst nW)),(0,.leaf (.lst nW))],[]⟩ [(.ret,⟨[(4,.leaf .bool)],[]⟩),((.exit 0),⟨[],[]⟩)] Wh.ZG Wh.GG
def XS:LT:=[(4,PI)]
theorem ahG:∀x,round VE XS (jo Tryz.f301 0) PI x=Wh.GG x:=by intro x;kernel_rfl
theorem e_q152:EV VE XS Tryz.f301 [.v (.lst nW),.v (.lst nW)] [.v .bool] Wh.GF:=by intro xs;kernel_rfl
theorem ae2:CO Lq:=con_ok (Ls:=[PI]) mixed (ct _ _) (ac5 _ cx) Tryz.func301 (loopsC (loopD_ok ahG) loopsL_nil) boxesL_none e_q152
theorem acR:FK Lq:=fun _ _ h=>h.cons Lq (by kernel_rfl) Wh.q152_v ae2
def Mn:iq:=⟨223,[.v lg,.v lg],[.v .bool],Wh.q59,Wh.Ok⟩
def C_q59:Cx:=⟨cr,[Lq.entry],false,Gl⟩
theorem e_q59:EV C_q59 gT Tryz.f223 [.v lg,.v lg] [.v .bool] Wh.q59:=by intro xs;kernel_rfl
theorem ok_q59:CO Mn:=con_ok (Ls:=[]) mixed (ct _ _) (acR _ cx) Tryz.func223 loopsL_nil boxesL_none e_q59
theorem fk_q59:FK Mn:=fun _ _ h=>h.cons Mn (by kernel_rfl) Wh.q59_v ok_q59
def LU:iq:=⟨118,[.v xN,.v xN],[.v .bool],Wh.q29,Wh.Oe⟩
def C_q29:Cx:=⟨cr,[Mn.entry,K0.entry],false,Gl⟩
theorem e_q29:EV C_q29 gT Tryz.f118 [.v xN,.v xN] [.v .bool] Wh.q29:=by intro xs;kernel_rfl
theorem ok_q29:CO LU:=con_ok (Ls:=[]) mixed (ct _ _) (fk_q59 _ (acu _ cx)) Tryz.func118 loopsL_nil boxesL_none e_q29
theorem fk_q29:FK LU:=fun _ _ h=>h.cons LU (by kernel_rfl) Wh.q29_v ok_q29
def Mi:iq:=⟨35,[.v nE,.v nE],[.v .bool],Wh.q54,Wh.Oi⟩
def C_q54:Cx:=⟨cr,[LU.entry],false,Gl⟩
theorem e_q54:EV C_q54 gT Tryz.f35 [.v nE,.v nE] [.v .bool] Wh.q54:=by intro xs;kernel_rfl
theorem ok_q54:CO Mi:=con_ok (Ls:=[]) mixed (ct _ _) (fk_q29 _ cx) Tryz.func35 loopsL_nil boxesL_none e_q54
theorem fk_q54:FK Mi:=fun _ _ h=>h.cons Mi (by kernel_rfl) Wh.q54_v ok_q54
def LS:iq:=⟨131,[.v (.lst nE),.v (.lst nE)],[.v .bool],Wh.q28,Wh.q28'⟩
def C_q28:Cx:=⟨cr,[Mi.entry],false,Gl⟩
def PG:b8:=kS ⟨[(5,.leaf I6),(1,.leaf (.lst nE)),(0,.leaf (.lst nE))],[]⟩ [(.ret,⟨[(4,.leaf .bool)],[]⟩),((.exit 0),⟨[],[]⟩)] Wh.aaa Wh.GY
def X_:LT:=[(4,PG)]
theorem ahF:∀x,round C_q28 X_ (jo Tryz.f131 0) PG x=Wh.GY x:=by intro x;kernel_rfl
theorem e_q28:EV C_q28 X_ Tryz.f131 [.v (.lst nE),.v (.lst nE)] [.v .bool] Wh.q28:=by intro xs;kernel_rfl
theorem ok_q28:CO LS:=con_ok (Ls:=[PG]) mixed (ct _ _) (fk_q54 _ cx) Tryz.func131 (loopsC (loopD_ok ahF) loopsL_nil) boxesL_none e_q28
theorem fk_q28:FK LS:=fun _ _ h=>h.cons LS (by kernel_rfl) Wh.q28_v ok_q28
def Mk:iq:=⟨234,[.v ov,.v ov],[.v .bool],Wh.q56,Wh.Oj⟩
def C_q56:Cx:=⟨cr,[],false,Gl⟩
theorem e_q56:EV C_q56 gT Tryz.f234 [.v ov,.v ov] [.v .bool] Wh.q56:=by intro xs;kernel_rfl
theorem ok_q56:CO Mk:=con_ok (Ls:=[]) mixed (ct _ _) cx Tryz.func234 loopsL_nil boxesL_none e_q56
theorem fk_q56:FK Mk:=fun _ _ h=>h.cons Mk (by kernel_rfl) Wh.q56_v ok_q56
def LW:iq:=⟨132,[.v (.lst ov),.v (.lst ov)],[.v .bool],Wh.q30,Wh.q30'⟩
def C_q30:Cx:=⟨cr,[Mk.entry],false,Gl⟩
def PM:b8:=kS ⟨[(5,.leaf I6),(1,.leaf (.lst ov)),(0,.leaf (.lst ov))],[]⟩ [(.ret,⟨[(4,.leaf .bool)],[]⟩),((.exit 0),⟨[],[]⟩)] Wh.aac Wh.GZ
def Ya:LT:=[(4,PM)]
theorem ahK:∀x,round C_q30 Ya (jo Tryz.f132 0) PM x=Wh.GZ x:=by intro x;kernel_rfl
theorem e_q30:EV C_q30 Ya Tryz.f132 [.v (.lst ov),.v (.lst ov)] [.v .bool] Wh.q30:=by intro xs;kernel_rfl
theorem ok_q30:CO LW:=con_ok (Ls:=[PM]) mixed (ct _ _) (fk_q56 _ cx) Tryz.func132 (loopsC (loopD_ok ahK) loopsL_nil) boxesL_none e_q30
theorem fk_q30:FK LW:=fun _ _ h=>h.cons LW (by kernel_rfl) Wh.q30_v ok_q30
def MX:iq:=⟨45,[.v gv,.v gv],[.v .bool],Wh.q93,Wh.q93'⟩
def C_q93:Cx:=⟨cr,[IQ.entry,LW.entry,LS.entry,Mm.entry],false,Gl⟩
theorem e_q93:EV C_q93 gT Tryz.f45 [.v gv,.v gv] [.v .bool] Wh.q93:=by intro xs;kernel_rfl
theorem ok_q93:CO MX:=con_ok (Ls:=[]) mixed (ct _ _) (WE _ (fk_q30 _ (fk_q28 _ (fk_q58 _ cx)))) Tryz.func45 loopsL_nil boxesL_none e_q93
theorem fk_q93:FK MX:=fun _ _ h=>h.cons MX (by kernel_rfl) Wh.q93_v ok_q93
def K_q6:iq:=⟨9,[.v gv],[.v .bool],Wh.q6,Wh.q6'⟩
def C_q6:Cx:=⟨cr,[MX.entry,MQ.entry,KN.entry,M1.entry,MY.entry],false,Gl⟩
theorem e_q6:EV C_q6 gT Tryz.f9 [.v gv] [.v .bool] Wh.q6:=by intro xs;kernel_rfl
theorem ok_q6:CO K_q6:=con_ok (Ls:=[]) mixed (ct _ _) (fk_q93 _ (fk_q86 _ (ach _ (fk_q99 _ (fk_q95 _ cx))))) Tryz.func9 loopsL_nil boxesL_none e_q6
end
end Go.Proofs.Bp
