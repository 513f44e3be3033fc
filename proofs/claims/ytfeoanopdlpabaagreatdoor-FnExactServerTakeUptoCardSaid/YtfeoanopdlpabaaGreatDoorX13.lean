import Derived.Test.YtfeoanopdlpabaaGreatDoorX12
import Derived.Test.YtfeoanopdlpabaaGreatDoorProg
import Derived.KernelRfl
open Go Go.Ab
namespace Go.Proofs.AV
noncomputable section
def eA:List (Nat×TI):=[(2,⟨(.int .i64),0⟩),(3,⟨(.int .i64),0⟩),(4,⟨.bool,0⟩),(5,⟨(.int .u8),0⟩),(6,⟨(.int .u8),0⟩),(7,⟨Rz,1⟩),(8,⟨Rz,1⟩),(9,⟨.str,0⟩),(10,⟨.str,0⟩),(11,⟨.str,0⟩),(12,⟨(.int .u64),0⟩),(13,⟨RA,0⟩),(14,⟨RA,0⟩),(21,⟨(.int .i32),0⟩),(455,⟨(.int .i32),0⟩),(454,⟨(.int .i32),0⟩),(422,⟨(.ref (.int .u8)),0⟩),(452,⟨(.int .u8),0⟩),(451,⟨(.int .u8),0⟩),(345,⟨(.int .u32),0⟩),(118,⟨an,1⟩),(260,⟨an,1⟩),(22,⟨(.lst an),0⟩),(23,⟨bx,0⟩),(24,⟨bx,0⟩),(122,⟨ct,1⟩),(282,⟨ct,1⟩),(25,⟨(.lst ct),0⟩),(26,⟨fN,0⟩),(27,⟨fN,0⟩),(126,⟨fT,1⟩),(204,⟨fT,1⟩),(28,⟨(.lst fT),0⟩),(134,⟨gd,1⟩),(206,⟨gd,1⟩),(29,⟨(.lst gd),0⟩),(30,⟨cx,0⟩),(31,⟨cx,0⟩),(119,⟨an,1⟩),(34,⟨(.lst an),0⟩),(35,⟨bx,0⟩),(36,⟨bx,0⟩),(123,⟨ct,1⟩),(37,⟨(.lst ct),0⟩),(38,⟨fN,0⟩),(39,⟨fN,0⟩),(127,⟨fT,1⟩),(40,⟨(.lst fT),0⟩),(135,⟨gd,1⟩),(41,⟨(.lst gd),0⟩),(42,⟨cx,0⟩),(43,⟨cx,0⟩),(56,⟨(.lst (.int .i64)),0⟩),(57,⟨yD,0⟩),(58,⟨yD,0⟩),(320,⟨Gy,0⟩),(340,⟨Gy,0⟩),(59,⟨(.lst Gy),0⟩),(60,⟨FD,0⟩),(61,⟨FD,0⟩),(62,⟨FC,0⟩),(63,⟨FC,0⟩),(64,⟨C4,0⟩),(65,⟨C4,0⟩),(66,⟨Ih,1⟩),(67,⟨Ih,1⟩),(70,⟨yD,0⟩),(321,⟨Gy,0⟩),(71,⟨(.lst Gy),0⟩),(72,⟨FD,0⟩),(73,⟨FD,0⟩),(74,⟨FC,0⟩),(75,⟨FC,0⟩),(76,⟨C4,0⟩),(77,⟨C4,0⟩),(82,⟨Ih,1⟩),(78,⟨(.lst Ih),0⟩),(89,⟨(.lst C4),0⟩),(174,⟨Gz,1⟩),(258,⟨Gz,1⟩),(90,⟨(.lst Gz),0⟩),(91,⟨Ii,0⟩),(92,⟨Ii,0⟩),(95,⟨(.lst C4),0⟩),(175,⟨Gz,1⟩),(96,⟨(.lst Gz),0⟩),(97,⟨Ii,0⟩),(98,⟨Ii,0⟩),(111,⟨(.lst .str),0⟩),(192,⟨Mk,1⟩),(193,⟨Mk,1⟩),(189,⟨(.lst Mk),0⟩),(256,⟨(.lst (.int .u8)),0⟩),(314,⟨(.ref cx),0⟩),(331,⟨(.int .u64),0⟩),(332,⟨(.ref ct),0⟩),(357,⟨(.int .i64),0⟩),(366,⟨(.int .u64),0⟩),(369,⟨(.int .i64),0⟩),(375,⟨(.arr 24 (.int .u8)),0⟩),(379,⟨(.arr 8 (.int .u32)),0⟩),(380,⟨(.arr 64 (.int .u32)),0⟩),(399,⟨(.int .u64),0⟩),(403,⟨(.ref (.int .i64)),0⟩),(405,⟨(.lst (.int .u32)),0⟩),(416,⟨(.arr 20 (.int .u64)),0⟩),(417,⟨(.arr 65 (.int .u8)),0⟩),(425,⟨(.ref (.int .u64)),0⟩),(432,⟨xU,1⟩),(433,⟨xU,1⟩),(431,⟨(.ref xU),0⟩),(440,⟨(.arr 32 (.int .u8)),0⟩),(441,⟨(.arr 64 (.int .u8)),0⟩),(442,⟨(.arr 256 (.int .u8)),0⟩),(443,⟨RB,1⟩),(444,⟨RB,1⟩)]
theorem tab_ok:cn (fun x=>(cK Tryz.prog x.2.t).1 x.1&&(!(Nat.beq x.2.e 1) || eqB Tryz.prog x.1)) eA=true:=by kernel_rfl
theorem e_ (fns:List (Nat×List Ab.Mode×(List Arg→Option Res))) (dp:Bool):bH Tryz.prog ⟨eA,fns,dp,Gl⟩:=cxOk_of tab_ok
theorem mixed:Tryz.prog.follows .mixedOrders=true:=by kernel_rfl
abbrev FT:Type:=List (Nat×List Ab.Mode×(List Arg→Option Res))
abbrev FK (c:iq):Prop:=∀(fns:FT) {dp:Bool},dD Tryz.prog Gb ⟨eA,fns,dp,Gl⟩→dD Tryz.prog Gb ⟨eA,c.entry::fns,dp,Gl⟩
abbrev EV (C:Cx) (lt:List (Nat×b8)) (f:Func) (ps:List PT) (ws:List Want) (g:gE ps→Option (jr ws×ij ps)):Prop:=∀xs,evT C lt f ps ws xs=g xs
abbrev CO (c:iq):Prop:=ConOk Tryz.prog Gb c
abbrev LT:Type:=List (Nat×b8)
abbrev z0:Nat:=500000000
abbrev z1:Nat:=500000001
abbrev z2:Nat:=500000002
abbrev z3:Nat:=500000003
abbrev I6:Ty:=.int .i64
abbrev I8:Ty:=.int .u8
abbrev I3:Ty:=.int .u32
theorem fk:dD Tryz.prog Gb ⟨eA,[],false,Gl⟩:=dD.nil eA false gl_ok
theorem Ci:dD Tryz.prog Gb ⟨eA,[],true,Gl⟩:=dD.nil eA true gl_ok
def I5:iq:=⟨229,[.v an,.v I6],[.v I6],Wh.EU,Wh.Pt⟩
def C_q110:Cx:=⟨eA,[],false,Gl⟩
def Yv:LT:=[]
theorem e_q110:EV C_q110 Yv Tryz.f229 [.v an,.v I6] [.v I6] Wh.EU:=by intro xs;kernel_rfl
theorem Zj:CO I5:=con_ok (Ls:=[]) mixed (e_ _ _) fk Tryz.func229 (loopsL_nil (by kernel_rfl)) (boxesL_none (by kernel_rfl)) e_q110
theorem Xa:FK I5:=fun _ _ h=>h.cons I5 (by kernel_rfl) Wh.Pu Zj
def KD:iq:=⟨125,[.v (.lst an),.v I6],[.v I6],Wh.q87,Wh.q87'⟩
def C_q87:Cx:=⟨eA,[I5.entry],false,Gl⟩
def Na:b8:=kS ⟨[(5,.leaf I6),(1,.leaf I6),(0,.leaf (.lst an))],[]⟩ [(.ret,⟨[(4,.leaf I6)],[]⟩),((.exit 0),⟨[(1,.leaf I6)],[]⟩)] Wh.Ri Wh.D3
def T8:LT:=[(5,Na)]
theorem abT:∀x,round C_q87 T8 (jo Tryz.f125 0) Na x=Wh.D3 x:=by intro x;kernel_rfl
theorem e_q87:EV C_q87 T8 Tryz.f125 [.v (.lst an),.v I6] [.v I6] Wh.q87:=by intro xs;kernel_rfl
theorem ok_q87:CO KD:=con_ok (Ls:=[Na]) mixed (e_ _ _) (Xa _ fk) Tryz.func125 (loopsL_cons (by kernel_rfl) (loopD_ok abT) (loopsL_nil (by kernel_rfl))) (boxesL_none (by kernel_rfl)) e_q87
theorem fk_q87:FK KD:=fun _ _ h=>h.cons KD (by kernel_rfl) Wh.q87_v ok_q87
def Jo:iq:=⟨54,[.v bx,.v I6],[.v I6],Wh.E9,Wh.P3⟩
def C_q135:Cx:=⟨eA,[KD.entry],false,Gl⟩
def YM:LT:=[]
theorem e_q135:EV C_q135 YM Tryz.f54 [.v bx,.v I6] [.v I6] Wh.E9:=by intro xs;kernel_rfl
theorem ZJ:CO Jo:=con_ok (Ls:=[]) mixed (e_ _ _) (fk_q87 _ fk) Tryz.func54 (loopsL_nil (by kernel_rfl)) (boxesL_none (by kernel_rfl)) e_q135
theorem Xr:FK Jo:=fun _ _ h=>h.cons Jo (by kernel_rfl) Wh.U2 ZJ
def Kb:iq:=⟨149,[.v (.lst ct),.v I6],[.v I6],Wh.q62,Wh.q62'⟩
def C_q62:Cx:=⟨eA,[],false,Gl⟩
def lt_q62:LT:=[]
theorem e_q62:EV C_q62 lt_q62 Tryz.f149 [.v (.lst ct),.v I6] [.v I6] Wh.q62:=by intro xs;kernel_rfl
theorem ok_q62:CO Kb:=con_ok (Ls:=[]) mixed (e_ _ _) fk Tryz.func149 (loopsL_nil (by kernel_rfl)) (boxesL_none (by kernel_rfl)) e_q62
theorem fk_q62:FK Kb:=fun _ _ h=>h.cons Kb (by kernel_rfl) Wh.q62_v ok_q62
def I7:iq:=⟨55,[.v fN,.v I6],[.v I6],Wh.EW,Wh.Pv⟩
def C_q111:Cx:=⟨eA,[Kb.entry],false,Gl⟩
def Yw:LT:=[]
theorem e_q111:EV C_q111 Yw Tryz.f55 [.v fN,.v I6] [.v I6] Wh.EW:=by intro xs;kernel_rfl
theorem Zk:CO I7:=con_ok (Ls:=[]) mixed (e_ _ _) (fk_q62 _ fk) Tryz.func55 (loopsL_nil (by kernel_rfl)) (boxesL_none (by kernel_rfl)) e_q111
theorem Xb:FK I7:=fun _ _ h=>h.cons I7 (by kernel_rfl) Wh.UE Zk
def JW:iq:=⟨56,[.v (.lst fT),.v I6],[.v I6],Wh.q41,Wh.q41'⟩
def C_q41:Cx:=⟨eA,[],false,Gl⟩
def lt_q41:LT:=[]
theorem e_q41:EV C_q41 lt_q41 Tryz.f56 [.v (.lst fT),.v I6] [.v I6] Wh.q41:=by intro xs;kernel_rfl
theorem ok_q41:CO JW:=con_ok (Ls:=[]) mixed (e_ _ _) fk Tryz.func56 (loopsL_nil (by kernel_rfl)) (boxesL_none (by kernel_rfl)) e_q41
theorem fk_q41:FK JW:=fun _ _ h=>h.cons JW (by kernel_rfl) Wh.q41_v ok_q41
def Kc:iq:=⟨57,[.v (.lst gd),.v I6],[.v I6],Wh.q63,Wh.q63'⟩
def C_q63:Cx:=⟨eA,[],false,Gl⟩
def lt_q63:LT:=[]
theorem e_q63:EV C_q63 lt_q63 Tryz.f57 [.v (.lst gd),.v I6] [.v I6] Wh.q63:=by intro xs;kernel_rfl
theorem ok_q63:CO Kc:=con_ok (Ls:=[]) mixed (e_ _ _) fk Tryz.func57 (loopsL_nil (by kernel_rfl)) (boxesL_none (by kernel_rfl)) e_q63
theorem fk_q63:FK Kc:=fun _ _ h=>h.cons Kc (by kernel_rfl) Wh.q63_v ok_q63
def Kd:iq:=⟨14,[.v cx,.v I6],[.v I6],Wh.q64,Wh.q64'⟩
def C_q64:Cx:=⟨eA,[Kc.entry,JW.entry,I7.entry,Jo.entry],false,Gl⟩
def lt_q64:LT:=[]
theorem e_q64:EV C_q64 lt_q64 Tryz.f14 [.v cx,.v I6] [.v I6] Wh.q64:=by intro xs;kernel_rfl
theorem ok_q64:CO Kd:=con_ok (Ls:=[]) mixed (e_ _ _) (fk_q63 _ (fk_q41 _ (Xb _ (Xr _ fk)))) Tryz.func14 (loopsL_nil (by kernel_rfl)) (boxesL_none (by kernel_rfl)) e_q64
theorem fk_q64:FK Kd:=fun _ _ h=>h.cons Kd (by kernel_rfl) Wh.q64_v ok_q64
def I9:iq:=⟨232,[.v an],[.v an],Wh.Gj,Wh.Pw⟩
def C_q112:Cx:=⟨eA,[],false,Gl⟩
def Yx:LT:=[]
theorem e_q112:EV C_q112 Yx Tryz.f232 [.v an] [.v an] Wh.Gj:=by intro xs;kernel_rfl
theorem Zl:CO I9:=con_ok (Ls:=[]) mixed (e_ _ _) fk Tryz.func232 (loopsL_nil (by kernel_rfl)) (boxesL_none (by kernel_rfl)) e_q112
theorem Xc:FK I9:=fun _ _ h=>h.cons I9 (by kernel_rfl) Wh.UF Zl
def KF:iq:=⟨129,[.v (.lst an)],[.v (.own an)],Wh.q89,Wh.q89'⟩
def C_q89:Cx:=⟨eA,[I9.entry],false,Gl⟩
def Nd:b8:=kS ⟨[(4,.leaf I6),(0,.leaf (.lst an)),(3,.whole z0 an)],[(z0,false,.rows an)]⟩ [((.exit 0),⟨[(3,.whole z0 an)],[(z0,false,.rows an)]⟩)] Wh.VX Wh.D4
def T9:LT:=[(3,Nd)]
theorem abW:∀x,round C_q89 T9 (jo Tryz.f129 0) Nd x=Wh.D4 x:=by intro x;kernel_rfl
theorem e_q89:EV C_q89 T9 Tryz.f129 [.v (.lst an)] [.v (.own an)] Wh.q89:=by intro xs;kernel_rfl
theorem ok_q89:CO KF:=con_ok (Ls:=[Nd]) mixed (e_ _ _) (Xc _ fk) Tryz.func129 (loopsL_cons (by kernel_rfl) (loopD_ok abW) (loopsL_nil (by kernel_rfl))) (boxesL_none (by kernel_rfl)) e_q89
theorem fk_q89:FK KF:=fun _ _ h=>h.cons KF (by kernel_rfl) Wh.q89_v ok_q89
def Jp:iq:=⟨69,[.v bx],[.v (.pair I6 (.pair (.own an) .unit))],Wh.E_,Wh.P4⟩
def C_q136:Cx:=⟨eA,[KF.entry],false,Gl⟩
def YN:LT:=[]
theorem e_q136:EV C_q136 YN Tryz.f69 [.v bx] [.v (.pair I6 (.pair (.own an) .unit))] Wh.E_:=by intro xs;kernel_rfl
theorem ZK:CO Jp:=con_ok (Ls:=[]) mixed (e_ _ _) (fk_q89 _ fk) Tryz.func69 (loopsL_nil (by kernel_rfl)) (boxesL_none (by kernel_rfl)) e_q136
theorem Xs:FK Jp:=fun _ _ h=>h.cons Jp (by kernel_rfl) Wh.U3 ZK
def KE:iq:=⟨259,[.v ct],[.v ct],Wh.q88,Wh.q88'⟩
def C_q88:Cx:=⟨eA,[],false,Gl⟩
def lt_q88:LT:=[]
theorem e_q88:EV C_q88 lt_q88 Tryz.f259 [.v ct] [.v ct] Wh.q88:=by intro xs;kernel_rfl
theorem ok_q88:CO KE:=con_ok (Ls:=[]) mixed (e_ _ _) fk Tryz.func259 (loopsL_nil (by kernel_rfl)) (boxesL_none (by kernel_rfl)) e_q88
theorem fk_q88:FK KE:=fun _ _ h=>h.cons KE (by kernel_rfl) Wh.q88_v ok_q88
def Kf:iq:=⟨153,[.v (.lst ct)],[.v (.own ct)],Wh.q66,Wh.q66'⟩
def C_q66:Cx:=⟨eA,[KE.entry],false,Gl⟩
def Nc:b8:=kS ⟨[(4,.leaf I6),(0,.leaf (.lst ct)),(3,.whole z0 ct)],[(z0,false,.rows ct)]⟩ [((.exit 0),⟨[(3,.whole z0 ct)],[(z0,false,.rows ct)]⟩)] Wh.VN Wh.DX
def T0:LT:=[(3,Nc)]
theorem abV:∀x,round C_q66 T0 (jo Tryz.f153 0) Nc x=Wh.DX x:=by intro x;kernel_rfl
theorem e_q66:EV C_q66 T0 Tryz.f153 [.v (.lst ct)] [.v (.own ct)] Wh.q66:=by intro xs;kernel_rfl
theorem ok_q66:CO Kf:=con_ok (Ls:=[Nc]) mixed (e_ _ _) (fk_q88 _ fk) Tryz.func153 (loopsL_cons (by kernel_rfl) (loopD_ok abV) (loopsL_nil (by kernel_rfl))) (boxesL_none (by kernel_rfl)) e_q66
theorem fk_q66:FK Kf:=fun _ _ h=>h.cons Kf (by kernel_rfl) Wh.q66_v ok_q66
def I_:iq:=⟨70,[.v fN],[.v (.pair (.own ct) (.pair I6 .unit))],Wh.EX,Wh.Px⟩
def C_q113:Cx:=⟨eA,[Kf.entry],false,Gl⟩
def Yy:LT:=[]
theorem e_q113:EV C_q113 Yy Tryz.f70 [.v fN] [.v (.pair (.own ct) (.pair I6 .unit))] Wh.EX:=by intro xs;kernel_rfl
theorem Zm:CO I_:=con_ok (Ls:=[]) mixed (e_ _ _) (fk_q66 _ fk) Tryz.func70 (loopsL_nil (by kernel_rfl)) (boxesL_none (by kernel_rfl)) e_q113
theorem Xd:FK I_:=fun _ _ h=>h.cons I_ (by kernel_rfl) Wh.UG Zm
def Ke:iq:=⟨154,[.v fT],[.v fT],Wh.q65,Wh.q65'⟩
def C_q65:Cx:=⟨eA,[],false,Gl⟩
def lt_q65:LT:=[]
theorem e_q65:EV C_q65 lt_q65 Tryz.f154 [.v fT] [.v fT] Wh.q65:=by intro xs;kernel_rfl
theorem ok_q65:CO Ke:=con_ok (Ls:=[]) mixed (e_ _ _) fk Tryz.func154 (loopsL_nil (by kernel_rfl)) (boxesL_none (by kernel_rfl)) e_q65
theorem fk_q65:FK Ke:=fun _ _ h=>h.cons Ke (by kernel_rfl) Wh.q65_v ok_q65
def JX:iq:=⟨71,[.v (.lst fT)],[.v (.own fT)],Wh.q42,Wh.q42'⟩
def C_q42:Cx:=⟨eA,[Ke.entry],false,Gl⟩
def Nb:b8:=kS ⟨[(4,.leaf I6),(0,.leaf (.lst fT)),(3,.whole z0 fT)],[(z0,false,.rows fT)]⟩ [((.exit 0),⟨[(3,.whole z0 fT)],[(z0,false,.rows fT)]⟩)] Wh.Vx Wh.DP
def TT:LT:=[(3,Nb)]
theorem abU:∀x,round C_q42 TT (jo Tryz.f71 0) Nb x=Wh.DP x:=by intro x;kernel_rfl
theorem e_q42:EV C_q42 TT Tryz.f71 [.v (.lst fT)] [.v (.own fT)] Wh.q42:=by intro xs;kernel_rfl
theorem ok_q42:CO JX:=con_ok (Ls:=[Nb]) mixed (e_ _ _) (fk_q65 _ fk) Tryz.func71 (loopsL_cons (by kernel_rfl) (loopD_ok abU) (loopsL_nil (by kernel_rfl))) (boxesL_none (by kernel_rfl)) e_q42
theorem fk_q42:FK JX:=fun _ _ h=>h.cons JX (by kernel_rfl) Wh.q42_v ok_q42
def KH:iq:=⟨155,[.v gd],[.v gd],Wh.q90,Wh.q90'⟩
def C_q90:Cx:=⟨eA,[],false,Gl⟩
def lt_q90:LT:=[]
theorem e_q90:EV C_q90 lt_q90 Tryz.f155 [.v gd] [.v gd] Wh.q90:=by intro xs;kernel_rfl
theorem ok_q90:CO KH:=con_ok (Ls:=[]) mixed (e_ _ _) fk Tryz.func155 (loopsL_nil (by kernel_rfl)) (boxesL_none (by kernel_rfl)) e_q90
theorem fk_q90:FK KH:=fun _ _ h=>h.cons KH (by kernel_rfl) Wh.q90_v ok_q90
def Kg:iq:=⟨72,[.v (.lst gd)],[.v (.own gd)],Wh.q67,Wh.q67'⟩
def C_q67:Cx:=⟨eA,[KH.entry],false,Gl⟩
def Nf:b8:=kS ⟨[(4,.leaf I6),(0,.leaf (.lst gd)),(3,.whole z0 gd)],[(z0,false,.rows gd)]⟩ [((.exit 0),⟨[(3,.whole z0 gd)],[(z0,false,.rows gd)]⟩)] Wh.VO Wh.DY
def T3:LT:=[(3,Nf)]
theorem abX:∀x,round C_q67 T3 (jo Tryz.f72 0) Nf x=Wh.DY x:=by intro x;kernel_rfl
theorem e_q67:EV C_q67 T3 Tryz.f72 [.v (.lst gd)] [.v (.own gd)] Wh.q67:=by intro xs;kernel_rfl
theorem ok_q67:CO Kg:=con_ok (Ls:=[Nf]) mixed (e_ _ _) (fk_q90 _ fk) Tryz.func72 (loopsL_cons (by kernel_rfl) (loopD_ok abX) (loopsL_nil (by kernel_rfl))) (boxesL_none (by kernel_rfl)) e_q67
theorem fk_q67:FK Kg:=fun _ _ h=>h.cons Kg (by kernel_rfl) Wh.q67_v ok_q67
def Kh:iq:=⟨16,[.v cx],[.v (.pair .bool (.pair I6 (.pair .str (.pair (.pair I6 (.pair (.own an) .unit)) (.pair (.pair (.own ct) (.pair I6 .unit)) (.pair (.own fT) (.pair (.own gd) .unit)))))))],Wh.BX,Wh.q68'⟩
def C_q68:Cx:=⟨eA,[Kg.entry,JX.entry,I_.entry,Jp.entry],false,Gl⟩
def lt_q68:LT:=[]
theorem e_q68:EV C_q68 lt_q68 Tryz.f16 [.v cx] [.v (.pair .bool (.pair I6 (.pair .str (.pair (.pair I6 (.pair (.own an) .unit)) (.pair (.pair (.own ct) (.pair I6 .unit)) (.pair (.own fT) (.pair (.own gd) .unit)))))))] Wh.BX:=by intro xs;kernel_rfl
theorem ok_q68:CO Kh:=con_ok (Ls:=[]) mixed (e_ _ _) (fk_q67 _ (fk_q42 _ (Xd _ (Xs _ fk)))) Tryz.func16 (loopsL_nil (by kernel_rfl)) (boxesL_none (by kernel_rfl)) e_q68
theorem fk_q68:FK Kh:=fun _ _ h=>h.cons Kh (by kernel_rfl) Wh.q68_v ok_q68
def Ai:iq:=⟨58,[.v I6,.v I6,.v I6],[.v .bool],Wh.xY,Wh.yl⟩
def C_q148:Cx:=⟨eA,[],false,Gl⟩
def YR:LT:=[]
theorem e_q148:EV C_q148 YR Tryz.f58 [.v I6,.v I6,.v I6] [.v .bool] Wh.xY:=by intro xs;kernel_rfl
theorem ZW:CO Ai:=con_ok (Ls:=[]) mixed (e_ _ _) fk Tryz.func58 (loopsL_nil (by kernel_rfl)) (boxesL_none (by kernel_rfl)) e_q148
theorem Bb:FK Ai:=fun _ _ h=>h.cons Ai (by kernel_rfl) Wh.zg ZW
def GO:iq:=⟨178,[.v .str,.v I6,.v I8],[.v I6],Wh.y_,Wh.HI⟩
def RN:Cx:=⟨eA,[],false,Gl⟩
def NP:b8:=kS ⟨[(7,.leaf I6),(2,.leaf I8),(0,.leaf .str)],[]⟩ [(.ret,⟨[(6,.leaf I6)],[]⟩),((.exit 0),⟨[],[]⟩)] Wh.UR Wh.BO
def Tr:LT:=[(2,NP)]
theorem acA:∀x,round RN Tr (jo Tryz.f178 0) NP x=Wh.BO x:=by intro x;kernel_rfl
theorem e_q122:EV RN Tr Tryz.f178 [.v .str,.v I6,.v I8] [.v I6] Wh.y_:=by intro xs;kernel_rfl
theorem Zw:CO GO:=con_ok (Ls:=[NP]) mixed (e_ _ _) fk Tryz.func178 (loopsL_cons (by kernel_rfl) (loopD_ok acA) (loopsL_nil (by kernel_rfl))) (boxesL_none (by kernel_rfl)) e_q122
theorem Sl:FK GO:=fun _ _ h=>h.cons GO (by kernel_rfl) Wh.BP Zw
def GW:iq:=⟨180,[.v .str],[.v I6],Wh.AJ,Wh.HP⟩
def RX:Cx:=⟨eA,[Ai.entry],false,Gl⟩
def NO:b8:=kS ⟨[(4,.leaf I6),(0,.leaf .str),(3,.leaf I6)],[]⟩ [(.ret,⟨[(2,.leaf I6)],[]⟩),((.exit 0),⟨[(3,.leaf I6)],[]⟩)] Wh.Ve Wh.DE
def TC:LT:=[(5,NO)]
theorem acz:∀x,round RX TC (jo Tryz.f180 0) NO x=Wh.DE x:=by intro x;kernel_rfl
theorem e_q146:EV RX TC Tryz.f180 [.v .str] [.v I6] Wh.AJ:=by intro xs;kernel_rfl
theorem ZU:CO GW:=con_ok (Ls:=[NO]) mixed (e_ _ _) (Bb _ fk) Tryz.func180 (loopsL_cons (by kernel_rfl) (loopD_ok acz) (loopsL_nil (by kernel_rfl))) (boxesL_none (by kernel_rfl)) e_q146
theorem Ss:FK GW:=fun _ _ h=>h.cons GW (by kernel_rfl) Wh.Fg ZU
def GV:iq:=⟨189,[.v I6],[.v .str],Wh.BR,Wh.Bj⟩
def GI (g:((Int))→Option (((List UInt8))×(Unit))) (g':((Int))→((List UInt8))×(Unit)):iq:=⟨189,[.v I6],[.v .str],g,g'⟩
def C_q142 (g:((Int))→Option (((List UInt8))×(Unit))) (g':((Int))→((List UInt8))×(Unit)):Cx:=⟨eA,[(GI g g').entry],false,Gl⟩
def YQ:LT:=[]
theorem e_q142 (g:((Int))→Option (((List UInt8))×(Unit))) (g':((Int))→((List UInt8))×(Unit)):∀xs,evT (C_q142 g g') YQ Tryz.f189 [.v I6] [.v .str] xs=Wh.q30 g g' xs:=by intro xs;kernel_rfl
theorem s_q142 (g:((Int))→Option (((List UInt8))×(Unit))) (g':((Int))→((List UInt8))×(Unit)) (hv:∀x y,g x=some y→g' x=y) (h:CO (GI g g')):CO (GI (Wh.q30 g g') (fun x=>match Wh.q30 g g' x with | some y=>y|none=>default)):=con_ok (Ls:=[]) mixed (e_ _ _) (dD.cons fk (GI g g') (by kernel_rfl) hv h) Tryz.func189 (loopsL_nil (by kernel_rfl)) (boxesL_none (by kernel_rfl)) (e_q142 g g')
theorem n_q142 (n:Nat):CO (GI (Wh.AM n) (fun x=>match Wh.AM n x with | some y=>y|none=>default)):=by
 induction n with
 |zero=>intro xs y h;exact absurd (show none=some y from h) (by simp)
 |succ n ih=>
  rw[Wh.Qd n]
  exact s_q142 _ _ (fun x y h=>by simp only[h]) ih
theorem ZQ:CO GV:=n_q142 20
theorem Sr:FK GV:=fun _ _ h=>h.cons GV (by kernel_rfl) Wh.LO ZQ
def Kn:iq:=⟨423,[.v .str],[.v (.own I8)],Wh.q73,Wh.q73'⟩
def My:Cx:=⟨eA,[],false,Gl⟩
def NG:b8:=kS ⟨[(3,.whole z0 I8),(0,.leaf .str)],[(z0,false,.rows I8)]⟩ [((.exit 0),⟨[(3,.whole z0 I8),(0,.leaf .str)],[(z0,false,.rows I8)]⟩)] Wh.VR Wh.DZ
def NH:b8:=kS ⟨[(5,.leaf I6),(4,.leaf I6),(3,.whole z0 I8)],[(z0,false,.rows I8)]⟩ [((.exit 2),⟨[(3,.whole z0 I8)],[(z0,false,.rows I8)]⟩)] Wh.VS Wh.Fs
def OW:LT:=[(2,NG),(6,NH)]
theorem acp:∀x,round My OW (jo Tryz.f423 0) NG x=Wh.DZ x:=by intro x;kernel_rfl
theorem acq:∀x,round My OW (jo Tryz.f423 1) NH x=Wh.Fs x:=by intro x;kernel_rfl
theorem e_q73:EV My OW Tryz.f423 [.v .str] [.v (.own I8)] Wh.q73:=by intro xs;kernel_rfl
theorem ok_q73:CO Kn:=con_ok (Ls:=[NG,NH]) mixed (e_ _ _) fk Tryz.func423 (loopsL_cons (by kernel_rfl) (loopD_ok acp) (loopsL_cons (by kernel_rfl) (loopD_ok acq) (loopsL_nil (by kernel_rfl)))) (boxesL_none (by kernel_rfl)) e_q73
theorem fk_q73:FK Kn:=fun _ _ h=>h.cons Kn (by kernel_rfl) Wh.q73_v ok_q73
def GN:iq:=⟨449,[.v I3,.v I6],[.v I3],Wh.ye,Wh.zw⟩
def C_q120:Cx:=⟨eA,[],false,Gl⟩
def YD:LT:=[]
theorem e_q120:EV C_q120 YD Tryz.f449 [.v I3,.v I6] [.v I3] Wh.ye:=by intro xs;kernel_rfl
theorem Zu:CO GN:=con_ok (Ls:=[]) mixed (e_ _ _) fk Tryz.func449 (loopsL_nil (by kernel_rfl)) (boxesL_none (by kernel_rfl)) e_q120
theorem Sk:FK GN:=fun _ _ h=>h.cons GN (by kernel_rfl) Wh.q120_v Zu
def IV:iq:=⟨447,[.v (.lst I8)],[.v (.own I3)],Wh.EN,Wh.Pb⟩
def Mt:Cx:=⟨eA,[GN.entry],false,Gl⟩
def NK:b8:=kS ⟨[(4,.leaf I6),(0,.leaf (.lst I8)),(3,.whole z0 I3)],[(z0,false,.rows I3)]⟩ [((.exit 0),⟨[(3,.whole z0 I3)],[(z0,false,.rows I3)]⟩)] Wh.Us Wh.EO
def NL:b8:=kS ⟨[(5,.leaf I6),(3,.whole z0 I3)],[(z0,false,.rows I3)]⟩ [((.exit 2),⟨[(3,.whole z0 I3)],[(z0,false,.rows I3)]⟩)] Wh.Ut Wh.EP
def OQ:LT:=[(3,NK),(7,NL)]
theorem acu:∀x,round Mt OQ (jo Tryz.f447 0) NK x=Wh.EO x:=by intro x;kernel_rfl
theorem acv:∀x,round Mt OQ (jo Tryz.f447 1) NL x=Wh.EP x:=by intro x;kernel_rfl
theorem e_q100:EV Mt OQ Tryz.f447 [.v (.lst I8)] [.v (.own I3)] Wh.EN:=by intro xs;kernel_rfl
theorem Y_:CO IV:=con_ok (Ls:=[NK,NL]) mixed (e_ _ _) (Sk _ fk) Tryz.func447 (loopsL_cons (by kernel_rfl) (loopD_ok acu) (loopsL_cons (by kernel_rfl) (loopD_ok acv) (loopsL_nil (by kernel_rfl)))) (boxesL_none (by kernel_rfl)) e_q100
theorem W5:FK IV:=fun _ _ h=>h.cons IV (by kernel_rfl) Wh.Uu Y_
def Km:iq:=⟨448,[],[.v (.own I3)],Wh.q72,Wh.q72'⟩
def C_q72:Cx:=⟨eA,[],false,Gl⟩
def lt_q72:LT:=[]
theorem e_q72:EV C_q72 lt_q72 Tryz.f448 [] [.v (.own I3)] Wh.q72:=by intro xs;kernel_rfl
theorem ok_q72:CO Km:=con_ok (Ls:=[]) mixed (e_ _ _) fk Tryz.func448 (loopsL_nil (by kernel_rfl)) (boxesL_none (by kernel_rfl)) e_q72
theorem fk_q72:FK Km:=fun _ _ h=>h.cons Km (by kernel_rfl) Wh.q72_v ok_q72
def KO:iq:=⟨424,[.v (.lst I3),.v (.lst I8)],[.v (.own I3)],Wh.q98,Wh.q98'⟩
def IP:Cx:=⟨eA,[GN.entry,Km.entry,IV.entry],false,Gl⟩
def NB:b8:=kS ⟨[(7,.whole z0 I3),(8,.leaf I6),(5,.whole z1 I3),(6,.whole z2 I3),(0,.leaf (.lst I3))],[(z0,false,.rows I3),(z1,false,.rows I3),(z2,false,.rows I3)]⟩ [((.exit 0),⟨[(7,.whole z0 I3),(0,.leaf (.lst I3))],[(z0,false,.rows I3)]⟩)] Wh.V0 Wh.Fv
def NC:b8:=kS ⟨[(14,.leaf I6),(7,.whole z0 I3),(5,.whole z1 I3),(6,.whole z2 I3),(0,.leaf (.lst I3)),(8,.leaf I6),(13,.leaf I3),(12,.leaf I3),(11,.leaf I3)],[(z0,false,.rows I3),(z1,false,.rows I3),(z2,false,.rows I3)]⟩ [((.exit 2),⟨[(7,.whole z0 I3),(5,.whole z1 I3),(6,.whole z2 I3),(0,.leaf (.lst I3)),(8,.leaf I6),(13,.leaf I3),(12,.leaf I3),(11,.leaf I3)],[(z0,false,.rows I3),(z1,false,.rows I3),(z2,false,.rows I3)]⟩)] Wh.Rq Wh.HX
def ND:b8:=kS ⟨[(16,.leaf I6),(7,.whole z0 I3),(0,.leaf (.lst I3)),(15,.whole z1 I3)],[(z0,false,.rows I3),(z1,false,.rows I3)]⟩ [((.exit 4),⟨[(15,.whole z0 I3)],[(z0,false,.rows I3)]⟩)] Wh.V1 Wh.HY
def Lq:LT:=[(5,NB),(13,NC),(20,ND)]
theorem ack:∀x,round IP Lq (jo Tryz.f424 0) NB x=Wh.Fv x:=by intro x;kernel_rfl
theorem acm:∀x,round IP Lq (jo Tryz.f424 1) NC x=Wh.HX x:=by intro x;kernel_rfl
theorem acn:∀x,round IP Lq (jo Tryz.f424 2) ND x=Wh.HY x:=by intro x;kernel_rfl
theorem e_q98:EV IP Lq Tryz.f424 [.v (.lst I3),.v (.lst I8)] [.v (.own I3)] Wh.q98:=by intro xs;kernel_rfl
theorem ok_q98:CO KO:=con_ok (Ls:=[NB,NC,ND]) mixed (e_ _ _) (Sk _ (fk_q72 _ (W5 _ fk))) Tryz.func424 (loopsL_cons (by kernel_rfl) (loopD_ok ack) (loopsL_cons (by kernel_rfl) (loopD_ok acm) (loopsL_cons (by kernel_rfl) (loopD_ok acn) (loopsL_nil (by kernel_rfl))))) (boxesL_none (by kernel_rfl)) e_q98
theorem fk_q98:FK KO:=fun _ _ h=>h.cons KO (by kernel_rfl) Wh.q98_v ok_q98
def Jv:iq:=⟨375,[.v .str],[.v .str],Wh.Ff,Wh.Qg⟩
def Mv:Cx:=⟨eA,[KO.entry,Kn.entry],false,Gl⟩
def NI:b8:=kS ⟨[(5,.leaf I6),(4,.whole z0 I8),(3,.whole z1 I3)],[(z0,false,.rows I8),(z1,false,.rows I3)]⟩ [((.exit 0),⟨[(3,.whole z0 I3)],[(z0,false,.rows I3)]⟩)] Wh.Va Wh.DC
def NJ:b8:=kS ⟨[(7,.leaf I6),(3,.whole z0 I3),(6,.whole z1 I8)],[(z0,false,.rows I3),(z1,false,.rows I8)]⟩ [((.exit 2),⟨[(6,.whole z0 I8)],[(z0,false,.rows I8)]⟩)] Wh.Vb Wh.HN
def OS:LT:=[(4,NI),(9,NJ)]
theorem acr:∀x,round Mv OS (jo Tryz.f375 0) NI x=Wh.DC x:=by intro x;kernel_rfl
theorem acs:∀x,round Mv OS (jo Tryz.f375 1) NJ x=Wh.HN x:=by intro x;kernel_rfl
theorem e_q144:EV Mv OS Tryz.f375 [.v .str] [.v .str] Wh.Ff:=by intro xs;kernel_rfl
theorem ZS:CO Jv:=con_ok (Ls:=[NI,NJ]) mixed (e_ _ _) (fk_q98 _ (fk_q73 _ fk)) Tryz.func375 (loopsL_cons (by kernel_rfl) (loopD_ok acr) (loopsL_cons (by kernel_rfl) (loopD_ok acs) (loopsL_nil (by kernel_rfl)))) (boxesL_none (by kernel_rfl)) e_q144
theorem Xx:FK Jv:=fun _ _ h=>h.cons Jv (by kernel_rfl) Wh.Vc ZS
def Ju:iq:=⟨374,[.v .str],[.v .str],Wh.DA,Wh.LP⟩
def RU:Cx:=⟨eA,[],false,Gl⟩
def NF:b8:=kS ⟨[(4,.leaf I6),(0,.leaf .str),(3,.whole z0 I8)],[(z0,false,.rows I8)]⟩ [((.exit 0),⟨[(3,.whole z0 I8)],[(z0,false,.rows I8)]⟩)] Wh.U_ Wh.DB
def Tz:LT:=[(3,NF)]
theorem aco:∀x,round RU Tz (jo Tryz.f374 0) NF x=Wh.DB x:=by intro x;kernel_rfl
theorem e_q143:EV RU Tz Tryz.f374 [.v .str] [.v .str] Wh.DA:=by intro xs;kernel_rfl
theorem ZR:CO Ju:=con_ok (Ls:=[NF]) mixed (e_ _ _) fk Tryz.func374 (loopsL_cons (by kernel_rfl) (loopD_ok aco) (loopsL_nil (by kernel_rfl))) (boxesL_none (by kernel_rfl)) e_q143
theorem Xw:FK Ju:=fun _ _ h=>h.cons Ju (by kernel_rfl) Wh.Qf ZR
def KJ:iq:=⟨328,[.v .str],[.v .str],Wh.q92,Wh.D5⟩
def C_q92:Cx:=⟨eA,[Ju.entry,Jv.entry],false,Gl⟩
def lt_q92:LT:=[]
theorem e_q92:EV C_q92 lt_q92 Tryz.f328 [.v .str] [.v .str] Wh.q92:=by intro xs;kernel_rfl
theorem ok_q92:CO KJ:=con_ok (Ls:=[]) mixed (e_ _ _) (Xw _ (Xx _ fk)) Tryz.func328 (loopsL_nil (by kernel_rfl)) (boxesL_none (by kernel_rfl)) e_q92
theorem fk_q92:FK KJ:=fun _ _ h=>h.cons KJ (by kernel_rfl) Wh.q92_v ok_q92
def GP:iq:=⟨258,[.v I6,.v .str],[.v .str],Wh.Dt,Wh.HJ⟩
def C_q123:Cx:=⟨eA,[KJ.entry,GV.entry],false,Gl⟩
def YE:LT:=[]
theorem e_q123:EV C_q123 YE Tryz.f258 [.v I6,.v .str] [.v .str] Wh.Dt:=by intro xs;kernel_rfl
theorem Zx:CO GP:=con_ok (Ls:=[]) mixed (e_ _ _) (fk_q92 _ (Sr _ fk)) Tryz.func258 (loopsL_nil (by kernel_rfl)) (boxesL_none (by kernel_rfl)) e_q123
theorem Sm:FK GP:=fun _ _ h=>h.cons GP (by kernel_rfl) Wh.LD Zx
def Ji:iq:=⟨150,[.v .str,.v I6,.v I6],[.v .str,.v I6],Wh.Cu,Wh.PO⟩
def C_q124:Cx:=⟨eA,[GP.entry,Ai.entry,GW.entry,GO.entry],false,Gl⟩
def YF:LT:=[]
theorem e_q124:EV C_q124 YF Tryz.f150 [.v .str,.v I6,.v I6] [.v .str,.v I6] Wh.Cu:=by intro xs;kernel_rfl
theorem Zy:CO Ji:=con_ok (Ls:=[]) mixed (e_ _ _) (Sm _ (Bb _ (Ss _ (Sl _ fk)))) Tryz.func150 (loopsL_nil (by kernel_rfl)) (boxesL_none (by kernel_rfl)) e_q124
theorem Xl:FK Ji:=fun _ _ h=>h.cons Ji (by kernel_rfl) Wh.PR Zy
def Eh:iq:=⟨60,[.v .str],[.v (.own .str),.v I6],Wh.Bh,Wh.Gk⟩
def RO:Cx:=⟨eA,[Ji.entry],false,Gl⟩
def NQ:b8:=kS ⟨[(5,.leaf I6),(4,.whole z0 .str),(0,.leaf .str)],[(z0,false,.rows .str)]⟩ [(.ret,⟨[(2,.whole z0 .str),(3,.leaf I6)],[(z0,false,.rows .str)]⟩)] Wh.US Wh.Du
def Ts:LT:=[(3,NQ)]
theorem acB:∀x,round RO Ts (jo Tryz.f60 0) NQ x=Wh.Du x:=by intro x;kernel_rfl
theorem e_q125:EV RO Ts Tryz.f60 [.v .str] [.v (.own .str),.v I6] Wh.Bh:=by intro xs;kernel_rfl
theorem Zz:CO Eh:=con_ok (Ls:=[NQ]) mixed (e_ _ _) (Xl _ fk) Tryz.func60 (loopsL_cons (by kernel_rfl) (loopD_ok acB) (loopsL_nil (by kernel_rfl))) (boxesL_none (by kernel_rfl)) e_q125
theorem K5:FK Eh:=fun _ _ h=>h.cons Eh (by kernel_rfl) Wh.HK Zz
def Jh:iq:=⟨179,[.v .str,.v I8],[.v (.own .str)],Wh.Cs,Wh.PK⟩
def RM:Cx:=⟨eA,[],false,Gl⟩
def NM:b8:=kS ⟨[(7,.leaf I6),(6,.leaf I6),(0,.leaf .str),(5,.whole z0 .str),(1,.leaf I8)],[(z0,false,.rows .str)]⟩ [((.exit 0),⟨[(6,.leaf I6),(0,.leaf .str),(5,.whole z0 .str)],[(z0,false,.rows .str)]⟩)] Wh.UQ Wh.zE
def Tq:LT:=[(4,NM)]
theorem acw:∀x,round RM Tq (jo Tryz.f179 0) NM x=Wh.zE x:=by intro x;kernel_rfl
theorem e_q121:EV RM Tq Tryz.f179 [.v .str,.v I8] [.v (.own .str)] Wh.Cs:=by intro xs;kernel_rfl
theorem Zv:CO Jh:=con_ok (Ls:=[NM]) mixed (e_ _ _) fk Tryz.func179 (loopsL_cons (by kernel_rfl) (loopD_ok acw) (loopsL_nil (by kernel_rfl))) (boxesL_none (by kernel_rfl)) e_q121
theorem Xk:FK Jh:=fun _ _ h=>h.cons Jh (by kernel_rfl) Wh.PM Zv
def Jd:iq:=⟨200,[.v .str],[.v .bool],Wh.EZ,Wh.PB⟩
def RL:Cx:=⟨eA,[Ai.entry],false,Gl⟩
def Nr:b8:=kS ⟨[(3,.leaf I6),(0,.leaf .str)],[]⟩ [(.ret,⟨[(2,.leaf .bool)],[]⟩),((.exit 0),⟨[(0,.leaf .str)],[]⟩)] Wh.UJ Wh.Cr
def Tp:LT:=[(2,Nr)]
theorem ab8:∀x,round RL Tp (jo Tryz.f200 0) Nr x=Wh.Cr x:=by intro x;kernel_rfl
theorem e_q117:EV RL Tp Tryz.f200 [.v .str] [.v .bool] Wh.EZ:=by intro xs;kernel_rfl
theorem Zq:CO Jd:=con_ok (Ls:=[Nr]) mixed (e_ _ _) (Bb _ fk) Tryz.func200 (loopsL_cons (by kernel_rfl) (loopD_ok ab8) (loopsL_nil (by kernel_rfl))) (boxesL_none (by kernel_rfl)) e_q117
theorem Xh:FK Jd:=fun _ _ h=>h.cons Jd (by kernel_rfl) Wh.UK Zq
def FR:iq:=⟨185,[.v an],[.v .bool],Wh.BT,Wh.Gq⟩
def C_q150:Cx:=⟨eA,[Jd.entry,Ai.entry],false,Gl⟩
def YS:LT:=[]
theorem e_q150:EV C_q150 YS Tryz.f185 [.v an] [.v .bool] Wh.BT:=by intro xs;kernel_rfl
theorem ZY:CO FR:=con_ok (Ls:=[]) mixed (e_ _ _) (Xh _ (Bb _ fk)) Tryz.func185 (loopsL_nil (by kernel_rfl)) (boxesL_none (by kernel_rfl)) e_q150
theorem Ob:FK FR:=fun _ _ h=>h.cons FR (by kernel_rfl) Wh.DF ZY
def G1:iq:=⟨103,[.v I6,.v .str,.v .str],[.v .str],Wh.CQ,Wh.LY⟩
def C_q43:Cx:=⟨eA,[GV.entry,FR.entry],false,Gl⟩
def lt_q43:LT:=[]
theorem e_q43:EV C_q43 lt_q43 Tryz.f103 [.v I6,.v .str,.v .str] [.v .str] Wh.CQ:=by intro xs;kernel_rfl
theorem ok_q43:CO G1:=con_ok (Ls:=[]) mixed (e_ _ _) (Sr _ (Ob _ fk)) Tryz.func103 (loopsL_nil (by kernel_rfl)) (boxesL_none (by kernel_rfl)) e_q43
theorem Sz:FK G1:=fun _ _ h=>h.cons G1 (by kernel_rfl) Wh.LZ ok_q43
def GR:iq:=⟨272,[.v an,.v I6,.v .str],[.v .bool],Wh.E4,Wh.LH⟩
def C_q128:Cx:=⟨eA,[],false,Gl⟩
def YI:LT:=[]
theorem e_q128:EV C_q128 YI Tryz.f272 [.v an,.v I6,.v .str] [.v .bool] Wh.E4:=by intro xs;kernel_rfl
theorem ZC:CO GR:=con_ok (Ls:=[]) mixed (e_ _ _) fk Tryz.func272 (loopsL_nil (by kernel_rfl)) (boxesL_none (by kernel_rfl)) e_q128
theorem So:FK GR:=fun _ _ h=>h.cons GR (by kernel_rfl) Wh.LI ZC
def GL:iq:=⟨187,[.v (.lst an),.v I6],[.v I6],Wh.Dn,Wh.Ly⟩
def RI:Cx:=⟨eA,[],false,Gl⟩
def NS:b8:=kS ⟨[(6,.leaf I6),(0,.leaf (.lst an)),(5,.leaf I6),(1,.leaf I6)],[]⟩ [((.exit 0),⟨[(5,.leaf I6)],[]⟩)] Wh.Uv Wh.Cm
def Tn:LT:=[(3,NS)]
theorem acD:∀x,round RI Tn (jo Tryz.f187 0) NS x=Wh.Cm x:=by intro x;kernel_rfl
theorem e_q102:EV RI Tn Tryz.f187 [.v (.lst an),.v I6] [.v I6] Wh.Dn:=by intro xs;kernel_rfl
theorem Zb:CO GL:=con_ok (Ls:=[NS]) mixed (e_ _ _) fk Tryz.func187 (loopsL_cons (by kernel_rfl) (loopD_ok acD) (loopsL_nil (by kernel_rfl))) (boxesL_none (by kernel_rfl)) e_q102
theorem Si:FK GL:=fun _ _ h=>h.cons GL (by kernel_rfl) Wh.Lz Zb
def FP:iq:=⟨184,[.v bx],[.v .bool],Wh.Cz,Wh.HM⟩
def IN:Cx:=⟨eA,[GL.entry,GR.entry,FR.entry,Ai.entry],false,Gl⟩
def No:b8:=kS ⟨[(1,.aZ z0 []),(3,.leaf I6)],[(z0,false,.var bx (.leaf bx))]⟩ [(.ret,⟨[(2,.leaf .bool)],[]⟩),((.exit 0),⟨[(1,.aZ z0 [])],[(z0,false,.var bx (.leaf bx))]⟩)] Wh.U5 Wh.CA
def Np:b8:=kS ⟨[(5,.leaf I6),(4,.aZ z0 []),(1,.aZ z1 []),(3,.leaf I6)],[(z0,false,.var an (.leaf an)),(z1,false,.var bx (.leaf bx))]⟩ [(.ret,⟨[(2,.leaf .bool)],[]⟩),((.exit 2),⟨[(1,.aZ z0 []),(3,.leaf I6)],[(z0,false,.var bx (.leaf bx))]⟩)] Wh.U6 Wh.Dx
def Nq:b8:=kS ⟨[(6,.leaf I6),(1,.aZ z0 [])],[(z0,false,.var bx (.leaf bx))]⟩ [(.ret,⟨[(2,.leaf .bool)],[]⟩),((.exit 4),⟨[],[]⟩)] Wh.U7 Wh.Fa
def Lp:LT:=[(4,No),(10,Np),(15,Nq)]
theorem ab5:∀x,round IN Lp (jo Tryz.f184 0) No x=Wh.CA x:=by intro x;kernel_rfl
theorem ab6:∀x,round IN Lp (jo Tryz.f184 1) Np x=Wh.Dx x:=by intro x;kernel_rfl
theorem ab7:∀x,round IN Lp (jo Tryz.f184 2) Nq x=Wh.Fa x:=by intro x;kernel_rfl
theorem e_q138:EV IN Lp Tryz.f184 [.v bx] [.v .bool] Wh.Cz:=by intro xs;kernel_rfl
theorem ZM:CO FP:=con_ok (Ls:=[No,Np,Nq]) mixed (e_ _ _) (Si _ (So _ (Ob _ (Bb _ fk)))) Tryz.func184 (loopsL_cons (by kernel_rfl) (loopD_ok ab5) (loopsL_cons (by kernel_rfl) (loopD_ok ab6) (loopsL_cons (by kernel_rfl) (loopD_ok ab7) (loopsL_nil (by kernel_rfl))))) (boxesL_none (by kernel_rfl)) e_q138
theorem N_:FK FP:=fun _ _ h=>h.cons FP (by kernel_rfl) Wh.Dy ZM
def FQ:iq:=⟨186,[.v bx,.v I6,.v .str],[.v I6],Wh.A2,Wh.HQ⟩
def RZ:Cx:=⟨eA,[],false,Gl⟩
def NR:b8:=kS ⟨[(7,.leaf I6),(2,.leaf .str),(3,.aZ z0 []),(1,.leaf I6)],[(z0,false,.var bx (.leaf bx))]⟩ [(.ret,⟨[(6,.leaf I6)],[]⟩),((.exit 0),⟨[],[]⟩)] Wh.Vh Wh.CE
def TE:LT:=[(2,NR)]
theorem acC:∀x,round RZ TE (jo Tryz.f186 0) NR x=Wh.CE x:=by intro x;kernel_rfl
theorem e_q149:EV RZ TE Tryz.f186 [.v bx,.v I6,.v .str] [.v I6] Wh.A2:=by intro xs;kernel_rfl
theorem ZX:CO FQ:=con_ok (Ls:=[NR]) mixed (e_ _ _) fk Tryz.func186 (loopsL_cons (by kernel_rfl) (loopD_ok acC) (loopsL_nil (by kernel_rfl))) (boxesL_none (by kernel_rfl)) e_q149
theorem Oa:FK FQ:=fun _ _ h=>h.cons FQ (by kernel_rfl) Wh.Fi ZX
def FN:iq:=⟨170,[.v bx],[.v (.pair I6 (.pair (.own an) .unit))],Wh.Bi,Wh.E3⟩
def C_q126:Cx:=⟨eA,[],false,Gl⟩
def YG:LT:=[]
theorem e_q126:EV C_q126 YG Tryz.f170 [.v bx] [.v (.pair I6 (.pair (.own an) .unit))] Wh.Bi:=by intro xs;kernel_rfl
theorem ZA:CO FN:=con_ok (Ls:=[]) mixed (e_ _ _) fk Tryz.func170 (loopsL_nil (by kernel_rfl)) (boxesL_none (by kernel_rfl)) e_q126
theorem N8:FK FN:=fun _ _ h=>h.cons FN (by kernel_rfl) Wh.Gm ZA
def Jj:iq:=⟨270,[.v bx,.v I6],[.v (.pair I6 (.pair (.own an) .unit))],Wh.E5,Wh.PV⟩
def C_q129:Cx:=⟨eA,[],false,Gl⟩
def YJ:LT:=[]
theorem e_q129:EV C_q129 YJ Tryz.f270 [.v bx,.v I6] [.v (.pair I6 (.pair (.own an) .unit))] Wh.E5:=by intro xs;kernel_rfl
theorem ZD:CO Jj:=con_ok (Ls:=[]) mixed (e_ _ _) fk Tryz.func270 (loopsL_nil (by kernel_rfl)) (boxesL_none (by kernel_rfl)) e_q129
theorem Xm:FK Jj:=fun _ _ h=>h.cons Jj (by kernel_rfl) Wh.UT ZD
def KI:iq:=⟨181,[.v bx,.v I6,.v .str],[.v (.pair I6 (.pair (.own an) .unit)),.v I6],Wh.q91,Wh.L6⟩
def C_q91:Cx:=⟨eA,[Jj.entry,FN.entry,FQ.entry,FP.entry],false,Gl⟩
def lt_q91:LT:=[]
theorem e_q91:EV C_q91 lt_q91 Tryz.f181 [.v bx,.v I6,.v .str] [.v (.pair I6 (.pair (.own an) .unit)),.v I6] Wh.q91:=by intro xs;kernel_rfl
theorem ok_q91:CO KI:=con_ok (Ls:=[]) mixed (e_ _ _) (Xm _ (N8 _ (Oa _ (N_ _ fk)))) Tryz.func181 (loopsL_nil (by kernel_rfl)) (boxesL_none (by kernel_rfl)) e_q91
theorem fk_q91:FK KI:=fun _ _ h=>h.cons KI (by kernel_rfl) Wh.q91_v ok_q91
def Jx:iq:=⟨188,[.v bx,.v an],[.v (.pair I6 (.pair (.own an) .unit))],Wh.Fh,Wh.Ql⟩
def RY:Cx:=⟨eA,[GR.entry],false,Gl⟩
def NU:b8:=kS ⟨[(5,.leaf I6),(4,.aZ z0 []),(2,.aZ z1 []),(3,.aZ z2 [])],[(z0,false,.var bx (.pair (.leaf I6) (.pair (.whole z3 an) (.leaf .unit)))),(z1,false,.var bx (.leaf bx)),(z2,false,.var an (.leaf an)),(z3,false,.rows an)]⟩ [((.exit 0),⟨[(4,.aZ z0 []),(5,.leaf I6),(2,.aZ z1 []),(3,.aZ z2 [])],[(z0,false,.var bx (.pair (.leaf I6) (.pair (.whole z3 an) (.leaf .unit)))),(z1,false,.var bx (.leaf bx)),(z2,false,.var an (.leaf an)),(z3,false,.rows an)]⟩)] Wh.Vf Wh.CD
def TD:LT:=[(2,NU)]
theorem acF:∀x,round RY TD (jo Tryz.f188 0) NU x=Wh.CD x:=by intro x;kernel_rfl
theorem e_q147:EV RY TD Tryz.f188 [.v bx,.v an] [.v (.pair I6 (.pair (.own an) .unit))] Wh.Fh:=by intro xs;kernel_rfl
theorem ZV:CO Jx:=con_ok (Ls:=[NU]) mixed (e_ _ _) (So _ fk) Tryz.func188 (loopsL_cons (by kernel_rfl) (loopD_ok acF) (loopsL_nil (by kernel_rfl))) (boxesL_none (by kernel_rfl)) e_q147
theorem Xz:FK Jx:=fun _ _ h=>h.cons Jx (by kernel_rfl) Wh.Vg ZV
def Jb:iq:=⟨101,[.v bx,.v I6,.v .str,.v .str],[.v (.pair I6 (.pair (.own an) .unit)),.v I6],Wh.Cq,Wh.LB⟩
def C_q115:Cx:=⟨eA,[Jx.entry,GL.entry,FQ.entry,FN.entry,FR.entry,FP.entry],false,Gl⟩
def YA:LT:=[]
theorem e_q115:EV C_q115 YA Tryz.f101 [.v bx,.v I6,.v .str,.v .str] [.v (.pair I6 (.pair (.own an) .unit)),.v I6] Wh.Cq:=by intro xs;kernel_rfl
theorem Zo:CO Jb:=con_ok (Ls:=[]) mixed (e_ _ _) (Xz _ (Si _ (Oa _ (N8 _ (Ob _ (N_ _ fk)))))) Tryz.func101 (loopsL_nil (by kernel_rfl)) (boxesL_none (by kernel_rfl)) e_q115
theorem Xf:FK Jb:=fun _ _ h=>h.cons Jb (by kernel_rfl) Wh.UH Zo
def GQ:iq:=⟨98,[.v bx,.v .str],[.v (.pair I6 (.pair (.own an) .unit)),.v .bool],Wh.BQ,Wh.LF⟩
def C_q127:Cx:=⟨eA,[Jb.entry,KI.entry,G1.entry,GW.entry,Jh.entry,GO.entry],false,Gl⟩
def YH:LT:=[]
theorem e_q127:EV C_q127 YH Tryz.f98 [.v bx,.v .str] [.v (.pair I6 (.pair (.own an) .unit)),.v .bool] Wh.BQ:=by intro xs;kernel_rfl
theorem ZB:CO GQ:=con_ok (Ls:=[]) mixed (e_ _ _) (Xf _ (fk_q91 _ (Sz _ (Ss _ (Xk _ (Sl _ fk)))))) Tryz.func98 (loopsL_nil (by kernel_rfl)) (boxesL_none (by kernel_rfl)) e_q127
theorem Sn:FK GQ:=fun _ _ h=>h.cons GQ (by kernel_rfl) Wh.LG ZB
def GU:iq:=⟨61,[.v (.lst .str)],[.v (.pair I6 (.pair (.own an) .unit)),.v .bool],Wh.Dw,Wh.LM⟩
def RS:Cx:=⟨eA,[GQ.entry],false,Gl⟩
def Nn:b8:=kS ⟨[(2,.aZ z0 []),(5,.leaf I6),(4,.aZ z1 []),(0,.leaf (.lst .str))],[(z0,false,.var bx (.pair (.leaf I6) (.pair (.whole z2 an) (.leaf .unit)))),(z1,false,.var bx (.pair (.leaf I6) (.pair (.whole z3 an) (.leaf .unit)))),(z2,false,.rows an),(z3,false,.rows an)]⟩ [(.ret,⟨[(2,.aZ z0 []),(3,.leaf .bool)],[(z0,false,.var bx (.pair (.leaf I6) (.pair (.whole z1 an) (.leaf .unit)))),(z1,false,.rows an)]⟩),((.exit 0),⟨[(2,.aZ z0 []),(4,.aZ z1 [])],[(z0,false,.var bx (.pair (.leaf I6) (.pair (.whole z2 an) (.leaf .unit)))),(z1,false,.var bx (.pair (.leaf I6) (.pair (.whole z3 an) (.leaf .unit)))),(z2,false,.rows an),(z3,false,.rows an)]⟩)] Wh.U4 Wh.Cy
def Tw:LT:=[(3,Nn)]
theorem ab4:∀x,round RS Tw (jo Tryz.f61 0) Nn x=Wh.Cy x:=by intro x;kernel_rfl
theorem e_q137:EV RS Tw Tryz.f61 [.v (.lst .str)] [.v (.pair I6 (.pair (.own an) .unit)),.v .bool] Wh.Dw:=by intro xs;kernel_rfl
theorem ZL:CO GU:=con_ok (Ls:=[Nn]) mixed (e_ _ _) (Sn _ fk) Tryz.func61 (loopsL_cons (by kernel_rfl) (loopD_ok ab4) (loopsL_nil (by kernel_rfl))) (boxesL_none (by kernel_rfl)) e_q137
theorem Sq:FK GU:=fun _ _ h=>h.cons GU (by kernel_rfl) Wh.P6 ZL
def KN:iq:=⟨59,[.v cx],[.v .bool],Wh.q97,Wh.q97'⟩
def C_q97:Cx:=⟨eA,[GU.entry,Eh.entry],false,Gl⟩
def lt_q97:LT:=[]
theorem e_q97:EV C_q97 lt_q97 Tryz.f59 [.v cx] [.v .bool] Wh.q97:=by intro xs;kernel_rfl
theorem ok_q97:CO KN:=con_ok (Ls:=[]) mixed (e_ _ _) (Sq _ (K5 _ fk)) Tryz.func59 (loopsL_nil (by kernel_rfl)) (boxesL_none (by kernel_rfl)) e_q97
theorem fk_q97:FK KN:=fun _ _ h=>h.cons KN (by kernel_rfl) Wh.q97_v ok_q97
def KM:iq:=⟨62,[.v bx,.v bx],[.v .bool],Wh.CY,Wh.q96'⟩
def C_q96:Cx:=⟨eA,[],false,Gl⟩
def Nz:b8:=kS ⟨[(5,.leaf I6),(3,.aZ z0 []),(2,.aZ z1 [])],[(z0,false,.var bx (.leaf bx)),(z1,false,.var bx (.leaf bx))]⟩ [(.ret,⟨[(4,.leaf .bool)],[]⟩),((.exit 0),⟨[],[]⟩)] Wh.VZ Wh.CZ
def Ua:LT:=[(4,Nz)]
theorem aci:∀x,round C_q96 Ua (jo Tryz.f62 0) Nz x=Wh.CZ x:=by intro x;kernel_rfl
theorem e_q96:EV C_q96 Ua Tryz.f62 [.v bx,.v bx] [.v .bool] Wh.CY:=by intro xs;kernel_rfl
theorem ok_q96:CO KM:=con_ok (Ls:=[Nz]) mixed (e_ _ _) fk Tryz.func62 (loopsL_cons (by kernel_rfl) (loopD_ok aci) (loopsL_nil (by kernel_rfl))) (boxesL_none (by kernel_rfl)) e_q96
theorem fk_q96:FK KM:=fun _ _ h=>h.cons KM (by kernel_rfl) Wh.q96_v ok_q96
def Jt:iq:=⟨151,[.v ct],[.v .bool],Wh.Dz,Wh.Qc⟩
def C_q141:Cx:=⟨eA,[Ai.entry],false,Gl⟩
def YP:LT:=[]
theorem e_q141:EV C_q141 YP Tryz.f151 [.v ct] [.v .bool] Wh.Dz:=by intro xs;kernel_rfl
theorem ZP:CO Jt:=con_ok (Ls:=[]) mixed (e_ _ _) (Bb _ fk) Tryz.func151 (loopsL_nil (by kernel_rfl)) (boxesL_none (by kernel_rfl)) e_q141
theorem Xv:FK Jt:=fun _ _ h=>h.cons Jt (by kernel_rfl) Wh.LN ZP
def Js:iq:=⟨152,[.v fN,.v I6],[.v I6],Wh.Fe,Wh.Qa⟩
def RT:Cx:=⟨eA,[],false,Gl⟩
def Ny:b8:=kS ⟨[(6,.leaf I6),(5,.leaf I6),(1,.leaf I6),(2,.aZ z0 [])],[(z0,false,.var fN (.leaf fN))]⟩ [((.exit 0),⟨[(5,.leaf I6)],[]⟩)] Wh.U9 Wh.CB
def Tx:LT:=[(3,Ny)]
theorem ach:∀x,round RT Tx (jo Tryz.f152 0) Ny x=Wh.CB x:=by intro x;kernel_rfl
theorem e_q140:EV RT Tx Tryz.f152 [.v fN,.v I6] [.v I6] Wh.Fe:=by intro xs;kernel_rfl
theorem ZO:CO Js:=con_ok (Ls:=[Ny]) mixed (e_ _ _) fk Tryz.func152 (loopsL_cons (by kernel_rfl) (loopD_ok ach) (loopsL_nil (by kernel_rfl))) (boxesL_none (by kernel_rfl)) e_q140
theorem Xu:FK Js:=fun _ _ h=>h.cons Js (by kernel_rfl) Wh.Gp ZO
def Je:iq:=⟨63,[.v fN],[.v .bool],Wh.Dr,Wh.PD⟩
def IM:Cx:=⟨eA,[Js.entry,Jt.entry,Ai.entry],false,Gl⟩
def Ns:b8:=kS ⟨[(1,.aZ z0 []),(3,.leaf I6)],[(z0,false,.var fN (.leaf fN))]⟩ [(.ret,⟨[(2,.leaf .bool)],[]⟩),((.exit 0),⟨[(1,.aZ z0 [])],[(z0,false,.var fN (.leaf fN))]⟩)] Wh.UL Wh.BM
def Nt:b8:=kS ⟨[(4,.leaf I6),(1,.aZ z0 []),(3,.leaf I6)],[(z0,false,.var fN (.leaf fN))]⟩ [(.ret,⟨[(2,.leaf .bool)],[]⟩),((.exit 2),⟨[(1,.aZ z0 []),(3,.leaf I6)],[(z0,false,.var fN (.leaf fN))]⟩)] Wh.UM Wh.Au
def Nu:b8:=kS ⟨[(5,.leaf I6),(1,.aZ z0 [])],[(z0,false,.var fN (.leaf fN))]⟩ [(.ret,⟨[(2,.leaf .bool)],[]⟩),((.exit 4),⟨[],[]⟩)] Wh.UN Wh.BN
def Lo:LT:=[(4,Ns),(9,Nt),(14,Nu)]
theorem ab9:∀x,round IM Lo (jo Tryz.f63 0) Ns x=Wh.BM x:=by intro x;kernel_rfl
theorem ab_:∀x,round IM Lo (jo Tryz.f63 1) Nt x=Wh.Au x:=by intro x;kernel_rfl
theorem acd:∀x,round IM Lo (jo Tryz.f63 2) Nu x=Wh.BN x:=by intro x;kernel_rfl
theorem e_q118:EV IM Lo Tryz.f63 [.v fN] [.v .bool] Wh.Dr:=by intro xs;kernel_rfl
theorem Zr:CO Je:=con_ok (Ls:=[Ns,Nt,Nu]) mixed (e_ _ _) (Xu _ (Xv _ (Bb _ fk))) Tryz.func63 (loopsL_cons (by kernel_rfl) (loopD_ok ab9) (loopsL_cons (by kernel_rfl) (loopD_ok ab_) (loopsL_cons (by kernel_rfl) (loopD_ok acd) (loopsL_nil (by kernel_rfl))))) (boxesL_none (by kernel_rfl)) e_q118
theorem Xi:FK Je:=fun _ _ h=>h.cons Je (by kernel_rfl) Wh.UO Zr
def G2:iq:=⟨65,[.v bx,.v I6],[.v an,.v .bool],Wh.q45,Wh.L0⟩
def C_q45:Cx:=⟨eA,[],false,Gl⟩
def NT:b8:=kS ⟨[(4,.aZ z0 []),(6,.leaf I6),(2,.aZ z1 []),(1,.leaf I6)],[(z0,false,.var an (.pair (.leaf I6) (.pair (.leaf .str) (.pair (.leaf I6) (.pair (.leaf .str) (.leaf .unit)))))),(z1,false,.var bx (.leaf bx))]⟩ [(.ret,⟨[(4,.aZ z0 []),(5,.leaf .bool)],[(z0,false,.var an (.leaf an))]⟩),((.exit 0),⟨[(4,.aZ z0 [])],[(z0,false,.var an (.pair (.leaf I6) (.pair (.leaf .str) (.pair (.leaf I6) (.pair (.leaf .str) (.leaf .unit))))))]⟩)] Wh.Vz Wh.CR
def TV:LT:=[(2,NT)]
theorem acE:∀x,round C_q45 TV (jo Tryz.f65 0) NT x=Wh.CR x:=by intro x;kernel_rfl
theorem e_q45:EV C_q45 TV Tryz.f65 [.v bx,.v I6] [.v an,.v .bool] Wh.q45:=by intro xs;kernel_rfl
theorem ok_q45:CO G2:=con_ok (Ls:=[NT]) mixed (e_ _ _) fk Tryz.func65 (loopsL_cons (by kernel_rfl) (loopD_ok acE) (loopsL_nil (by kernel_rfl))) (boxesL_none (by kernel_rfl)) e_q45
theorem SA:FK G2:=fun _ _ h=>h.cons G2 (by kernel_rfl) Wh.DQ ok_q45
def Kl:iq:=⟨138,[.v I6],[.v I6],Wh.q71,Wh.q71'⟩
def C_q71:Cx:=⟨eA,[],false,Gl⟩
def lt_q71:LT:=[]
theorem e_q71:EV C_q71 lt_q71 Tryz.f138 [.v I6] [.v I6] Wh.q71:=by intro xs;kernel_rfl
theorem ok_q71:CO Kl:=con_ok (Ls:=[]) mixed (e_ _ _) fk Tryz.func138 (loopsL_nil (by kernel_rfl)) (boxesL_none (by kernel_rfl)) e_q71
theorem fk_q71:FK Kl:=fun _ _ h=>h.cons Kl (by kernel_rfl) Wh.Q9 ok_q71
def JY:iq:=⟨64,[.v cx],[.v .bool],Wh.q44,Wh.q44'⟩
def C_q44:Cx:=⟨eA,[Kl.entry,G2.entry,Ai.entry],false,Gl⟩
def NA:b8:=kS ⟨[(3,.leaf I6),(1,.aZ z0 [])],[(z0,false,.var cx (.leaf cx))]⟩ [(.ret,⟨[(2,.leaf .bool)],[]⟩),((.exit 0),⟨[],[]⟩)] Wh.Vy Wh.BU
def TU:LT:=[(2,NA)]
theorem acj:∀x,round C_q44 TU (jo Tryz.f64 0) NA x=Wh.BU x:=by intro x;kernel_rfl
theorem e_q44:EV C_q44 TU Tryz.f64 [.v cx] [.v .bool] Wh.q44:=by intro xs;kernel_rfl
theorem ok_q44:CO JY:=con_ok (Ls:=[NA]) mixed (e_ _ _) (fk_q71 _ (SA _ (Bb _ fk))) Tryz.func64 (loopsL_cons (by kernel_rfl) (loopD_ok acj) (loopsL_nil (by kernel_rfl))) (boxesL_none (by kernel_rfl)) e_q44
theorem fk_q44:FK JY:=fun _ _ h=>h.cons JY (by kernel_rfl) Wh.q44_v ok_q44
def GK:iq:=⟨66,[.v yD],[.v I6],Wh.BJ,Wh.Gi⟩
def C_q101:Cx:=⟨eA,[],false,Gl⟩
def Yo:LT:=[]
theorem e_q101:EV C_q101 Yo Tryz.f66 [.v yD] [.v I6] Wh.BJ:=by intro xs;kernel_rfl
theorem Za:CO GK:=con_ok (Ls:=[]) mixed (e_ _ _) fk Tryz.func66 (loopsL_nil (by kernel_rfl)) (boxesL_none (by kernel_rfl)) e_q101
theorem Sg:FK GK:=fun _ _ h=>h.cons GK (by kernel_rfl) Wh.Cl Za
def Jw:iq:=⟨67,[.v I6],[.v (.pair I6 (.pair I6 (.pair (.own I6) (.pair (.own I6) .unit))))],Wh.DD,Wh.HO⟩
def RW:Cx:=⟨eA,[GK.entry],false,Gl⟩
def NN:b8:=kS ⟨[(3,.aZ z0 []),(2,.aZ z1 [])],[(z0,false,.var yD (.pair (.leaf I6) (.pair (.leaf I6) (.pair (.whole z2 I6) (.pair (.whole z3 I6) (.leaf .unit)))))),(z1,false,.var yD (.pair (.leaf I6) (.pair (.leaf I6) (.pair (.whole 500000004 I6) (.pair (.whole 500000005 I6) (.leaf .unit)))))),(z2,false,.rows I6),(z3,false,.rows I6),(500000004,false,.rows I6),(500000005,false,.rows I6)]⟩ [((.exit 0),⟨[(2,.aZ z0 []),(3,.aZ z1 [])],[(z0,false,.var yD (.pair (.leaf I6) (.pair (.leaf I6) (.pair (.whole z2 I6) (.pair (.whole z3 I6) (.leaf .unit)))))),(z1,false,.var yD (.pair (.leaf I6) (.pair (.leaf I6) (.pair (.whole 500000004 I6) (.pair (.whole 500000005 I6) (.leaf .unit)))))),(z2,false,.rows I6),(z3,false,.rows I6),(500000004,false,.rows I6),(500000005,false,.rows I6)]⟩)] Wh.Vd Wh.CC
def TA:LT:=[(2,NN)]
theorem acy:∀x,round RW TA (jo Tryz.f67 0) NN x=Wh.CC x:=by intro x;kernel_rfl
theorem e_q145:EV RW TA Tryz.f67 [.v I6] [.v (.pair I6 (.pair I6 (.pair (.own I6) (.pair (.own I6) .unit))))] Wh.DD:=by intro xs;kernel_rfl
theorem ZT:CO Jw:=con_ok (Ls:=[NN]) mixed (e_ _ _) (Sg _ fk) Tryz.func67 (loopsL_cons (by kernel_rfl) (loopD_ok acy) (loopsL_nil (by kernel_rfl))) (boxesL_none (by kernel_rfl)) e_q145
theorem Xy:FK Jw:=fun _ _ h=>h.cons Jw (by kernel_rfl) Wh.LQ ZT
def Ki:iq:=⟨68,[.v fT],[.v .bool],Wh.q69,Wh.q69'⟩
def C_q69:Cx:=⟨eA,[Ai.entry],false,Gl⟩
def lt_q69:LT:=[]
theorem e_q69:EV C_q69 lt_q69 Tryz.f68 [.v fT] [.v .bool] Wh.q69:=by intro xs;kernel_rfl
theorem ok_q69:CO Ki:=con_ok (Ls:=[]) mixed (e_ _ _) (Bb _ fk) Tryz.func68 (loopsL_nil (by kernel_rfl)) (boxesL_none (by kernel_rfl)) e_q69
theorem fk_q69:FK Ki:=fun _ _ h=>h.cons Ki (by kernel_rfl) Wh.q69_v ok_q69
def Kk:iq:=⟨15,[.v cx],[.v .bool],Wh.q70,Wh.q70'⟩
def Mx:Cx:=⟨eA,[Ki.entry,GK.entry,Jw.entry,G2.entry,JY.entry,Je.entry,KM.entry,GU.entry,Eh.entry,KN.entry,Ai.entry],false,Gl⟩
def Nv:b8:=kS ⟨[(7,.leaf I6),(1,.aZ z0 [])],[(z0,false,.var cx (.leaf cx))]⟩ [(.ret,⟨[(2,.leaf .bool)],[]⟩),((.exit 0),⟨[(1,.aZ z0 [])],[(z0,false,.var cx (.leaf cx))]⟩)] Wh.VP Wh.AL
def Nw:b8:=kS ⟨[(10,.leaf I6),(1,.aZ z0 [])],[(z0,false,.var cx (.leaf cx))]⟩ [(.ret,⟨[(2,.leaf .bool)],[]⟩),((.exit 2),⟨[],[]⟩)] Wh.VQ Wh.CU
def OU:LT:=[(10,Nv),(16,Nw)]
theorem ace:∀x,round Mx OU (jo Tryz.f15 0) Nv x=Wh.AL x:=by intro x;kernel_rfl
theorem acf:∀x,round Mx OU (jo Tryz.f15 1) Nw x=Wh.CU x:=by intro x;kernel_rfl
theorem e_q70:EV Mx OU Tryz.f15 [.v cx] [.v .bool] Wh.q70:=by intro xs;kernel_rfl
theorem ok_q70:CO Kk:=con_ok (Ls:=[Nv,Nw]) mixed (e_ _ _) (fk_q69 _ (Sg _ (Xy _ (SA _ (fk_q44 _ (Xi _ (fk_q96 _ (Sq _ (K5 _ (fk_q97 _ (Bb _ fk))))))))))) Tryz.func15 (loopsL_cons (by kernel_rfl) (loopD_ok ace) (loopsL_cons (by kernel_rfl) (loopD_ok acf) (loopsL_nil (by kernel_rfl)))) (boxesL_none (by kernel_rfl)) e_q70
theorem fk_q70:FK Kk:=fun _ _ h=>h.cons Kk (by kernel_rfl) Wh.L3 ok_q70
def Ax:iq:=⟨73,[.v I6,.v I6,.v I6],[.v .bool],Wh.x_,Wh.yQ⟩
def C_q107:Cx:=⟨eA,[],false,Gl⟩
def Yr:LT:=[]
theorem e_q107:EV C_q107 Yr Tryz.f73 [.v I6,.v I6,.v I6] [.v .bool] Wh.x_:=by intro xs;kernel_rfl
theorem Zg:CO Ax:=con_ok (Ls:=[]) mixed (e_ _ _) fk Tryz.func73 (loopsL_nil (by kernel_rfl)) (boxesL_none (by kernel_rfl)) e_q107
theorem Bw:FK Ax:=fun _ _ h=>h.cons Ax (by kernel_rfl) Wh.zv Zg
def IY:iq:=⟨389,[.v I3,.v I6],[.v I3],Wh.Ae,Wh.AH⟩
def C_q106:Cx:=⟨eA,[],false,Gl⟩
def Yq:LT:=[]
theorem e_q106:EV C_q106 Yq Tryz.f389 [.v I3,.v I6] [.v I3] Wh.Ae:=by intro xs;kernel_rfl
theorem Zf:CO IY:=con_ok (Ls:=[]) mixed (e_ _ _) fk Tryz.func389 (loopsL_nil (by kernel_rfl)) (boxesL_none (by kernel_rfl)) e_q106
theorem W8:FK IY:=fun _ _ h=>h.cons IY (by kernel_rfl) Wh.q106_v Zf
def J4:iq:=⟨334,[.v .str],[.v .str],Wh.q54,Wh.q54'⟩
def C9:Cx:=⟨eA,[IY.entry],false,Gl⟩
def MP:b8:=kS ⟨[(4,.whole z0 I8),(3,.aZ z1 []),(0,.leaf .str)],[(z0,false,.rows I8),(z1,false,.var (.arr 8 I3) (.leaf (.arr 8 I3)))]⟩ [((.exit 0),⟨[(4,.whole z0 I8),(3,.aZ z1 []),(0,.leaf .str)],[(z0,false,.rows I8),(z1,false,.var (.arr 8 I3) (.leaf (.arr 8 I3)))]⟩)] Wh.VD Wh.DS
def MQ:b8:=kS ⟨[(6,.leaf I6),(5,.leaf (.int .u64)),(4,.whole z0 I8),(3,.aZ z1 [])],[(z0,false,.rows I8),(z1,false,.var (.arr 8 I3) (.leaf (.arr 8 I3)))]⟩ [((.exit 2),⟨[(4,.whole z0 I8),(3,.aZ z1 [])],[(z0,false,.rows I8),(z1,false,.var (.arr 8 I3) (.leaf (.arr 8 I3)))]⟩)] Wh.VE Wh.Fl
def MR:b8:=kS ⟨[(4,.piece z0 I8),(3,.aZ z1 [])],[(z0,false,.rows I8),(z1,false,.var (.arr 8 I3) (.leaf (.arr 8 I3)))]⟩ [((.exit 4),⟨[(3,.aZ z0 [])],[(z0,false,.var (.arr 8 I3) (.leaf (.arr 8 I3)))]⟩)] Wh.VF Wh.DT
def MS:b8:=kS ⟨[(54,.leaf I6),(7,.aZ z0 []),(4,.piece z1 I8),(3,.aZ z2 [])],[(z0,false,.var (.arr 64 I3) (.leaf (.arr 64 I3))),(z1,false,.rows I8),(z2,false,.var (.arr 8 I3) (.leaf (.arr 8 I3)))]⟩ [((.exit 6),⟨[(7,.aZ z0 []),(3,.aZ z1 []),(4,.piece z2 I8)],[(z0,false,.var (.arr 64 I3) (.leaf (.arr 64 I3))),(z1,false,.var (.arr 8 I3) (.leaf (.arr 8 I3))),(z2,false,.rows I8)]⟩)] Wh.VG Wh.DU
def MT:b8:=kS ⟨[(133,.leaf I6),(11,.aZ z0 []),(7,.aZ z1 []),(3,.aZ z2 []),(4,.piece z3 I8)],[(z0,false,.var (.arr 8 I3) (.leaf (.arr 8 I3))),(z1,false,.var (.arr 64 I3) (.leaf (.arr 64 I3))),(z2,false,.var (.arr 8 I3) (.leaf (.arr 8 I3))),(z3,false,.rows I8)]⟩ [((.exit 8),⟨[(3,.aZ z0 []),(11,.aZ z1 []),(4,.piece z2 I8)],[(z0,false,.var (.arr 8 I3) (.leaf (.arr 8 I3))),(z1,false,.var (.arr 8 I3) (.leaf (.arr 8 I3))),(z2,false,.rows I8)]⟩)] Wh.VH Wh.Fm
def MU:b8:=kS ⟨[(213,.leaf I6),(3,.aZ z0 []),(11,.aZ z1 []),(4,.piece z2 I8)],[(z0,false,.var (.arr 8 I3) (.leaf (.arr 8 I3))),(z1,false,.var (.arr 8 I3) (.leaf (.arr 8 I3))),(z2,false,.rows I8)]⟩ [((.exit 10),⟨[(3,.aZ z0 []),(4,.piece z1 I8)],[(z0,false,.var (.arr 8 I3) (.leaf (.arr 8 I3))),(z1,false,.rows I8)]⟩)] Wh.VI Wh.HS
def MV:b8:=kS ⟨[(227,.leaf I6),(18,.whole z0 I8),(226,.leaf (.arr 8 I3))],[(z0,false,.rows I8)]⟩ [((.exit 12),⟨[(18,.whole z0 I8)],[(z0,false,.rows I8)]⟩)] Wh.VJ Wh.HT
def Dk:LT:=[(3,MP),(7,MQ),(10,MR),(14,MS),(23,MT),(31,MU),(37,MV)]
theorem abz:∀x,round C9 Dk (jo Tryz.f334 0) MP x=Wh.DS x:=by intro x;kernel_rfl
theorem abA:∀x,round C9 Dk (jo Tryz.f334 1) MQ x=Wh.Fl x:=by intro x;kernel_rfl
theorem abB:∀x,round C9 Dk (jo Tryz.f334 2) MR x=Wh.DT x:=by intro x;kernel_rfl
theorem abC:∀x,round C9 Dk (jo Tryz.f334 3) MS x=Wh.DU x:=by intro x;kernel_rfl
theorem abD:∀x,round C9 Dk (jo Tryz.f334 4) MT x=Wh.Fm x:=by intro x;kernel_rfl
theorem abE:∀x,round C9 Dk (jo Tryz.f334 5) MU x=Wh.HS x:=by intro x;kernel_rfl
theorem abF:∀x,round C9 Dk (jo Tryz.f334 6) MV x=Wh.HT x:=by intro x;kernel_rfl
theorem e_q54:EV C9 Dk Tryz.f334 [.v .str] [.v .str] Wh.q54:=by intro xs;kernel_rfl
theorem ok_q54:CO J4:=con_ok (Ls:=[MP,MQ,MR,MS,MT,MU,MV]) mixed (e_ _ _) (W8 _ fk) Tryz.func334 (loopsL_cons (by kernel_rfl) (loopD_ok abz) (loopsL_cons (by kernel_rfl) (loopD_ok abA) (loopsL_cons (by kernel_rfl) (loopD_ok abB) (loopsL_cons (by kernel_rfl) (loopD_ok abC) (loopsL_cons (by kernel_rfl) (loopD_ok abD) (loopsL_cons (by kernel_rfl) (loopD_ok abE) (loopsL_cons (by kernel_rfl) (loopD_ok abF) (loopsL_nil (by kernel_rfl))))))))) (boxesL_none (by kernel_rfl)) e_q54
theorem fk_q54:FK J4:=fun _ _ h=>h.cons J4 (by kernel_rfl) Wh.q54_v ok_q54
def Jm:iq:=⟨333,[.v .str],[.v .str],Wh.Gn,Wh.P0⟩
def RR:Cx:=⟨eA,[],false,Gl⟩
def MN:b8:=kS ⟨[(4,.leaf I6),(0,.leaf .str),(3,.whole z0 I8)],[(z0,false,.rows I8)]⟩ [((.exit 0),⟨[(3,.whole z0 I8)],[(z0,false,.rows I8)]⟩)] Wh.UZ Wh.LK
def Tv:LT:=[(3,MN)]
theorem abx:∀x,round RR Tv (jo Tryz.f333 0) MN x=Wh.LK x:=by intro x;kernel_rfl
theorem e_q132:EV RR Tv Tryz.f333 [.v .str] [.v .str] Wh.Gn:=by intro xs;kernel_rfl
theorem ZG:CO Jm:=con_ok (Ls:=[MN]) mixed (e_ _ _) fk Tryz.func333 (loopsL_cons (by kernel_rfl) (loopD_ok abx) (loopsL_nil (by kernel_rfl))) (boxesL_none (by kernel_rfl)) e_q132
theorem Xp:FK Jm:=fun _ _ h=>h.cons Jm (by kernel_rfl) Wh.U0 ZG
def Kp:iq:=⟨263,[.v .str],[.v .str],Wh.q75,Wh.D0⟩
def C_q75:Cx:=⟨eA,[Jm.entry,J4.entry],false,Gl⟩
def lt_q75:LT:=[]
theorem e_q75:EV C_q75 lt_q75 Tryz.f263 [.v .str] [.v .str] Wh.q75:=by intro xs;kernel_rfl
theorem ok_q75:CO Kp:=con_ok (Ls:=[]) mixed (e_ _ _) (Xp _ (fk_q54 _ fk)) Tryz.func263 (loopsL_nil (by kernel_rfl)) (boxesL_none (by kernel_rfl)) e_q75
theorem fk_q75:FK Kp:=fun _ _ h=>h.cons Kp (by kernel_rfl) Wh.q75_v ok_q75
def G6:iq:=⟨159,[.v I6,.v .str],[.v .str],Wh.q80,Wh.HW⟩
def C_q80:Cx:=⟨eA,[Kp.entry,FW.entry],false,Gl⟩
def lt_q80:LT:=[]
theorem e_q80:EV C_q80 lt_q80 Tryz.f159 [.v I6,.v .str] [.v .str] Wh.q80:=by intro xs;kernel_rfl
theorem ok_q80:CO G6:=con_ok (Ls:=[]) mixed (e_ _ _) (fk_q75 _ (Oe _ fk)) Tryz.func159 (loopsL_nil (by kernel_rfl)) (boxesL_none (by kernel_rfl)) e_q80
theorem SE:FK G6:=fun _ _ h=>h.cons G6 (by kernel_rfl) Wh.L5 ok_q80
def J_:iq:=⟨243,[.v .str,.v .str],[.v .bool],Wh.q6,Wh.q6'⟩
def C_q6:Cx:=⟨eA,[],false,Gl⟩
def lt_q6:LT:=[]
theorem e_q6:EV C_q6 lt_q6 Tryz.f243 [.v .str,.v .str] [.v .bool] Wh.q6:=by intro xs;kernel_rfl
theorem ok_q6:CO J_:=con_ok (Ls:=[]) mixed (e_ _ _) fk Tryz.func243 (loopsL_nil (by kernel_rfl)) (boxesL_none (by kernel_rfl)) e_q6
theorem fk_q6:FK J_:=fun _ _ h=>h.cons J_ (by kernel_rfl) Wh.q6_v ok_q6
def I4:iq:=⟨140,[.v .str,.v .str],[.v .bool],Wh.q11,Wh.q11'⟩
def C_q11:Cx:=⟨eA,[J_.entry],false,Gl⟩
def lt_q11:LT:=[]
theorem e_q11:EV C_q11 lt_q11 Tryz.f140 [.v .str,.v .str] [.v .bool] Wh.q11:=by intro xs;kernel_rfl
theorem ok_q11:CO I4:=con_ok (Ls:=[]) mixed (e_ _ _) (fk_q6 _ fk) Tryz.func140 (loopsL_nil (by kernel_rfl)) (boxesL_none (by kernel_rfl)) e_q11
theorem fk_q11:FK I4:=fun _ _ h=>h.cons I4 (by kernel_rfl) Wh.PJ ok_q11
def G5:iq:=⟨74,[.v .str],[.v (.own .str),.v I6],Wh.CW,Wh.L4⟩
def C_q76:Cx:=⟨eA,[I4.entry,G6.entry,Ax.entry,FW.entry,GJ.entry,G8.entry],false,Gl⟩
def MC:b8:=kS ⟨[(5,.leaf I6),(4,.whole z0 .str),(0,.leaf .str)],[(z0,false,.rows .str)]⟩ [(.ret,⟨[(2,.whole z0 .str),(3,.leaf I6)],[(z0,false,.rows .str)]⟩)] Wh.VT Wh.BY
def T4:LT:=[(3,MC)]
theorem abm:∀x,round C_q76 T4 (jo Tryz.f74 0) MC x=Wh.BY x:=by intro x;kernel_rfl
theorem e_q76:EV C_q76 T4 Tryz.f74 [.v .str] [.v (.own .str),.v I6] Wh.CW:=by intro xs;kernel_rfl
theorem ok_q76:CO G5:=con_ok (Ls:=[MC]) mixed (e_ _ _) (fk_q11 _ (SE _ (Bw _ (Oe _ (Sf _ (SG _ fk)))))) Tryz.func74 (loopsL_cons (by kernel_rfl) (loopD_ok abm) (loopsL_nil (by kernel_rfl))) (boxesL_none (by kernel_rfl)) e_q76
theorem SD:FK G5:=fun _ _ h=>h.cons G5 (by kernel_rfl) Wh.Rc ok_q76
def FO:iq:=⟨233,[.v I6],[.v .bool],Wh.AI,Wh.HL⟩
def C_q133:Cx:=⟨eA,[Ax.entry],false,Gl⟩
def YK:LT:=[]
theorem e_q133:EV C_q133 YK Tryz.f233 [.v I6] [.v .bool] Wh.AI:=by intro xs;kernel_rfl
theorem ZH:CO FO:=con_ok (Ls:=[]) mixed (e_ _ _) (Bw _ fk) Tryz.func233 (loopsL_nil (by kernel_rfl)) (boxesL_none (by kernel_rfl)) e_q133
theorem N9:FK FO:=fun _ _ h=>h.cons FO (by kernel_rfl) Wh.LL ZH
def GM:iq:=⟨213,[.v .str],[.v .bool],Wh.Dp,Wh.LA⟩
def RJ:Cx:=⟨eA,[Ax.entry],false,Gl⟩
def MD:b8:=kS ⟨[(6,.leaf I6),(0,.leaf .str),(5,.leaf I6)],[]⟩ [(.ret,⟨[(2,.leaf .bool)],[]⟩),((.exit 0),⟨[(0,.leaf .str)],[]⟩)] Wh.Ux Wh.Cn
def To:LT:=[(2,MD)]
theorem abn:∀x,round RJ To (jo Tryz.f213 0) MD x=Wh.Cn x:=by intro x;kernel_rfl
theorem e_q104:EV RJ To Tryz.f213 [.v .str] [.v .bool] Wh.Dp:=by intro xs;kernel_rfl
theorem Zd:CO GM:=con_ok (Ls:=[MD]) mixed (e_ _ _) (Bw _ fk) Tryz.func213 (loopsL_cons (by kernel_rfl) (loopD_ok abn) (loopsL_nil (by kernel_rfl))) (boxesL_none (by kernel_rfl)) e_q104
theorem Sj:FK GM:=fun _ _ h=>h.cons GM (by kernel_rfl) Wh.Ph Zd
def GY:iq:=⟨192,[.v I6,.v .str,.v .str],[.v .str],Wh.q31,Wh.LU⟩
def C_q31:Cx:=⟨eA,[FW.entry,GM.entry,FO.entry],false,Gl⟩
def lt_q31:LT:=[]
theorem e_q31:EV C_q31 lt_q31 Tryz.f192 [.v I6,.v .str,.v .str] [.v .str] Wh.q31:=by intro xs;kernel_rfl
theorem ok_q31:CO GY:=con_ok (Ls:=[]) mixed (e_ _ _) (Oe _ (Sj _ (N9 _ fk))) Tryz.func192 (loopsL_nil (by kernel_rfl)) (boxesL_none (by kernel_rfl)) e_q31
theorem Sw:FK GY:=fun _ _ h=>h.cons GY (by kernel_rfl) Wh.LV ok_q31
def FV:iq:=⟨267,[.v bx],[.v (.pair I6 (.pair (.own an) .unit))],Wh.BW,Wh.Gt⟩
def C_q52:Cx:=⟨eA,[],false,Gl⟩
def lt_q52:LT:=[]
theorem e_q52:EV C_q52 lt_q52 Tryz.f267 [.v bx] [.v (.pair I6 (.pair (.own an) .unit))] Wh.BW:=by intro xs;kernel_rfl
theorem ok_q52:CO FV:=con_ok (Ls:=[]) mixed (e_ _ _) fk Tryz.func267 (loopsL_nil (by kernel_rfl)) (boxesL_none (by kernel_rfl)) e_q52
theorem Od:FK FV:=fun _ _ h=>h.cons FV (by kernel_rfl) Wh.DR ok_q52
def JE:iq:=⟨276,[.v an,.v (.ref I6),.v (.ref .str)],[.v .bool],Wh.q20,Wh.q20'⟩
def C_q20:Cx:=⟨eA,[],false,Gl⟩
def lt_q20:LT:=[]
theorem e_q20:EV C_q20 lt_q20 Tryz.f276 [.v an,.v (.ref I6),.v (.ref .str)] [.v .bool] Wh.q20:=by intro xs;kernel_rfl
theorem ok_q20:CO JE:=con_ok (Ls:=[]) mixed (e_ _ _) fk Tryz.func276 (loopsL_nil (by kernel_rfl)) (boxesL_none (by kernel_rfl)) e_q20
theorem fk_q20:FK JE:=fun _ _ h=>h.cons JE (by kernel_rfl) Wh.Qs ok_q20
def JN:iq:=⟨165,[.v (.lst an),.f 276 (.pair (.ref I6) (.pair (.ref .str) .unit))],[.v I6],Wh.q3,Wh.q3'⟩
def C_q3:Cx:=⟨eA,[JE.entry],false,Gl⟩
def Ni:b8:=kS ⟨[(8,.leaf I6),(0,.leaf (.lst an)),(1,.fn 276 (.bB (.leaf (.ref I6)) (.bB (.leaf (.ref .str)) (.b7)))),(7,.leaf I6)],[]⟩ [(.ret,⟨[(4,.leaf I6)],[]⟩),((.exit 0),⟨[],[]⟩)] Wh.Vv Wh.CP
def lt_q3:LT:=[(2,Ni)]
theorem ab0:∀x,round C_q3 lt_q3 (jo Tryz.f165 0) Ni x=Wh.CP x:=by intro x;kernel_rfl
theorem e_q3:EV C_q3 lt_q3 Tryz.f165 [.v (.lst an),.f 276 (.pair (.ref I6) (.pair (.ref .str) .unit))] [.v I6] Wh.q3:=by intro xs;kernel_rfl
theorem ok_q3:CO JN:=con_ok (Ls:=[Ni]) mixed (e_ _ _) (fk_q20 _ fk) Tryz.func165 (loopsL_cons (by kernel_rfl) (loopD_ok ab0) (loopsL_nil (by kernel_rfl))) (boxesL_none (by kernel_rfl)) e_q3
theorem fk_q3:FK JN:=fun _ _ h=>h.cons JN (by kernel_rfl) Wh.q3_v ok_q3
def FU:iq:=⟨193,[.v bx,.v I6,.v .str],[.v I6],Wh.A3,Wh.HR⟩
def C_q48:Cx:=⟨eA,[JN.entry],false,Gl⟩
def lt_q48:LT:=[]
theorem e_q48:EV C_q48 lt_q48 Tryz.f193 [.v bx,.v I6,.v .str] [.v I6] Wh.A3:=by intro xs;kernel_rfl
theorem ok_q48:CO FU:=con_ok (Ls:=[]) mixed (e_ _ _) (fk_q3 _ fk) Tryz.func193 (loopsL_nil (by kernel_rfl)) (boxesL_none (by kernel_rfl)) e_q48
theorem Oc:FK FU:=fun _ _ h=>h.cons FU (by kernel_rfl) Wh.Fk ok_q48
def KG:iq:=⟨277,[.k (.own an),.v I6,.v I6],[.v (.own an)],Wh.Fu,Wh.q9'⟩
def C_q9:Cx:=⟨eA,[],false,Gl⟩
def lt_q9:LT:=[]
theorem e_q9:EV C_q9 lt_q9 Tryz.f277 [.k (.own an),.v I6,.v I6] [.v (.own an)] Wh.Fu:=by intro xs;kernel_rfl
theorem ok_q9:CO KG:=con_ok (Ls:=[]) mixed (e_ _ _) fk Tryz.func277 (loopsL_nil (by kernel_rfl)) (boxesL_none (by kernel_rfl)) e_q9
theorem fk_q9:FK KG:=fun _ _ h=>h.cons KG (by kernel_rfl) Wh.q9_v ok_q9
def G3:iq:=⟨194,[.v bx,.v I6,.v .str],[.v (.pair I6 (.pair (.own an) .unit)),.v I6],Wh.CS,Wh.L2⟩
def C_q49:Cx:=⟨eA,[KG.entry,FU.entry,FV.entry],false,Gl⟩
def lt_q49:LT:=[]
theorem e_q49:EV C_q49 lt_q49 Tryz.f194 [.v bx,.v I6,.v .str] [.v (.pair I6 (.pair (.own an) .unit)),.v I6] Wh.CS:=by intro xs;kernel_rfl
theorem ok_q49:CO G3:=con_ok (Ls:=[]) mixed (e_ _ _) (fk_q9 _ (Oc _ (Od _ fk))) Tryz.func194 (loopsL_nil (by kernel_rfl)) (boxesL_none (by kernel_rfl)) e_q49
theorem SB:FK G3:=fun _ _ h=>h.cons G3 (by kernel_rfl) Wh.QL ok_q49
def Jz:iq:=⟨130,[.v I6,.v .str,.v .str],[.v .bool],Wh.q16,Wh.q16'⟩
def C_q16:Cx:=⟨eA,[Ax.entry,GM.entry,FO.entry],false,Gl⟩
def lt_q16:LT:=[]
theorem e_q16:EV C_q16 lt_q16 Tryz.f130 [.v I6,.v .str,.v .str] [.v .bool] Wh.q16:=by intro xs;kernel_rfl
theorem ok_q16:CO Jz:=con_ok (Ls:=[]) mixed (e_ _ _) (Bw _ (Sj _ (N9 _ fk))) Tryz.func130 (loopsL_nil (by kernel_rfl)) (boxesL_none (by kernel_rfl)) e_q16
theorem fk_q16:FK Jz:=fun _ _ h=>h.cons Jz (by kernel_rfl) Wh.LR ok_q16
def JP:iq:=⟨273,[.v bx,.v I6],[.v I6],Wh.q33,Wh.q33'⟩
def C_q33:Cx:=⟨eA,[],false,Gl⟩
def MB:b8:=kS ⟨[(11,.leaf I6),(5,.leaf I6),(1,.leaf I6),(9,.leaf (.lst an)),(10,.leaf I6)],[]⟩ [((.exit 0),⟨[(5,.leaf I6)],[]⟩)] Wh.Vq Wh.CM
def TM:LT:=[(3,MB)]
theorem abl:∀x,round C_q33 TM (jo Tryz.f273 0) MB x=Wh.CM x:=by intro x;kernel_rfl
theorem e_q33:EV C_q33 TM Tryz.f273 [.v bx,.v I6] [.v I6] Wh.q33:=by intro xs;kernel_rfl
theorem ok_q33:CO JP:=con_ok (Ls:=[MB]) mixed (e_ _ _) fk Tryz.func273 (loopsL_cons (by kernel_rfl) (loopD_ok abl) (loopsL_nil (by kernel_rfl))) (boxesL_none (by kernel_rfl)) e_q33
theorem fk_q33:FK JP:=fun _ _ h=>h.cons JP (by kernel_rfl) Wh.q33_v ok_q33
def JZ:iq:=⟨398,[.v I6],[.v .bool],Wh.q46,Wh.L1⟩
def C_q46:Cx:=⟨eA,[],false,Gl⟩
def lt_q46:LT:=[]
theorem e_q46:EV C_q46 lt_q46 Tryz.f398 [.v I6] [.v .bool] Wh.q46:=by intro xs;kernel_rfl
theorem ok_q46:CO JZ:=con_ok (Ls:=[]) mixed (e_ _ _) fk Tryz.func398 (loopsL_nil (by kernel_rfl)) (boxesL_none (by kernel_rfl)) e_q46
theorem fk_q46:FK JZ:=fun _ _ h=>h.cons JZ (by kernel_rfl) Wh.q46_v ok_q46
def JC:iq:=⟨337,[.v I6,.v I6],[.v I6],Wh.q19,Wh.q19'⟩
def C_q19:Cx:=⟨eA,[JZ.entry],false,Gl⟩
def lt_q19:LT:=[]
theorem e_q19:EV C_q19 lt_q19 Tryz.f337 [.v I6,.v I6] [.v I6] Wh.q19:=by intro xs;kernel_rfl
theorem ok_q19:CO JC:=con_ok (Ls:=[]) mixed (e_ _ _) (fk_q46 _ fk) Tryz.func337 (loopsL_nil (by kernel_rfl)) (boxesL_none (by kernel_rfl)) e_q19
theorem fk_q19:FK JC:=fun _ _ h=>h.cons JC (by kernel_rfl) Wh.q19_v ok_q19
def Jg:iq:=⟨399,[.v .str],[.v .bool],Wh.q12,Wh.LC⟩
def C_q12:Cx:=⟨eA,[],false,Gl⟩
def lt_q12:LT:=[]
theorem e_q12:EV C_q12 lt_q12 Tryz.f399 [.v .str] [.v .bool] Wh.q12:=by intro xs;kernel_rfl
theorem ok_q12:CO Jg:=con_ok (Ls:=[]) mixed (e_ _ _) fk Tryz.func399 (loopsL_nil (by kernel_rfl)) (boxesL_none (by kernel_rfl)) e_q12
theorem fk_q12:FK Jg:=fun _ _ h=>h.cons Jg (by kernel_rfl) Wh.q12_v ok_q12
def Kj:iq:=⟨338,[.v .str,.v .str],[.v I6],Wh.q7,Wh.q7'⟩
def C_q7:Cx:=⟨eA,[Jg.entry],false,Gl⟩
def lt_q7:LT:=[]
theorem e_q7:EV C_q7 lt_q7 Tryz.f338 [.v .str,.v .str] [.v I6] Wh.q7:=by intro xs;kernel_rfl
theorem ok_q7:CO Kj:=con_ok (Ls:=[]) mixed (e_ _ _) (fk_q12 _ fk) Tryz.func338 (loopsL_nil (by kernel_rfl)) (boxesL_none (by kernel_rfl)) e_q7
theorem fk_q7:FK Kj:=fun _ _ h=>h.cons Kj (by kernel_rfl) Wh.q7_v ok_q7
def Jk:iq:=⟨336,[.v (.lst I6)],[.v I6],Wh.E6,Wh.PW⟩
def RP:Cx:=⟨eA,[],false,Gl⟩
def Mz:b8:=kS ⟨[(8,.leaf I6),(3,.leaf I6),(6,.leaf (.lst I6)),(7,.leaf I6)],[]⟩ [(.ret,⟨[(2,.leaf I6)],[]⟩),((.exit 0),⟨[(3,.leaf I6)],[]⟩)] Wh.UU Wh.Dv
def Tt:LT:=[(3,Mz)]
theorem abj:∀x,round RP Tt (jo Tryz.f336 0) Mz x=Wh.Dv x:=by intro x;kernel_rfl
theorem e_q130:EV RP Tt Tryz.f336 [.v (.lst I6)] [.v I6] Wh.E6:=by intro xs;kernel_rfl
theorem ZE:CO Jk:=con_ok (Ls:=[Mz]) mixed (e_ _ _) fk Tryz.func336 (loopsL_cons (by kernel_rfl) (loopD_ok abj) (loopsL_nil (by kernel_rfl))) (boxesL_none (by kernel_rfl)) e_q130
theorem Xn:FK Jk:=fun _ _ h=>h.cons Jk (by kernel_rfl) Wh.UW ZE
def G0:iq:=⟨275,[.v an,.v an],[.v I6],Wh.q37,Wh.q37'⟩
def C_q37:Cx:=⟨eA,[Jk.entry,Kj.entry,JC.entry],false,Gl⟩
def lt_q37:LT:=[]
theorem e_q37:EV C_q37 lt_q37 Tryz.f275 [.v an,.v an] [.v I6] Wh.q37:=by intro xs;kernel_rfl
theorem ok_q37:CO G0:=con_ok (Ls:=[]) mixed (e_ _ _) (Xn _ (fk_q7 _ (fk_q19 _ fk))) Tryz.func275 (loopsL_nil (by kernel_rfl)) (boxesL_none (by kernel_rfl)) e_q37
theorem Sy:FK G0:=fun _ _ h=>h.cons G0 (by kernel_rfl) Wh.LX ok_q37
def IS:iq:=⟨390,[.m an,.v I6,.v I6,.f 275 .unit],[],Wh.q0,Wh.q0'⟩
def C_q0:Cx:=⟨eA,[G0.entry],false,Gl⟩
def Nj:b8:=kS ⟨[(0,.whole 900 an),(8,.leaf I6),(3,.fn 275 (.b7)),(1,.leaf I6),(2,.leaf I6)],[(900,false,.rows an)]⟩ [((.exit 0),⟨[],[(900,false,.rows an)]⟩)] Wh.Uq Wh.Bg
def Nk:b8:=kS ⟨[(9,.leaf I6),(0,.whole 900 an),(3,.fn 275 (.b7)),(1,.leaf I6),(2,.leaf I6),(8,.leaf I6)],[(900,false,.rows an)]⟩ [((.exit 2),⟨[(0,.whole 900 an),(3,.fn 275 (.b7)),(1,.leaf I6),(2,.leaf I6),(8,.leaf I6)],[(900,false,.rows an)]⟩)] Wh.Ur Wh.BI
def OP:LT:=[(1,Nj),(4,Nk)]
theorem ab1:∀x,round C_q0 OP (jo Tryz.f390 0) Nj x=Wh.Bg x:=by intro x;kernel_rfl
theorem ab2:∀x,round C_q0 OP (jo Tryz.f390 1) Nk x=Wh.BI x:=by intro x;kernel_rfl
theorem e_q0:EV C_q0 OP Tryz.f390 [.m an,.v I6,.v I6,.f 275 .unit] [] Wh.q0:=by intro xs;kernel_rfl
theorem ok_q0:CO IS:=con_ok (Ls:=[Nj,Nk]) mixed (e_ _ _) (Sy _ fk) Tryz.func390 (loopsL_cons (by kernel_rfl) (loopD_ok ab1) (loopsL_cons (by kernel_rfl) (loopD_ok ab2) (loopsL_nil (by kernel_rfl)))) (boxesL_none (by kernel_rfl)) e_q0
theorem fk_q0:FK IS:=fun _ _ h=>h.cons IS (by kernel_rfl) Wh.q0_v ok_q0
def IT:iq:=⟨335,[.m an,.v I6,.v I6,.v I6,.f 275 .unit],[],Wh.q1,Wh.q1'⟩
def C_q1:Cx:=⟨eA,[G0.entry,IS.entry],false,Gl⟩
def Nl:b8:=kS ⟨[(4,.fn 275 (.b7)),(2,.leaf I6),(1,.leaf I6),(0,.whole 900 an),(11,.leaf .bool),(10,.leaf .bool),(3,.leaf I6)],[(900,false,.rows an)]⟩ [(.ret,⟨[],[(900,false,.rows an)]⟩)] Wh.Vk Wh.Gr
def lt_q1:LT:=[(2,Nl)]
theorem ab3:∀x,round C_q1 lt_q1 (jo Tryz.f335 0) Nl x=Wh.Gr x:=by intro x;kernel_rfl
theorem e_q1:EV C_q1 lt_q1 Tryz.f335 [.m an,.v I6,.v I6,.v I6,.f 275 .unit] [] Wh.q1:=by intro xs;kernel_rfl
theorem ok_q1:CO IT:=con_ok (Ls:=[Nl]) mixed (e_ _ _) (Sy _ (fk_q0 _ fk)) Tryz.func335 (loopsL_cons (by kernel_rfl) (loopD_ok ab3) (loopsL_nil (by kernel_rfl))) (boxesL_none (by kernel_rfl)) e_q1
theorem fk_q1:FK IT:=fun _ _ h=>h.cons IT (by kernel_rfl) Wh.q1_v ok_q1
def JU:iq:=⟨274,[.m an,.f 275 .unit],[],Wh.q4,Wh.q4'⟩
def C_q4:Cx:=⟨eA,[IT.entry,IQ.entry],false,Gl⟩
def lt_q4:LT:=[]
theorem e_q4:EV C_q4 lt_q4 Tryz.f274 [.m an,.f 275 .unit] [] Wh.q4:=by intro xs;kernel_rfl
theorem ok_q4:CO JU:=con_ok (Ls:=[]) mixed (e_ _ _) (fk_q1 _ (W4 _ fk)) Tryz.func274 (loopsL_nil (by kernel_rfl)) (boxesL_none (by kernel_rfl)) e_q4
theorem fk_q4:FK JU:=fun _ _ h=>h.cons JU (by kernel_rfl) Wh.q4_v ok_q4
def Ko:iq:=⟨190,[.v bx,.v I6,.v .str,.v .str],[.v (.pair I6 (.pair (.own an) .unit)),.v I6],Wh.CV,Wh.q74'⟩
def C_q74:Cx:=⟨eA,[JU.entry,JP.entry,FU.entry,Jz.entry,FV.entry],false,Gl⟩
def lt_q74:LT:=[]
theorem e_q74:EV C_q74 lt_q74 Tryz.f190 [.v bx,.v I6,.v .str,.v .str] [.v (.pair I6 (.pair (.own an) .unit)),.v I6] Wh.CV:=by intro xs;kernel_rfl
theorem ok_q74:CO Ko:=con_ok (Ls:=[]) mixed (e_ _ _) (fk_q4 _ (fk_q33 _ (Oc _ (fk_q16 _ (Od _ fk))))) Tryz.func190 (loopsL_nil (by kernel_rfl)) (boxesL_none (by kernel_rfl)) e_q74
theorem fk_q74:FK Ko:=fun _ _ h=>h.cons Ko (by kernel_rfl) Wh.q74_v ok_q74
def JO:iq:=⟨160,[.v bx,.v .str],[.v (.pair I6 (.pair (.own an) .unit)),.v .bool],Wh.q32,Wh.q32'⟩
def C_q32:Cx:=⟨eA,[Ko.entry,G3.entry,GY.entry,GJ.entry,G8.entry],false,Gl⟩
def lt_q32:LT:=[]
theorem e_q32:EV C_q32 lt_q32 Tryz.f160 [.v bx,.v .str] [.v (.pair I6 (.pair (.own an) .unit)),.v .bool] Wh.q32:=by intro xs;kernel_rfl
theorem ok_q32:CO JO:=con_ok (Ls:=[]) mixed (e_ _ _) (fk_q74 _ (SB _ (Sw _ (Sf _ (SG _ fk))))) Tryz.func160 (loopsL_nil (by kernel_rfl)) (boxesL_none (by kernel_rfl)) e_q32
theorem fk_q32:FK JO:=fun _ _ h=>h.cons JO (by kernel_rfl) Wh.Qz ok_q32
def Jl:iq:=⟨75,[.v (.lst .str)],[.v (.pair I6 (.pair (.own an) .unit)),.v .bool],Wh.E7,Wh.PY⟩
def RQ:Cx:=⟨eA,[JO.entry],false,Gl⟩
def MA:b8:=kS ⟨[(2,.aZ z0 []),(13,.leaf I6),(4,.aZ z1 []),(11,.leaf (.lst .str)),(12,.leaf I6)],[(z0,false,.var bx (.pair (.leaf I6) (.pair (.whole z2 an) (.leaf .unit)))),(z1,false,.var bx (.pair (.leaf I6) (.pair (.whole z3 an) (.leaf .unit)))),(z2,false,.rows an),(z3,false,.rows an)]⟩ [(.ret,⟨[(2,.aZ z0 []),(3,.leaf .bool)],[(z0,false,.var bx (.pair (.leaf I6) (.pair (.whole z1 an) (.leaf .unit)))),(z1,false,.rows an)]⟩),((.exit 0),⟨[(2,.aZ z0 []),(4,.aZ z1 [])],[(z0,false,.var bx (.pair (.leaf I6) (.pair (.whole z2 an) (.leaf .unit)))),(z1,false,.var bx (.pair (.leaf I6) (.pair (.whole z3 an) (.leaf .unit)))),(z2,false,.rows an),(z3,false,.rows an)]⟩)] Wh.UX Wh.Cw
def Tu:LT:=[(3,MA)]
theorem abk:∀x,round RQ Tu (jo Tryz.f75 0) MA x=Wh.Cw x:=by intro x;kernel_rfl
theorem e_q131:EV RQ Tu Tryz.f75 [.v (.lst .str)] [.v (.pair I6 (.pair (.own an) .unit)),.v .bool] Wh.E7:=by intro xs;kernel_rfl
theorem ZF:CO Jl:=con_ok (Ls:=[MA]) mixed (e_ _ _) (fk_q32 _ fk) Tryz.func75 (loopsL_cons (by kernel_rfl) (loopD_ok abk) (loopsL_nil (by kernel_rfl))) (boxesL_none (by kernel_rfl)) e_q131
theorem Xo:FK Jl:=fun _ _ h=>h.cons Jl (by kernel_rfl) Wh.UY ZF
def IU:iq:=⟨161,[.v (.lst an),.v (.lst an)],[.v .bool],Wh.q10,Wh.q10'⟩
def C_q10:Cx:=⟨eA,[],false,Gl⟩
def Ng:b8:=kS ⟨[(13,.leaf I6),(1,.leaf (.lst an)),(0,.leaf (.lst an)),(12,.leaf I6)],[]⟩ [(.ret,⟨[(4,.leaf .bool)],[]⟩),((.exit 0),⟨[],[]⟩)] Wh.UD Wh.Co
def Tm:LT:=[(4,Ng)]
theorem abY:∀x,round C_q10 Tm (jo Tryz.f161 0) Ng x=Wh.Co x:=by intro x;kernel_rfl
theorem e_q10:EV C_q10 Tm Tryz.f161 [.v (.lst an),.v (.lst an)] [.v .bool] Wh.q10:=by intro xs;kernel_rfl
theorem ok_q10:CO IU:=con_ok (Ls:=[Ng]) mixed (e_ _ _) fk Tryz.func161 (loopsL_cons (by kernel_rfl) (loopD_ok abY) (loopsL_nil (by kernel_rfl))) (boxesL_none (by kernel_rfl)) e_q10
theorem fk_q10:FK IU:=fun _ _ h=>h.cons IU (by kernel_rfl) Wh.q10_v ok_q10
def Kx:iq:=⟨76,[.v bx,.v bx],[.v .bool],Wh.q81,Wh.q81'⟩
def C_q81:Cx:=⟨eA,[IU.entry],false,Gl⟩
def lt_q81:LT:=[]
theorem e_q81:EV C_q81 lt_q81 Tryz.f76 [.v bx,.v bx] [.v .bool] Wh.q81:=by intro xs;kernel_rfl
theorem ok_q81:CO Kx:=con_ok (Ls:=[]) mixed (e_ _ _) (fk_q10 _ fk) Tryz.func76 (loopsL_nil (by kernel_rfl)) (boxesL_none (by kernel_rfl)) e_q81
theorem fk_q81:FK Kx:=fun _ _ h=>h.cons Kx (by kernel_rfl) Wh.q81_v ok_q81
def JR:iq:=⟨264,[.v fN,.v I6,.v I6],[.v I6],Wh.q35,Wh.q35'⟩
def C_q35:Cx:=⟨eA,[],false,Gl⟩
def MJ:b8:=kS ⟨[(12,.leaf I6),(2,.leaf I6),(1,.leaf I6),(10,.leaf (.lst ct)),(11,.leaf I6)],[]⟩ [(.ret,⟨[(6,.leaf I6)],[]⟩),((.exit 0),⟨[],[]⟩)] Wh.Vs Wh.CN
def TP:LT:=[(2,MJ)]
theorem abt:∀x,round C_q35 TP (jo Tryz.f264 0) MJ x=Wh.CN x:=by intro x;kernel_rfl
theorem e_q35:EV C_q35 TP Tryz.f264 [.v fN,.v I6,.v I6] [.v I6] Wh.q35:=by intro xs;kernel_rfl
theorem ok_q35:CO JR:=con_ok (Ls:=[MJ]) mixed (e_ _ _) fk Tryz.func264 (loopsL_cons (by kernel_rfl) (loopD_ok abt) (loopsL_nil (by kernel_rfl))) (boxesL_none (by kernel_rfl)) e_q35
theorem fk_q35:FK JR:=fun _ _ h=>h.cons JR (by kernel_rfl) Wh.q35_v ok_q35
def Kr:iq:=⟨265,[.v fN,.v I6],[.v I6],Wh.q78,Wh.q78'⟩
def C_q78:Cx:=⟨eA,[],false,Gl⟩
def MK:b8:=kS ⟨[(11,.leaf I6),(5,.leaf I6),(1,.leaf I6),(9,.leaf (.lst ct)),(10,.leaf I6)],[]⟩ [((.exit 0),⟨[(5,.leaf I6)],[]⟩)] Wh.VV Wh.CX
def T6:LT:=[(3,MK)]
theorem abu:∀x,round C_q78 T6 (jo Tryz.f265 0) MK x=Wh.CX x:=by intro x;kernel_rfl
theorem e_q78:EV C_q78 T6 Tryz.f265 [.v fN,.v I6] [.v I6] Wh.q78:=by intro xs;kernel_rfl
theorem ok_q78:CO Kr:=con_ok (Ls:=[MK]) mixed (e_ _ _) fk Tryz.func265 (loopsL_cons (by kernel_rfl) (loopD_ok abu) (loopsL_nil (by kernel_rfl))) (boxesL_none (by kernel_rfl)) e_q78
theorem fk_q78:FK Kr:=fun _ _ h=>h.cons Kr (by kernel_rfl) Wh.Gv ok_q78
def IX:iq:=⟨162,[.v fN],[.v .bool],Wh.Dq,Wh.Pj⟩
def Mu:Cx:=⟨eA,[Kr.entry,JR.entry,FO.entry,Ax.entry],false,Gl⟩
def MG:b8:=kS ⟨[(19,.leaf I6),(1,.aZ z0 []),(17,.leaf (.lst ct)),(18,.leaf I6)],[(z0,false,.var fN (.leaf fN))]⟩ [(.ret,⟨[(2,.leaf .bool)],[]⟩),((.exit 0),⟨[(1,.aZ z0 [])],[(z0,false,.var fN (.leaf fN))]⟩)] Wh.Uy Wh.BK
def MH:b8:=kS ⟨[(63,.leaf I6),(1,.aZ z0 [])],[(z0,false,.var fN (.leaf fN))]⟩ [(.ret,⟨[(2,.leaf .bool)],[]⟩),((.exit 2),⟨[],[]⟩)] Wh.Uz Wh.BL
def OR:LT:=[(4,MG),(13,MH)]
theorem abp:∀x,round Mu OR (jo Tryz.f162 0) MG x=Wh.BK x:=by intro x;kernel_rfl
theorem abq:∀x,round Mu OR (jo Tryz.f162 1) MH x=Wh.BL x:=by intro x;kernel_rfl
theorem e_q105:EV Mu OR Tryz.f162 [.v fN] [.v .bool] Wh.Dq:=by intro xs;kernel_rfl
theorem Ze:CO IX:=con_ok (Ls:=[MG,MH]) mixed (e_ _ _) (fk_q78 _ (fk_q35 _ (N9 _ (Bw _ fk)))) Tryz.func162 (loopsL_cons (by kernel_rfl) (loopD_ok abp) (loopsL_cons (by kernel_rfl) (loopD_ok abq) (loopsL_nil (by kernel_rfl)))) (boxesL_none (by kernel_rfl)) e_q105
theorem W7:FK IX:=fun _ _ h=>h.cons IX (by kernel_rfl) Wh.Pn Ze
def Kw:iq:=⟨166,[.v an,.v (.ref I6)],[.v .bool],Wh.Gw,Wh.q8'⟩
def C_q8:Cx:=⟨eA,[],false,Gl⟩
def lt_q8:LT:=[]
theorem e_q8:EV C_q8 lt_q8 Tryz.f166 [.v an,.v (.ref I6)] [.v .bool] Wh.Gw:=by intro xs;kernel_rfl
theorem ok_q8:CO Kw:=con_ok (Ls:=[]) mixed (e_ _ _) fk Tryz.func166 (loopsL_nil (by kernel_rfl)) (boxesL_none (by kernel_rfl)) e_q8
theorem fk_q8:FK Kw:=fun _ _ h=>h.cons Kw (by kernel_rfl) Wh.q8_v ok_q8
def JD:iq:=⟨165,[.v (.lst an),.f 166 (.pair (.ref I6) .unit)],[.v I6],Wh.q2,Wh.CF⟩
def C_q2:Cx:=⟨eA,[Kw.entry],false,Gl⟩
def Nh:b8:=kS ⟨[(8,.leaf I6),(0,.leaf (.lst an)),(1,.fn 166 (.bB (.leaf (.ref I6)) (.b7))),(7,.leaf I6)],[]⟩ [(.ret,⟨[(4,.leaf I6)],[]⟩),((.exit 0),⟨[],[]⟩)] Wh.Vp Wh.CL
def lt_q2:LT:=[(2,Nh)]
theorem abZ:∀x,round C_q2 lt_q2 (jo Tryz.f165 0) Nh x=Wh.CL x:=by intro x;kernel_rfl
theorem e_q2:EV C_q2 lt_q2 Tryz.f165 [.v (.lst an),.f 166 (.pair (.ref I6) .unit)] [.v I6] Wh.q2:=by intro xs;kernel_rfl
theorem ok_q2:CO JD:=con_ok (Ls:=[Nh]) mixed (e_ _ _) (fk_q8 _ fk) Tryz.func165 (loopsL_cons (by kernel_rfl) (loopD_ok abZ) (loopsL_nil (by kernel_rfl))) (boxesL_none (by kernel_rfl)) e_q2
theorem fk_q2:FK JD:=fun _ _ h=>h.cons JD (by kernel_rfl) Wh.q2_v ok_q2
def GS:iq:=⟨80,[.v bx,.v I6],[.v I6],Wh.Cv,Wh.LJ⟩
def C_q13:Cx:=⟨eA,[JD.entry],false,Gl⟩
def lt_q13:LT:=[]
theorem e_q13:EV C_q13 lt_q13 Tryz.f80 [.v bx,.v I6] [.v I6] Wh.Cv:=by intro xs;kernel_rfl
theorem ok_q13:CO GS:=con_ok (Ls:=[]) mixed (e_ _ _) (fk_q2 _ fk) Tryz.func80 (loopsL_nil (by kernel_rfl)) (boxesL_none (by kernel_rfl)) e_q13
theorem Sp:FK GS:=fun _ _ h=>h.cons GS (by kernel_rfl) Wh.Fc ok_q13
def GX:iq:=⟨164,[.v yD],[.v I6],Wh.CG,Wh.Gs⟩
def C_q21:Cx:=⟨eA,[],false,Gl⟩
def lt_q21:LT:=[]
theorem e_q21:EV C_q21 lt_q21 Tryz.f164 [.v yD] [.v I6] Wh.CG:=by intro xs;kernel_rfl
theorem ok_q21:CO GX:=con_ok (Ls:=[]) mixed (e_ _ _) fk Tryz.func164 (loopsL_nil (by kernel_rfl)) (boxesL_none (by kernel_rfl)) e_q21
theorem Su:FK GX:=fun _ _ h=>h.cons GX (by kernel_rfl) Wh.q21_v ok_q21
def Kq:iq:=⟨163,[.v I6],[.v (.pair I6 (.pair I6 (.pair (.own I6) (.pair (.own I6) .unit))))],Wh.q77,Wh.q77'⟩
def C_q77:Cx:=⟨eA,[GX.entry,Ax.entry],false,Gl⟩
def ME:b8:=kS ⟨[(3,.aZ z0 []),(2,.aZ z1 [])],[(z0,false,.var yD (.pair (.leaf I6) (.pair (.leaf I6) (.pair (.whole z2 I6) (.pair (.whole z3 I6) (.leaf .unit)))))),(z1,false,.var yD (.pair (.leaf I6) (.pair (.leaf I6) (.pair (.whole 500000004 I6) (.pair (.whole 500000005 I6) (.leaf .unit)))))),(z2,false,.rows I6),(z3,false,.rows I6),(500000004,false,.rows I6),(500000005,false,.rows I6)]⟩ [((.exit 0),⟨[(2,.aZ z0 []),(3,.aZ z1 [])],[(z0,false,.var yD (.pair (.leaf I6) (.pair (.leaf I6) (.pair (.whole z2 I6) (.pair (.whole z3 I6) (.leaf .unit)))))),(z1,false,.var yD (.pair (.leaf I6) (.pair (.leaf I6) (.pair (.whole 500000004 I6) (.pair (.whole 500000005 I6) (.leaf .unit)))))),(z2,false,.rows I6),(z3,false,.rows I6),(500000004,false,.rows I6),(500000005,false,.rows I6)]⟩)] Wh.VU Wh.HV
def T5:LT:=[(4,ME)]
theorem abo:∀x,round C_q77 T5 (jo Tryz.f163 0) ME x=Wh.HV x:=by intro x;kernel_rfl
theorem e_q77:EV C_q77 T5 Tryz.f163 [.v I6] [.v (.pair I6 (.pair I6 (.pair (.own I6) (.pair (.own I6) .unit))))] Wh.q77:=by intro xs;kernel_rfl
theorem ok_q77:CO Kq:=con_ok (Ls:=[ME]) mixed (e_ _ _) (Su _ (Bw _ fk)) Tryz.func163 (loopsL_cons (by kernel_rfl) (loopD_ok abo) (loopsL_nil (by kernel_rfl))) (boxesL_none (by kernel_rfl)) e_q77
theorem fk_q77:FK Kq:=fun _ _ h=>h.cons Kq (by kernel_rfl) Wh.q77_v ok_q77
def J3:iq:=⟨77,[.v fN,.v bx],[.v .bool],Wh.q53,Wh.q53'⟩
def C_q53:Cx:=⟨eA,[GX.entry,Kq.entry,GS.entry,IX.entry],false,Gl⟩
def MO:b8:=kS ⟨[(14,.leaf I6),(3,.aZ z0 []),(12,.leaf (.lst ct)),(13,.leaf I6)],[(z0,false,.var bx (.leaf bx))]⟩ [(.ret,⟨[(4,.leaf .bool)],[]⟩),((.exit 0),⟨[],[]⟩)] Wh.VC Wh.AK
def TW:LT:=[(4,MO)]
theorem aby:∀x,round C_q53 TW (jo Tryz.f77 0) MO x=Wh.AK x:=by intro x;kernel_rfl
theorem e_q53:EV C_q53 TW Tryz.f77 [.v fN,.v bx] [.v .bool] Wh.q53:=by intro xs;kernel_rfl
theorem ok_q53:CO J3:=con_ok (Ls:=[MO]) mixed (e_ _ _) (Su _ (fk_q77 _ (Sp _ (W7 _ fk)))) Tryz.func77 (loopsL_cons (by kernel_rfl) (loopD_ok aby) (loopsL_nil (by kernel_rfl))) (boxesL_none (by kernel_rfl)) e_q53
theorem fk_q53:FK J3:=fun _ _ h=>h.cons J3 (by kernel_rfl) Wh.q53_v ok_q53
def J0:iq:=⟨78,[.v fT],[.v .bool],Wh.q47,Wh.q47'⟩
def C_q47:Cx:=⟨eA,[Ax.entry],false,Gl⟩
def lt_q47:LT:=[]
theorem e_q47:EV C_q47 lt_q47 Tryz.f78 [.v fT] [.v .bool] Wh.q47:=by intro xs;kernel_rfl
theorem ok_q47:CO J0:=con_ok (Ls:=[]) mixed (e_ _ _) (Bw _ fk) Tryz.func78 (loopsL_nil (by kernel_rfl)) (boxesL_none (by kernel_rfl)) e_q47
theorem fk_q47:FK J0:=fun _ _ h=>h.cons J0 (by kernel_rfl) Wh.q47_v ok_q47
def J2:iq:=⟨79,[.v I6],[.v .bool],Wh.q51,Wh.q51'⟩
def C_q51:Cx:=⟨eA,[Ax.entry],false,Gl⟩
def lt_q51:LT:=[]
theorem e_q51:EV C_q51 lt_q51 Tryz.f79 [.v I6] [.v .bool] Wh.q51:=by intro xs;kernel_rfl
theorem ok_q51:CO J2:=con_ok (Ls:=[]) mixed (e_ _ _) (Bw _ fk) Tryz.func79 (loopsL_nil (by kernel_rfl)) (boxesL_none (by kernel_rfl)) e_q51
theorem fk_q51:FK J2:=fun _ _ h=>h.cons J2 (by kernel_rfl) Wh.QS ok_q51
def Ku:iq:=⟨81,[.v I6],[.v I6],Wh.q79,Wh.q79'⟩
def C_q79:Cx:=⟨eA,[],false,Gl⟩
def lt_q79:LT:=[]
theorem e_q79:EV C_q79 lt_q79 Tryz.f81 [.v I6] [.v I6] Wh.q79:=by intro xs;kernel_rfl
theorem ok_q79:CO Ku:=con_ok (Ls:=[]) mixed (e_ _ _) fk Tryz.func81 (loopsL_nil (by kernel_rfl)) (boxesL_none (by kernel_rfl)) e_q79
theorem fk_q79:FK Ku:=fun _ _ h=>h.cons Ku (by kernel_rfl) Wh.Rf ok_q79
def J1:iq:=⟨17,[.v cx],[.v .bool],Wh.q50,Wh.q50'⟩
def Mw:Cx:=⟨eA,[Ku.entry,GS.entry,J2.entry,J0.entry,J3.entry,Kx.entry,Jl.entry,G5.entry,Ax.entry],false,Gl⟩
def ML:b8:=kS ⟨[(105,.leaf I6),(1,.aZ z0 []),(103,.leaf (.lst fT)),(104,.leaf I6)],[(z0,false,.var cx (.leaf cx))]⟩ [(.ret,⟨[(2,.leaf .bool)],[]⟩),((.exit 0),⟨[(1,.aZ z0 [])],[(z0,false,.var cx (.leaf cx))]⟩)] Wh.VA Wh.CT
def MM:b8:=kS ⟨[(133,.leaf I6),(1,.aZ z0 []),(131,.leaf (.lst gd)),(132,.leaf I6)],[(z0,false,.var cx (.leaf cx))]⟩ [(.ret,⟨[(2,.leaf .bool)],[]⟩),((.exit 2),⟨[],[]⟩)] Wh.VB Wh.BV
def OT:LT:=[(13,ML),(19,MM)]
theorem abv:∀x,round Mw OT (jo Tryz.f17 0) ML x=Wh.CT x:=by intro x;kernel_rfl
theorem abw:∀x,round Mw OT (jo Tryz.f17 1) MM x=Wh.BV x:=by intro x;kernel_rfl
theorem e_q50:EV Mw OT Tryz.f17 [.v cx] [.v .bool] Wh.q50:=by intro xs;kernel_rfl
theorem ok_q50:CO J1:=con_ok (Ls:=[ML,MM]) mixed (e_ _ _) (fk_q79 _ (Sp _ (fk_q51 _ (fk_q47 _ (fk_q53 _ (fk_q81 _ (Xo _ (SD _ (Bw _ fk))))))))) Tryz.func17 (loopsL_cons (by kernel_rfl) (loopD_ok abv) (loopsL_cons (by kernel_rfl) (loopD_ok abw) (loopsL_nil (by kernel_rfl)))) (boxesL_none (by kernel_rfl)) e_q50
theorem fk_q50:FK J1:=fun _ _ h=>h.cons J1 (by kernel_rfl) Wh.QO ok_q50
def IZ:iq:=⟨235,[.v an,.v an],[.v .bool],Wh.ES,Wh.Pp⟩
def C_q108:Cx:=⟨eA,[],false,Gl⟩
def Yt:LT:=[]
theorem e_q108:EV C_q108 Yt Tryz.f235 [.v an,.v an] [.v .bool] Wh.ES:=by intro xs;kernel_rfl
theorem Zh:CO IZ:=con_ok (Ls:=[]) mixed (e_ _ _) fk Tryz.func235 (loopsL_nil (by kernel_rfl)) (boxesL_none (by kernel_rfl)) e_q108
theorem W9:FK IZ:=fun _ _ h=>h.cons IZ (by kernel_rfl) Wh.UA Zh
def Kz:iq:=⟨133,[.v (.lst an),.v (.lst an)],[.v .bool],Wh.q83,Wh.q83'⟩
def C_q83:Cx:=⟨eA,[IZ.entry],false,Gl⟩
def MY:b8:=kS ⟨[(5,.leaf I6),(1,.leaf (.lst an)),(0,.leaf (.lst an))],[]⟩ [(.ret,⟨[(4,.leaf .bool)],[]⟩),((.exit 0),⟨[],[]⟩)] Wh.VW Wh.Ft
def T7:LT:=[(4,MY)]
theorem abI:∀x,round C_q83 T7 (jo Tryz.f133 0) MY x=Wh.Ft x:=by intro x;kernel_rfl
theorem e_q83:EV C_q83 T7 Tryz.f133 [.v (.lst an),.v (.lst an)] [.v .bool] Wh.q83:=by intro xs;kernel_rfl
theorem ok_q83:CO Kz:=con_ok (Ls:=[MY]) mixed (e_ _ _) (W9 _ fk) Tryz.func133 (loopsL_cons (by kernel_rfl) (loopD_ok abI) (loopsL_nil (by kernel_rfl))) (boxesL_none (by kernel_rfl)) e_q83
theorem fk_q83:FK Kz:=fun _ _ h=>h.cons Kz (by kernel_rfl) Wh.q83_v ok_q83
def Jn:iq:=⟨82,[.v bx,.v bx],[.v .bool],Wh.E8,Wh.P2⟩
def C_q134:Cx:=⟨eA,[Kz.entry],false,Gl⟩
def YL:LT:=[]
theorem e_q134:EV C_q134 YL Tryz.f82 [.v bx,.v bx] [.v .bool] Wh.E8:=by intro xs;kernel_rfl
theorem ZI:CO Jn:=con_ok (Ls:=[]) mixed (e_ _ _) (fk_q83 _ fk) Tryz.func82 (loopsL_nil (by kernel_rfl)) (boxesL_none (by kernel_rfl)) e_q134
theorem Xq:FK Jn:=fun _ _ h=>h.cons Jn (by kernel_rfl) Wh.U1 ZI
def Ky:iq:=⟨266,[.v ct,.v ct],[.v .bool],Wh.q82,Wh.q82'⟩
def C_q82:Cx:=⟨eA,[],false,Gl⟩
def lt_q82:LT:=[]
theorem e_q82:EV C_q82 lt_q82 Tryz.f266 [.v ct,.v ct] [.v .bool] Wh.q82:=by intro xs;kernel_rfl
theorem ok_q82:CO Ky:=con_ok (Ls:=[]) mixed (e_ _ _) fk Tryz.func266 (loopsL_nil (by kernel_rfl)) (boxesL_none (by kernel_rfl)) e_q82
theorem fk_q82:FK Ky:=fun _ _ h=>h.cons Ky (by kernel_rfl) Wh.q82_v ok_q82
def J6:iq:=⟨167,[.v (.lst ct),.v (.lst ct)],[.v .bool],Wh.q56,Wh.q56'⟩
def C_q56:Cx:=⟨eA,[Ky.entry],false,Gl⟩
def MX:b8:=kS ⟨[(5,.leaf I6),(1,.leaf (.lst ct)),(0,.leaf (.lst ct))],[]⟩ [(.ret,⟨[(4,.leaf .bool)],[]⟩),((.exit 0),⟨[],[]⟩)] Wh.VK Wh.Fo
def TX:LT:=[(4,MX)]
theorem abH:∀x,round C_q56 TX (jo Tryz.f167 0) MX x=Wh.Fo x:=by intro x;kernel_rfl
theorem e_q56:EV C_q56 TX Tryz.f167 [.v (.lst ct),.v (.lst ct)] [.v .bool] Wh.q56:=by intro xs;kernel_rfl
theorem ok_q56:CO J6:=con_ok (Ls:=[MX]) mixed (e_ _ _) (fk_q82 _ fk) Tryz.func167 (loopsL_cons (by kernel_rfl) (loopD_ok abH) (loopsL_nil (by kernel_rfl))) (boxesL_none (by kernel_rfl)) e_q56
theorem fk_q56:FK J6:=fun _ _ h=>h.cons J6 (by kernel_rfl) Wh.q56_v ok_q56
def I1:iq:=⟨83,[.v fN,.v fN],[.v .bool],Wh.ET,Wh.Pq⟩
def C_q109:Cx:=⟨eA,[J6.entry],false,Gl⟩
def Yu:LT:=[]
theorem e_q109:EV C_q109 Yu Tryz.f83 [.v fN,.v fN] [.v .bool] Wh.ET:=by intro xs;kernel_rfl
theorem Zi:CO I1:=con_ok (Ls:=[]) mixed (e_ _ _) (fk_q56 _ fk) Tryz.func83 (loopsL_nil (by kernel_rfl)) (boxesL_none (by kernel_rfl)) e_q109
theorem W_:FK I1:=fun _ _ h=>h.cons I1 (by kernel_rfl) Wh.UC Zi
def J5:iq:=⟨168,[.v fT,.v fT],[.v .bool],Wh.q55,Wh.q55'⟩
def C_q55:Cx:=⟨eA,[],false,Gl⟩
def lt_q55:LT:=[]
theorem e_q55:EV C_q55 lt_q55 Tryz.f168 [.v fT,.v fT] [.v .bool] Wh.q55:=by intro xs;kernel_rfl
theorem ok_q55:CO J5:=con_ok (Ls:=[]) mixed (e_ _ _) fk Tryz.func168 (loopsL_nil (by kernel_rfl)) (boxesL_none (by kernel_rfl)) e_q55
theorem fk_q55:FK J5:=fun _ _ h=>h.cons J5 (by kernel_rfl) Wh.q55_v ok_q55
def JS:iq:=⟨84,[.v (.lst fT),.v (.lst fT)],[.v .bool],Wh.q38,Wh.q38'⟩
def C_q38:Cx:=⟨eA,[J5.entry],false,Gl⟩
def MW:b8:=kS ⟨[(5,.leaf I6),(1,.leaf (.lst fT)),(0,.leaf (.lst fT))],[]⟩ [(.ret,⟨[(4,.leaf .bool)],[]⟩),((.exit 0),⟨[],[]⟩)] Wh.Vt Wh.Fj
def TQ:LT:=[(4,MW)]
theorem abG:∀x,round C_q38 TQ (jo Tryz.f84 0) MW x=Wh.Fj x:=by intro x;kernel_rfl
theorem e_q38:EV C_q38 TQ Tryz.f84 [.v (.lst fT),.v (.lst fT)] [.v .bool] Wh.q38:=by intro xs;kernel_rfl
theorem ok_q38:CO JS:=con_ok (Ls:=[MW]) mixed (e_ _ _) (fk_q55 _ fk) Tryz.func84 (loopsL_cons (by kernel_rfl) (loopD_ok abG) (loopsL_nil (by kernel_rfl))) (boxesL_none (by kernel_rfl)) e_q38
theorem fk_q38:FK JS:=fun _ _ h=>h.cons JS (by kernel_rfl) Wh.q38_v ok_q38
def KA:iq:=⟨169,[.v gd,.v gd],[.v .bool],Wh.q84,Wh.q84'⟩
def C_q84:Cx:=⟨eA,[],false,Gl⟩
def lt_q84:LT:=[]
theorem e_q84:EV C_q84 lt_q84 Tryz.f169 [.v gd,.v gd] [.v .bool] Wh.q84:=by intro xs;kernel_rfl
theorem ok_q84:CO KA:=con_ok (Ls:=[]) mixed (e_ _ _) fk Tryz.func169 (loopsL_nil (by kernel_rfl)) (boxesL_none (by kernel_rfl)) e_q84
theorem fk_q84:FK KA:=fun _ _ h=>h.cons KA (by kernel_rfl) Wh.q84_v ok_q84
def J7:iq:=⟨85,[.v (.lst gd),.v (.lst gd)],[.v .bool],Wh.q57,Wh.q57'⟩
def C_q57:Cx:=⟨eA,[KA.entry],false,Gl⟩
def MZ:b8:=kS ⟨[(5,.leaf I6),(1,.leaf (.lst gd)),(0,.leaf (.lst gd))],[]⟩ [(.ret,⟨[(4,.leaf .bool)],[]⟩),((.exit 0),⟨[],[]⟩)] Wh.VL Wh.Fp
def TY:LT:=[(4,MZ)]
theorem abJ:∀x,round C_q57 TY (jo Tryz.f85 0) MZ x=Wh.Fp x:=by intro x;kernel_rfl
theorem e_q57:EV C_q57 TY Tryz.f85 [.v (.lst gd),.v (.lst gd)] [.v .bool] Wh.q57:=by intro xs;kernel_rfl
theorem ok_q57:CO J7:=con_ok (Ls:=[MZ]) mixed (e_ _ _) (fk_q84 _ fk) Tryz.func85 (loopsL_cons (by kernel_rfl) (loopD_ok abJ) (loopsL_nil (by kernel_rfl))) (boxesL_none (by kernel_rfl)) e_q57
theorem fk_q57:FK J7:=fun _ _ h=>h.cons J7 (by kernel_rfl) Wh.q57_v ok_q57
def J8:iq:=⟨18,[.v cx,.v cx],[.v .bool],Wh.Bk,Wh.HU⟩
def C_q58:Cx:=⟨eA,[J7.entry,JS.entry,I1.entry,Jn.entry],false,Gl⟩
def lt_q58:LT:=[]
theorem e_q58:EV C_q58 lt_q58 Tryz.f18 [.v cx,.v cx] [.v .bool] Wh.Bk:=by intro xs;kernel_rfl
theorem ok_q58:CO J8:=con_ok (Ls:=[]) mixed (e_ _ _) (fk_q57 _ (fk_q38 _ (W_ _ (Xq _ fk)))) Tryz.func18 (loopsL_nil (by kernel_rfl)) (boxesL_none (by kernel_rfl)) e_q58
theorem fk_q58:FK J8:=fun _ _ h=>h.cons J8 (by kernel_rfl) Wh.Q3 ok_q58
def G7:iq:=⟨171,[.v fN],[.v (.pair (.own ct) (.pair I6 .unit))],Wh.q93,Wh.L7⟩
def C_q93:Cx:=⟨eA,[],false,Gl⟩
def lt_q93:LT:=[]
theorem e_q93:EV C_q93 lt_q93 Tryz.f171 [.v fN] [.v (.pair (.own ct) (.pair I6 .unit))] Wh.q93:=by intro xs;kernel_rfl
theorem ok_q93:CO G7:=con_ok (Ls:=[]) mixed (e_ _ _) fk Tryz.func171 (loopsL_nil (by kernel_rfl)) (boxesL_none (by kernel_rfl)) e_q93
theorem SF:FK G7:=fun _ _ h=>h.cons G7 (by kernel_rfl) Wh.Rk ok_q93
def KL:iq:=⟨86,[.v cx],[.v (.pair .bool (.pair I6 (.pair .str (.pair (.pair I6 (.pair (.own an) .unit)) (.pair (.pair (.own ct) (.pair I6 .unit)) (.pair (.own fT) (.pair (.own gd) .unit)))))))],Wh.q95,Wh.q95'⟩
def C_q95:Cx:=⟨eA,[G7.entry,FN.entry],false,Gl⟩
def lt_q95:LT:=[]
theorem e_q95:EV C_q95 lt_q95 Tryz.f86 [.v cx] [.v (.pair .bool (.pair I6 (.pair .str (.pair (.pair I6 (.pair (.own an) .unit)) (.pair (.pair (.own ct) (.pair I6 .unit)) (.pair (.own fT) (.pair (.own gd) .unit)))))))] Wh.q95:=by intro xs;kernel_rfl
theorem ok_q95:CO KL:=con_ok (Ls:=[]) mixed (e_ _ _) (SF _ (N8 _ fk)) Tryz.func86 (loopsL_nil (by kernel_rfl)) (boxesL_none (by kernel_rfl)) e_q95
theorem fk_q95:FK KL:=fun _ _ h=>h.cons KL (by kernel_rfl) Wh.Rm ok_q95
def GZ:iq:=⟨268,[.v fN],[.v (.pair (.own ct) (.pair I6 .unit))],Wh.q36,Wh.LW⟩
def C_q36:Cx:=⟨eA,[],false,Gl⟩
def lt_q36:LT:=[]
theorem e_q36:EV C_q36 lt_q36 Tryz.f268 [.v fN] [.v (.pair (.own ct) (.pair I6 .unit))] Wh.q36:=by intro xs;kernel_rfl
theorem ok_q36:CO GZ:=con_ok (Ls:=[]) mixed (e_ _ _) fk Tryz.func268 (loopsL_nil (by kernel_rfl)) (boxesL_none (by kernel_rfl)) e_q36
theorem Sx:FK GZ:=fun _ _ h=>h.cons GZ (by kernel_rfl) Wh.QD ok_q36
def Jy:iq:=⟨172,[.v cx],[.v (.pair .bool (.pair I6 (.pair .str (.pair (.pair I6 (.pair (.own an) .unit)) (.pair (.pair (.own ct) (.pair I6 .unit)) (.pair (.own fT) (.pair (.own gd) .unit)))))))],Wh.q15,Wh.q15'⟩
def C_q15:Cx:=⟨eA,[GZ.entry,FV.entry],false,Gl⟩
def lt_q15:LT:=[]
theorem e_q15:EV C_q15 lt_q15 Tryz.f172 [.v cx] [.v (.pair .bool (.pair I6 (.pair .str (.pair (.pair I6 (.pair (.own an) .unit)) (.pair (.pair (.own ct) (.pair I6 .unit)) (.pair (.own fT) (.pair (.own gd) .unit)))))))] Wh.q15:=by intro xs;kernel_rfl
theorem ok_q15:CO Jy:=con_ok (Ls:=[]) mixed (e_ _ _) (Sx _ (Od _ fk)) Tryz.func172 (loopsL_nil (by kernel_rfl)) (boxesL_none (by kernel_rfl)) e_q15
theorem fk_q15:FK Jy:=fun _ _ h=>h.cons Jy (by kernel_rfl) Wh.Qo ok_q15
def G4:iq:=⟨121,[.v I6],[.v .str],Wh.A4,Wh.Fq⟩
def C_q61:Cx:=⟨eA,[],false,Gl⟩
def M_:b8:=kS ⟨[(0,.leaf I6),(3,.leaf .str)],[]⟩ [((.exit 0),⟨[(3,.leaf .str)],[]⟩)] Wh.VM Wh.DW
def TZ:LT:=[(4,M_)]
theorem abS:∀x,round C_q61 TZ (jo Tryz.f121 0) M_ x=Wh.DW x:=by intro x;kernel_rfl
theorem e_q61:EV C_q61 TZ Tryz.f121 [.v I6] [.v .str] Wh.A4:=by intro xs;kernel_rfl
theorem ok_q61:CO G4:=con_ok (Ls:=[M_]) mixed (e_ _ _) fk Tryz.func121 (loopsL_cons (by kernel_rfl) (loopD_ok abS) (loopsL_nil (by kernel_rfl))) (boxesL_none (by kernel_rfl)) e_q61
theorem SC:FK G4:=fun _ _ h=>h.cons G4 (by kernel_rfl) Wh.Gu ok_q61
def JV:iq:=⟨174,[.d (.lst an),.v I6],[.v I6],Wh.q40,Wh.q40'⟩
def C_q40:Cx:=⟨eA,[G4.entry],true,Gl⟩
def M8:b8:=kS ⟨[(5,.leaf I6),(0,.whole 950 an),(1,.leaf I6)],[(950,false,.rows an)]⟩ [((.exit 0),⟨[(1,.leaf I6)],[(950,false,.rows an)]⟩)] Wh.Vw Wh.DO
def TS:LT:=[(2,M8)]
theorem abQ:∀x,round C_q40 TS (jo Tryz.f174 0) M8 x=Wh.DO x:=by intro x;kernel_rfl
theorem e_q40:EV C_q40 TS Tryz.f174 [.d (.lst an),.v I6] [.v I6] Wh.q40:=by intro xs;kernel_rfl
theorem ok_q40:CO JV:=con_ok (Ls:=[M8]) mixed (e_ _ _) (SC _ Ci) Tryz.func174 (loopsL_cons (by kernel_rfl) (loopD_ok abQ) (loopsL_nil (by kernel_rfl))) (boxesL_none (by kernel_rfl)) e_q40
theorem fk_q40:FK JV:=fun _ _ h=>h.cons JV (by kernel_rfl) Wh.q40_v ok_q40
def KC:iq:=⟨90,[.d bx,.v I6],[.v I6],Wh.q86,Wh.q86'⟩
def C_q86:Cx:=⟨eA,[JV.entry],true,Gl⟩
def lt_q86:LT:=[]
theorem e_q86:EV C_q86 lt_q86 Tryz.f90 [.d bx,.v I6] [.v I6] Wh.q86:=by intro xs;kernel_rfl
theorem ok_q86:CO KC:=con_ok (Ls:=[]) mixed (e_ _ _) (fk_q40 _ Ci) Tryz.func90 (loopsL_nil (by kernel_rfl)) (boxesL_none (by kernel_rfl)) e_q86
theorem fk_q86:FK KC:=fun _ _ h=>h.cons KC (by kernel_rfl) Wh.q86_v ok_q86
def JJ:iq:=⟨175,[.d (.lst ct),.v I6],[.v I6],Wh.q26,Wh.q26'⟩
def C_q26:Cx:=⟨eA,[],true,Gl⟩
def M7:b8:=kS ⟨[(5,.leaf I6),(0,.whole 950 ct),(1,.leaf I6)],[(950,false,.rows ct)]⟩ [((.exit 0),⟨[(1,.leaf I6)],[(950,false,.rows ct)]⟩)] Wh.Vn Wh.DK
def TK:LT:=[(2,M7)]
theorem abP:∀x,round C_q26 TK (jo Tryz.f175 0) M7 x=Wh.DK x:=by intro x;kernel_rfl
theorem e_q26:EV C_q26 TK Tryz.f175 [.d (.lst ct),.v I6] [.v I6] Wh.q26:=by intro xs;kernel_rfl
theorem ok_q26:CO JJ:=con_ok (Ls:=[M7]) mixed (e_ _ _) Ci Tryz.func175 (loopsL_cons (by kernel_rfl) (loopD_ok abP) (loopsL_nil (by kernel_rfl))) (boxesL_none (by kernel_rfl)) e_q26
theorem fk_q26:FK JJ:=fun _ _ h=>h.cons JJ (by kernel_rfl) Wh.q26_v ok_q26
def Ka:iq:=⟨91,[.d fN,.v I6],[.v I6],Wh.q60,Wh.q60'⟩
def C_q60:Cx:=⟨eA,[JJ.entry],true,Gl⟩
def lt_q60:LT:=[]
theorem e_q60:EV C_q60 lt_q60 Tryz.f91 [.d fN,.v I6] [.v I6] Wh.q60:=by intro xs;kernel_rfl
theorem ok_q60:CO Ka:=con_ok (Ls:=[]) mixed (e_ _ _) (fk_q26 _ Ci) Tryz.func91 (loopsL_nil (by kernel_rfl)) (boxesL_none (by kernel_rfl)) e_q60
theorem fk_q60:FK Ka:=fun _ _ h=>h.cons Ka (by kernel_rfl) Wh.q60_v ok_q60
def JB:iq:=⟨92,[.d (.lst fT),.v I6],[.v I6],Wh.q18,Wh.q18'⟩
def C_q18:Cx:=⟨eA,[],true,Gl⟩
def M6:b8:=kS ⟨[(5,.leaf I6),(0,.whole 950 fT),(1,.leaf I6)],[(950,false,.rows fT)]⟩ [((.exit 0),⟨[(1,.leaf I6)],[(950,false,.rows fT)]⟩)] Wh.Vj Wh.DH
def TG:LT:=[(2,M6)]
theorem abO:∀x,round C_q18 TG (jo Tryz.f92 0) M6 x=Wh.DH x:=by intro x;kernel_rfl
theorem e_q18:EV C_q18 TG Tryz.f92 [.d (.lst fT),.v I6] [.v I6] Wh.q18:=by intro xs;kernel_rfl
theorem ok_q18:CO JB:=con_ok (Ls:=[M6]) mixed (e_ _ _) Ci Tryz.func92 (loopsL_cons (by kernel_rfl) (loopD_ok abO) (loopsL_nil (by kernel_rfl))) (boxesL_none (by kernel_rfl)) e_q18
theorem fk_q18:FK JB:=fun _ _ h=>h.cons JB (by kernel_rfl) Wh.q18_v ok_q18
def JK:iq:=⟨93,[.d (.lst gd),.v I6],[.v I6],Wh.q27,Wh.q27'⟩
def C_q27:Cx:=⟨eA,[],true,Gl⟩
def M9:b8:=kS ⟨[(5,.leaf I6),(0,.whole 950 gd),(1,.leaf I6)],[(950,false,.rows gd)]⟩ [((.exit 0),⟨[(1,.leaf I6)],[(950,false,.rows gd)]⟩)] Wh.Vo Wh.DL
def TL:LT:=[(2,M9)]
theorem abR:∀x,round C_q27 TL (jo Tryz.f93 0) M9 x=Wh.DL x:=by intro x;kernel_rfl
theorem e_q27:EV C_q27 TL Tryz.f93 [.d (.lst gd),.v I6] [.v I6] Wh.q27:=by intro xs;kernel_rfl
theorem ok_q27:CO JK:=con_ok (Ls:=[M9]) mixed (e_ _ _) Ci Tryz.func93 (loopsL_cons (by kernel_rfl) (loopD_ok abR) (loopsL_nil (by kernel_rfl))) (boxesL_none (by kernel_rfl)) e_q27
theorem fk_q27:FK JK:=fun _ _ h=>h.cons JK (by kernel_rfl) Wh.q27_v ok_q27
def JL:iq:=⟨21,[.d cx,.v I6],[.v I6],Wh.CJ,Wh.LS⟩
def C_q28:Cx:=⟨eA,[JK.entry,JB.entry,Ka.entry,KC.entry],true,Gl⟩
def lt_q28:LT:=[]
theorem e_q28:EV C_q28 lt_q28 Tryz.f21 [.d cx,.v I6] [.v I6] Wh.CJ:=by intro xs;kernel_rfl
theorem ok_q28:CO JL:=con_ok (Ls:=[]) mixed (e_ _ _) (fk_q27 _ (fk_q18 _ (fk_q60 _ (fk_q86 _ Ci)))) Tryz.func21 (loopsL_nil (by kernel_rfl)) (boxesL_none (by kernel_rfl)) e_q28
theorem fk_q28:FK JL:=fun _ _ h=>h.cons JL (by kernel_rfl) Wh.Qx ok_q28
def JT:iq:=⟨176,[.v (.lst an),.v I6],[.v I6],Wh.q39,Wh.q39'⟩
def C_q39:Cx:=⟨eA,[G4.entry],false,Gl⟩
def M4:b8:=kS ⟨[(5,.leaf I6),(0,.leaf (.lst an)),(1,.leaf I6)],[]⟩ [(.ret,⟨[(4,.leaf I6)],[]⟩),((.exit 0),⟨[(1,.leaf I6)],[]⟩)] Wh.Vu Wh.DN
def TR:LT:=[(2,M4)]
theorem abM:∀x,round C_q39 TR (jo Tryz.f176 0) M4 x=Wh.DN x:=by intro x;kernel_rfl
theorem e_q39:EV C_q39 TR Tryz.f176 [.v (.lst an),.v I6] [.v I6] Wh.q39:=by intro xs;kernel_rfl
theorem ok_q39:CO JT:=con_ok (Ls:=[M4]) mixed (e_ _ _) (SC _ fk) Tryz.func176 (loopsL_cons (by kernel_rfl) (loopD_ok abM) (loopsL_nil (by kernel_rfl))) (boxesL_none (by kernel_rfl)) e_q39
theorem fk_q39:FK JT:=fun _ _ h=>h.cons JT (by kernel_rfl) Wh.q39_v ok_q39
def KB:iq:=⟨94,[.v bx,.v I6],[.v I6],Wh.q85,Wh.q85'⟩
def C_q85:Cx:=⟨eA,[JT.entry],false,Gl⟩
def lt_q85:LT:=[]
theorem e_q85:EV C_q85 lt_q85 Tryz.f94 [.v bx,.v I6] [.v I6] Wh.q85:=by intro xs;kernel_rfl
theorem ok_q85:CO KB:=con_ok (Ls:=[]) mixed (e_ _ _) (fk_q39 _ fk) Tryz.func94 (loopsL_nil (by kernel_rfl)) (boxesL_none (by kernel_rfl)) e_q85
theorem fk_q85:FK KB:=fun _ _ h=>h.cons KB (by kernel_rfl) Wh.q85_v ok_q85
def JG:iq:=⟨177,[.v (.lst ct),.v I6],[.v I6],Wh.q23,Wh.q23'⟩
def C_q23:Cx:=⟨eA,[],false,Gl⟩
def M3:b8:=kS ⟨[(5,.leaf I6),(0,.leaf (.lst ct)),(1,.leaf I6)],[]⟩ [(.ret,⟨[(4,.leaf I6)],[]⟩),((.exit 0),⟨[(1,.leaf I6)],[]⟩)] Wh.Vl Wh.DI
def TH:LT:=[(2,M3)]
theorem abL:∀x,round C_q23 TH (jo Tryz.f177 0) M3 x=Wh.DI x:=by intro x;kernel_rfl
theorem e_q23:EV C_q23 TH Tryz.f177 [.v (.lst ct),.v I6] [.v I6] Wh.q23:=by intro xs;kernel_rfl
theorem ok_q23:CO JG:=con_ok (Ls:=[M3]) mixed (e_ _ _) fk Tryz.func177 (loopsL_cons (by kernel_rfl) (loopD_ok abL) (loopsL_nil (by kernel_rfl))) (boxesL_none (by kernel_rfl)) e_q23
theorem fk_q23:FK JG:=fun _ _ h=>h.cons JG (by kernel_rfl) Wh.q23_v ok_q23
def J9:iq:=⟨95,[.v fN,.v I6],[.v I6],Wh.q59,Wh.q59'⟩
def C_q59:Cx:=⟨eA,[JG.entry],false,Gl⟩
def lt_q59:LT:=[]
theorem e_q59:EV C_q59 lt_q59 Tryz.f95 [.v fN,.v I6] [.v I6] Wh.q59:=by intro xs;kernel_rfl
theorem ok_q59:CO J9:=con_ok (Ls:=[]) mixed (e_ _ _) (fk_q23 _ fk) Tryz.func95 (loopsL_nil (by kernel_rfl)) (boxesL_none (by kernel_rfl)) e_q59
theorem fk_q59:FK J9:=fun _ _ h=>h.cons J9 (by kernel_rfl) Wh.q59_v ok_q59
def JA:iq:=⟨96,[.v (.lst fT),.v I6],[.v I6],Wh.q17,Wh.q17'⟩
def C_q17:Cx:=⟨eA,[],false,Gl⟩
def M1:b8:=kS ⟨[(5,.leaf I6),(0,.leaf (.lst fT)),(1,.leaf I6)],[]⟩ [(.ret,⟨[(4,.leaf I6)],[]⟩),((.exit 0),⟨[(1,.leaf I6)],[]⟩)] Wh.Vi Wh.DG
def TF:LT:=[(2,M1)]
theorem abK:∀x,round C_q17 TF (jo Tryz.f96 0) M1 x=Wh.DG x:=by intro x;kernel_rfl
theorem e_q17:EV C_q17 TF Tryz.f96 [.v (.lst fT),.v I6] [.v I6] Wh.q17:=by intro xs;kernel_rfl
theorem ok_q17:CO JA:=con_ok (Ls:=[M1]) mixed (e_ _ _) fk Tryz.func96 (loopsL_cons (by kernel_rfl) (loopD_ok abK) (loopsL_nil (by kernel_rfl))) (boxesL_none (by kernel_rfl)) e_q17
theorem fk_q17:FK JA:=fun _ _ h=>h.cons JA (by kernel_rfl) Wh.q17_v ok_q17
def JH:iq:=⟨97,[.v (.lst gd),.v I6],[.v I6],Wh.q24,Wh.q24'⟩
def C_q24:Cx:=⟨eA,[],false,Gl⟩
def M5:b8:=kS ⟨[(5,.leaf I6),(0,.leaf (.lst gd)),(1,.leaf I6)],[]⟩ [(.ret,⟨[(4,.leaf I6)],[]⟩),((.exit 0),⟨[(1,.leaf I6)],[]⟩)] Wh.Vm Wh.DJ
def TJ:LT:=[(2,M5)]
theorem abN:∀x,round C_q24 TJ (jo Tryz.f97 0) M5 x=Wh.DJ x:=by intro x;kernel_rfl
theorem e_q24:EV C_q24 TJ Tryz.f97 [.v (.lst gd),.v I6] [.v I6] Wh.q24:=by intro xs;kernel_rfl
theorem ok_q24:CO JH:=con_ok (Ls:=[M5]) mixed (e_ _ _) fk Tryz.func97 (loopsL_cons (by kernel_rfl) (loopD_ok abN) (loopsL_nil (by kernel_rfl))) (boxesL_none (by kernel_rfl)) e_q24
theorem fk_q24:FK JH:=fun _ _ h=>h.cons JH (by kernel_rfl) Wh.q24_v ok_q24
def JI:iq:=⟨22,[.v cx,.v I6],[.v I6],Wh.CI,Wh.q25'⟩
def C_q25:Cx:=⟨eA,[JH.entry,JA.entry,J9.entry,KB.entry],false,Gl⟩
def lt_q25:LT:=[]
theorem e_q25:EV C_q25 lt_q25 Tryz.f22 [.v cx,.v I6] [.v I6] Wh.CI:=by intro xs;kernel_rfl
theorem ok_q25:CO JI:=con_ok (Ls:=[]) mixed (e_ _ _) (fk_q24 _ (fk_q17 _ (fk_q59 _ (fk_q85 _ fk)))) Tryz.func22 (loopsL_nil (by kernel_rfl)) (boxesL_none (by kernel_rfl)) e_q25
theorem fk_q25:FK JI:=fun _ _ h=>h.cons JI (by kernel_rfl) Wh.q25_v ok_q25
def Jq:iq:=⟨271,[.v .str],[.v .bool],Wh.Fb,Wh.P_⟩
def C_q139:Cx:=⟨eA,[Eh.entry],false,Gl⟩
def YO:LT:=[]
theorem e_q139:EV C_q139 YO Tryz.f271 [.v .str] [.v .bool] Wh.Fb:=by intro xs;kernel_rfl
theorem ZN:CO Jq:=con_ok (Ls:=[]) mixed (e_ _ _) (K5 _ fk) Tryz.func271 (loopsL_nil (by kernel_rfl)) (boxesL_none (by kernel_rfl)) e_q139
theorem Xt:FK Jq:=fun _ _ h=>h.cons Jq (by kernel_rfl) Wh.U8 ZN
def Jc:iq:=⟨182,[.v .str,.v .str],[.v .str,.v .bool],Wh.EY,Wh.PA⟩
def C_q116:Cx:=⟨eA,[GP.entry,Ai.entry,Jq.entry,Eh.entry],false,Gl⟩
def YB:LT:=[]
theorem e_q116:EV C_q116 YB Tryz.f182 [.v .str,.v .str] [.v .str,.v .bool] Wh.EY:=by intro xs;kernel_rfl
theorem Zp:CO Jc:=con_ok (Ls:=[]) mixed (e_ _ _) (Sm _ (Bb _ (Xt _ (K5 _ fk)))) Tryz.func182 (loopsL_nil (by kernel_rfl)) (boxesL_none (by kernel_rfl)) e_q116
theorem Xg:FK Jc:=fun _ _ h=>h.cons Jc (by kernel_rfl) Wh.UI Zp
def IW:iq:=⟨191,[.v .str,.v .str],[.v .str,.v .bool],Wh.ER,Wh.Pf⟩
def C_q103:Cx:=⟨eA,[G6.entry,Ax.entry,G5.entry],false,Gl⟩
def Yp:LT:=[]
theorem e_q103:EV C_q103 Yp Tryz.f191 [.v .str,.v .str] [.v .str,.v .bool] Wh.ER:=by intro xs;kernel_rfl
theorem Zc:CO IW:=con_ok (Ls:=[]) mixed (e_ _ _) (SE _ (Bw _ (SD _ fk))) Tryz.func191 (loopsL_nil (by kernel_rfl)) (boxesL_none (by kernel_rfl)) e_q103
theorem W6:FK IW:=fun _ _ h=>h.cons IW (by kernel_rfl) Wh.Uw Zc
def Jf:iq:=⟨102,[.v cx,.v .str],[.v cx,.v I6],Wh.E0,Wh.PI⟩
def C_q119:Cx:=⟨eA,[GQ.entry,Jc.entry],false,Gl⟩
def YC:LT:=[]
theorem e_q119:EV C_q119 YC Tryz.f102 [.v cx,.v .str] [.v cx,.v I6] Wh.E0:=by intro xs;kernel_rfl
theorem Zt:CO Jf:=con_ok (Ls:=[]) mixed (e_ _ _) (Sn _ (Xg _ fk)) Tryz.func102 (loopsL_nil (by kernel_rfl)) (boxesL_none (by kernel_rfl)) e_q119
theorem Xj:FK Jf:=fun _ _ h=>h.cons Jf (by kernel_rfl) Wh.UP Zt
def Ja:iq:=⟨105,[.v bx,.v I6,.v .str],[.v an,.v .bool],Wh.Cp,Wh.Py⟩
def C_q114:Cx:=⟨eA,[FP.entry,FQ.entry],false,Gl⟩
def Yz:LT:=[]
theorem e_q114:EV C_q114 Yz Tryz.f105 [.v bx,.v I6,.v .str] [.v an,.v .bool] Wh.Cp:=by intro xs;kernel_rfl
theorem Zn:CO Ja:=con_ok (Ls:=[]) mixed (e_ _ _) (N_ _ (Oa _ fk)) Tryz.func105 (loopsL_nil (by kernel_rfl)) (boxesL_none (by kernel_rfl)) e_q114
theorem Xe:FK Ja:=fun _ _ h=>h.cons Ja (by kernel_rfl) Wh.Pz Zn
def KK:iq:=⟨106,[.v fN,.v I6],[.v (.pair (.own ct) (.pair I6 .unit))],Wh.q94,Wh.q94'⟩
def C_q94:Cx:=⟨eA,[G7.entry],false,Gl⟩
def Nx:b8:=kS ⟨[(6,.leaf I6),(5,.aZ z0 []),(1,.leaf I6),(4,.aZ z1 [])],[(z0,false,.var fN (.pair (.whole z2 ct) (.leaf (.pair I6 .unit)))),(z1,false,.var fN (.pair (.whole z3 ct) (.pair (.leaf I6) (.leaf .unit)))),(z2,false,.rows ct),(z3,false,.rows ct)]⟩ [((.exit 0),⟨[(4,.aZ z0 []),(5,.aZ z1 [])],[(z0,false,.var fN (.pair (.whole z2 ct) (.pair (.leaf I6) (.leaf .unit)))),(z1,false,.var fN (.pair (.whole z3 ct) (.leaf (.pair I6 .unit)))),(z2,false,.rows ct),(z3,false,.rows ct)]⟩)] Wh.VY Wh.D6
def T_:LT:=[(3,Nx)]
theorem acg:∀x,round C_q94 T_ (jo Tryz.f106 0) Nx x=Wh.D6 x:=by intro x;kernel_rfl
theorem e_q94:EV C_q94 T_ Tryz.f106 [.v fN,.v I6] [.v (.pair (.own ct) (.pair I6 .unit))] Wh.q94:=by intro xs;kernel_rfl
theorem ok_q94:CO KK:=con_ok (Ls:=[Nx]) mixed (e_ _ _) (SF _ fk) Tryz.func106 (loopsL_cons (by kernel_rfl) (loopD_ok acg) (loopsL_nil (by kernel_rfl))) (boxesL_none (by kernel_rfl)) e_q94
theorem fk_q94:FK KK:=fun _ _ h=>h.cons KK (by kernel_rfl) Wh.q94_v ok_q94
def JM:iq:=⟨27,[.v cx,.v I6,.v .str],[.v cx,.v I6],Wh.CK,Wh.q29'⟩
def C_q29:Cx:=⟨eA,[KK.entry,Jf.entry,G1.entry,Ja.entry,KL.entry,Kk.entry],false,Gl⟩
def lt_q29:LT:=[]
theorem e_q29:EV C_q29 lt_q29 Tryz.f27 [.v cx,.v I6,.v .str] [.v cx,.v I6] Wh.CK:=by intro xs;kernel_rfl
theorem ok_q29:CO JM:=con_ok (Ls:=[]) mixed (e_ _ _) (fk_q94 _ (Xj _ (Sz _ (Xe _ (fk_q95 _ (fk_q70 _ fk)))))) Tryz.func27 (loopsL_nil (by kernel_rfl)) (boxesL_none (by kernel_rfl)) e_q29
theorem fk_q29:FK JM:=fun _ _ h=>h.cons JM (by kernel_rfl) Wh.q29_v ok_q29
def JQ:iq:=⟨195,[.v fN,.v I6],[.v (.pair (.own ct) (.pair I6 .unit))],Wh.q34,Wh.q34'⟩
def C_q34:Cx:=⟨eA,[GZ.entry],false,Gl⟩
def MI:b8:=kS ⟨[(13,.leaf I6),(5,.aZ z0 []),(1,.leaf I6),(11,.whole z1 ct),(4,.aZ z2 []),(12,.leaf I6)],[(z0,false,.var fN (.pair (.whole z1 ct) (.leaf (.pair I6 .unit)))),(z1,false,.rows ct),(z2,false,.var fN (.pair (.whole z3 ct) (.pair (.leaf I6) (.leaf .unit)))),(z3,false,.rows ct)]⟩ [((.exit 0),⟨[(4,.aZ z0 []),(5,.aZ z1 [])],[(z0,false,.var fN (.pair (.whole z2 ct) (.pair (.leaf I6) (.leaf .unit)))),(z1,false,.var fN (.pair (.whole z3 ct) (.leaf (.pair I6 .unit)))),(z2,false,.rows ct),(z3,false,.rows ct)]⟩)] Wh.Vr Wh.DM
def TN:LT:=[(3,MI)]
theorem abr:∀x,round C_q34 TN (jo Tryz.f195 0) MI x=Wh.DM x:=by intro x;kernel_rfl
theorem e_q34:EV C_q34 TN Tryz.f195 [.v fN,.v I6] [.v (.pair (.own ct) (.pair I6 .unit))] Wh.q34:=by intro xs;kernel_rfl
theorem ok_q34:CO JQ:=con_ok (Ls:=[MI]) mixed (e_ _ _) (Sx _ fk) Tryz.func195 (loopsL_cons (by kernel_rfl) (loopD_ok abr) (loopsL_nil (by kernel_rfl))) (boxesL_none (by kernel_rfl)) e_q34
theorem fk_q34:FK JQ:=fun _ _ h=>h.cons JQ (by kernel_rfl) Wh.q34_v ok_q34
def Jr:iq:=⟨107,[.v cx,.v I6,.v .str],[.d cx,.v I6],Wh.q14,Wh.q14'⟩
def C_q14:Cx:=⟨eA,[JQ.entry,G3.entry,IW.entry,GY.entry,FU.entry,Jy.entry],true,Gl⟩
def lt_q14:LT:=[]
theorem e_q14:EV C_q14 lt_q14 Tryz.f107 [.v cx,.v I6,.v .str] [.d cx,.v I6] Wh.q14:=by intro xs;kernel_rfl
theorem ok_q14:CO Jr:=con_ok (Ls:=[]) mixed (e_ _ _) (fk_q34 _ (SB _ (W6 _ (Sw _ (Oc _ (fk_q15 _ Ci)))))) Tryz.func107 (loopsL_nil (by kernel_rfl)) (boxesL_none (by kernel_rfl)) e_q14
theorem fk_q14:FK Jr:=fun _ _ h=>h.cons Jr (by kernel_rfl) Wh.q14_v ok_q14
def JF:iq:=⟨28,[.v cx,.v I6,.v .str],[.d cx,.v I6],Wh.CH,Wh.q22'⟩
def C_q22:Cx:=⟨eA,[Jr.entry,J1.entry],true,Gl⟩
def lt_q22:LT:=[]
theorem e_q22:EV C_q22 lt_q22 Tryz.f28 [.v cx,.v I6,.v .str] [.d cx,.v I6] Wh.CH:=by intro xs;kernel_rfl
theorem ok_q22:CO JF:=con_ok (Ls:=[]) mixed (e_ _ _) (fk_q14 _ (fk_q50 _ Ci)) Tryz.func28 (loopsL_nil (by kernel_rfl)) (boxesL_none (by kernel_rfl)) e_q22
theorem fk_q22:FK JF:=fun _ _ h=>h.cons JF (by kernel_rfl) Wh.q22_v ok_q22
def K_q5:iq:=⟨7,[.v cx,.v I6,.v .str],[.v .bool],Wh.q5,Wh.q5'⟩
def C_q5:Cx:=⟨eA,[JI.entry,JL.entry,J8.entry,JF.entry,JM.entry,Kh.entry,Kd.entry],false,Gl⟩
def lt_q5:LT:=[]
theorem e_q5:EV C_q5 lt_q5 Tryz.f7 [.v cx,.v I6,.v .str] [.v .bool] Wh.q5:=by intro xs;kernel_rfl
theorem ok_q5:CO K_q5:=con_ok (Ls:=[]) mixed (e_ _ _) (fk_q25 _ (fk_q28 _ (fk_q58 _ (fk_q22 _ (fk_q29 _ (fk_q68 _ (fk_q64 _ fk))))))) Tryz.func7 (loopsL_nil (by kernel_rfl)) (boxesL_none (by kernel_rfl)) e_q5
end
end Go.Proofs.AV
