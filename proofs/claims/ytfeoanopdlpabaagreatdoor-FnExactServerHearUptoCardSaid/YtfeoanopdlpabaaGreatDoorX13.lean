import Derived.Test.YtfeoanopdlpabaaGreatDoorX12
import Derived.Test.YtfeoanopdlpabaaGreatDoorProg
import Derived.KernelRfl
open Go Go.Ab
namespace Go.Proofs.B4
noncomputable section
def nc:List (Nat×TI):=[(2,⟨(.int .i64),0⟩),(3,⟨(.int .i64),0⟩),(4,⟨.bool,0⟩),(5,⟨(.int .u8),0⟩),(6,⟨(.int .u8),0⟩),(7,⟨RN,1⟩),(8,⟨RN,1⟩),(9,⟨.str,0⟩),(10,⟨.str,0⟩),(11,⟨.str,0⟩),(12,⟨(.int .u64),0⟩),(13,⟨RO,0⟩),(14,⟨RO,0⟩),(21,⟨(.int .i32),0⟩),(455,⟨(.int .i32),0⟩),(454,⟨(.int .i32),0⟩),(422,⟨(.ref (.int .u8)),0⟩),(452,⟨(.int .u8),0⟩),(451,⟨(.int .u8),0⟩),(345,⟨(.int .u32),0⟩),(118,⟨an,1⟩),(260,⟨an,1⟩),(22,⟨(.lst an),0⟩),(23,⟨fN,0⟩),(24,⟨fN,0⟩),(122,⟨e_,1⟩),(282,⟨e_,1⟩),(25,⟨(.lst e_),0⟩),(26,⟨lg,0⟩),(27,⟨lg,0⟩),(126,⟨eA,1⟩),(204,⟨eA,1⟩),(28,⟨(.lst eA),0⟩),(134,⟨cr,1⟩),(206,⟨cr,1⟩),(29,⟨(.lst cr),0⟩),(30,⟨fk,0⟩),(31,⟨fk,0⟩),(119,⟨an,1⟩),(34,⟨(.lst an),0⟩),(35,⟨fN,0⟩),(36,⟨fN,0⟩),(123,⟨e_,1⟩),(37,⟨(.lst e_),0⟩),(38,⟨lg,0⟩),(39,⟨lg,0⟩),(127,⟨eA,1⟩),(40,⟨(.lst eA),0⟩),(135,⟨cr,1⟩),(41,⟨(.lst cr),0⟩),(42,⟨fk,0⟩),(43,⟨fk,0⟩),(56,⟨(.lst (.int .i64)),0⟩),(57,⟨s_,0⟩),(58,⟨s_,0⟩),(320,⟨I_,0⟩),(340,⟨I_,0⟩),(59,⟨(.lst I_),0⟩),(60,⟨HC,0⟩),(61,⟨HC,0⟩),(62,⟨HB,0⟩),(63,⟨HB,0⟩),(64,⟨EP,0⟩),(65,⟨EP,0⟩),(66,⟨fT,1⟩),(67,⟨fT,1⟩),(70,⟨s_,0⟩),(321,⟨I_,0⟩),(71,⟨(.lst I_),0⟩),(72,⟨HC,0⟩),(73,⟨HC,0⟩),(74,⟨HB,0⟩),(75,⟨HB,0⟩),(76,⟨EP,0⟩),(77,⟨EP,0⟩),(82,⟨fT,1⟩),(78,⟨(.lst fT),0⟩),(89,⟨(.lst EP),0⟩),(174,⟨Ja,1⟩),(258,⟨Ja,1⟩),(90,⟨(.lst Ja),0⟩),(91,⟨KC,0⟩),(92,⟨KC,0⟩),(95,⟨(.lst EP),0⟩),(175,⟨Ja,1⟩),(96,⟨(.lst Ja),0⟩),(97,⟨KC,0⟩),(98,⟨KC,0⟩),(111,⟨(.lst .str),0⟩),(192,⟨MX,1⟩),(193,⟨MX,1⟩),(189,⟨(.lst MX),0⟩),(256,⟨(.lst (.int .u8)),0⟩),(314,⟨(.ref fk),0⟩),(331,⟨(.int .u64),0⟩),(332,⟨(.ref e_),0⟩),(357,⟨(.int .i64),0⟩),(366,⟨(.int .u64),0⟩),(369,⟨(.int .i64),0⟩),(375,⟨(.arr 24 (.int .u8)),0⟩),(379,⟨(.arr 8 (.int .u32)),0⟩),(380,⟨(.arr 64 (.int .u32)),0⟩),(399,⟨(.int .u64),0⟩),(403,⟨(.ref (.int .i64)),0⟩),(405,⟨(.lst (.int .u32)),0⟩),(416,⟨(.arr 20 (.int .u64)),0⟩),(417,⟨(.arr 65 (.int .u8)),0⟩),(425,⟨(.ref (.int .u64)),0⟩),(432,⟨tEr,1⟩),(433,⟨tEr,1⟩),(431,⟨(.ref tEr),0⟩),(440,⟨(.arr 32 (.int .u8)),0⟩),(441,⟨(.arr 64 (.int .u8)),0⟩),(442,⟨(.arr 256 (.int .u8)),0⟩),(443,⟨RP,1⟩),(444,⟨RP,1⟩)]
theorem tab_ok:cn (fun x=>(cK Tryz.prog x.2.t).1 x.1&&(!(Nat.beq x.2.e 1) || eqB Tryz.prog x.1)) nc=true:=by kernel_rfl
theorem NA (fns:List (Nat×List Ab.Mode×(List Arg→Option Res)))(dp:Bool):bH Tryz.prog ⟨nc,fns,dp,Gl⟩:=cxOk_of tab_ok
theorem mixed:Tryz.prog.follows .mixedOrders=true:=by kernel_rfl
abbrev FT:Type:=List (Nat×List Ab.Mode×(List Arg→Option Res))
abbrev FK (c:iq):Prop:=∀(fns:FT) {dp:Bool},dD Tryz.prog Gb ⟨nc,fns,dp,Gl⟩→dD Tryz.prog Gb ⟨nc,c.entry::fns,dp,Gl⟩
abbrev EV (C:Cx)(lt:List (Nat×b8))(f:Func)(ps:List PT)(ws:List Want)(g:gE ps→Option (jr ws×ij ps)):Prop:=∀xs,evT C lt f ps ws xs=g xs
abbrev CO (c:iq):Prop:=ConOk Tryz.prog Gb c
abbrev LT:Type:=List (Nat×b8)
def gT:LT:=[]
abbrev z0:Nat:=500000000
abbrev z1:Nat:=500000001
abbrev z2:Nat:=500000002
abbrev z3:Nat:=500000003
abbrev I6:Ty:=.int .i64
abbrev I8:Ty:=.int .u8
abbrev I3:Ty:=.int .u32
theorem fe:dD Tryz.prog Gb ⟨nc,[],false,Gl⟩:=dD.nil nc false gl_ok
theorem wl {c:iq}{F:FT}{b:Bool}{fn:Func}{Ls:List b8}{lt:LT}(hv:∀x y,c.fn x=some y→c.val x=y)(hF:dD Tryz.prog Gb ⟨nc,F,b,Gl⟩)(hf:Tryz.prog.funcs[c.id]?=some fn)(hlo:iW ⟨nc,F,b,Gl⟩ lt fn 0 Ls)(hbx:∀b'∈fE (gF fn),jQ ⟨nc,F,b,Gl⟩ lt b')(hev:∀xs,evT ⟨nc,F,b,Gl⟩ lt fn c.ps c.ws xs=c.fn xs:=by intro xs;kernel_rfl)(he:fnB Tryz.prog c.id=true:=by kernel_rfl):FK c:=fun _ _ h=>h.cons c he hv (con_ok mixed (NA _ _) hF hf hlo hbx hev)
theorem D_:dD Tryz.prog Gb ⟨nc,[],true,Gl⟩:=dD.nil nc true gl_ok
def Sg:iq:=⟨229,[.v an,.v I6],[.v I6],Wh.IB,Wh.Pz⟩
theorem aaz:FK Sg:=wl (lt:=gT) Wh.PA fe Tryz.func229 loopsL_nil boxesL_none
def K_q105:iq:=⟨125,[.v (.lst an),.v I6],[.v I6],Wh.Im,Wh.OR⟩
def C_q105:Cx:=⟨nc,[Sg.entry],false,Gl⟩
def Th:b8:=kS ⟨[(5,.leaf I6),(1,.leaf I6),(0,.leaf (.lst an))],[]⟩ [(.ret,⟨[(4,.leaf I6)],[]⟩),((.exit 0),⟨[(1,.leaf I6)],[]⟩)] Wh.OT Wh.Fi
def VG:LT:=[(5,Th)]
theorem aey:∀x,round C_q105 VG (jo Tryz.f125 0) Th x=Wh.Fi x:=by intro x;kernel_rfl
theorem aac:FK K_q105:=wl (lt:=VG) Wh.W4 (aaz _ fe) Tryz.func125 (loopsC (loopD_ok aey) loopsL_nil) boxesL_none
def K_q161:iq:=⟨54,[.v fN,.v I6],[.v I6],Wh.IP,Wh.Qj⟩
theorem aaU:FK K_q161:=wl (lt:=gT) Wh.XT (aac _ fe) Tryz.func54 loopsL_nil boxesL_none
def K_q79:iq:=⟨149,[.v (.lst e_),.v I6],[.v I6],Wh.q79,Wh.q79'⟩
theorem fk_q79:FK K_q79:=wl (lt:=gT) Wh.q79_v fe Tryz.func149 loopsL_nil boxesL_none
def K_q134:iq:=⟨55,[.v lg,.v I6],[.v I6],Wh.IC,Wh.PB⟩
theorem aaA:FK K_q134:=wl (lt:=gT) Wh.Xu (fk_q79 _ fe) Tryz.func55 loopsL_nil boxesL_none
def K_q56:iq:=⟨56,[.v (.lst eA),.v I6],[.v I6],Wh.q56,Wh.q56'⟩
theorem fk_q56:FK K_q56:=wl (lt:=gT) Wh.q56_v fe Tryz.func56 loopsL_nil boxesL_none
def K_q80:iq:=⟨57,[.v (.lst cr),.v I6],[.v I6],Wh.q80,Wh.q80'⟩
theorem fk_q80:FK K_q80:=wl (lt:=gT) Wh.q80_v fe Tryz.func57 loopsL_nil boxesL_none
def K_q81:iq:=⟨14,[.v fk,.v I6],[.v I6],Wh.q81,Wh.q81'⟩
theorem fk_q81:FK K_q81:=wl (lt:=gT) Wh.q81_v (fk_q80 _ (fk_q56 _ (aaA _ (aaU _ fe)))) Tryz.func14 loopsL_nil boxesL_none
def Sj:iq:=⟨232,[.v an],[.v an],Wh.J8,Wh.PD⟩
theorem aaC:FK Sj:=wl (lt:=gT) Wh.Xw fe Tryz.func232 loopsL_nil boxesL_none
def K_q107:iq:=⟨129,[.v (.lst an)],[.v (.own an)],Wh.Io,Wh.OW⟩
def C_q107:Cx:=⟨nc,[Sj.entry],false,Gl⟩
def Tk:b8:=kS ⟨[(4,.leaf I6),(0,.leaf (.lst an)),(3,.whole z0 an)],[(z0,false,.rows an)]⟩ [((.exit 0),⟨[(3,.whole z0 an)],[(z0,false,.rows an)]⟩)] Wh.W6 Wh.Fj
def VH:LT:=[(3,Tk)]
theorem aeB:∀x,round C_q107 VH (jo Tryz.f129 0) Tk x=Wh.Fj x:=by intro x;kernel_rfl
theorem aae:FK K_q107:=wl (lt:=VH) Wh.W7 (aaC _ fe) Tryz.func129 (loopsC (loopD_ok aeB) loopsL_nil) boxesL_none
def K_q162:iq:=⟨69,[.v fN],[.v (.pair I6 (.pair (.own an) .unit))],Wh.IQ,Wh.Qk⟩
theorem aaV:FK K_q162:=wl (lt:=gT) Wh.XU (aae _ fe) Tryz.func69 loopsL_nil boxesL_none
def R5:iq:=⟨259,[.v e_],[.v e_],Wh.J3,Wh.OU⟩
theorem aad:FK R5:=wl (lt:=gT) Wh.W5 fe Tryz.func259 loopsL_nil boxesL_none
def K_q83:iq:=⟨153,[.v (.lst e_)],[.v (.own e_)],Wh.q83,Wh.q83'⟩
def C_q83:Cx:=⟨nc,[R5.entry],false,Gl⟩
def Tj:b8:=kS ⟨[(4,.leaf I6),(0,.leaf (.lst e_)),(3,.whole z0 e_)],[(z0,false,.rows e_)]⟩ [((.exit 0),⟨[(3,.whole z0 e_)],[(z0,false,.rows e_)]⟩)] Wh.YO Wh.FY
def Wu:LT:=[(3,Tj)]
theorem aeA:∀x,round C_q83 Wu (jo Tryz.f153 0) Tj x=Wh.FY x:=by intro x;kernel_rfl
theorem fk_q83:FK K_q83:=wl (lt:=Wu) Wh.q83_v (aad _ fe) Tryz.func153 (loopsC (loopD_ok aeA) loopsL_nil) boxesL_none
def K_q137:iq:=⟨70,[.v lg],[.v (.pair (.own e_) (.pair I6 .unit))],Wh.IE,Wh.PE⟩
theorem aaD:FK K_q137:=wl (lt:=gT) Wh.Xx (fk_q83 _ fe) Tryz.func70 loopsL_nil boxesL_none
def K_q82:iq:=⟨154,[.v eA],[.v eA],Wh.q82,Wh.q82'⟩
theorem fk_q82:FK K_q82:=wl (lt:=gT) Wh.q82_v fe Tryz.func154 loopsL_nil boxesL_none
def K_q57:iq:=⟨71,[.v (.lst eA)],[.v (.own eA)],Wh.q57,Wh.q57'⟩
def C_q57:Cx:=⟨nc,[K_q82.entry],false,Gl⟩
def Ti:b8:=kS ⟨[(4,.leaf I6),(0,.leaf (.lst eA)),(3,.whole z0 eA)],[(z0,false,.rows eA)]⟩ [((.exit 0),⟨[(3,.whole z0 eA)],[(z0,false,.rows eA)]⟩)] Wh.Yv Wh.FP
def Wl:LT:=[(3,Ti)]
theorem aez:∀x,round C_q57 Wl (jo Tryz.f71 0) Ti x=Wh.FP x:=by intro x;kernel_rfl
theorem fk_q57:FK K_q57:=wl (lt:=Wl) Wh.q57_v (fk_q82 _ fe) Tryz.func71 (loopsC (loopD_ok aez) loopsL_nil) boxesL_none
def R6:iq:=⟨155,[.v cr],[.v cr],Wh.J4,Wh.OY⟩
theorem aaf:FK R6:=wl (lt:=gT) Wh.W8 fe Tryz.func155 loopsL_nil boxesL_none
def K_q84:iq:=⟨72,[.v (.lst cr)],[.v (.own cr)],Wh.q84,Wh.q84'⟩
def C_q84:Cx:=⟨nc,[R6.entry],false,Gl⟩
def Tl:b8:=kS ⟨[(4,.leaf I6),(0,.leaf (.lst cr)),(3,.whole z0 cr)],[(z0,false,.rows cr)]⟩ [((.exit 0),⟨[(3,.whole z0 cr)],[(z0,false,.rows cr)]⟩)] Wh.YP Wh.FZ
def Wv:LT:=[(3,Tl)]
theorem aeC:∀x,round C_q84 Wv (jo Tryz.f72 0) Tl x=Wh.FZ x:=by intro x;kernel_rfl
theorem fk_q84:FK K_q84:=wl (lt:=Wv) Wh.q84_v (aaf _ fe) Tryz.func72 (loopsC (loopD_ok aeC) loopsL_nil) boxesL_none
def K_q85:iq:=⟨16,[.v fk],[.v (.pair .bool (.pair I6 (.pair .str (.pair (.pair I6 (.pair (.own an) .unit)) (.pair (.pair (.own e_) (.pair I6 .unit)) (.pair (.own eA) (.pair (.own cr) .unit)))))))],Wh.EL,Wh.q85'⟩
theorem fk_q85:FK K_q85:=wl (lt:=gT) Wh.q85_v (fk_q84 _ (fk_q57 _ (aaD _ (aaV _ fe)))) Tryz.func16 loopsL_nil boxesL_none
def EX:iq:=⟨58,[.v I6,.v I6,.v I6],[.v .bool],Wh.xV,Wh.s4⟩
theorem B8:FK EX:=wl (lt:=gT) Wh.zY fe Tryz.func58 loopsL_nil boxesL_none
def K_q148:iq:=⟨178,[.v .str,.v I6,.v I8],[.v I6],Wh.zW,Wh.J9⟩
def C_q148:Cx:=⟨nc,[],false,Gl⟩
def T8:b8:=kS ⟨[(7,.leaf I6),(2,.leaf I8),(0,.leaf .str)],[]⟩ [(.ret,⟨[(6,.leaf I6)],[]⟩),((.exit 0),⟨[],[]⟩)] Wh.XJ Wh.Dz
def VS:LT:=[(2,T8)]
theorem afi:∀x,round C_q148 VS (jo Tryz.f178 0) T8 x=Wh.Dz x:=by intro x;kernel_rfl
theorem UA:FK K_q148:=wl (lt:=VS) Wh.DA fe Tryz.func178 (loopsC (loopD_ok afi) loopsL_nil) boxesL_none
def K_q172:iq:=⟨180,[.v .str],[.v I6],Wh.Cm,Wh.Kd⟩
def C_q172:Cx:=⟨nc,[EX.entry],false,Gl⟩
def T7:b8:=kS ⟨[(4,.leaf I6),(0,.leaf .str),(3,.leaf I6)],[]⟩ [(.ret,⟨[(2,.leaf I6)],[]⟩),((.exit 0),⟨[(3,.leaf I6)],[]⟩)] Wh.X7 Wh.FC
def V2:LT:=[(5,T7)]
theorem afh:∀x,round C_q172 V2 (jo Tryz.f180 0) T7 x=Wh.FC x:=by intro x;kernel_rfl
theorem UI:FK K_q172:=wl (lt:=V2) Wh.Hf (B8 _ fe) Tryz.func180 (loopsC (loopD_ok afh) loopsL_nil) boxesL_none
def K5:iq:=⟨189,[.v I6],[.v .str],Wh.Bw,Wh.Av⟩
def Ji (g:((Int))→Option (((List UInt8))×(Unit)))(g':((Int))→((List UInt8))×(Unit)):iq:=⟨189,[.v I6],[.v .str],g,g'⟩
def C_q168 (g:((Int))→Option (((List UInt8))×(Unit)))(g':((Int))→((List UInt8))×(Unit)):Cx:=⟨nc,[(Ji g g').entry],false,Gl⟩
theorem e_q168 (g:((Int))→Option (((List UInt8))×(Unit)))(g':((Int))→((List UInt8))×(Unit)):∀xs,evT (C_q168 g g') gT Tryz.f189 [.v I6] [.v .str] xs=Wh.q43 g g' xs:=by intro xs;kernel_rfl
theorem s_q168 (g:((Int))→Option (((List UInt8))×(Unit)))(g':((Int))→((List UInt8))×(Unit))(hv:∀x y,g x=some y→g' x=y)(h:CO (Ji g g')):CO (Ji (Wh.q43 g g') (fun x=>match Wh.q43 g g' x with | some y=>y|none=>default)):=con_ok (Ls:=[]) mixed (NA _ _) (dD.cons fe (Ji g g') (by kernel_rfl) hv h) Tryz.func189 loopsL_nil boxesL_none (e_q168 g g')
theorem n_q168 (n:Nat):CO (Ji (Wh.BP n) (fun x=>match Wh.BP n x with | some y=>y|none=>default)):=by
 induction n with
 |zero=>intro xs y h;exact absurd (show none=some y from h) (by simp)
 |succ n ih=>
  rw[Wh.Qu n]
  exact s_q168 _ _ (fun x y h=>by simp only[h]) ih
theorem ach:CO K5:=n_q168 20
theorem Lp:FK K5:=fun _ _ h=>h.cons K5 (by kernel_rfl) Wh.Er ach
def K_q90:iq:=⟨423,[.v .str],[.v (.own I8)],Wh.q90,Wh.q90'⟩
def C_q90:Cx:=⟨nc,[],false,Gl⟩
def TW:b8:=kS ⟨[(3,.whole z0 I8),(0,.leaf .str)],[(z0,false,.rows I8)]⟩ [((.exit 0),⟨[(3,.whole z0 I8),(0,.leaf .str)],[(z0,false,.rows I8)]⟩)] Wh.YS Wh.F0
def TX:b8:=kS ⟨[(5,.leaf I6),(4,.leaf I6),(3,.whole z0 I8)],[(z0,false,.rows I8)]⟩ [((.exit 2),⟨[(3,.whole z0 I8)],[(z0,false,.rows I8)]⟩)] Wh.YT Wh.Hq
def Om:LT:=[(2,TW),(6,TX)]
theorem ae9:∀x,round C_q90 Om (jo Tryz.f423 0) TW x=Wh.F0 x:=by intro x;kernel_rfl
theorem ae_:∀x,round C_q90 Om (jo Tryz.f423 1) TX x=Wh.Hq x:=by intro x;kernel_rfl
theorem fk_q90:FK K_q90:=wl (lt:=Om) Wh.q90_v fe Tryz.func423 (loopsC (loopD_ok ae9) (loopsC (loopD_ok ae_) loopsL_nil)) boxesL_none
def Nf:iq:=⟨449,[.v I3,.v I6],[.v I3],Wh.yT,Wh.Ai⟩
theorem Uz:FK Nf:=wl (lt:=gT) Wh.q145_v fe Tryz.func449 loopsL_nil boxesL_none
def Sa:iq:=⟨447,[.v (.lst I8)],[.v (.own I3)],Wh.Ix,Wh.Pg⟩
def R0:Cx:=⟨nc,[Nf.entry],false,Gl⟩
def T0:b8:=kS ⟨[(4,.leaf I6),(0,.leaf (.lst I8)),(3,.whole z0 I3)],[(z0,false,.rows I3)]⟩ [((.exit 0),⟨[(3,.whole z0 I3)],[(z0,false,.rows I3)]⟩)] Wh.Xj Wh.GW
def T3:b8:=kS ⟨[(5,.leaf I6),(3,.whole z0 I3)],[(z0,false,.rows I3)]⟩ [((.exit 2),⟨[(3,.whole z0 I3)],[(z0,false,.rows I3)]⟩)] Wh.Xk Wh.GX
def Og:LT:=[(3,T0),(7,T3)]
theorem afc:∀x,round R0 Og (jo Tryz.f447 0) T0 x=Wh.GW x:=by intro x;kernel_rfl
theorem afd:∀x,round R0 Og (jo Tryz.f447 1) T3 x=Wh.GX x:=by intro x;kernel_rfl
theorem aar:FK Sa:=wl (lt:=Og) Wh.Xl (Uz _ fe) Tryz.func447 (loopsC (loopD_ok afc) (loopsC (loopD_ok afd) loopsL_nil)) boxesL_none
def K_q89:iq:=⟨448,[],[.v (.own I3)],Wh.q89,Wh.q89'⟩
theorem fk_q89:FK K_q89:=wl (lt:=gT) Wh.q89_v fe Tryz.func448 loopsL_nil boxesL_none
def R_:iq:=⟨424,[.v (.lst I3),.v (.lst I8)],[.v (.own I3)],Wh.Iw,Wh.O_⟩
def Na:Cx:=⟨nc,[Nf.entry,K_q89.entry,Sa.entry],false,Gl⟩
def TS:b8:=kS ⟨[(7,.whole z0 I3),(8,.leaf I6),(5,.whole z1 I3),(6,.whole z2 I3),(0,.leaf (.lst I3))],[(z0,false,.rows I3),(z1,false,.rows I3),(z2,false,.rows I3)]⟩ [((.exit 0),⟨[(7,.whole z0 I3),(0,.leaf (.lst I3))],[(z0,false,.rows I3)]⟩)] Wh.Xg Wh.GV
def TT:b8:=kS ⟨[(14,.leaf I6),(7,.whole z0 I3),(5,.whole z1 I3),(6,.whole z2 I3),(0,.leaf (.lst I3)),(8,.leaf I6),(13,.leaf I3),(12,.leaf I3),(11,.leaf I3)],[(z0,false,.rows I3),(z1,false,.rows I3),(z2,false,.rows I3)]⟩ [((.exit 2),⟨[(7,.whole z0 I3),(5,.whole z1 I3),(6,.whole z2 I3),(0,.leaf (.lst I3)),(8,.leaf I6),(13,.leaf I3),(12,.leaf I3),(11,.leaf I3)],[(z0,false,.rows I3),(z1,false,.rows I3),(z2,false,.rows I3)]⟩)] Wh.Pd Wh.J5
def TU:b8:=kS ⟨[(16,.leaf I6),(7,.whole z0 I3),(0,.leaf (.lst I3)),(15,.whole z1 I3)],[(z0,false,.rows I3),(z1,false,.rows I3)]⟩ [((.exit 4),⟨[(15,.whole z0 I3)],[(z0,false,.rows I3)]⟩)] Wh.Xh Wh.J6
def LP:LT:=[(5,TS),(13,TT),(20,TU)]
theorem ae5:∀x,round Na LP (jo Tryz.f424 0) TS x=Wh.GV x:=by intro x;kernel_rfl
theorem ae6:∀x,round Na LP (jo Tryz.f424 1) TT x=Wh.J5 x:=by intro x;kernel_rfl
theorem ae7:∀x,round Na LP (jo Tryz.f424 2) TU x=Wh.J6 x:=by intro x;kernel_rfl
theorem aaq:FK R_:=wl (lt:=LP) Wh.Xi (Uz _ (fk_q89 _ (aar _ fe))) Tryz.func424 (loopsC (loopD_ok ae5) (loopsC (loopD_ok ae6) (loopsC (loopD_ok ae7) loopsL_nil))) boxesL_none
def K_q170:iq:=⟨375,[.v .str],[.v .str],Wh.IU,Wh.Qx⟩
def R2:Cx:=⟨nc,[R_.entry,K_q90.entry],false,Gl⟩
def TY:b8:=kS ⟨[(5,.leaf I6),(4,.whole z0 I8),(3,.whole z1 I3)],[(z0,false,.rows I8),(z1,false,.rows I3)]⟩ [((.exit 0),⟨[(3,.whole z0 I3)],[(z0,false,.rows I3)]⟩)] Wh.X3 Wh.FB
def TZ:b8:=kS ⟨[(7,.leaf I6),(3,.whole z0 I3),(6,.whole z1 I8)],[(z0,false,.rows I3),(z1,false,.rows I8)]⟩ [((.exit 2),⟨[(6,.whole z0 I8)],[(z0,false,.rows I8)]⟩)] Wh.X4 Wh.Kc
def Oi:LT:=[(4,TY),(9,TZ)]
theorem afa:∀x,round R2 Oi (jo Tryz.f375 0) TY x=Wh.FB x:=by intro x;kernel_rfl
theorem afb:∀x,round R2 Oi (jo Tryz.f375 1) TZ x=Wh.Kc x:=by intro x;kernel_rfl
theorem aaZ:FK K_q170:=wl (lt:=Oi) Wh.X5 (aaq _ (fk_q90 _ fe)) Tryz.func375 (loopsC (loopD_ok afa) (loopsC (loopD_ok afb) loopsL_nil)) boxesL_none
def K_q169:iq:=⟨374,[.v .str],[.v .str],Wh.G9,Wh.Mj⟩
def C_q169:Cx:=⟨nc,[],false,Gl⟩
def TV:b8:=kS ⟨[(4,.leaf I6),(0,.leaf .str),(3,.whole z0 I8)],[(z0,false,.rows I8)]⟩ [((.exit 0),⟨[(3,.whole z0 I8)],[(z0,false,.rows I8)]⟩)] Wh.X2 Wh.FA
def V0:LT:=[(3,TV)]
theorem ae8:∀x,round C_q169 V0 (jo Tryz.f374 0) TV x=Wh.FA x:=by intro x;kernel_rfl
theorem aaY:FK K_q169:=wl (lt:=V0) Wh.Qw fe Tryz.func374 (loopsC (loopD_ok ae8) loopsL_nil) boxesL_none
def K_q110:iq:=⟨328,[.v .str],[.v .str],Wh.Ip,Wh.Fk⟩
theorem aah:FK K_q110:=wl (lt:=gT) Wh.W_ (aaY _ (aaZ _ fe)) Tryz.func328 loopsL_nil boxesL_none
def K_q149:iq:=⟨258,[.v I6,.v .str],[.v .str],Wh.IG,Wh.P3⟩
theorem aaM:FK K_q149:=wl (lt:=gT) Wh.P4 (aah _ (Lp _ fe)) Tryz.func258 loopsL_nil boxesL_none
def Sn:iq:=⟨150,[.v .str,.v I6,.v I6],[.v .str,.v I6],Wh.Fs,Wh.P5⟩
theorem aaN:FK Sn:=wl (lt:=gT) Wh.P6 (aaM _ (B8 _ (UI _ (UA _ fe)))) Tryz.func150 loopsL_nil boxesL_none
def Sp:iq:=⟨60,[.v .str],[.v (.own .str),.v I6],Wh.Ft,Wh.Mb⟩
def C_q151:Cx:=⟨nc,[Sn.entry],false,Gl⟩
def T9:b8:=kS ⟨[(5,.leaf I6),(4,.whole z0 .str),(0,.leaf .str)],[(z0,false,.rows .str)]⟩ [(.ret,⟨[(2,.whole z0 .str),(3,.leaf I6)],[(z0,false,.rows .str)]⟩)] Wh.XK Wh.Fu
def VT:LT:=[(3,T9)]
theorem afj:∀x,round C_q151 VT (jo Tryz.f60 0) T9 x=Wh.Fu x:=by intro x;kernel_rfl
theorem UC:FK Sp:=wl (lt:=VT) Wh.P8 (aaN _ fe) Tryz.func60 (loopsC (loopD_ok afj) loopsL_nil) boxesL_none
def K_q146:iq:=⟨179,[.v .str,.v I8],[.v (.own .str)],Wh.Fq,Wh.PV⟩
def C_q146:Cx:=⟨nc,[],false,Gl⟩
def T4:b8:=kS ⟨[(7,.leaf I6),(6,.leaf I6),(0,.leaf .str),(5,.whole z0 .str),(1,.leaf I8)],[(z0,false,.rows .str)]⟩ [((.exit 0),⟨[(6,.leaf I6),(0,.leaf .str),(5,.whole z0 .str)],[(z0,false,.rows .str)]⟩)] Wh.XH Wh.Au
def VQ:LT:=[(4,T4)]
theorem afe:∀x,round C_q146 VQ (jo Tryz.f179 0) T4 x=Wh.Au x:=by intro x;kernel_rfl
theorem aaK:FK K_q146:=wl (lt:=VQ) Wh.PX fe Tryz.func179 (loopsC (loopD_ok afe) loopsL_nil) boxesL_none
def K_q141:iq:=⟨200,[.v .str],[.v .bool],Wh.G2,Wh.L9⟩
def C_q141:Cx:=⟨nc,[EX.entry],false,Gl⟩
def TC:b8:=kS ⟨[(3,.leaf I6),(0,.leaf .str)],[]⟩ [(.ret,⟨[(2,.leaf .bool)],[]⟩),((.exit 0),⟨[(0,.leaf .str)],[]⟩)] Wh.XA Wh.Ej
def VO:LT:=[(2,TC)]
theorem aeR:∀x,round C_q141 VO (jo Tryz.f200 0) TC x=Wh.Ej x:=by intro x;kernel_rfl
theorem Uy:FK K_q141:=wl (lt:=VO) Wh.PJ (B8 _ fe) Tryz.func200 (loopsC (loopD_ok aeR) loopsL_nil) boxesL_none
def SA:iq:=⟨185,[.v an],[.v .bool],Wh.Eu,Wh.IW⟩
theorem NJ:FK SA:=wl (lt:=gT) Wh.FD (Uy _ (B8 _ fe)) Tryz.func185 loopsL_nil boxesL_none
def K_q58:iq:=⟨103,[.v I6,.v .str,.v .str],[.v .str],Wh.q58,Wh.q58'⟩
theorem fk_q58:FK K_q58:=wl (lt:=gT) Wh.Q_ (Lp _ (NJ _ fe)) Tryz.func103 loopsL_nil boxesL_none
def Ng:iq:=⟨272,[.v an,.v I6,.v .str],[.v .bool],Wh.IJ,Wh.Mc⟩
theorem UD:FK Ng:=wl (lt:=gT) Wh.Md fe Tryz.func272 loopsL_nil boxesL_none
def Sb:iq:=⟨187,[.v (.lst an),.v I6],[.v I6],Wh.GY,Wh.L4⟩
def C_q123:Cx:=⟨nc,[],false,Gl⟩
def Ua:b8:=kS ⟨[(6,.leaf I6),(0,.leaf (.lst an)),(5,.leaf I6),(1,.leaf I6)],[]⟩ [((.exit 0),⟨[(5,.leaf I6)],[]⟩)] Wh.Xm Wh.Eg
def VL:LT:=[(3,Ua)]
theorem afl:∀x,round C_q123 VL (jo Tryz.f187 0) Ua x=Wh.Eg x:=by intro x;kernel_rfl
theorem Ux:FK Sb:=wl (lt:=VL) Wh.L5 fe Tryz.func187 (loopsC (loopD_ok afl) loopsL_nil) boxesL_none
def K_q164:iq:=⟨184,[.v fN],[.v .bool],Wh.Fx,Wh.Kb⟩
def Nc:Cx:=⟨nc,[Sb.entry,Ng.entry,SA.entry,EX.entry],false,Gl⟩
def Tx:b8:=kS ⟨[(1,.aZ z0 []),(3,.leaf I6)],[(z0,false,.var fN (.leaf fN))]⟩ [(.ret,⟨[(2,.leaf .bool)],[]⟩),((.exit 0),⟨[(1,.aZ z0 [])],[(z0,false,.var fN (.leaf fN))]⟩)] Wh.XW Wh.En
def Tz:b8:=kS ⟨[(5,.leaf I6),(4,.aZ z0 []),(1,.aZ z1 []),(3,.leaf I6)],[(z0,false,.var an (.leaf an)),(z1,false,.var fN (.leaf fN))]⟩ [(.ret,⟨[(2,.leaf .bool)],[]⟩),((.exit 2),⟨[(1,.aZ z0 []),(3,.leaf I6)],[(z0,false,.var fN (.leaf fN))]⟩)] Wh.XX Wh.Fy
def TA:b8:=kS ⟨[(6,.leaf I6),(1,.aZ z0 [])],[(z0,false,.var fN (.leaf fN))]⟩ [(.ret,⟨[(2,.leaf .bool)],[]⟩),((.exit 4),⟨[],[]⟩)] Wh.XY Wh.G6
def LR:LT:=[(4,Tx),(10,Tz),(15,TA)]
theorem aeO:∀x,round Nc LR (jo Tryz.f184 0) Tx x=Wh.En x:=by intro x;kernel_rfl
theorem aeP:∀x,round Nc LR (jo Tryz.f184 1) Tz x=Wh.Fy x:=by intro x;kernel_rfl
theorem aeQ:∀x,round Nc LR (jo Tryz.f184 2) TA x=Wh.G6 x:=by intro x;kernel_rfl
theorem NH:FK K_q164:=wl (lt:=LR) Wh.Fz (Ux _ (UD _ (NJ _ (B8 _ fe)))) Tryz.func184 (loopsC (loopD_ok aeO) (loopsC (loopD_ok aeP) (loopsC (loopD_ok aeQ) loopsL_nil))) boxesL_none
def K_q175:iq:=⟨186,[.v fN,.v I6,.v .str],[.v I6],Wh.CN,Wh.Ke⟩
def C_q175:Cx:=⟨nc,[],false,Gl⟩
def T_:b8:=kS ⟨[(7,.leaf I6),(2,.leaf .str),(3,.aZ z0 []),(1,.leaf I6)],[(z0,false,.var fN (.leaf fN))]⟩ [(.ret,⟨[(6,.leaf I6)],[]⟩),((.exit 0),⟨[],[]⟩)] Wh.X_ Wh.Et
def V4:LT:=[(2,T_)]
theorem afk:∀x,round C_q175 V4 (jo Tryz.f186 0) T_ x=Wh.Et x:=by intro x;kernel_rfl
theorem NI:FK K_q175:=wl (lt:=V4) Wh.Hg fe Tryz.func186 (loopsC (loopD_ok afk) loopsL_nil) boxesL_none
def K_q152:iq:=⟨170,[.v fN],[.v (.pair I6 (.pair (.own an) .unit))],Wh.DB,Wh.G4⟩
theorem NF:FK K_q152:=wl (lt:=gT) Wh.II fe Tryz.func170 loopsL_nil boxesL_none
def K_q155:iq:=⟨270,[.v fN,.v I6],[.v (.pair I6 (.pair (.own an) .unit))],Wh.IK,Wh.Qa⟩
theorem aaP:FK K_q155:=wl (lt:=gT) Wh.XL fe Tryz.func270 loopsL_nil boxesL_none
def K_q109:iq:=⟨181,[.v fN,.v I6,.v .str],[.v (.pair I6 (.pair (.own an) .unit)),.v I6],Wh.GS,Wh.LZ⟩
theorem aag:FK K_q109:=wl (lt:=gT) Wh.W9 (aaP _ (NF _ (NI _ (NH _ fe)))) Tryz.func181 loopsL_nil boxesL_none
def K_q173:iq:=⟨188,[.v fN,.v an],[.v (.pair I6 (.pair (.own an) .unit))],Wh.IV,Wh.QC⟩
def C_q173:Cx:=⟨nc,[Ng.entry],false,Gl⟩
def Uc:b8:=kS ⟨[(5,.leaf I6),(4,.aZ z0 []),(2,.aZ z1 []),(3,.aZ z2 [])],[(z0,false,.var fN (.pair (.leaf I6) (.pair (.whole z3 an) (.leaf .unit)))),(z1,false,.var fN (.leaf fN)),(z2,false,.var an (.leaf an)),(z3,false,.rows an)]⟩ [((.exit 0),⟨[(4,.aZ z0 []),(5,.leaf I6),(2,.aZ z1 []),(3,.aZ z2 [])],[(z0,false,.var fN (.pair (.leaf I6) (.pair (.whole z3 an) (.leaf .unit)))),(z1,false,.var fN (.leaf fN)),(z2,false,.var an (.leaf an)),(z3,false,.rows an)]⟩)] Wh.X8 Wh.Es
def V3:LT:=[(2,Uc)]
theorem afn:∀x,round C_q173 V3 (jo Tryz.f188 0) Uc x=Wh.Es x:=by intro x;kernel_rfl
theorem aa0:FK K_q173:=wl (lt:=V3) Wh.X9 (UD _ fe) Tryz.func188 (loopsC (loopD_ok afn) loopsL_nil) boxesL_none
def K_q140:iq:=⟨101,[.v fN,.v I6,.v .str,.v .str],[.v (.pair I6 (.pair (.own an) .unit)),.v I6],Wh.Fp,Wh.L8⟩
theorem aaG:FK K_q140:=wl (lt:=gT) Wh.Xz (aa0 _ (Ux _ (NI _ (NF _ (NJ _ (NH _ fe)))))) Tryz.func101 loopsL_nil boxesL_none
def Sq:iq:=⟨98,[.v fN,.v .str],[.v (.pair I6 (.pair (.own an) .unit)),.v .bool],Wh.Fv,Wh.P9⟩
theorem aaO:FK Sq:=wl (lt:=gT) Wh.P_ (aaG _ (aag _ (fk_q58 _ (UI _ (aaK _ (UA _ fe)))))) Tryz.func98 loopsL_nil boxesL_none
def Su:iq:=⟨61,[.v (.lst .str)],[.v (.pair I6 (.pair (.own an) .unit)),.v .bool],Wh.G5,Wh.Mg⟩
def C_q163:Cx:=⟨nc,[Sq.entry],false,Gl⟩
def Tw:b8:=kS ⟨[(2,.aZ z0 []),(5,.leaf I6),(4,.aZ z1 []),(0,.leaf (.lst .str))],[(z0,false,.var fN (.pair (.leaf I6) (.pair (.whole z2 an) (.leaf .unit)))),(z1,false,.var fN (.pair (.leaf I6) (.pair (.whole z3 an) (.leaf .unit)))),(z2,false,.rows an),(z3,false,.rows an)]⟩ [(.ret,⟨[(2,.aZ z0 []),(3,.leaf .bool)],[(z0,false,.var fN (.pair (.leaf I6) (.pair (.whole z1 an) (.leaf .unit)))),(z1,false,.rows an)]⟩),((.exit 0),⟨[(2,.aZ z0 []),(4,.aZ z1 [])],[(z0,false,.var fN (.pair (.leaf I6) (.pair (.whole z2 an) (.leaf .unit)))),(z1,false,.var fN (.pair (.leaf I6) (.pair (.whole z3 an) (.leaf .unit)))),(z2,false,.rows an),(z3,false,.rows an)]⟩)] Wh.XV Wh.Em
def VX:LT:=[(3,Tw)]
theorem aeN:∀x,round C_q163 VX (jo Tryz.f61 0) Tw x=Wh.Em x:=by intro x;kernel_rfl
theorem UF:FK Su:=wl (lt:=VX) Wh.Qm (aaO _ fe) Tryz.func61 (loopsC (loopD_ok aeN) loopsL_nil) boxesL_none
def R9:iq:=⟨59,[.v fk],[.v .bool],Wh.Iu,Wh.O6⟩
theorem aao:FK R9:=wl (lt:=gT) Wh.Xe (UF _ (UC _ fe)) Tryz.func59 loopsL_nil boxesL_none
def R8:iq:=⟨62,[.v fN,.v fN],[.v .bool],Wh.Fl,Wh.O4⟩
def C_q116:Cx:=⟨nc,[],false,Gl⟩
def TN:b8:=kS ⟨[(5,.leaf I6),(3,.aZ z0 []),(2,.aZ z1 [])],[(z0,false,.var fN (.leaf fN)),(z1,false,.var fN (.leaf fN))]⟩ [(.ret,⟨[(4,.leaf .bool)],[]⟩),((.exit 0),⟨[],[]⟩)] Wh.Xc Wh.Ee
def VJ:LT:=[(4,TN)]
theorem ae1:∀x,round C_q116 VJ (jo Tryz.f62 0) TN x=Wh.Ee x:=by intro x;kernel_rfl
theorem aan:FK R8:=wl (lt:=VJ) Wh.Xd fe Tryz.func62 (loopsC (loopD_ok ae1) loopsL_nil) boxesL_none
def Sx:iq:=⟨151,[.v e_],[.v .bool],Wh.G7,Wh.Qs⟩
theorem aaX:FK Sx:=wl (lt:=gT) Wh.Mh (B8 _ fe) Tryz.func151 loopsL_nil boxesL_none
def Sw:iq:=⟨152,[.v lg,.v I6],[.v I6],Wh.IS,Wh.Qq⟩
def C_q165:Cx:=⟨nc,[],false,Gl⟩
def TK:b8:=kS ⟨[(6,.leaf I6),(5,.leaf I6),(1,.leaf I6),(2,.aZ z0 [])],[(z0,false,.var lg (.leaf lg))]⟩ [((.exit 0),⟨[(5,.leaf I6)],[]⟩)] Wh.XZ Wh.Eo
def VY:LT:=[(3,TK)]
theorem aeY:∀x,round C_q165 VY (jo Tryz.f152 0) TK x=Wh.Eo x:=by intro x;kernel_rfl
theorem aaW:FK Sw:=wl (lt:=VY) Wh.IT fe Tryz.func152 (loopsC (loopD_ok aeY) loopsL_nil) boxesL_none
def Sl:iq:=⟨63,[.v lg],[.v .bool],Wh.G3,Wh.PM⟩
def Nb:Cx:=⟨nc,[Sw.entry,Sx.entry,EX.entry],false,Gl⟩
def TE:b8:=kS ⟨[(1,.aZ z0 []),(3,.leaf I6)],[(z0,false,.var lg (.leaf lg))]⟩ [(.ret,⟨[(2,.leaf .bool)],[]⟩),((.exit 0),⟨[(1,.aZ z0 [])],[(z0,false,.var lg (.leaf lg))]⟩)] Wh.XD Wh.Dx
def TF:b8:=kS ⟨[(4,.leaf I6),(1,.aZ z0 []),(3,.leaf I6)],[(z0,false,.var lg (.leaf lg))]⟩ [(.ret,⟨[(2,.leaf .bool)],[]⟩),((.exit 2),⟨[(1,.aZ z0 []),(3,.leaf I6)],[(z0,false,.var lg (.leaf lg))]⟩)] Wh.XE Wh.Bt
def TG:b8:=kS ⟨[(5,.leaf I6),(1,.aZ z0 [])],[(z0,false,.var lg (.leaf lg))]⟩ [(.ret,⟨[(2,.leaf .bool)],[]⟩),((.exit 4),⟨[],[]⟩)] Wh.XF Wh.Dy
def LQ:LT:=[(4,TE),(9,TF),(14,TG)]
theorem aeT:∀x,round Nb LQ (jo Tryz.f63 0) TE x=Wh.Dx x:=by intro x;kernel_rfl
theorem aeU:∀x,round Nb LQ (jo Tryz.f63 1) TF x=Wh.Bt x:=by intro x;kernel_rfl
theorem aeV:∀x,round Nb LQ (jo Tryz.f63 2) TG x=Wh.Dy x:=by intro x;kernel_rfl
theorem aaI:FK Sl:=wl (lt:=LQ) Wh.XG (aaW _ (aaX _ (B8 _ fe))) Tryz.func63 (loopsC (loopD_ok aeT) (loopsC (loopD_ok aeU) (loopsC (loopD_ok aeV) loopsL_nil))) boxesL_none
def Nl:iq:=⟨65,[.v fN,.v I6],[.v an,.v .bool],Wh.q61,Wh.Mx⟩
def C_q61:Cx:=⟨nc,[],false,Gl⟩
def Ub:b8:=kS ⟨[(4,.aZ z0 []),(6,.leaf I6),(2,.aZ z1 []),(1,.leaf I6)],[(z0,false,.var an (.leaf an)),(z1,false,.var fN (.leaf fN))]⟩ [(.ret,⟨[(4,.aZ z0 []),(5,.leaf .bool)],[(z0,false,.var an (.leaf an))]⟩),((.exit 0),⟨[(4,.aZ z0 [])],[(z0,false,.var an (.leaf an))]⟩)] Wh.Yy Wh.EH
def Wn:LT:=[(2,Ub)]
theorem afm:∀x,round C_q61 Wn (jo Tryz.f65 0) Ub x=Wh.EH x:=by intro x;kernel_rfl
theorem UN:FK Nl:=wl (lt:=Wn) Wh.FQ fe Tryz.func65 (loopsC (loopD_ok afm) loopsL_nil) boxesL_none
def K_q88:iq:=⟨138,[.v I6],[.v I6],Wh.q88,Wh.MC⟩
theorem UP:FK K_q88:=wl (lt:=gT) Wh.Cn fe Tryz.func138 loopsL_nil boxesL_none
def K_q60:iq:=⟨64,[.v fk],[.v .bool],Wh.q60,Wh.q60'⟩
def C_q60:Cx:=⟨nc,[K_q88.entry,Nl.entry,EX.entry],false,Gl⟩
def TP:b8:=kS ⟨[(3,.leaf I6),(1,.aZ z0 [])],[(z0,false,.var fk (.leaf fk))]⟩ [(.ret,⟨[(2,.leaf .bool)],[]⟩),((.exit 0),⟨[],[]⟩)] Wh.Yx Wh.DE
def Wm:LT:=[(2,TP)]
theorem ae2:∀x,round C_q60 Wm (jo Tryz.f64 0) TP x=Wh.DE x:=by intro x;kernel_rfl
theorem fk_q60:FK K_q60:=wl (lt:=Wm) Wh.q60_v (UP _ (UN _ (B8 _ fe))) Tryz.func64 (loopsC (loopD_ok ae2) loopsL_nil) boxesL_none
def K4:iq:=⟨66,[.v s_],[.v I6],Wh.Bp,Wh.zJ⟩
theorem NC:FK K4:=wl (lt:=gT) Wh.AJ fe Tryz.func66 loopsL_nil boxesL_none
def Sz:iq:=⟨67,[.v I6],[.v (.pair I6 (.pair I6 (.pair (.own I6) (.pair (.own I6) .unit))))],Wh.BT,Wh.G_⟩
def C_q171:Cx:=⟨nc,[K4.entry],false,Gl⟩
def T5:b8:=kS ⟨[(3,.aZ z0 []),(2,.aZ z1 [])],[(z0,false,.var s_ (.pair (.leaf I6) (.pair (.leaf I6) (.pair (.whole z2 I6) (.pair (.whole z3 I6) (.leaf .unit)))))),(z1,false,.var s_ (.pair (.leaf I6) (.pair (.leaf I6) (.pair (.whole 500000004 I6) (.pair (.whole 500000005 I6) (.leaf .unit)))))),(z2,false,.rows I6),(z3,false,.rows I6),(500000004,false,.rows I6),(500000005,false,.rows I6)]⟩ [((.exit 0),⟨[(2,.aZ z0 []),(3,.aZ z1 [])],[(z0,false,.var s_ (.pair (.leaf I6) (.pair (.leaf I6) (.pair (.whole z2 I6) (.pair (.whole z3 I6) (.leaf .unit)))))),(z1,false,.var s_ (.pair (.leaf I6) (.pair (.leaf I6) (.pair (.whole 500000004 I6) (.pair (.whole 500000005 I6) (.leaf .unit)))))),(z2,false,.rows I6),(z3,false,.rows I6),(500000004,false,.rows I6),(500000005,false,.rows I6)]⟩)] Wh.X6 Wh.Bx
def V1:LT:=[(2,T5)]
theorem aff:∀x,round C_q171 V1 (jo Tryz.f67 0) T5 x=Wh.Bx x:=by intro x;kernel_rfl
theorem UH:FK Sz:=wl (lt:=V1) Wh.He (NC _ fe) Tryz.func67 (loopsC (loopD_ok aff) loopsL_nil) boxesL_none
def K_q86:iq:=⟨68,[.v eA],[.v .bool],Wh.q86,Wh.q86'⟩
theorem fk_q86:FK K_q86:=wl (lt:=gT) Wh.q86_v (B8 _ fe) Tryz.func68 loopsL_nil boxesL_none
def K_q87:iq:=⟨15,[.v fk],[.v .bool],Wh.q87,Wh.q87'⟩
def C_q87:Cx:=⟨nc,[K_q86.entry,K4.entry,Sz.entry,Nl.entry,K_q60.entry,Sl.entry,R8.entry,Su.entry,Sp.entry,R9.entry,EX.entry],false,Gl⟩
def TH:b8:=kS ⟨[(7,.leaf I6),(1,.aZ z0 [])],[(z0,false,.var fk (.leaf fk))]⟩ [(.ret,⟨[(2,.leaf .bool)],[]⟩),((.exit 0),⟨[(1,.aZ z0 [])],[(z0,false,.var fk (.leaf fk))]⟩)] Wh.YQ Wh.BX
def TJ:b8:=kS ⟨[(10,.leaf I6),(1,.aZ z0 [])],[(z0,false,.var fk (.leaf fk))]⟩ [(.ret,⟨[(2,.leaf .bool)],[]⟩),((.exit 2),⟨[],[]⟩)] Wh.YR Wh.EM
def Ol:LT:=[(10,TH),(16,TJ)]
theorem aeW:∀x,round C_q87 Ol (jo Tryz.f15 0) TH x=Wh.BX x:=by intro x;kernel_rfl
theorem aeX:∀x,round C_q87 Ol (jo Tryz.f15 1) TJ x=Wh.EM x:=by intro x;kernel_rfl
theorem fk_q87:FK K_q87:=wl (lt:=Ol) Wh.Kl (fk_q86 _ (NC _ (UH _ (UN _ (fk_q60 _ (aaI _ (aan _ (UF _ (UC _ (aao _ (B8 _ fe))))))))))) Tryz.func15 (loopsC (loopD_ok aeW) (loopsC (loopD_ok aeX) loopsL_nil)) boxesL_none
def Gd:iq:=⟨73,[.v I6,.v I6,.v I6],[.v .bool],Wh.ye,Wh.wh⟩
theorem Cw:FK Gd:=wl (lt:=gT) Wh.zK fe Tryz.func73 loopsL_nil boxesL_none
def Sd:iq:=⟨389,[.v I3,.v I6],[.v I3],Wh.Br,Wh.BQ⟩
theorem aav:FK Sd:=wl (lt:=gT) Wh.q128_v fe Tryz.func389 loopsL_nil boxesL_none
def K_q71:iq:=⟨334,[.v .str],[.v .str],Wh.q71,Wh.q71'⟩
def Gc:Cx:=⟨nc,[Sd.entry],false,Gl⟩
def SV:b8:=kS ⟨[(4,.whole z0 I8),(3,.aZ z1 []),(0,.leaf .str)],[(z0,false,.rows I8),(z1,false,.var (.arr 8 I3) (.leaf (.arr 8 I3)))]⟩ [((.exit 0),⟨[(4,.whole z0 I8),(3,.aZ z1 []),(0,.leaf .str)],[(z0,false,.rows I8),(z1,false,.var (.arr 8 I3) (.leaf (.arr 8 I3)))]⟩)] Wh.YD Wh.FU
def SW:b8:=kS ⟨[(6,.leaf I6),(5,.leaf (.int .u64)),(4,.whole z0 I8),(3,.aZ z1 [])],[(z0,false,.rows I8),(z1,false,.var (.arr 8 I3) (.leaf (.arr 8 I3)))]⟩ [((.exit 2),⟨[(4,.whole z0 I8),(3,.aZ z1 [])],[(z0,false,.rows I8),(z1,false,.var (.arr 8 I3) (.leaf (.arr 8 I3)))]⟩)] Wh.YE Wh.Hj
def SX:b8:=kS ⟨[(4,.piece z0 I8),(3,.aZ z1 [])],[(z0,false,.rows I8),(z1,false,.var (.arr 8 I3) (.leaf (.arr 8 I3)))]⟩ [((.exit 4),⟨[(3,.aZ z0 [])],[(z0,false,.var (.arr 8 I3) (.leaf (.arr 8 I3)))]⟩)] Wh.YF Wh.FV
def SY:b8:=kS ⟨[(54,.leaf I6),(7,.aZ z0 []),(4,.piece z1 I8),(3,.aZ z2 [])],[(z0,false,.var (.arr 64 I3) (.leaf (.arr 64 I3))),(z1,false,.rows I8),(z2,false,.var (.arr 8 I3) (.leaf (.arr 8 I3)))]⟩ [((.exit 6),⟨[(7,.aZ z0 []),(3,.aZ z1 []),(4,.piece z2 I8)],[(z0,false,.var (.arr 64 I3) (.leaf (.arr 64 I3))),(z1,false,.var (.arr 8 I3) (.leaf (.arr 8 I3))),(z2,false,.rows I8)]⟩)] Wh.YG Wh.FW
def SZ:b8:=kS ⟨[(133,.leaf I6),(11,.aZ z0 []),(7,.aZ z1 []),(3,.aZ z2 []),(4,.piece z3 I8)],[(z0,false,.var (.arr 8 I3) (.leaf (.arr 8 I3))),(z1,false,.var (.arr 64 I3) (.leaf (.arr 64 I3))),(z2,false,.var (.arr 8 I3) (.leaf (.arr 8 I3))),(z3,false,.rows I8)]⟩ [((.exit 8),⟨[(3,.aZ z0 []),(11,.aZ z1 []),(4,.piece z2 I8)],[(z0,false,.var (.arr 8 I3) (.leaf (.arr 8 I3))),(z1,false,.var (.arr 8 I3) (.leaf (.arr 8 I3))),(z2,false,.rows I8)]⟩)] Wh.YH Wh.Hl
def S0:b8:=kS ⟨[(213,.leaf I6),(3,.aZ z0 []),(11,.aZ z1 []),(4,.piece z2 I8)],[(z0,false,.var (.arr 8 I3) (.leaf (.arr 8 I3))),(z1,false,.var (.arr 8 I3) (.leaf (.arr 8 I3))),(z2,false,.rows I8)]⟩ [((.exit 10),⟨[(3,.aZ z0 []),(4,.piece z1 I8)],[(z0,false,.var (.arr 8 I3) (.leaf (.arr 8 I3))),(z1,false,.rows I8)]⟩)] Wh.YI Wh.Kj
def S1:b8:=kS ⟨[(227,.leaf I6),(18,.whole z0 I8),(226,.leaf (.arr 8 I3))],[(z0,false,.rows I8)]⟩ [((.exit 12),⟨[(18,.whole z0 I8)],[(z0,false,.rows I8)]⟩)] Wh.YJ Wh.Kk
def Fc:LT:=[(3,SV),(7,SW),(10,SX),(14,SY),(23,SZ),(31,S0),(37,S1)]
theorem aeb:∀x,round Gc Fc (jo Tryz.f334 0) SV x=Wh.FU x:=by intro x;kernel_rfl
theorem aec:∀x,round Gc Fc (jo Tryz.f334 1) SW x=Wh.Hj x:=by intro x;kernel_rfl
theorem aed:∀x,round Gc Fc (jo Tryz.f334 2) SX x=Wh.FV x:=by intro x;kernel_rfl
theorem aee:∀x,round Gc Fc (jo Tryz.f334 3) SY x=Wh.FW x:=by intro x;kernel_rfl
theorem aef:∀x,round Gc Fc (jo Tryz.f334 4) SZ x=Wh.Hl x:=by intro x;kernel_rfl
theorem aeg:∀x,round Gc Fc (jo Tryz.f334 5) S0 x=Wh.Kj x:=by intro x;kernel_rfl
theorem aeh:∀x,round Gc Fc (jo Tryz.f334 6) S1 x=Wh.Kk x:=by intro x;kernel_rfl
theorem fk_q71:FK K_q71:=wl (lt:=Fc) Wh.q71_v (aav _ fe) Tryz.func334 (loopsC (loopD_ok aeb) (loopsC (loopD_ok aec) (loopsC (loopD_ok aed) (loopsC (loopD_ok aee) (loopsC (loopD_ok aef) (loopsC (loopD_ok aeg) (loopsC (loopD_ok aeh) loopsL_nil))))))) boxesL_none
def K_q158:iq:=⟨333,[.v .str],[.v .str],Wh.J_,Wh.Qf⟩
def C_q158:Cx:=⟨nc,[],false,Gl⟩
def SQ:b8:=kS ⟨[(4,.leaf I6),(0,.leaf .str),(3,.whole z0 I8)],[(z0,false,.rows I8)]⟩ [((.exit 0),⟨[(3,.whole z0 I8)],[(z0,false,.rows I8)]⟩)] Wh.XQ Wh.Me
def VW:LT:=[(3,SQ)]
theorem ad9:∀x,round C_q158 VW (jo Tryz.f333 0) SQ x=Wh.Me x:=by intro x;kernel_rfl
theorem aaS:FK K_q158:=wl (lt:=VW) Wh.XR fe Tryz.func333 (loopsC (loopD_ok ad9) loopsL_nil) boxesL_none
def K_q92:iq:=⟨263,[.v .str],[.v .str],Wh.q92,Wh.F1⟩
theorem fk_q92:FK K_q92:=wl (lt:=gT) Wh.q92_v (aaS _ (fk_q71 _ fe)) Tryz.func263 loopsL_nil boxesL_none
def K_q97:iq:=⟨159,[.v I6,.v .str],[.v .str],Wh.q97,Wh.q97'⟩
theorem fk_q97:FK K_q97:=wl (lt:=gT) Wh.RE (fk_q92 _ (Jv _ fe)) Tryz.func159 loopsL_nil boxesL_none
def K_q10:iq:=⟨243,[.v .str,.v .str],[.v .bool],Wh.q10,Wh.q10'⟩
theorem fk_q10:FK K_q10:=wl (lt:=gT) Wh.q10_v fe Tryz.func243 loopsL_nil boxesL_none
def K_q21:iq:=⟨140,[.v .str,.v .str],[.v .bool],Wh.q21,Wh.q21'⟩
theorem fk_q21:FK K_q21:=wl (lt:=gT) Wh.QI (fk_q10 _ fe) Tryz.func140 loopsL_nil boxesL_none
def K_q93:iq:=⟨74,[.v .str],[.v (.own .str),.v I6],Wh.q93,Wh.q93'⟩
def C_q93:Cx:=⟨nc,[K_q21.entry,K_q97.entry,Gd.entry,Jk.entry,K3.entry,K7.entry],false,Gl⟩
def SE:b8:=kS ⟨[(5,.leaf I6),(4,.whole z0 .str),(0,.leaf .str)],[(z0,false,.rows .str)]⟩ [(.ret,⟨[(2,.whole z0 .str),(3,.leaf I6)],[(z0,false,.rows .str)]⟩)] Wh.YU Wh.DI
def Ww:LT:=[(3,SE)]
theorem adY:∀x,round C_q93 Ww (jo Tryz.f74 0) SE x=Wh.DI x:=by intro x;kernel_rfl
theorem fk_q93:FK K_q93:=wl (lt:=Ww) Wh.q93_v (fk_q21 _ (fk_q97 _ (Cw _ (Jv _ (Uw _ (US _ fe)))))) Tryz.func74 (loopsC (loopD_ok adY) loopsL_nil) boxesL_none
def Ss:iq:=⟨233,[.v I6],[.v .bool],Wh.Cl,Wh.Ka⟩
theorem NG:FK Ss:=wl (lt:=gT) Wh.Mf (Cw _ fe) Tryz.func233 loopsL_nil boxesL_none
def K_q124:iq:=⟨213,[.v .str],[.v .bool],Wh.Fm,Wh.J7⟩
def C_q124:Cx:=⟨nc,[Gd.entry],false,Gl⟩
def SF:b8:=kS ⟨[(6,.leaf I6),(0,.leaf .str),(5,.leaf I6)],[]⟩ [(.ret,⟨[(2,.leaf .bool)],[]⟩),((.exit 0),⟨[(0,.leaf .str)],[]⟩)] Wh.Xn Wh.Eh
def VM:LT:=[(2,SF)]
theorem adZ:∀x,round C_q124 VM (jo Tryz.f213 0) SF x=Wh.Eh x:=by intro x;kernel_rfl
theorem ND:FK K_q124:=wl (lt:=VM) Wh.L6 (Cw _ fe) Tryz.func213 (loopsC (loopD_ok adZ) loopsL_nil) boxesL_none
def K_q44:iq:=⟨192,[.v I6,.v .str,.v .str],[.v .str],Wh.q44,Wh.q44'⟩
theorem fk_q44:FK K_q44:=wl (lt:=gT) Wh.QY (Jv _ (ND _ (NG _ fe))) Tryz.func192 loopsL_nil boxesL_none
def K_q68:iq:=⟨267,[.v fN],[.v (.pair I6 (.pair (.own an) .unit))],Wh.EJ,Wh.IZ⟩
theorem NN:FK K_q68:=wl (lt:=gT) Wh.FR fe Tryz.func267 loopsL_nil boxesL_none
def K_q31:iq:=⟨276,[.v an,.v (.ref I6),.v (.ref .str)],[.v .bool],Wh.q31,Wh.q31'⟩
theorem fk_q31:FK K_q31:=wl (lt:=gT) Wh.QM fe Tryz.func276 loopsL_nil boxesL_none
def K_q7:iq:=⟨165,[.v (.lst an),.f 276 (.pair (.ref I6) (.pair (.ref .str) .unit))],[.v I6],Wh.q7,Wh.q7'⟩
def C_q7:Cx:=⟨nc,[K_q31.entry],false,Gl⟩
def To:b8:=kS ⟨[(8,.leaf I6),(0,.leaf (.lst an)),(1,.fn 276 (.bB (.leaf (.ref I6)) (.bB (.leaf (.ref .str)) (.b7)))),(7,.leaf I6)],[]⟩ [(.ret,⟨[(4,.leaf I6)],[]⟩),((.exit 0),⟨[],[]⟩)] Wh.YN Wh.EK
def lt_q7:LT:=[(2,To)]
theorem aeF:∀x,round C_q7 lt_q7 (jo Tryz.f165 0) To x=Wh.EK x:=by intro x;kernel_rfl
theorem fk_q7:FK K_q7:=wl (lt:=lt_q7) Wh.q7_v (fk_q31 _ fe) Tryz.func165 (loopsC (loopD_ok aeF) loopsL_nil) boxesL_none
def K_q64:iq:=⟨193,[.v fN,.v I6,.v .str],[.v I6],Wh.CQ,Wh.Kh⟩
theorem NM:FK K_q64:=wl (lt:=gT) Wh.BV (fk_q7 _ fe) Tryz.func193 loopsL_nil boxesL_none
def K_q17:iq:=⟨277,[.k (.own an),.v I6,.v I6],[.v (.own an)],Wh.q17,Wh.q17'⟩
theorem fk_q17:FK K_q17:=wl (lt:=gT) Wh.q17_v fe Tryz.func277 loopsL_nil boxesL_none
def K_q65:iq:=⟨194,[.v fN,.v I6,.v .str],[.v (.pair I6 (.pair (.own an) .unit)),.v I6],Wh.q65,Wh.q65'⟩
theorem fk_q65:FK K_q65:=wl (lt:=gT) Wh.q65_v (fk_q17 _ (NM _ (NN _ fe))) Tryz.func194 loopsL_nil boxesL_none
def K_q27:iq:=⟨130,[.v I6,.v .str,.v .str],[.v .bool],Wh.q27,Wh.q27'⟩
theorem fk_q27:FK K_q27:=wl (lt:=gT) Wh.Mr (Cw _ (ND _ (NG _ fe))) Tryz.func130 loopsL_nil boxesL_none
def K_q46:iq:=⟨273,[.v fN,.v I6],[.v I6],Wh.q46,Wh.q46'⟩
def C_q46:Cx:=⟨nc,[],false,Gl⟩
def SD:b8:=kS ⟨[(11,.leaf I6),(5,.leaf I6),(1,.leaf I6),(9,.leaf (.lst an)),(10,.leaf I6)],[]⟩ [((.exit 0),⟨[(5,.leaf I6)],[]⟩)] Wh.Ym Wh.EC
def Wd:LT:=[(3,SD)]
theorem adX:∀x,round C_q46 Wd (jo Tryz.f273 0) SD x=Wh.EC x:=by intro x;kernel_rfl
theorem fk_q46:FK K_q46:=wl (lt:=Wd) Wh.q46_v fe Tryz.func273 (loopsC (loopD_ok adX) loopsL_nil) boxesL_none
def K_q62:iq:=⟨398,[.v I6],[.v .bool],Wh.q62,Wh.My⟩
theorem fk_q62:FK K_q62:=wl (lt:=gT) Wh.q62_v fe Tryz.func398 loopsL_nil boxesL_none
def K_q30:iq:=⟨337,[.v I6,.v I6],[.v I6],Wh.q30,Wh.q30'⟩
theorem fk_q30:FK K_q30:=wl (lt:=gT) Wh.q30_v (fk_q62 _ fe) Tryz.func337 loopsL_nil boxesL_none
def K_q22:iq:=⟨399,[.v .str],[.v .bool],Wh.q22,Wh.Mo⟩
theorem fk_q22:FK K_q22:=wl (lt:=gT) Wh.q22_v fe Tryz.func399 loopsL_nil boxesL_none
def K_q14:iq:=⟨338,[.v .str,.v .str],[.v I6],Wh.q14,Wh.q14'⟩
theorem fk_q14:FK K_q14:=wl (lt:=gT) Wh.q14_v (fk_q22 _ fe) Tryz.func338 loopsL_nil boxesL_none
def K_q156:iq:=⟨336,[.v (.lst I6)],[.v I6],Wh.IL,Wh.Qb⟩
def C_q156:Cx:=⟨nc,[],false,Gl⟩
def SB:b8:=kS ⟨[(8,.leaf I6),(3,.leaf I6),(6,.leaf (.lst I6)),(7,.leaf I6)],[]⟩ [(.ret,⟨[(2,.leaf I6)],[]⟩),((.exit 0),⟨[(3,.leaf I6)],[]⟩)] Wh.XM Wh.Fw
def VU:LT:=[(3,SB)]
theorem adV:∀x,round C_q156 VU (jo Tryz.f336 0) SB x=Wh.Fw x:=by intro x;kernel_rfl
theorem aaQ:FK K_q156:=wl (lt:=VU) Wh.XN fe Tryz.func336 (loopsC (loopD_ok adV) loopsL_nil) boxesL_none
def Nk:iq:=⟨275,[.v an,.v an],[.v I6],Wh.q50,Wh.q50'⟩
theorem UM:FK Nk:=wl (lt:=gT) Wh.Mu (aaQ _ (fk_q14 _ (fk_q30 _ fe))) Tryz.func275 loopsL_nil boxesL_none
def K_q1:iq:=⟨390,[.m an,.v I6,.v I6,.f 275 .unit],[],Wh.q1,Wh.q1'⟩
def C_q1:Cx:=⟨nc,[Nk.entry],false,Gl⟩
def Tq:b8:=kS ⟨[(0,.whole 900 an),(8,.leaf I6),(3,.fn 275 (.b7)),(1,.leaf I6),(2,.leaf I6)],[(900,false,.rows an)]⟩ [((.exit 0),⟨[],[(900,false,.rows an)]⟩)] Wh.Ya Wh.CP
def Tr:b8:=kS ⟨[(9,.leaf I6),(0,.whole 900 an),(3,.fn 275 (.b7)),(1,.leaf I6),(2,.leaf I6),(8,.leaf I6)],[(900,false,.rows an)]⟩ [((.exit 2),⟨[(0,.whole 900 an),(3,.fn 275 (.b7)),(1,.leaf I6),(2,.leaf I6),(8,.leaf I6)],[(900,false,.rows an)]⟩)] Wh.Yb Wh.DC
def Of:LT:=[(1,Tq),(4,Tr)]
theorem aeH:∀x,round C_q1 Of (jo Tryz.f390 0) Tq x=Wh.CP x:=by intro x;kernel_rfl
theorem aeI:∀x,round C_q1 Of (jo Tryz.f390 1) Tr x=Wh.DC x:=by intro x;kernel_rfl
theorem fk_q1:FK K_q1:=wl (lt:=Of) Wh.q1_v (UM _ fe) Tryz.func390 (loopsC (loopD_ok aeH) (loopsC (loopD_ok aeI) loopsL_nil)) boxesL_none
def K_q4:iq:=⟨335,[.m an,.v I6,.v I6,.v I6,.f 275 .unit],[],Wh.q4,Wh.q4'⟩
def C_q4:Cx:=⟨nc,[Nk.entry,K_q1.entry],false,Gl⟩
def Tu:b8:=kS ⟨[(4,.fn 275 (.b7)),(2,.leaf I6),(1,.leaf I6),(0,.whole 900 an),(11,.leaf .bool),(10,.leaf .bool),(3,.leaf I6)],[(900,false,.rows an)]⟩ [(.ret,⟨[],[(900,false,.rows an)]⟩)] Wh.Yo Wh.IY
def lt_q4:LT:=[(2,Tu)]
theorem aeL:∀x,round C_q4 lt_q4 (jo Tryz.f335 0) Tu x=Wh.IY x:=by intro x;kernel_rfl
theorem fk_q4:FK K_q4:=wl (lt:=lt_q4) Wh.q4_v (UM _ (fk_q1 _ fe)) Tryz.func335 (loopsC (loopD_ok aeL) loopsL_nil) boxesL_none
def K_q8:iq:=⟨274,[.m an,.f 275 .unit],[],Wh.I1,Wh.q8'⟩
theorem fk_q8:FK K_q8:=wl (lt:=gT) Wh.q8_v (fk_q4 _ (Uv _ fe)) Tryz.func274 loopsL_nil boxesL_none
def K_q91:iq:=⟨190,[.v fN,.v I6,.v .str,.v .str],[.v (.pair I6 (.pair (.own an) .unit)),.v I6],Wh.q91,Wh.q91'⟩
theorem fk_q91:FK K_q91:=wl (lt:=gT) Wh.q91_v (fk_q8 _ (fk_q46 _ (NM _ (fk_q27 _ (NN _ fe))))) Tryz.func190 loopsL_nil boxesL_none
def K_q45:iq:=⟨160,[.v fN,.v .str],[.v (.pair I6 (.pair (.own an) .unit)),.v .bool],Wh.q45,Wh.q45'⟩
theorem fk_q45:FK K_q45:=wl (lt:=gT) Wh.QZ (fk_q91 _ (fk_q65 _ (fk_q44 _ (Uw _ (US _ fe))))) Tryz.func160 loopsL_nil boxesL_none
def Sr:iq:=⟨75,[.v (.lst .str)],[.v (.pair I6 (.pair (.own an) .unit)),.v .bool],Wh.IM,Wh.Qd⟩
def C_q157:Cx:=⟨nc,[K_q45.entry],false,Gl⟩
def SC:b8:=kS ⟨[(2,.aZ z0 []),(13,.leaf I6),(4,.aZ z1 []),(11,.leaf (.lst .str)),(12,.leaf I6)],[(z0,false,.var fN (.pair (.leaf I6) (.pair (.whole z2 an) (.leaf .unit)))),(z1,false,.var fN (.pair (.leaf I6) (.pair (.whole z3 an) (.leaf .unit)))),(z2,false,.rows an),(z3,false,.rows an)]⟩ [(.ret,⟨[(2,.aZ z0 []),(3,.leaf .bool)],[(z0,false,.var fN (.pair (.leaf I6) (.pair (.whole z1 an) (.leaf .unit)))),(z1,false,.rows an)]⟩),((.exit 0),⟨[(2,.aZ z0 []),(4,.aZ z1 [])],[(z0,false,.var fN (.pair (.leaf I6) (.pair (.whole z2 an) (.leaf .unit)))),(z1,false,.var fN (.pair (.leaf I6) (.pair (.whole z3 an) (.leaf .unit)))),(z2,false,.rows an),(z3,false,.rows an)]⟩)] Wh.XO Wh.El
def VV:LT:=[(3,SC)]
theorem adW:∀x,round C_q157 VV (jo Tryz.f75 0) SC x=Wh.El x:=by intro x;kernel_rfl
theorem aaR:FK Sr:=wl (lt:=VV) Wh.XP (fk_q45 _ fe) Tryz.func75 (loopsC (loopD_ok adW) loopsL_nil) boxesL_none
def K_q20:iq:=⟨161,[.v (.lst an),.v (.lst an)],[.v .bool],Wh.q20,Wh.q20'⟩
def C_q20:Cx:=⟨nc,[],false,Gl⟩
def Tm:b8:=kS ⟨[(13,.leaf I6),(1,.leaf (.lst an)),(0,.leaf (.lst an)),(12,.leaf I6)],[]⟩ [(.ret,⟨[(4,.leaf .bool)],[]⟩),((.exit 0),⟨[],[]⟩)] Wh.Yc Wh.Ew
def V5:LT:=[(4,Tm)]
theorem aeD:∀x,round C_q20 V5 (jo Tryz.f161 0) Tm x=Wh.Ew x:=by intro x;kernel_rfl
theorem fk_q20:FK K_q20:=wl (lt:=V5) Wh.q20_v fe Tryz.func161 (loopsC (loopD_ok aeD) loopsL_nil) boxesL_none
def K_q98:iq:=⟨76,[.v fN,.v fN],[.v .bool],Wh.q98,Wh.q98'⟩
theorem fk_q98:FK K_q98:=wl (lt:=gT) Wh.q98_v (fk_q20 _ fe) Tryz.func76 loopsL_nil boxesL_none
def K_q48:iq:=⟨264,[.v lg,.v I6,.v I6],[.v I6],Wh.q48,Wh.q48'⟩
def C_q48:Cx:=⟨nc,[],false,Gl⟩
def SL:b8:=kS ⟨[(12,.leaf I6),(2,.leaf I6),(1,.leaf I6),(10,.leaf (.lst e_)),(11,.leaf I6)],[]⟩ [(.ret,⟨[(6,.leaf I6)],[]⟩),((.exit 0),⟨[],[]⟩)] Wh.Yn Wh.ED
def We:LT:=[(2,SL)]
theorem ad4:∀x,round C_q48 We (jo Tryz.f264 0) SL x=Wh.ED x:=by intro x;kernel_rfl
theorem fk_q48:FK K_q48:=wl (lt:=We) Wh.q48_v fe Tryz.func264 (loopsC (loopD_ok ad4) loopsL_nil) boxesL_none
def K_q95:iq:=⟨265,[.v lg,.v I6],[.v I6],Wh.q95,Wh.q95'⟩
def C_q95:Cx:=⟨nc,[],false,Gl⟩
def SM:b8:=kS ⟨[(11,.leaf I6),(5,.leaf I6),(1,.leaf I6),(9,.leaf (.lst e_)),(10,.leaf I6)],[]⟩ [((.exit 0),⟨[(5,.leaf I6)],[]⟩)] Wh.YW Wh.EN
def Wy:LT:=[(3,SM)]
theorem ad5:∀x,round C_q95 Wy (jo Tryz.f265 0) SM x=Wh.EN x:=by intro x;kernel_rfl
theorem fk_q95:FK K_q95:=wl (lt:=Wy) Wh.I5 fe Tryz.func265 (loopsC (loopD_ok ad5) loopsL_nil) boxesL_none
def Sc:iq:=⟨162,[.v lg],[.v .bool],Wh.GZ,Wh.Pq⟩
def R1:Cx:=⟨nc,[K_q95.entry,K_q48.entry,Ss.entry,Gd.entry],false,Gl⟩
def SI:b8:=kS ⟨[(19,.leaf I6),(1,.aZ z0 []),(17,.leaf (.lst e_)),(18,.leaf I6)],[(z0,false,.var lg (.leaf lg))]⟩ [(.ret,⟨[(2,.leaf .bool)],[]⟩),((.exit 0),⟨[(1,.aZ z0 [])],[(z0,false,.var lg (.leaf lg))]⟩)] Wh.Xq Wh.Du
def SJ:b8:=kS ⟨[(63,.leaf I6),(1,.aZ z0 [])],[(z0,false,.var lg (.leaf lg))]⟩ [(.ret,⟨[(2,.leaf .bool)],[]⟩),((.exit 2),⟨[],[]⟩)] Wh.Xr Wh.Dv
def Oh:LT:=[(4,SI),(13,SJ)]
theorem ad2:∀x,round R1 Oh (jo Tryz.f162 0) SI x=Wh.Du x:=by intro x;kernel_rfl
theorem ad3:∀x,round R1 Oh (jo Tryz.f162 1) SJ x=Wh.Dv x:=by intro x;kernel_rfl
theorem aat:FK Sc:=wl (lt:=Oh) Wh.Pu (fk_q95 _ (fk_q48 _ (NG _ (Cw _ fe)))) Tryz.func162 (loopsC (loopD_ok ad2) (loopsC (loopD_ok ad3) loopsL_nil)) boxesL_none
def K_q15:iq:=⟨166,[.v an,.v (.ref I6)],[.v .bool],Wh.q15,Wh.q15'⟩
theorem fk_q15:FK K_q15:=wl (lt:=gT) Wh.Qh fe Tryz.func166 loopsL_nil boxesL_none
def K_q5:iq:=⟨165,[.v (.lst an),.f 166 (.pair (.ref I6) .unit)],[.v I6],Wh.q5,Wh.q5'⟩
def C_q5:Cx:=⟨nc,[K_q15.entry],false,Gl⟩
def Tn:b8:=kS ⟨[(8,.leaf I6),(0,.leaf (.lst an)),(1,.fn 166 (.bB (.leaf (.ref I6)) (.b7))),(7,.leaf I6)],[]⟩ [(.ret,⟨[(4,.leaf I6)],[]⟩),((.exit 0),⟨[],[]⟩)] Wh.Yw Wh.EG
def lt_q5:LT:=[(2,Tn)]
theorem aeE:∀x,round C_q5 lt_q5 (jo Tryz.f165 0) Tn x=Wh.EG x:=by intro x;kernel_rfl
theorem fk_q5:FK K_q5:=wl (lt:=lt_q5) Wh.q5_v (fk_q15 _ fe) Tryz.func165 (loopsC (loopD_ok aeE) loopsL_nil) boxesL_none
def Ni:iq:=⟨80,[.v fN,.v I6],[.v I6],Wh.q23,Wh.Mp⟩
theorem UL:FK Ni:=wl (lt:=gT) Wh.Hh (fk_q5 _ fe) Tryz.func80 loopsL_nil boxesL_none
def K6:iq:=⟨164,[.v s_],[.v I6],Wh.BU,Wh.zL⟩
theorem NK:FK K6:=wl (lt:=gT) Wh.q32_v fe Tryz.func164 loopsL_nil boxesL_none
def Nn:iq:=⟨163,[.v I6],[.v (.pair I6 (.pair I6 (.pair (.own I6) (.pair (.own I6) .unit))))],Wh.Co,Wh.MD⟩
def C_q94:Cx:=⟨nc,[K6.entry,Gd.entry],false,Gl⟩
def SG:b8:=kS ⟨[(3,.aZ z0 []),(2,.aZ z1 [])],[(z0,false,.var s_ (.pair (.leaf I6) (.pair (.leaf I6) (.pair (.whole z2 I6) (.pair (.whole z3 I6) (.leaf .unit)))))),(z1,false,.var s_ (.pair (.leaf I6) (.pair (.leaf I6) (.pair (.whole 500000004 I6) (.pair (.whole 500000005 I6) (.leaf .unit)))))),(z2,false,.rows I6),(z3,false,.rows I6),(500000004,false,.rows I6),(500000005,false,.rows I6)]⟩ [((.exit 0),⟨[(2,.aZ z0 []),(3,.aZ z1 [])],[(z0,false,.var s_ (.pair (.leaf I6) (.pair (.leaf I6) (.pair (.whole z2 I6) (.pair (.whole z3 I6) (.leaf .unit)))))),(z1,false,.var s_ (.pair (.leaf I6) (.pair (.leaf I6) (.pair (.whole 500000004 I6) (.pair (.whole 500000005 I6) (.leaf .unit)))))),(z2,false,.rows I6),(z3,false,.rows I6),(500000004,false,.rows I6),(500000005,false,.rows I6)]⟩)] Wh.YV Wh.I4
def Wx:LT:=[(4,SG)]
theorem ad0:∀x,round C_q94 Wx (jo Tryz.f163 0) SG x=Wh.I4 x:=by intro x;kernel_rfl
theorem UQ:FK Nn:=wl (lt:=Wx) Wh.ME (NK _ (Cw _ fe)) Tryz.func163 (loopsC (loopD_ok ad0) loopsL_nil) boxesL_none
def K_q70:iq:=⟨77,[.v lg,.v fN],[.v .bool],Wh.q70,Wh.q70'⟩
def C_q70:Cx:=⟨nc,[K6.entry,Nn.entry,Ni.entry,Sc.entry],false,Gl⟩
def SU:b8:=kS ⟨[(14,.leaf I6),(3,.aZ z0 []),(12,.leaf (.lst e_)),(13,.leaf I6)],[(z0,false,.var fN (.leaf fN))]⟩ [(.ret,⟨[(4,.leaf .bool)],[]⟩),((.exit 0),⟨[],[]⟩)] Wh.YC Wh.BW
def Wp:LT:=[(4,SU)]
theorem aea:∀x,round C_q70 Wp (jo Tryz.f77 0) SU x=Wh.BW x:=by intro x;kernel_rfl
theorem fk_q70:FK K_q70:=wl (lt:=Wp) Wh.q70_v (NK _ (UQ _ (UL _ (aat _ fe)))) Tryz.func77 (loopsC (loopD_ok aea) loopsL_nil) boxesL_none
def K_q63:iq:=⟨78,[.v eA],[.v .bool],Wh.q63,Wh.q63'⟩
theorem fk_q63:FK K_q63:=wl (lt:=gT) Wh.q63_v (Cw _ fe) Tryz.func78 loopsL_nil boxesL_none
def K_q67:iq:=⟨79,[.v I6],[.v .bool],Wh.q67,Wh.Mz⟩
theorem UO:FK K_q67:=wl (lt:=gT) Wh.CR (Cw _ fe) Tryz.func79 loopsL_nil boxesL_none
def No:iq:=⟨81,[.v I6],[.v I6],Wh.q96,Wh.MG⟩
theorem UR:FK No:=wl (lt:=gT) Wh.CV fe Tryz.func81 loopsL_nil boxesL_none
def K_q66:iq:=⟨17,[.v fk],[.v .bool],Wh.q66,Wh.q66'⟩
def C_q66:Cx:=⟨nc,[No.entry,Ni.entry,K_q67.entry,K_q63.entry,K_q70.entry,K_q98.entry,Sr.entry,K_q93.entry,Gd.entry],false,Gl⟩
def SN:b8:=kS ⟨[(105,.leaf I6),(1,.aZ z0 []),(103,.leaf (.lst eA)),(104,.leaf I6)],[(z0,false,.var fk (.leaf fk))]⟩ [(.ret,⟨[(2,.leaf .bool)],[]⟩),((.exit 0),⟨[(1,.aZ z0 [])],[(z0,false,.var fk (.leaf fk))]⟩)] Wh.Yz Wh.EI
def SO:b8:=kS ⟨[(133,.leaf I6),(1,.aZ z0 []),(131,.leaf (.lst cr)),(132,.leaf I6)],[(z0,false,.var fk (.leaf fk))]⟩ [(.ret,⟨[(2,.leaf .bool)],[]⟩),((.exit 2),⟨[],[]⟩)] Wh.YA Wh.DF
def Oj:LT:=[(13,SN),(19,SO)]
theorem ad6:∀x,round C_q66 Oj (jo Tryz.f17 0) SN x=Wh.EI x:=by intro x;kernel_rfl
theorem ad7:∀x,round C_q66 Oj (jo Tryz.f17 1) SO x=Wh.DF x:=by intro x;kernel_rfl
theorem fk_q66:FK K_q66:=wl (lt:=Oj) Wh.Ki (UR _ (UL _ (UO _ (fk_q63 _ (fk_q70 _ (fk_q98 _ (aaR _ (fk_q93 _ (Cw _ fe))))))))) Tryz.func17 (loopsC (loopD_ok ad6) (loopsC (loopD_ok ad7) loopsL_nil)) boxesL_none
def Se:iq:=⟨235,[.v an,.v an],[.v .bool],Wh.Iy,Wh.Px⟩
theorem aaw:FK Se:=wl (lt:=gT) Wh.Xs fe Tryz.func235 loopsL_nil boxesL_none
def K_q100:iq:=⟨133,[.v (.lst an),.v (.lst an)],[.v .bool],Wh.Ii,Wh.OK⟩
def C_q100:Cx:=⟨nc,[Se.entry],false,Gl⟩
def S4:b8:=kS ⟨[(5,.leaf I6),(1,.leaf (.lst an)),(0,.leaf (.lst an))],[]⟩ [(.ret,⟨[(4,.leaf .bool)],[]⟩),((.exit 0),⟨[],[]⟩)] Wh.WV Wh.GQ
def VE:LT:=[(4,S4)]
theorem aek:∀x,round C_q100 VE (jo Tryz.f133 0) S4 x=Wh.GQ x:=by intro x;kernel_rfl
theorem Z8:FK K_q100:=wl (lt:=VE) Wh.WW (aaw _ fe) Tryz.func133 (loopsC (loopD_ok aek) loopsL_nil) boxesL_none
def K_q160:iq:=⟨82,[.v fN,.v fN],[.v .bool],Wh.IN,Wh.Qi⟩
theorem aaT:FK K_q160:=wl (lt:=gT) Wh.XS (Z8 _ fe) Tryz.func82 loopsL_nil boxesL_none
def K_q99:iq:=⟨266,[.v e_,.v e_],[.v .bool],Wh.q99,Wh.q99'⟩
theorem fk_q99:FK K_q99:=wl (lt:=gT) Wh.q99_v fe Tryz.func266 loopsL_nil boxesL_none
def K_q73:iq:=⟨167,[.v (.lst e_),.v (.lst e_)],[.v .bool],Wh.q73,Wh.q73'⟩
def C_q73:Cx:=⟨nc,[K_q99.entry],false,Gl⟩
def S3:b8:=kS ⟨[(5,.leaf I6),(1,.leaf (.lst e_)),(0,.leaf (.lst e_))],[]⟩ [(.ret,⟨[(4,.leaf .bool)],[]⟩),((.exit 0),⟨[],[]⟩)] Wh.YK Wh.Ho
def Wq:LT:=[(4,S3)]
theorem aej:∀x,round C_q73 Wq (jo Tryz.f167 0) S3 x=Wh.Ho x:=by intro x;kernel_rfl
theorem fk_q73:FK K_q73:=wl (lt:=Wq) Wh.q73_v (fk_q99 _ fe) Tryz.func167 (loopsC (loopD_ok aej) loopsL_nil) boxesL_none
def K_q131:iq:=⟨83,[.v lg,.v lg],[.v .bool],Wh.Iz,Wh.Py⟩
theorem aax:FK K_q131:=wl (lt:=gT) Wh.Xt (fk_q73 _ fe) Tryz.func83 loopsL_nil boxesL_none
def K_q72:iq:=⟨168,[.v eA,.v eA],[.v .bool],Wh.q72,Wh.q72'⟩
theorem fk_q72:FK K_q72:=wl (lt:=gT) Wh.q72_v fe Tryz.func168 loopsL_nil boxesL_none
def K_q51:iq:=⟨84,[.v (.lst eA),.v (.lst eA)],[.v .bool],Wh.q51,Wh.q51'⟩
def C_q51:Cx:=⟨nc,[K_q72.entry],false,Gl⟩
def S2:b8:=kS ⟨[(5,.leaf I6),(1,.leaf (.lst eA)),(0,.leaf (.lst eA))],[]⟩ [(.ret,⟨[(4,.leaf .bool)],[]⟩),((.exit 0),⟨[],[]⟩)] Wh.Yp Wh.Hi
def Wf:LT:=[(4,S2)]
theorem aei:∀x,round C_q51 Wf (jo Tryz.f84 0) S2 x=Wh.Hi x:=by intro x;kernel_rfl
theorem fk_q51:FK K_q51:=wl (lt:=Wf) Wh.q51_v (fk_q72 _ fe) Tryz.func84 (loopsC (loopD_ok aei) loopsL_nil) boxesL_none
def R3:iq:=⟨169,[.v cr,.v cr],[.v .bool],Wh.Ij,Wh.OM⟩
theorem Z9:FK R3:=wl (lt:=gT) Wh.WX fe Tryz.func169 loopsL_nil boxesL_none
def K_q74:iq:=⟨85,[.v (.lst cr),.v (.lst cr)],[.v .bool],Wh.q74,Wh.q74'⟩
def C_q74:Cx:=⟨nc,[R3.entry],false,Gl⟩
def S5:b8:=kS ⟨[(5,.leaf I6),(1,.leaf (.lst cr)),(0,.leaf (.lst cr))],[]⟩ [(.ret,⟨[(4,.leaf .bool)],[]⟩),((.exit 0),⟨[],[]⟩)] Wh.YL Wh.Hp
def Wr:LT:=[(4,S5)]
theorem ael:∀x,round C_q74 Wr (jo Tryz.f85 0) S5 x=Wh.Hp x:=by intro x;kernel_rfl
theorem fk_q74:FK K_q74:=wl (lt:=Wr) Wh.q74_v (Z9 _ fe) Tryz.func85 (loopsC (loopD_ok ael) loopsL_nil) boxesL_none
def K_q75:iq:=⟨18,[.v fk,.v fk],[.v .bool],Wh.DG,Wh.MB⟩
theorem fk_q75:FK K_q75:=wl (lt:=gT) Wh.Rs (fk_q74 _ (fk_q51 _ (aax _ (aaT _ fe)))) Tryz.func18 loopsL_nil boxesL_none
def K_q111:iq:=⟨171,[.v lg],[.v (.pair (.own e_) (.pair I6 .unit))],Wh.Iq,Wh.OZ⟩
theorem aai:FK K_q111:=wl (lt:=gT) Wh.Xa fe Tryz.func171 loopsL_nil boxesL_none
def K_q112:iq:=⟨86,[.v fk],[.v (.pair .bool (.pair I6 (.pair .str (.pair (.pair I6 (.pair (.own an) .unit)) (.pair (.pair (.own e_) (.pair I6 .unit)) (.pair (.own eA) (.pair (.own cr) .unit)))))))],Wh.Ir,Wh.O0⟩
theorem aaj:FK K_q112:=wl (lt:=gT) Wh.L1 (aai _ (NF _ fe)) Tryz.func86 loopsL_nil boxesL_none
def K_q49:iq:=⟨268,[.v lg],[.v (.pair (.own e_) (.pair I6 .unit))],Wh.q49,Wh.q49'⟩
theorem fk_q49:FK K_q49:=wl (lt:=gT) Wh.q49_v fe Tryz.func268 loopsL_nil boxesL_none
def K_q26:iq:=⟨172,[.v fk],[.v (.pair .bool (.pair I6 (.pair .str (.pair (.pair I6 (.pair (.own an) .unit)) (.pair (.pair (.own e_) (.pair I6 .unit)) (.pair (.own eA) (.pair (.own cr) .unit)))))))],Wh.q26,Wh.q26'⟩
theorem fk_q26:FK K_q26:=wl (lt:=gT) Wh.Ey (fk_q49 _ (NN _ fe)) Tryz.func172 loopsL_nil boxesL_none
def Jj:iq:=⟨121,[.v I6],[.v .str],Wh.A8,Wh.CU⟩
def C_q78:Cx:=⟨nc,[],false,Gl⟩
def Tf:b8:=kS ⟨[(0,.leaf I6),(3,.leaf .str)],[]⟩ [((.exit 0),⟨[(3,.leaf .str)],[]⟩)] Wh.YM Wh.FX
def Wt:LT:=[(4,Tf)]
theorem aew:∀x,round C_q78 Wt (jo Tryz.f121 0) Tf x=Wh.FX x:=by intro x;kernel_rfl
theorem Lq:FK Jj:=wl (lt:=Wt) Wh.DH fe Tryz.func121 (loopsC (loopD_ok aew) loopsL_nil) boxesL_none
def K_q54:iq:=⟨174,[.d (.lst an),.v I6],[.v I6],Wh.q54,Wh.q54'⟩
def C_q54:Cx:=⟨nc,[Jj.entry],true,Gl⟩
def Td:b8:=kS ⟨[(5,.leaf I6),(0,.whole 950 an),(1,.leaf I6)],[(950,false,.rows an)]⟩ [((.exit 0),⟨[(1,.leaf I6)],[(950,false,.rows an)]⟩)] Wh.Yt Wh.FN
def Wj:LT:=[(2,Td)]
theorem aeu:∀x,round C_q54 Wj (jo Tryz.f174 0) Td x=Wh.FN x:=by intro x;kernel_rfl
theorem fk_q54:FK K_q54:=wl (lt:=Wj) Wh.q54_v (Lq _ D_) Tryz.func174 (loopsC (loopD_ok aeu) loopsL_nil) boxesL_none
def K_q104:iq:=⟨90,[.d fN,.v I6],[.v I6],Wh.Il,Wh.OQ⟩
theorem aab:FK K_q104:=wl (lt:=gT) Wh.W3 (fk_q54 _ D_) Tryz.func90 loopsL_nil boxesL_none
def K_q37:iq:=⟨175,[.d (.lst e_),.v I6],[.v I6],Wh.q37,Wh.q37'⟩
def C_q37:Cx:=⟨nc,[],true,Gl⟩
def Tc:b8:=kS ⟨[(5,.leaf I6),(0,.whole 950 e_),(1,.leaf I6)],[(950,false,.rows e_)]⟩ [((.exit 0),⟨[(1,.leaf I6)],[(950,false,.rows e_)]⟩)] Wh.Yi Wh.FI
def Wa:LT:=[(2,Tc)]
theorem aet:∀x,round C_q37 Wa (jo Tryz.f175 0) Tc x=Wh.FI x:=by intro x;kernel_rfl
theorem fk_q37:FK K_q37:=wl (lt:=Wa) Wh.q37_v D_ Tryz.func175 (loopsC (loopD_ok aet) loopsL_nil) boxesL_none
def K_q77:iq:=⟨91,[.d lg,.v I6],[.v I6],Wh.q77,Wh.q77'⟩
theorem fk_q77:FK K_q77:=wl (lt:=gT) Wh.q77_v (fk_q37 _ D_) Tryz.func91 loopsL_nil boxesL_none
def K_q29:iq:=⟨92,[.d (.lst eA),.v I6],[.v I6],Wh.q29,Wh.q29'⟩
def C_q29:Cx:=⟨nc,[],true,Gl⟩
def Tb:b8:=kS ⟨[(5,.leaf I6),(0,.whole 950 eA),(1,.leaf I6)],[(950,false,.rows eA)]⟩ [((.exit 0),⟨[(1,.leaf I6)],[(950,false,.rows eA)]⟩)] Wh.Ye Wh.FF
def V8:LT:=[(2,Tb)]
theorem aes:∀x,round C_q29 V8 (jo Tryz.f92 0) Tb x=Wh.FF x:=by intro x;kernel_rfl
theorem fk_q29:FK K_q29:=wl (lt:=V8) Wh.q29_v D_ Tryz.func92 (loopsC (loopD_ok aes) loopsL_nil) boxesL_none
def K_q38:iq:=⟨93,[.d (.lst cr),.v I6],[.v I6],Wh.q38,Wh.q38'⟩
def C_q38:Cx:=⟨nc,[],true,Gl⟩
def Te:b8:=kS ⟨[(5,.leaf I6),(0,.whole 950 cr),(1,.leaf I6)],[(950,false,.rows cr)]⟩ [((.exit 0),⟨[(1,.leaf I6)],[(950,false,.rows cr)]⟩)] Wh.Yj Wh.FJ
def Wb:LT:=[(2,Te)]
theorem aev:∀x,round C_q38 Wb (jo Tryz.f93 0) Te x=Wh.FJ x:=by intro x;kernel_rfl
theorem fk_q38:FK K_q38:=wl (lt:=Wb) Wh.q38_v D_ Tryz.func93 (loopsC (loopD_ok aev) loopsL_nil) boxesL_none
def K_q39:iq:=⟨21,[.d fk,.v I6],[.v I6],Wh.q39,Wh.Ms⟩
theorem fk_q39:FK K_q39:=wl (lt:=gT) Wh.QU (fk_q38 _ (fk_q29 _ (fk_q77 _ (aab _ D_)))) Tryz.func21 loopsL_nil boxesL_none
def K_q52:iq:=⟨176,[.v (.lst an),.v I6],[.v I6],Wh.q52,Wh.q52'⟩
def C_q52:Cx:=⟨nc,[Jj.entry],false,Gl⟩
def S9:b8:=kS ⟨[(5,.leaf I6),(0,.leaf (.lst an)),(1,.leaf I6)],[]⟩ [(.ret,⟨[(4,.leaf I6)],[]⟩),((.exit 0),⟨[(1,.leaf I6)],[]⟩)] Wh.Yq Wh.FL
def Wg:LT:=[(2,S9)]
theorem aep:∀x,round C_q52 Wg (jo Tryz.f176 0) S9 x=Wh.FL x:=by intro x;kernel_rfl
theorem fk_q52:FK K_q52:=wl (lt:=Wg) Wh.q52_v (Lq _ fe) Tryz.func176 (loopsC (loopD_ok aep) loopsL_nil) boxesL_none
def K_q103:iq:=⟨94,[.v fN,.v I6],[.v I6],Wh.Ik,Wh.OP⟩
theorem aaa:FK K_q103:=wl (lt:=gT) Wh.W0 (fk_q52 _ fe) Tryz.func94 loopsL_nil boxesL_none
def K_q34:iq:=⟨177,[.v (.lst e_),.v I6],[.v I6],Wh.q34,Wh.q34'⟩
def C_q34:Cx:=⟨nc,[],false,Gl⟩
def S8:b8:=kS ⟨[(5,.leaf I6),(0,.leaf (.lst e_)),(1,.leaf I6)],[]⟩ [(.ret,⟨[(4,.leaf I6)],[]⟩),((.exit 0),⟨[(1,.leaf I6)],[]⟩)] Wh.Yg Wh.FG
def V9:LT:=[(2,S8)]
theorem aeo:∀x,round C_q34 V9 (jo Tryz.f177 0) S8 x=Wh.FG x:=by intro x;kernel_rfl
theorem fk_q34:FK K_q34:=wl (lt:=V9) Wh.q34_v fe Tryz.func177 (loopsC (loopD_ok aeo) loopsL_nil) boxesL_none
def K_q76:iq:=⟨95,[.v lg,.v I6],[.v I6],Wh.q76,Wh.q76'⟩
theorem fk_q76:FK K_q76:=wl (lt:=gT) Wh.q76_v (fk_q34 _ fe) Tryz.func95 loopsL_nil boxesL_none
def K_q28:iq:=⟨96,[.v (.lst eA),.v I6],[.v I6],Wh.q28,Wh.q28'⟩
def C_q28:Cx:=⟨nc,[],false,Gl⟩
def S7:b8:=kS ⟨[(5,.leaf I6),(0,.leaf (.lst eA)),(1,.leaf I6)],[]⟩ [(.ret,⟨[(4,.leaf I6)],[]⟩),((.exit 0),⟨[(1,.leaf I6)],[]⟩)] Wh.Yd Wh.FE
def V7:LT:=[(2,S7)]
theorem aen:∀x,round C_q28 V7 (jo Tryz.f96 0) S7 x=Wh.FE x:=by intro x;kernel_rfl
theorem fk_q28:FK K_q28:=wl (lt:=V7) Wh.q28_v fe Tryz.func96 (loopsC (loopD_ok aen) loopsL_nil) boxesL_none
def K_q35:iq:=⟨97,[.v (.lst cr),.v I6],[.v I6],Wh.q35,Wh.q35'⟩
def C_q35:Cx:=⟨nc,[],false,Gl⟩
def S_:b8:=kS ⟨[(5,.leaf I6),(0,.leaf (.lst cr)),(1,.leaf I6)],[]⟩ [(.ret,⟨[(4,.leaf I6)],[]⟩),((.exit 0),⟨[(1,.leaf I6)],[]⟩)] Wh.Yh Wh.FH
def V_:LT:=[(2,S_)]
theorem aeq:∀x,round C_q35 V_ (jo Tryz.f97 0) S_ x=Wh.FH x:=by intro x;kernel_rfl
theorem fk_q35:FK K_q35:=wl (lt:=V_) Wh.q35_v fe Tryz.func97 (loopsC (loopD_ok aeq) loopsL_nil) boxesL_none
def K_q36:iq:=⟨22,[.v fk,.v I6],[.v I6],Wh.q36,Wh.q36'⟩
theorem fk_q36:FK K_q36:=wl (lt:=gT) Wh.q36_v (fk_q35 _ (fk_q28 _ (fk_q76 _ (aaa _ fe)))) Tryz.func22 loopsL_nil boxesL_none
def K_q139:iq:=⟨105,[.v fN,.v I6,.v .str],[.v an,.v .bool],Wh.Fo,Wh.PG⟩
theorem aaF:FK K_q139:=wl (lt:=gT) Wh.Dw (NH _ (NI _ fe)) Tryz.func105 loopsL_nil boxesL_none
def K_q142:iq:=⟨280,[.v s_],[.v .bool],Wh.BR,Wh.PK⟩
def C_q142:Cx:=⟨nc,[K4.entry,EX.entry],false,Gl⟩
def TD:b8:=kS ⟨[(3,.leaf I6),(1,.aZ z0 [])],[(z0,false,.var s_ (.leaf s_))]⟩ [(.ret,⟨[(2,.leaf .bool)],[]⟩),((.exit 0),⟨[(1,.aZ z0 [])],[(z0,false,.var s_ (.leaf s_))]⟩)] Wh.XB Wh.Ck
def VP:LT:=[(4,TD)]
theorem aeS:∀x,round C_q142 VP (jo Tryz.f280 0) TD x=Wh.Ck x:=by intro x;kernel_rfl
theorem aaH:FK K_q142:=wl (lt:=VP) Wh.XC (NC _ (B8 _ fe)) Tryz.func280 (loopsC (loopD_ok aeS) loopsL_nil) boxesL_none
def K_q125:iq:=⟨290,[.v s_],[.v .bool],Wh.Bq,Wh.Pn⟩
def C_q125:Cx:=⟨nc,[K6.entry,Gd.entry],false,Gl⟩
def SH:b8:=kS ⟨[(50,.leaf I6),(1,.aZ z0 []),(48,.leaf (.lst I6)),(49,.leaf I6)],[(z0,false,.var s_ (.leaf s_))]⟩ [(.ret,⟨[(2,.leaf .bool)],[]⟩),((.exit 0),⟨[],[]⟩)] Wh.Xo Wh.Cj
def VN:LT:=[(6,SH)]
theorem ad1:∀x,round C_q125 VN (jo Tryz.f290 0) SH x=Wh.Cj x:=by intro x;kernel_rfl
theorem aas:FK K_q125:=wl (lt:=VN) Wh.Xp (NK _ (Cw _ fe)) Tryz.func290 (loopsC (loopD_ok ad1) loopsL_nil) boxesL_none
def Si:iq:=⟨30,[.v fT,.v I6],[.v I6],Wh.ID,Wh.PC⟩
theorem aaB:FK Si:=wl (lt:=gT) Wh.Xv fe Tryz.func30 loopsL_nil boxesL_none
def Sk:iq:=⟨33,[.v fT],[.v fT],Wh.G1,Wh.PF⟩
theorem aaE:FK Sk:=wl (lt:=gT) Wh.Xy fe Tryz.func33 loopsL_nil boxesL_none
def K_q144:iq:=⟨111,[.v fT],[.v .bool],Wh.IF,Wh.PU⟩
theorem aaJ:FK K_q144:=wl (lt:=gT) Wh.L_ (Uy _ (B8 _ fe)) Tryz.func111 loopsL_nil boxesL_none
def Sy:iq:=⟨144,[.v fk,.v I6],[.v I6],Wh.G8,Wh.Mi⟩
def C_q167:Cx:=⟨nc,[],false,Gl⟩
def TL:b8:=kS ⟨[(5,.leaf I6),(1,.leaf I6),(2,.aZ z0 [])],[(z0,false,.var fk (.leaf fk))]⟩ [(.ret,⟨[(4,.leaf I6)],[]⟩),((.exit 0),⟨[],[]⟩)] Wh.X1 Wh.Ep
def VZ:LT:=[(2,TL)]
theorem aeZ:∀x,round C_q167 VZ (jo Tryz.f144 0) TL x=Wh.Ep x:=by intro x;kernel_rfl
theorem UG:FK Sy:=wl (lt:=VZ) Wh.zX fe Tryz.func144 (loopsC (loopD_ok aeZ) loopsL_nil) boxesL_none
def Nj:iq:=⟨145,[.v fk,.v I6],[.v (.pair .bool (.pair I6 (.pair .str (.pair fN (.pair lg (.pair (.lst eA) (.pair (.own cr) .unit)))))))],Wh.q42,Wh.Kf⟩
def C_q42:Cx:=⟨nc,[],false,Gl⟩
def TR:b8:=kS ⟨[(6,.leaf I6),(2,.aZ z0 []),(5,.whole z1 cr),(1,.leaf I6),(4,.aZ z2 [])],[(z0,false,.var fk (.leaf fk)),(z1,false,.rows cr),(z2,false,.var fk (.pair (.leaf .bool) (.pair (.leaf I6) (.pair (.leaf .str) (.pair (.pair (.leaf I6) (.pair (.whole z3 an) (.leaf .unit))) (.pair (.pair (.whole 500000004 e_) (.leaf (.pair I6 .unit))) (.pair (.whole 500000005 eA) (.pair (.whole 500000006 cr) (.leaf .unit))))))))),(z3,false,.rows an),(500000004,false,.rows e_),(500000005,false,.rows eA),(500000006,false,.rows cr)]⟩ [((.exit 0),⟨[(4,.aZ z0 []),(2,.aZ z1 []),(5,.whole z2 cr)],[(z0,false,.var fk (.pair (.leaf .bool) (.pair (.leaf I6) (.pair (.leaf .str) (.pair (.pair (.leaf I6) (.pair (.whole z3 an) (.leaf .unit))) (.pair (.pair (.whole 500000004 e_) (.leaf (.pair I6 .unit))) (.pair (.whole 500000005 eA) (.pair (.whole 500000006 cr) (.leaf .unit))))))))),(z1,false,.var fk (.leaf fk)),(z2,false,.rows cr),(z3,false,.rows an),(500000004,false,.rows e_),(500000005,false,.rows eA),(500000006,false,.rows cr)]⟩)] Wh.Yl Wh.EB
def Wc:LT:=[(3,TR)]
theorem ae4:∀x,round C_q42 Wc (jo Tryz.f145 0) TR x=Wh.EB x:=by intro x;kernel_rfl
theorem NL:FK Nj:=wl (lt:=Wc) Wh.Kg fe Tryz.func145 (loopsC (loopD_ok ae4) loopsL_nil) boxesL_none
def K_q113:iq:=⟨146,[.v I6,.v I6,.v I6],[.v (.own fT)],Wh.Is,Wh.L3⟩
theorem aak:FK K_q113:=wl (lt:=gT) Wh.GU fe Tryz.func146 loopsL_nil boxesL_none
def K_q118:iq:=⟨306,[.v fk,.v cr],[.v (.pair .bool (.pair I6 (.pair .str (.pair fN (.pair lg (.pair (.lst eA) (.pair (.own cr) .unit)))))))],Wh.Iv,Wh.O7⟩
def C_q118:Cx:=⟨nc,[Nj.entry],false,Gl⟩
def TQ:b8:=kS ⟨[(5,.leaf I6),(4,.aZ z0 []),(2,.aZ z1 []),(3,.aZ z2 [])],[(z0,false,.var fk (.pair (.leaf .bool) (.pair (.leaf I6) (.pair (.leaf .str) (.pair (.pair (.leaf I6) (.pair (.whole z3 an) (.leaf .unit))) (.pair (.pair (.whole 500000004 e_) (.leaf (.pair I6 .unit))) (.pair (.whole 500000005 eA) (.pair (.whole 500000006 cr) (.leaf .unit))))))))),(z1,false,.var fk (.pair (.leaf .bool) (.pair (.leaf I6) (.pair (.leaf .str) (.pair (.leaf fN) (.pair (.leaf lg) (.pair (.leaf (.lst eA)) (.pair (.whole 500000007 cr) (.leaf .unit))))))))),(z2,false,.var cr (.leaf cr)),(z3,false,.rows an),(500000004,false,.rows e_),(500000005,false,.rows eA),(500000006,false,.rows cr),(500000007,false,.rows cr)]⟩ [((.exit 0),⟨[(4,.aZ z0 []),(2,.aZ z1 []),(5,.leaf I6),(3,.aZ z2 [])],[(z0,false,.var fk (.pair (.leaf .bool) (.pair (.leaf I6) (.pair (.leaf .str) (.pair (.pair (.leaf I6) (.pair (.whole z3 an) (.leaf .unit))) (.pair (.pair (.whole 500000004 e_) (.leaf (.pair I6 .unit))) (.pair (.whole 500000005 eA) (.pair (.whole 500000006 cr) (.leaf .unit))))))))),(z1,false,.var fk (.pair (.leaf .bool) (.pair (.leaf I6) (.pair (.leaf .str) (.pair (.leaf fN) (.pair (.leaf lg) (.pair (.leaf (.lst eA)) (.pair (.whole 500000007 cr) (.leaf .unit))))))))),(z2,false,.var cr (.leaf cr)),(z3,false,.rows an),(500000004,false,.rows e_),(500000005,false,.rows eA),(500000006,false,.rows cr),(500000007,false,.rows cr)]⟩)] Wh.Xf Wh.Ef
def VK:LT:=[(3,TQ)]
theorem ae3:∀x,round C_q118 VK (jo Tryz.f306 0) TQ x=Wh.Ef x:=by intro x;kernel_rfl
theorem aap:FK K_q118:=wl (lt:=VK) Wh.O9 (NL _ fe) Tryz.func306 (loopsC (loopD_ok ae3) loopsL_nil) boxesL_none
def K_q147:iq:=⟨286,[.v (.lst I6)],[.v .str],Wh.CM,Wh.Ma⟩
def C_q147:Cx:=⟨nc,[K5.entry],false,Gl⟩
def T6:b8:=kS ⟨[(4,.leaf I6),(0,.leaf (.lst I6)),(3,.leaf .str)],[]⟩ [((.exit 0),⟨[(3,.leaf .str)],[]⟩)] Wh.XI Wh.Ek
def VR:LT:=[(3,T6)]
theorem afg:∀x,round C_q147 VR (jo Tryz.f286 0) T6 x=Wh.Ek x:=by intro x;kernel_rfl
theorem aaL:FK K_q147:=wl (lt:=VR) Wh.PZ (Lp _ fe) Tryz.func286 (loopsC (loopD_ok afg) loopsL_nil) boxesL_none
def K_q59:iq:=⟨205,[.v s_],[.v .str],Wh.EE,Wh.Mv⟩
theorem fk_q59:FK K_q59:=wl (lt:=gT) Wh.Mw (aaL _ (Lp _ (aaH _ fe))) Tryz.func205 loopsL_nil boxesL_none
def R7:iq:=⟨236,[.k (.pair .bool (.pair I6 (.pair .str (.pair (.pair I6 (.pair (.own an) .unit)) (.pair (.pair (.own e_) (.pair I6 .unit)) (.pair (.own eA) (.pair (.own cr) .unit))))))),.v fT],[.v (.pair .bool (.pair I6 (.pair .str (.pair fN (.pair lg (.pair (.lst eA) (.pair (.own cr) .unit))))))),.v (.own fT)],Wh.As,Wh.O3⟩
theorem aam:FK R7:=wl (lt:=gT) Wh.Xb (fk_q59 _ (UH _ (aap _ (aak _ (NL _ (aaF _ (UP _ (UG _ fe)))))))) Tryz.func236 loopsL_nil boxesL_none
def K_q114:iq:=⟨135,[.k (.pair .bool (.pair I6 (.pair .str (.pair (.pair I6 (.pair (.own an) .unit)) (.pair (.pair (.own e_) (.pair I6 .unit)) (.pair (.own eA) (.pair (.own cr) .unit))))))),.v fT],[.v (.pair .bool (.pair I6 (.pair .str (.pair fN (.pair lg (.pair (.lst eA) (.pair (.own cr) .unit))))))),.v (.own fT)],Wh.BO,Wh.O1⟩
def C_q114:Cx:=⟨nc,[Nj.entry,Sy.entry,R7.entry],false,Gl⟩
def TM:b8:=boxD ⟨[(4,.aZ z0 []),(2,.aZ z1 []),(3,.aZ z2 []),(6,.leaf I6)],[(z0,false,.var fk (.pair (.leaf .bool) (.pair (.leaf I6) (.pair (.leaf .str) (.pair (.pair (.leaf I6) (.pair (.whole z3 an) (.leaf .unit))) (.pair (.pair (.whole 500000004 e_) (.leaf (.pair I6 .unit))) (.pair (.whole 500000005 eA) (.pair (.whole 500000006 cr) (.leaf .unit))))))))),(z1,false,.var fk (.pair (.leaf .bool) (.pair (.leaf I6) (.pair (.leaf .str) (.pair (.pair (.leaf I6) (.pair (.whole 500000007 an) (.leaf .unit))) (.pair (.pair (.whole 500000008 e_) (.leaf (.pair I6 .unit))) (.pair (.whole 500000009 eA) (.pair (.whole 500000010 cr) (.leaf .unit))))))))),(z2,false,.var fT (.leaf fT)),(z3,false,.rows an),(500000004,false,.rows e_),(500000005,false,.rows eA),(500000006,false,.rows cr),(500000007,false,.rows an),(500000008,false,.rows e_),(500000009,false,.rows eA),(500000010,false,.rows cr)]⟩ [(.norm,⟨[(4,.aZ z0 []),(2,.aZ z1 [])],[(z0,false,.var fk (.pair (.leaf .bool) (.pair (.leaf I6) (.pair (.leaf .str) (.pair (.pair (.leaf I6) (.pair (.whole z2 an) (.leaf .unit))) (.pair (.pair (.whole z3 e_) (.leaf (.pair I6 .unit))) (.pair (.whole 500000004 eA) (.pair (.whole 500000005 cr) (.leaf .unit))))))))),(z1,false,.var fk (.pair (.leaf .bool) (.pair (.leaf I6) (.pair (.leaf .str) (.pair (.leaf fN) (.pair (.leaf lg) (.pair (.leaf (.lst eA)) (.pair (.whole 500000006 cr) (.leaf .unit))))))))),(z2,false,.rows an),(z3,false,.rows e_),(500000004,false,.rows eA),(500000005,false,.rows cr),(500000006,false,.rows cr)]⟩),(.norm,⟨[(4,.aZ z0 []),(2,.aZ z1 [])],[(z0,false,.var fk (.pair (.leaf .bool) (.pair (.leaf I6) (.pair (.leaf .str) (.pair (.pair (.leaf I6) (.pair (.whole z2 an) (.leaf .unit))) (.pair (.pair (.whole z3 e_) (.leaf (.pair I6 .unit))) (.pair (.whole 500000004 eA) (.pair (.whole 500000005 cr) (.leaf .unit))))))))),(z1,false,.var fk (.pair (.leaf .bool) (.pair (.leaf I6) (.pair (.leaf .str) (.pair (.pair (.leaf I6) (.pair (.whole 500000006 an) (.leaf .unit))) (.pair (.pair (.whole 500000007 e_) (.leaf (.pair I6 .unit))) (.pair (.whole 500000008 eA) (.pair (.whole 500000009 cr) (.leaf .unit))))))))),(z2,false,.rows an),(z3,false,.rows e_),(500000004,false,.rows eA),(500000005,false,.rows cr),(500000006,false,.rows an),(500000007,false,.rows e_),(500000008,false,.rows eA),(500000009,false,.rows cr)]⟩)] Wh.q41 Wh.Mt
def VI:LT:=[(1000006,TM)]
theorem ae0:∀x,boxR C_q114 VI (nZ Tryz.f135 8) TM x=Wh.q41 x:=by intro x;kernel_rfl
theorem aal:FK K_q114:=wl (lt:=VI) Wh.O2 (NL _ (UG _ (aam _ fe))) Tryz.func135 loopsL_nil (boxes_of (ks:=[8]) (by kernel_rfl) (boxesL_cons (by kernel_rfl) ae0 Wh.QW boxesL_nil))
def K_q40:iq:=⟨48,[.v fk,.v fT],[.v (.pair .bool (.pair I6 (.pair .str (.pair fN (.pair lg (.pair (.lst eA) (.pair (.own cr) .unit))))))),.v (.own fT)],Wh.EA,Wh.q40'⟩
theorem fk_q40:FK K_q40:=wl (lt:=gT) Wh.q40_v (aal _ (aaJ _ (aaj _ (fk_q87 _ fe)))) Tryz.func48 loopsL_nil boxesL_none
def K_q127:iq:=⟨216,[.v fT],[.v .bool],Wh.G0,Wh.Pv⟩
theorem aau:FK K_q127:=wl (lt:=gT) Wh.Ei (ND _ (Cw _ fe)) Tryz.func216 loopsL_nil boxesL_none
def K_q12:iq:=⟨310,[.v cr,.v (.ref I6)],[.v .bool],Wh.q12,Wh.q12'⟩
theorem fk_q12:FK K_q12:=wl (lt:=gT) Wh.Pw fe Tryz.func310 loopsL_nil boxesL_none
def K_q3:iq:=⟨309,[.v (.lst cr),.f 310 (.pair (.ref I6) .unit)],[.v I6],Wh.q3,Wh.q3'⟩
def C_q3:Cx:=⟨nc,[K_q12.entry],false,Gl⟩
def Tp:b8:=kS ⟨[(8,.leaf I6),(0,.leaf (.lst cr)),(1,.fn 310 (.bB (.leaf (.ref I6)) (.b7))),(7,.leaf I6)],[]⟩ [(.ret,⟨[(4,.leaf I6)],[]⟩),((.exit 0),⟨[],[]⟩)] Wh.Yk Wh.Ez
def lt_q3:LT:=[(2,Tp)]
theorem aeG:∀x,round C_q3 lt_q3 (jo Tryz.f309 0) Tp x=Wh.Ez x:=by intro x;kernel_rfl
theorem fk_q3:FK K_q3:=wl (lt:=lt_q3) Wh.q3_v (fk_q12 _ fe) Tryz.func309 (loopsC (loopD_ok aeG) loopsL_nil) boxesL_none
def K_q19:iq:=⟨238,[.v fk,.v I6],[.v I6],Wh.q19,Wh.Mn⟩
theorem UK:FK K_q19:=wl (lt:=gT) Wh.Aj (fk_q3 _ fe) Tryz.func238 loopsL_nil boxesL_none
def K_q13:iq:=⟨311,[.k (.own cr),.v I6,.v I6],[.v (.own cr)],Wh.q13,Wh.q13'⟩
theorem fk_q13:FK K_q13:=wl (lt:=gT) Wh.q13_v fe Tryz.func311 loopsL_nil boxesL_none
def K_q18:iq:=⟨239,[.p (.pair .bool (.pair I6 (.pair .str (.pair (.pair I6 (.pair (.own an) .unit)) (.pair (.pair (.own e_) (.pair I6 .unit)) (.pair (.own eA) (.pair (.own cr) .unit))))))),.v I6],[],Wh.q18,Wh.Ml⟩
theorem UJ:FK K_q18:=wl (lt:=gT) Wh.Mm (fk_q13 _ fe) Tryz.func239 loopsL_nil boxesL_none
def Nh:iq:=⟨308,[.v cr,.v cr],[.v I6],Wh.q16,Wh.q16'⟩
theorem UE:FK Nh:=wl (lt:=gT) Wh.Mk fe Tryz.func308 loopsL_nil boxesL_none
def K_q0:iq:=⟨408,[.m cr,.v I6,.v I6,.f 308 .unit],[],Wh.q0,Wh.q0'⟩
def C_q0:Cx:=⟨nc,[Nh.entry],false,Gl⟩
def Ts:b8:=kS ⟨[(0,.whole 900 cr),(8,.leaf I6),(3,.fn 308 (.b7)),(1,.leaf I6),(2,.leaf I6)],[(900,false,.rows cr)]⟩ [((.exit 0),⟨[],[(900,false,.rows cr)]⟩)] Wh.WT Wh.CL
def Tt:b8:=kS ⟨[(9,.leaf I6),(0,.whole 900 cr),(3,.fn 308 (.b7)),(1,.leaf I6),(2,.leaf I6),(8,.leaf I6)],[(900,false,.rows cr)]⟩ [((.exit 2),⟨[(0,.whole 900 cr),(3,.fn 308 (.b7)),(1,.leaf I6),(2,.leaf I6),(8,.leaf I6)],[(900,false,.rows cr)]⟩)] Wh.WU Wh.Dt
def Oe:LT:=[(1,Ts),(4,Tt)]
theorem aeJ:∀x,round C_q0 Oe (jo Tryz.f408 0) Ts x=Wh.CL x:=by intro x;kernel_rfl
theorem aeK:∀x,round C_q0 Oe (jo Tryz.f408 1) Tt x=Wh.Dt x:=by intro x;kernel_rfl
theorem fk_q0:FK K_q0:=wl (lt:=Oe) Wh.q0_v (UE _ fe) Tryz.func408 (loopsC (loopD_ok aeJ) (loopsC (loopD_ok aeK) loopsL_nil)) boxesL_none
def K_q2:iq:=⟨356,[.m cr,.v I6,.v I6,.v I6,.f 308 .unit],[],Wh.q2,Wh.Ev⟩
def C_q2:Cx:=⟨nc,[Nh.entry,K_q0.entry],false,Gl⟩
def Tv:b8:=kS ⟨[(4,.fn 308 (.b7)),(2,.leaf I6),(1,.leaf I6),(0,.whole 900 cr),(11,.leaf .bool),(10,.leaf .bool),(3,.leaf I6)],[(900,false,.rows cr)]⟩ [(.ret,⟨[],[(900,false,.rows cr)]⟩)] Wh.Yf Wh.IX
def lt_q2:LT:=[(2,Tv)]
theorem aeM:∀x,round C_q2 lt_q2 (jo Tryz.f356 0) Tv x=Wh.IX x:=by intro x;kernel_rfl
theorem fk_q2:FK K_q2:=wl (lt:=lt_q2) Wh.q2_v (UE _ (fk_q0 _ fe)) Tryz.func356 (loopsC (loopD_ok aeM) loopsL_nil) boxesL_none
def K_q6:iq:=⟨307,[.m cr,.f 308 .unit],[],Wh.q6,Wh.q6'⟩
theorem fk_q6:FK K_q6:=wl (lt:=gT) Wh.q6_v (fk_q2 _ (Uv _ fe)) Tryz.func307 loopsL_nil boxesL_none
def K_q69:iq:=⟨298,[.v (.lst I6)],[.v .str],Wh.CS,Wh.MA⟩
def C_q69:Cx:=⟨nc,[Jl.entry,Jk.entry],false,Gl⟩
def SS:b8:=kS ⟨[(9,.leaf I6),(3,.whole z0 .str),(7,.leaf (.lst I6)),(8,.leaf I6)],[(z0,false,.rows .str)]⟩ [((.exit 0),⟨[(3,.whole z0 .str)],[(z0,false,.rows .str)]⟩)] Wh.YB Wh.CT
def Wo:LT:=[(3,SS)]
theorem ad_:∀x,round C_q69 Wo (jo Tryz.f298 0) SS x=Wh.CT x:=by intro x;kernel_rfl
theorem fk_q69:FK K_q69:=wl (lt:=Wo) Wh.Rh (aa1 _ (Jv _ fe)) Tryz.func298 (loopsC (loopD_ok ad_) loopsL_nil) boxesL_none
def K_q47:iq:=⟨219,[.v s_],[.v .str],Wh.q47,Wh.q47'⟩
theorem fk_q47:FK K_q47:=wl (lt:=gT) Wh.Q1 (fk_q69 _ (Jv _ (aas _ fe))) Tryz.func219 loopsL_nil boxesL_none
def K_q25:iq:=⟨237,[.p (.pair .bool (.pair I6 (.pair .str (.pair (.pair I6 (.pair (.own an) .unit)) (.pair (.pair (.own e_) (.pair I6 .unit)) (.pair (.own eA) (.pair (.own cr) .unit))))))),.v fT],[.v (.own fT)],Wh.AK,Wh.q25'⟩
def C_q25:Cx:=⟨nc,[K_q47.entry,Nn.entry,K_q6.entry,K_q18.entry,K_q64.entry,No.entry,K_q19.entry],false,Gl⟩
def SP:b8:=boxD ⟨[(7,.aZ z0 []),(3,.aZ z1 []),(0,.aZ 900 []),(8,.aZ z2 []),(5,.leaf I6)],[(900,false,.var fk (.pair (.leaf .bool) (.pair (.leaf I6) (.pair (.leaf .str) (.pair (.pair (.leaf I6) (.pair (.whole z3 an) (.leaf .unit))) (.pair (.pair (.whole 500000004 e_) (.leaf (.pair I6 .unit))) (.pair (.whole 500000005 eA) (.pair (.whole 500000006 cr) (.leaf .unit))))))))),(z0,false,.var an (.leaf an)),(z1,false,.var fT (.leaf fT)),(z2,false,.var cr (.leaf cr)),(z3,false,.rows an),(500000004,false,.rows e_),(500000005,false,.rows eA),(500000006,false,.rows cr)]⟩ [(.norm,⟨[(7,.aZ z0 []),(3,.aZ z1 [])],[(900,false,.var fk (.pair (.leaf .bool) (.pair (.leaf I6) (.pair (.leaf .str) (.pair (.pair (.leaf I6) (.pair (.whole z2 an) (.leaf .unit))) (.pair (.pair (.whole z3 e_) (.leaf (.pair I6 .unit))) (.pair (.whole 500000004 eA) (.pair (.whole 500000005 cr) (.leaf .unit))))))))),(z0,false,.var an (.leaf an)),(z1,false,.var fT (.leaf fT)),(z2,false,.rows an),(z3,false,.rows e_),(500000004,false,.rows eA),(500000005,false,.rows cr)]⟩)] Wh.q11 Wh.L0
def V6:LT:=[(1000011,SP)]
theorem ad8:∀x,boxR C_q25 V6 (nZ Tryz.f237 13) SP x=Wh.q11 x:=by intro x;kernel_rfl
theorem fk_q25:FK K_q25:=wl (lt:=V6) Wh.q25_v (fk_q47 _ (UQ _ (fk_q6 _ (UJ _ (NM _ (UR _ (UK _ fe))))))) Tryz.func237 loopsL_nil (boxes_of (ks:=[13]) (by kernel_rfl) (boxesL_cons (by kernel_rfl) ad8 Wh.Pf boxesL_nil))
def K_q24:iq:=⟨136,[.v fk,.v fT],[.d fk,.v (.own fT)],Wh.A7,Wh.q24'⟩
theorem fk_q24:FK K_q24:=wl (lt:=gT) Wh.Mq (UJ _ (UK _ (fk_q25 _ (UO _ (aau _ (fk_q26 _ D_)))))) Tryz.func136 loopsL_nil boxesL_none
def K_q33:iq:=⟨49,[.v fk,.v fT],[.d fk,.v (.own fT)],Wh.DD,Wh.q33'⟩
theorem fk_q33:FK K_q33:=wl (lt:=gT) Wh.q33_v (fk_q24 _ (fk_q66 _ D_)) Tryz.func49 loopsL_nil boxesL_none
def Sf:iq:=⟨119,[.v fT,.v fT],[.v .bool],Wh.IA,Wh.L7⟩
theorem aay:FK Sf:=wl (lt:=gT) Wh.q132_v fe Tryz.func119 loopsL_nil boxesL_none
def R4:iq:=⟨36,[.v (.lst fT),.v (.lst fT)],[.v .bool],Wh.Fh,Wh.ON⟩
def C_q102:Cx:=⟨nc,[Sf.entry],false,Gl⟩
def S6:b8:=kS ⟨[(5,.leaf I6),(1,.leaf (.lst fT)),(0,.leaf (.lst fT))],[]⟩ [(.ret,⟨[(4,.leaf .bool)],[]⟩),((.exit 0),⟨[],[]⟩)] Wh.WY Wh.GR
def VF:LT:=[(4,S6)]
theorem aem:∀x,round C_q102 VF (jo Tryz.f36 0) S6 x=Wh.GR x:=by intro x;kernel_rfl
theorem Z_:FK R4:=wl (lt:=VF) Wh.WZ (aay _ fe) Tryz.func36 (loopsC (loopD_ok aem) loopsL_nil) boxesL_none
def K_q55:iq:=⟨38,[.m fT,.v I6],[.v I6],Wh.q55,Wh.q55'⟩
def C_q55:Cx:=⟨nc,[Jj.entry],false,Gl⟩
def Tg:b8:=kS ⟨[(5,.leaf I6),(0,.whole 900 fT),(1,.leaf I6)],[(900,false,.rows fT)]⟩ [((.exit 0),⟨[(1,.leaf I6)],[(900,false,.rows fT)]⟩)] Wh.Yu Wh.FO
def Wk:LT:=[(2,Tg)]
theorem aex:∀x,round C_q55 Wk (jo Tryz.f38 0) Tg x=Wh.FO x:=by intro x;kernel_rfl
theorem fk_q55:FK K_q55:=wl (lt:=Wk) Wh.q55_v (Lq _ fe) Tryz.func38 (loopsC (loopD_ok aex) loopsL_nil) boxesL_none
def K_q53:iq:=⟨40,[.v (.lst fT),.v I6],[.v I6],Wh.q53,Wh.q53'⟩
def C_q53:Cx:=⟨nc,[Jj.entry],false,Gl⟩
def Ta:b8:=kS ⟨[(5,.leaf I6),(0,.leaf (.lst fT)),(1,.leaf I6)],[]⟩ [(.ret,⟨[(4,.leaf I6)],[]⟩),((.exit 0),⟨[(1,.leaf I6)],[]⟩)] Wh.Yr Wh.FM
def Wi:LT:=[(2,Ta)]
theorem aer:∀x,round C_q53 Wi (jo Tryz.f40 0) Ta x=Wh.FM x:=by intro x;kernel_rfl
theorem fk_q53:FK K_q53:=wl (lt:=Wi) Wh.q53_v (Lq _ fe) Tryz.func40 (loopsC (loopD_ok aer) loopsL_nil) boxesL_none
def K_q9:iq:=⟨11,[.v fk,.v fT],[.v .bool],Wh.Km,Wh.q9'⟩
def C_q9:Cx:=⟨nc,[K_q53.entry,K_q36.entry,K_q55.entry,K_q39.entry,R4.entry,K_q75.entry,K_q33.entry,K_q40.entry,Sk.entry,K_q85.entry,Si.entry,K_q81.entry],false,Gl⟩
theorem e_q9:EV C_q9 gT Tryz.f11 [.v fk,.v fT] [.v .bool] Wh.Km:=by intro xs;kernel_rfl
theorem ok_q9:CO K_q9:=con_ok (Ls:=[]) mixed (NA _ _) (fk_q53 _ (fk_q36 _ (fk_q55 _ (fk_q39 _ (Z_ _ (fk_q75 _ (fk_q33 _ (fk_q40 _ (aaE _ (fk_q85 _ (aaB _ (fk_q81 _ fe)))))))))))) Tryz.func11 loopsL_nil boxesL_none e_q9
end
end Go.Proofs.B4
