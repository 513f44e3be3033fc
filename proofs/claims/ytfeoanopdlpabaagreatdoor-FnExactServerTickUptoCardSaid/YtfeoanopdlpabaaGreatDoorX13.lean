import Derived.Test.YtfeoanopdlpabaaGreatDoorX12
import Derived.Test.YtfeoanopdlpabaaGreatDoorProg
import Derived.KernelRfl
set_option linter.defProp false
namespace Wh
end Wh
open Wh
open Go Go.Ab
namespace Go.Proofs.EC
noncomputable section
def Dx:List (Nat×TI):=[(2,⟨(.int .i64),0⟩),(3,⟨(.int .i64),0⟩),(4,⟨.bool,0⟩),(5,⟨(.int .u8),0⟩),(6,⟨(.int .u8),0⟩),(7,⟨VQ,1⟩),(8,⟨VQ,1⟩),(9,⟨.str,0⟩),(10,⟨.str,0⟩),(11,⟨.str,0⟩),(12,⟨(.int .u64),0⟩),(13,⟨VR,0⟩),(14,⟨VR,0⟩),(21,⟨(.int .i32),0⟩),(455,⟨(.int .i32),0⟩),(454,⟨(.int .i32),0⟩),(422,⟨(.ref (.int .u8)),0⟩),(452,⟨(.int .u8),0⟩),(451,⟨(.int .u8),0⟩),(345,⟨(.int .u32),0⟩),(118,⟨an,1⟩),(260,⟨an,1⟩),(22,⟨(.lst an),0⟩),(23,⟨fe,0⟩),(24,⟨fe,0⟩),(122,⟨bp,1⟩),(282,⟨bp,1⟩),(25,⟨(.lst bp),0⟩),(26,⟨fT,0⟩),(27,⟨fT,0⟩),(126,⟨di,1⟩),(204,⟨di,1⟩),(28,⟨(.lst di),0⟩),(134,⟨bx,1⟩),(206,⟨bx,1⟩),(29,⟨(.lst bx),0⟩),(30,⟨eA,0⟩),(31,⟨eA,0⟩),(119,⟨an,1⟩),(34,⟨(.lst an),0⟩),(35,⟨fe,0⟩),(36,⟨fe,0⟩),(123,⟨bp,1⟩),(37,⟨(.lst bp),0⟩),(38,⟨fT,0⟩),(39,⟨fT,0⟩),(127,⟨di,1⟩),(40,⟨(.lst di),0⟩),(135,⟨bx,1⟩),(41,⟨(.lst bx),0⟩),(42,⟨eA,0⟩),(43,⟨eA,0⟩),(56,⟨(.lst (.int .i64)),0⟩),(57,⟨gv,0⟩),(58,⟨gv,0⟩),(320,⟨Na,0⟩),(340,⟨Na,0⟩),(59,⟨(.lst Na),0⟩),(60,⟨Lx,0⟩),(61,⟨Lx,0⟩),(62,⟨Lw,0⟩),(63,⟨Lw,0⟩),(64,⟨HH,0⟩),(65,⟨HH,0⟩),(66,⟨r5,1⟩),(67,⟨r5,1⟩),(70,⟨gv,0⟩),(321,⟨Na,0⟩),(71,⟨(.lst Na),0⟩),(72,⟨Lx,0⟩),(73,⟨Lx,0⟩),(74,⟨Lw,0⟩),(75,⟨Lw,0⟩),(76,⟨HH,0⟩),(77,⟨HH,0⟩),(82,⟨r5,1⟩),(78,⟨(.lst r5),0⟩),(89,⟨(.lst HH),0⟩),(174,⟨Nb,1⟩),(258,⟨Nb,1⟩),(90,⟨(.lst Nb),0⟩),(91,⟨O0,0⟩),(92,⟨O0,0⟩),(95,⟨(.lst HH),0⟩),(175,⟨Nb,1⟩),(96,⟨(.lst Nb),0⟩),(97,⟨O0,0⟩),(98,⟨O0,0⟩),(111,⟨(.lst .str),0⟩),(192,⟨zR,1⟩),(193,⟨zR,1⟩),(189,⟨(.lst zR),0⟩),(256,⟨(.lst (.int .u8)),0⟩),(314,⟨(.ref eA),0⟩),(331,⟨(.int .u64),0⟩),(332,⟨(.ref bp),0⟩),(357,⟨(.int .i64),0⟩),(366,⟨(.int .u64),0⟩),(369,⟨(.int .i64),0⟩),(375,⟨(.arr 24 (.int .u8)),0⟩),(379,⟨(.arr 8 (.int .u32)),0⟩),(380,⟨(.arr 64 (.int .u32)),0⟩),(399,⟨(.int .u64),0⟩),(403,⟨(.ref (.int .i64)),0⟩),(405,⟨(.lst (.int .u32)),0⟩),(416,⟨(.arr 20 (.int .u64)),0⟩),(417,⟨(.arr 65 (.int .u8)),0⟩),(425,⟨(.ref (.int .u64)),0⟩),(432,⟨tEr,1⟩),(433,⟨tEr,1⟩),(431,⟨(.ref tEr),0⟩),(440,⟨(.arr 32 (.int .u8)),0⟩),(441,⟨(.arr 64 (.int .u8)),0⟩),(442,⟨(.arr 256 (.int .u8)),0⟩),(443,⟨VS,1⟩),(444,⟨VS,1⟩)]
def tab_ok:cN (fun x=>(dG Tryz.prog x.2.t).1 x.1&&(!(Nat.beq x.2.e 1) || eqB Tryz.prog x.1)) Dx=true:=by kernel_rfl
def RS (fns:List (Nat×List Ab.Mode×(List Arg→Option Res)))(dp:Bool):bW Tryz.prog ⟨Dx,fns,dp,Gl⟩:=cxOk_of tab_ok
def mixed:Tryz.prog.follows .mixedOrders=true:=by kernel_rfl
abbrev FT:Type:=List (Nat×List Ab.Mode×(List Arg→Option Res))
abbrev FK (c:jW):Prop:=∀(fns:FT) {dp:Bool},eW Tryz.prog Gb ⟨Dx,fns,dp,Gl⟩→eW Tryz.prog Gb ⟨Dx,c.entry::fns,dp,Gl⟩
abbrev EV (C:Cx)(lt:List (Nat×cE))(f:Func)(ps:List PT)(ws:List Want)(g:jf ps→Option (k7 ws×jU ps)):Prop:=∀xs,evT C lt f ps ws xs=g xs
abbrev CO (c:jW):Prop:=ConOk Tryz.prog Gb c
abbrev LT:Type:=List (Nat×cE)
def gd:LT:=[]
abbrev z0:Nat:=500000000
abbrev z1:Nat:=500000001
abbrev z2:Nat:=500000002
abbrev z3:Nat:=500000003
abbrev I6:Ty:=.int .i64
abbrev I8:Ty:=.int .u8
abbrev I3:Ty:=.int .u32
def nF:eW Tryz.prog Gb ⟨Dx,[],false,Gl⟩:=eW.nil Dx false gl_ok
def fk {C:Cx}{lt:LT}{fn:Func}{k:Nat}{sh:Sh}{ex:fJ}{y0:ex.den}{r:sh.den→Option (sh.den⊕ex.den)}{l:List cE}(h3:kH C lt fn (k+1) l)(h:∀x,round C lt (iV fn k) (nq sh ex y0 r) x=r x:=by intro x;kernel_rfl)(h1:find lt (iA (iV fn k))=some (nq sh ex y0 r):=by kernel_rfl)(h4:(find lt (iA (iV fn k)+500000)).isSome=false:=by kernel_rfl):kH C lt fn k (nq sh ex y0 r::l):=loopsC (loopD_ok h) h3 h1 h4
def zx {α β:Type}[Inhabited β](f:α→Option β):∀x y,f x=some y→zog f x=y:=zv
def wl {c:jW}{F:FT}{b:Bool}{fn:Func}{Ls:List cE}{lt:LT}(hv:∀x y,c.fn x=some y→c.val x=y)(hF:eW Tryz.prog Gb ⟨Dx,F,b,Gl⟩)(hf:Tryz.prog.funcs[c.id]?=some fn)(hlo:kH ⟨Dx,F,b,Gl⟩ lt fn 0 Ls)(hbx:∀b'∈jh (kJ fn),nU ⟨Dx,F,b,Gl⟩ lt b')(hev:∀xs,evT ⟨Dx,F,b,Gl⟩ lt fn c.ps c.ws xs=c.fn xs:=by intro xs;kernel_rfl)(he:fnB Tryz.prog c.id=true:=by kernel_rfl):FK c:=fun _ _ h=>h.cons c he hv (con_ok mixed (RS _ _) hF hf hlo hbx hev)
def nT:eW Tryz.prog Gb ⟨Dx,[],true,Gl⟩:=eW.nil Dx true gl_ok
def K_q143:jW:=⟨229,[.v an,.v I6],[.v I6],Kw,zog Kw⟩
def aeU:FK K_q143:=wl (lt:=gd) (zx Kw) nF Tryz.func229 loopsL_nil boxesL_none
def K_q110:jW:=⟨125,[.v (.lst an),.v I6],[.v I6],Mq,zog Mq⟩
def WY:cE:=nq ⟨[(5,.leaf I6),(1,.leaf I6),(0,.leaf (.lst an))],[]⟩ [(.ret,⟨[(4,.leaf I6)],[]⟩),((.exit 0),⟨[(1,.leaf I6)],[]⟩)] TM Kg
def agB:LT:=[(5,WY)]
def aev:FK K_q110:=wl (lt:=agB) (Ls:=[WY]) (zx Mq) (aeU _ nF) Tryz.func125 (fk loopsL_nil) boxesL_none
def K_q173:jW:=⟨54,[.v fe,.v I6],[.v I6],MN,zog MN⟩
def afb:FK K_q173:=wl (lt:=gd) (zx MN) (aev _ nF) Tryz.func54 loopsL_nil boxesL_none
def K_q77:jW:=⟨149,[.v (.lst bp),.v I6],[.v I6],q77,zog q77⟩
def fk_q77:FK K_q77:=wl (lt:=gd) (zx q77) nF Tryz.func149 loopsL_nil boxesL_none
def K_q144:jW:=⟨55,[.v fT,.v I6],[.v I6],MG,zog MG⟩
def aeV:FK K_q144:=wl (lt:=gd) (zx MG) (fk_q77 _ nF) Tryz.func55 loopsL_nil boxesL_none
def K_q50:jW:=⟨56,[.v (.lst di),.v I6],[.v I6],q50,zog q50⟩
def fk_q50:FK K_q50:=wl (lt:=gd) (zx q50) nF Tryz.func56 loopsL_nil boxesL_none
def K_q78:jW:=⟨57,[.v (.lst bx),.v I6],[.v I6],q78,zog q78⟩
def fk_q78:FK K_q78:=wl (lt:=gd) (zx q78) nF Tryz.func57 loopsL_nil boxesL_none
def K_q79:jW:=⟨14,[.v eA,.v I6],[.v I6],q79,zog q79⟩
def fk_q79:FK K_q79:=wl (lt:=gd) (zx q79) (fk_q78 _ (fk_q50 _ (aeV _ (afb _ nF)))) Tryz.func14 loopsL_nil boxesL_none
def K_q145:jW:=⟨232,[.v an],[.v an],MH,zog MH⟩
def aeW:FK K_q145:=wl (lt:=gd) (zx MH) nF Tryz.func232 loopsL_nil boxesL_none
def K_q112:jW:=⟨129,[.v (.lst an)],[.v (.own an)],Ms,zog Ms⟩
def W3:cE:=nq ⟨[(4,.leaf I6),(0,.leaf (.lst an)),(3,.whole z0 an)],[(z0,false,.rows an)]⟩ [((.exit 0),⟨[(3,.whole z0 an)],[(z0,false,.rows an)]⟩)] aa4 Kh
def agC:LT:=[(3,W3)]
def aex:FK K_q112:=wl (lt:=agC) (Ls:=[W3]) (zx Ms) (aeW _ nF) Tryz.func129 (fk loopsL_nil) boxesL_none
def K_q174:jW:=⟨69,[.v fe],[.v (.pair I6 (.pair (.own an) .unit))],MO,zog MO⟩
def afc:FK K_q174:=wl (lt:=gd) (zx MO) (aex _ nF) Tryz.func69 loopsL_nil boxesL_none
def K_q111:jW:=⟨259,[.v bp],[.v bp],Mr,zog Mr⟩
def aew:FK K_q111:=wl (lt:=gd) (zx Mr) nF Tryz.func259 loopsL_nil boxesL_none
def K_q81:jW:=⟨153,[.v (.lst bp)],[.v (.own bp)],q81,zog q81⟩
def W0:cE:=nq ⟨[(4,.leaf I6),(0,.leaf (.lst bp)),(3,.whole z0 bp)],[(z0,false,.rows bp)]⟩ [((.exit 0),⟨[(3,.whole z0 bp)],[(z0,false,.rows bp)]⟩)] acE Lg
def lt_q81:LT:=[(3,W0)]
def fk_q81:FK K_q81:=wl (lt:=lt_q81) (Ls:=[W0]) (zx q81) (aew _ nF) Tryz.func153 (fk loopsL_nil) boxesL_none
def K_q146:jW:=⟨70,[.v fT],[.v (.pair (.own bp) (.pair I6 .unit))],MI,zog MI⟩
def aeX:FK K_q146:=wl (lt:=gd) (zx MI) (fk_q81 _ nF) Tryz.func70 loopsL_nil boxesL_none
def K_q80:jW:=⟨154,[.v di],[.v di],q80,zog q80⟩
def fk_q80:FK K_q80:=wl (lt:=gd) (zx q80) nF Tryz.func154 loopsL_nil boxesL_none
def K_q51:jW:=⟨71,[.v (.lst di)],[.v (.own di)],q51,zog q51⟩
def WZ:cE:=nq ⟨[(4,.leaf I6),(0,.leaf (.lst di)),(3,.whole z0 di)],[(z0,false,.rows di)]⟩ [((.exit 0),⟨[(3,.whole z0 di)],[(z0,false,.rows di)]⟩)] aci K_
def lt_q51:LT:=[(3,WZ)]
def fk_q51:FK K_q51:=wl (lt:=lt_q51) (Ls:=[WZ]) (zx q51) (fk_q80 _ nF) Tryz.func71 (fk loopsL_nil) boxesL_none
def K_q113:jW:=⟨155,[.v bx],[.v bx],Mt,zog Mt⟩
def aey:FK K_q113:=wl (lt:=gd) (zx Mt) nF Tryz.func155 loopsL_nil boxesL_none
def K_q82:jW:=⟨72,[.v (.lst bx)],[.v (.own bx)],q82,zog q82⟩
def W4:cE:=nq ⟨[(4,.leaf I6),(0,.leaf (.lst bx)),(3,.whole z0 bx)],[(z0,false,.rows bx)]⟩ [((.exit 0),⟨[(3,.whole z0 bx)],[(z0,false,.rows bx)]⟩)] acF Lh
def lt_q82:LT:=[(3,W4)]
def fk_q82:FK K_q82:=wl (lt:=lt_q82) (Ls:=[W4]) (zx q82) (aey _ nF) Tryz.func72 (fk loopsL_nil) boxesL_none
def K_q83:jW:=⟨16,[.v eA],[.v (.pair .bool (.pair I6 (.pair .str (.pair (.pair I6 (.pair (.own an) .unit)) (.pair (.pair (.own bp) (.pair I6 .unit)) (.pair (.own di) (.pair (.own bx) .unit)))))))],Gu,zog Gu⟩
def fk_q83:FK K_q83:=wl (lt:=gd) (zx Gu) (fk_q82 _ (fk_q51 _ (aeX _ (afc _ nF)))) Tryz.func16 loopsL_nil boxesL_none
def K_q191:jW:=⟨58,[.v I6,.v I6,.v I6],[.v .bool],r_,zog r_⟩
def EH:FK K_q191:=wl (lt:=gd) (zx r_) nF Tryz.func58 loopsL_nil boxesL_none
def K_q158:jW:=⟨178,[.v .str,.v I6,.v I8],[.v I6],B_,zog B_⟩
def XU:cE:=nq ⟨[(7,.leaf I6),(2,.leaf I8),(0,.leaf .str)],[]⟩ [(.ret,⟨[(6,.leaf I6)],[]⟩),((.exit 0),⟨[],[]⟩)] abv Hh
def agW:LT:=[(2,XU)]
def YH:FK K_q158:=wl (lt:=agW) (Ls:=[XU]) (zx B_) nF Tryz.func178 (fk loopsL_nil) boxesL_none
def K_q188:jW:=⟨180,[.v .str],[.v I6],Dq,zog Dq⟩
def XR:cE:=nq ⟨[(4,.leaf I6),(0,.leaf .str),(3,.leaf I6)],[]⟩ [(.ret,⟨[(2,.leaf I6)],[]⟩),((.exit 0),⟨[(3,.leaf I6)],[]⟩)] abQ KT
def ahb:LT:=[(5,XR)]
def YP:FK K_q188:=wl (lt:=ahb) (Ls:=[XR]) (zx Dq) (EH _ nF) Tryz.func180 (fk loopsL_nil) boxesL_none
def Rq:jW:=⟨189,[.v I6],[.v .str],Ca,zog Ca⟩
def Nv (g:((Int))→Option (((List UInt8))×(Unit)))(g':((Int))→((List UInt8))×(Unit)):jW:=⟨189,[.v I6],[.v .str],g,g'⟩
def C_q181 (g:((Int))→Option (((List UInt8))×(Unit)))(g':((Int))→((List UInt8))×(Unit)):Cx:=⟨Dx,[(Nv g g').entry],false,Gl⟩
def e_q181 (g:((Int))→Option (((List UInt8))×(Unit)))(g':((Int))→((List UInt8))×(Unit)):∀xs,evT (C_q181 g g') gd Tryz.f189 [.v I6] [.v .str] xs=q37 g g' xs:=by intro xs;kernel_rfl
def s_q181 (g:((Int))→Option (((List UInt8))×(Unit)))(g':((Int))→((List UInt8))×(Unit))(hv:∀x y,g x=some y→g' x=y)(h:CO (Nv g g')):CO (Nv (q37 g g') (fun x=>match q37 g g' x with | some y=>y|none=>default)):=con_ok (Ls:=[]) mixed (RS _ _) (eW.cons nF (Nv g g') (by kernel_rfl) hv h) Tryz.func189 loopsL_nil boxesL_none (e_q181 g g')
def n_q181 (n:Nat):CO (Nv (Ei n) (fun x=>match Ei n x with | some y=>y|none=>default)):=by
 induction n with
 |zero=>intro xs y h;exact absurd (show none=some y from h) (by simp)
 |succ n ih=>
  rw[Uw n]
  exact s_q181 _ _ (fun x y h=>by simp only[h]) ih
def ahB:CO Rq:=n_q181 20
def YO:FK Rq:=fun _ _ h=>h.cons Rq (by kernel_rfl) (zx Ca) ahB
def K_q88:jW:=⟨423,[.v .str],[.v (.own I8)],q88,zog q88⟩
def XB:cE:=nq ⟨[(3,.whole z0 I8),(0,.leaf .str)],[(z0,false,.rows I8)]⟩ [((.exit 0),⟨[(3,.whole z0 I8),(0,.leaf .str)],[(z0,false,.rows I8)]⟩)] acI Li
def XC:cE:=nq ⟨[(5,.leaf I6),(4,.leaf I6),(3,.whole z0 I8)],[(z0,false,.rows I8)]⟩ [((.exit 2),⟨[(3,.whole z0 I8)],[(z0,false,.rows I8)]⟩)] acJ MX
def lt_q88:LT:=[(2,XB),(6,XC)]
def fk_q88:FK K_q88:=wl (lt:=lt_q88) (Ls:=[XB,XC]) (zx q88) nF Tryz.func423 (fk (fk loopsL_nil)) boxesL_none
def K_q152:jW:=⟨449,[.v I3,.v I6],[.v I3],zI,zog zI⟩
def YE:FK K_q152:=wl (lt:=gd) (zx zI) nF Tryz.func449 loopsL_nil boxesL_none
def K_q130:jW:=⟨447,[.v (.lst I8)],[.v (.own I3)],MB,zog MB⟩
def XF:cE:=nq ⟨[(4,.leaf I6),(0,.leaf (.lst I8)),(3,.whole z0 I3)],[(z0,false,.rows I3)]⟩ [((.exit 0),⟨[(3,.whole z0 I3)],[(z0,false,.rows I3)]⟩)] abc MC
def XG:cE:=nq ⟨[(5,.leaf I6),(3,.whole z0 I3)],[(z0,false,.rows I3)]⟩ [((.exit 2),⟨[(3,.whole z0 I3)],[(z0,false,.rows I3)]⟩)] abd MD
def agK:LT:=[(3,XF),(7,XG)]
def aeM:FK K_q130:=wl (lt:=agK) (Ls:=[XF,XG]) (zx MB) (YE _ nF) Tryz.func447 (fk (fk loopsL_nil)) boxesL_none
def K_q87:jW:=⟨448,[],[.v (.own I3)],q87,zog q87⟩
def fk_q87:FK K_q87:=wl (lt:=gd) (zx q87) nF Tryz.func448 loopsL_nil boxesL_none
def K_q128:jW:=⟨424,[.v (.lst I3),.v (.lst I8)],[.v (.own I3)],Kk,zog Kk⟩
def Xw:cE:=nq ⟨[(7,.whole z0 I3),(8,.leaf I6),(5,.whole z1 I3),(6,.whole z2 I3),(0,.leaf (.lst I3))],[(z0,false,.rows I3),(z1,false,.rows I3),(z2,false,.rows I3)]⟩ [((.exit 0),⟨[(7,.whole z0 I3),(0,.leaf (.lst I3))],[(z0,false,.rows I3)]⟩)] aba MA
def Xx:cE:=nq ⟨[(14,.leaf I6),(7,.whole z0 I3),(5,.whole z1 I3),(6,.whole z2 I3),(0,.leaf (.lst I3)),(8,.leaf I6),(13,.leaf I3),(12,.leaf I3),(11,.leaf I3)],[(z0,false,.rows I3),(z1,false,.rows I3),(z2,false,.rows I3)]⟩ [((.exit 2),⟨[(7,.whole z0 I3),(5,.whole z1 I3),(6,.whole z2 I3),(0,.leaf (.lst I3)),(8,.leaf I6),(13,.leaf I3),(12,.leaf I3),(11,.leaf I3)],[(z0,false,.rows I3),(z1,false,.rows I3),(z2,false,.rows I3)]⟩)] TX QH
def Xy:cE:=nq ⟨[(16,.leaf I6),(7,.whole z0 I3),(0,.leaf (.lst I3)),(15,.whole z1 I3)],[(z0,false,.rows I3),(z1,false,.rows I3)]⟩ [((.exit 4),⟨[(15,.whole z0 I3)],[(z0,false,.rows I3)]⟩)] abb QI
def agJ:LT:=[(5,Xw),(13,Xx),(20,Xy)]
def aeL:FK K_q128:=wl (lt:=agJ) (Ls:=[Xw,Xx,Xy]) (zx Kk) (YE _ (fk_q87 _ (aeM _ nF))) Tryz.func424 (fk (fk (fk loopsL_nil))) boxesL_none
def K_q183:jW:=⟨375,[.v .str],[.v .str],KM,zog KM⟩
def XD:cE:=nq ⟨[(5,.leaf I6),(4,.whole z0 I8),(3,.whole z1 I3)],[(z0,false,.rows I8),(z1,false,.rows I3)]⟩ [((.exit 0),⟨[(3,.whole z0 I3)],[(z0,false,.rows I3)]⟩)] abJ KN
def XE:cE:=nq ⟨[(7,.leaf I6),(3,.whole z0 I3),(6,.whole z1 I8)],[(z0,false,.rows I3),(z1,false,.rows I8)]⟩ [((.exit 2),⟨[(6,.whole z0 I8)],[(z0,false,.rows I8)]⟩)] abK QJ
def ag7:LT:=[(4,XD),(9,XE)]
def afh:FK K_q183:=wl (lt:=ag7) (Ls:=[XD,XE]) (zx KM) (aeL _ (fk_q88 _ nF)) Tryz.func375 (fk (fk loopsL_nil)) boxesL_none
def K_q182:jW:=⟨374,[.v .str],[.v .str],Hj,zog Hj⟩
def Xz:cE:=nq ⟨[(4,.leaf I6),(0,.leaf .str),(3,.whole z0 I8)],[(z0,false,.rows I8)]⟩ [((.exit 0),⟨[(3,.whole z0 I8)],[(z0,false,.rows I8)]⟩)] abI KL
def ag6:LT:=[(3,Xz)]
def afg:FK K_q182:=wl (lt:=ag6) (Ls:=[Xz]) (zx Hj) nF Tryz.func374 (fk loopsL_nil) boxesL_none
def K_q115:jW:=⟨328,[.v .str],[.v .str],EZ,zog EZ⟩
def aeA:FK K_q115:=wl (lt:=gd) (zx EZ) (afg _ (afh _ nF)) Tryz.func328 loopsL_nil boxesL_none
def K_q159:jW:=⟨258,[.v I6,.v .str],[.v .str],KA,zog KA⟩
def ae3:FK K_q159:=wl (lt:=gd) (zx KA) (aeA _ (YO _ nF)) Tryz.func258 loopsL_nil boxesL_none
def K_q160:jW:=⟨150,[.v .str,.v I6,.v I6],[.v .str,.v I6],IA,zog IA⟩
def ae4:FK K_q160:=wl (lt:=gd) (zx IA) (ae3 _ (EH _ (YP _ (YH _ nF)))) Tryz.func150 loopsL_nil boxesL_none
def K_q161:jW:=⟨60,[.v .str],[.v (.own .str),.v I6],IB,zog IB⟩
def XV:cE:=nq ⟨[(5,.leaf I6),(4,.whole z0 .str),(0,.leaf .str)],[(z0,false,.rows .str)]⟩ [(.ret,⟨[(2,.whole z0 .str),(3,.leaf I6)],[(z0,false,.rows .str)]⟩)] abw KB
def agX:LT:=[(3,XV)]
def YI:FK K_q161:=wl (lt:=agX) (Ls:=[XV]) (zx IB) (ae4 _ nF) Tryz.func60 (fk loopsL_nil) boxesL_none
def K_q157:jW:=⟨179,[.v .str,.v I8],[.v (.own .str)],Hg,zog Hg⟩
def XP:cE:=nq ⟨[(7,.leaf I6),(6,.leaf I6),(0,.leaf .str),(5,.whole z0 .str),(1,.leaf I8)],[(z0,false,.rows .str)]⟩ [((.exit 0),⟨[(6,.leaf I6),(0,.leaf .str),(5,.whole z0 .str)],[(z0,false,.rows .str)]⟩)] abu C5
def agV:LT:=[(4,XP)]
def ae2:FK K_q157:=wl (lt:=agV) (Ls:=[XP]) (zx Hg) nF Tryz.func179 (fk loopsL_nil) boxesL_none
def K_q148:jW:=⟨200,[.v .str],[.v .bool],Kx,zog Kx⟩
def Xf:cE:=nq ⟨[(3,.leaf I6),(0,.leaf .str)],[]⟩ [(.ret,⟨[(2,.leaf .bool)],[]⟩),((.exit 0),⟨[(0,.leaf .str)],[]⟩)] abn Ix
def agR:LT:=[(2,Xf)]
def aeZ:FK K_q148:=wl (lt:=agR) (Ls:=[Xf]) (zx Kx) (EH _ nF) Tryz.func200 (fk loopsL_nil) boxesL_none
def K_q193:jW:=⟨185,[.v an],[.v .bool],Gs,zog Gs⟩
def R2:FK K_q193:=wl (lt:=gd) (zx Gs) (aeZ _ (EH _ nF)) Tryz.func185 loopsL_nil boxesL_none
def K_q52:jW:=⟨103,[.v I6,.v .str,.v .str],[.v .str],q52,zog q52⟩
def fk_q52:FK K_q52:=wl (lt:=gd) (zx q52) (YO _ (R2 _ nF)) Tryz.func103 loopsL_nil boxesL_none
def K_q164:jW:=⟨272,[.v an,.v I6,.v .str],[.v .bool],IC,zog IC⟩
def YJ:FK K_q164:=wl (lt:=gd) (zx IC) nF Tryz.func272 loopsL_nil boxesL_none
def K_q133:jW:=⟨187,[.v (.lst an),.v I6],[.v I6],Is,zog Is⟩
def XX:cE:=nq ⟨[(6,.leaf I6),(0,.leaf (.lst an)),(5,.leaf I6),(1,.leaf I6)],[]⟩ [((.exit 0),⟨[(5,.leaf I6)],[]⟩)] abf Iu
def agM:LT:=[(3,XX)]
def Yy:FK K_q133:=wl (lt:=agM) (Ls:=[XX]) (zx Is) nF Tryz.func187 (fk loopsL_nil) boxesL_none
def K_q176:jW:=⟨184,[.v fe],[.v .bool],KG,zog KG⟩
def Xb:cE:=nq ⟨[(1,.aV z0 []),(3,.leaf I6)],[(z0,false,.var fe (.leaf fe))]⟩ [(.ret,⟨[(2,.leaf .bool)],[]⟩),((.exit 0),⟨[(1,.aV z0 [])],[(z0,false,.var fe (.leaf fe))]⟩)] abC IG
def Xc:cE:=nq ⟨[(5,.leaf I6),(4,.aV z0 []),(1,.aV z1 []),(3,.leaf I6)],[(z0,false,.var an (.leaf an)),(z1,false,.var fe (.leaf fe))]⟩ [(.ret,⟨[(2,.leaf .bool)],[]⟩),((.exit 2),⟨[(1,.aV z0 []),(3,.leaf I6)],[(z0,false,.var fe (.leaf fe))]⟩)] abD KH
def Xd:cE:=nq ⟨[(6,.leaf I6),(1,.aV z0 [])],[(z0,false,.var fe (.leaf fe))]⟩ [(.ret,⟨[(2,.leaf .bool)],[]⟩),((.exit 4),⟨[],[]⟩)] abE MP
def ag3:LT:=[(4,Xb),(10,Xc),(15,Xd)]
def YM:FK K_q176:=wl (lt:=ag3) (Ls:=[Xb,Xc,Xd]) (zx KG) (Yy _ (YJ _ (R2 _ (EH _ nF)))) Tryz.func184 (fk (fk (fk loopsL_nil))) boxesL_none
def K_q192:jW:=⟨186,[.v fe,.v I6,.v .str],[.v I6],Gr,zog Gr⟩
def XW:cE:=nq ⟨[(7,.leaf I6),(2,.leaf .str),(3,.aV z0 []),(1,.leaf I6)],[(z0,false,.var fe (.leaf fe))]⟩ [(.ret,⟨[(6,.leaf I6)],[]⟩),((.exit 0),⟨[],[]⟩)] abS IP
def ahd:LT:=[(2,XW)]
def YQ:FK K_q192:=wl (lt:=ahd) (Ls:=[XW]) (zx Gr) nF Tryz.func186 (fk loopsL_nil) boxesL_none
def K_q162:jW:=⟨170,[.v fe],[.v (.pair I6 (.pair (.own an) .unit))],Gn,zog Gn⟩
def R0:FK K_q162:=wl (lt:=gd) (zx Gn) nF Tryz.func170 loopsL_nil boxesL_none
def K_q165:jW:=⟨270,[.v fe,.v I6],[.v (.pair I6 (.pair (.own an) .unit))],MJ,zog MJ⟩
def ae6:FK K_q165:=wl (lt:=gd) (zx MJ) nF Tryz.func270 loopsL_nil boxesL_none
def K_q114:jW:=⟨181,[.v fe,.v I6,.v .str],[.v (.pair I6 (.pair (.own an) .unit)),.v I6],G0,zog G0⟩
def aez:FK K_q114:=wl (lt:=gd) (zx G0) (ae6 _ (R0 _ (YQ _ (YM _ nF)))) Tryz.func181 loopsL_nil boxesL_none
def K_q190:jW:=⟨188,[.v fe,.v an],[.v (.pair I6 (.pair (.own an) .unit))],MQ,zog MQ⟩
def XZ:cE:=nq ⟨[(5,.leaf I6),(4,.aV z0 []),(2,.aV z1 []),(3,.aV z2 [])],[(z0,false,.var fe (.pair (.leaf I6) (.pair (.whole z3 an) (.leaf .unit)))),(z1,false,.var fe (.leaf fe)),(z2,false,.var an (.leaf an)),(z3,false,.rows an)]⟩ [((.exit 0),⟨[(4,.aV z0 []),(5,.leaf I6),(2,.aV z1 []),(3,.aV z2 [])],[(z0,false,.var fe (.pair (.leaf I6) (.pair (.whole z3 an) (.leaf .unit)))),(z1,false,.var fe (.leaf fe)),(z2,false,.var an (.leaf an)),(z3,false,.rows an)]⟩)] abR IN
def ahc:LT:=[(2,XZ)]
def afm:FK K_q190:=wl (lt:=ahc) (Ls:=[XZ]) (zx MQ) (YJ _ nF) Tryz.func188 (fk loopsL_nil) boxesL_none
def K_q147:jW:=⟨101,[.v fe,.v I6,.v .str,.v .str],[.v (.pair I6 (.pair (.own an) .unit)),.v I6],Gk,zog Gk⟩
def aeY:FK K_q147:=wl (lt:=gd) (zx Gk) (afm _ (Yy _ (YQ _ (R0 _ (R2 _ (YM _ nF)))))) Tryz.func101 loopsL_nil boxesL_none
def K_q163:jW:=⟨98,[.v fe,.v .str],[.v (.pair I6 (.pair (.own an) .unit)),.v .bool],Hi,zog Hi⟩
def ae5:FK K_q163:=wl (lt:=gd) (zx Hi) (aeY _ (aez _ (fk_q52 _ (YP _ (ae2 _ (YH _ nF)))))) Tryz.func98 loopsL_nil boxesL_none
def K_q175:jW:=⟨61,[.v (.lst .str)],[.v (.pair I6 (.pair (.own an) .unit)),.v .bool],KF,zog KF⟩
def Xa:cE:=nq ⟨[(2,.aV z0 []),(5,.leaf I6),(4,.aV z1 []),(0,.leaf (.lst .str))],[(z0,false,.var fe (.pair (.leaf I6) (.pair (.whole z2 an) (.leaf .unit)))),(z1,false,.var fe (.pair (.leaf I6) (.pair (.whole z3 an) (.leaf .unit)))),(z2,false,.rows an),(z3,false,.rows an)]⟩ [(.ret,⟨[(2,.aV z0 []),(3,.leaf .bool)],[(z0,false,.var fe (.pair (.leaf I6) (.pair (.whole z1 an) (.leaf .unit)))),(z1,false,.rows an)]⟩),((.exit 0),⟨[(2,.aV z0 []),(4,.aV z1 [])],[(z0,false,.var fe (.pair (.leaf I6) (.pair (.whole z2 an) (.leaf .unit)))),(z1,false,.var fe (.pair (.leaf I6) (.pair (.whole z3 an) (.leaf .unit)))),(z2,false,.rows an),(z3,false,.rows an)]⟩)] abB IF
def ag2:LT:=[(3,Xa)]
def YL:FK K_q175:=wl (lt:=ag2) (Ls:=[Xa]) (zx KF) (ae5 _ nF) Tryz.func61 (fk loopsL_nil) boxesL_none
def K_q126:jW:=⟨59,[.v eA],[.v .bool],Kj,zog Kj⟩
def aeJ:FK K_q126:=wl (lt:=gd) (zx Kj) (YL _ (YI _ nF)) Tryz.func59 loopsL_nil boxesL_none
def K_q125:jW:=⟨62,[.v fe,.v fe],[.v .bool],G4,zog G4⟩
def Xs:cE:=nq ⟨[(5,.leaf I6),(3,.aV z0 []),(2,.aV z1 [])],[(z0,false,.var fe (.leaf fe)),(z1,false,.var fe (.leaf fe))]⟩ [(.ret,⟨[(4,.leaf .bool)],[]⟩),((.exit 0),⟨[],[]⟩)] aa9 Ir
def agH:LT:=[(4,Xs)]
def aeI:FK K_q125:=wl (lt:=agH) (Ls:=[Xs]) (zx G4) nF Tryz.func62 (fk loopsL_nil) boxesL_none
def K_q178:jW:=⟨151,[.v bp],[.v .bool],IJ,zog IJ⟩
def afd:FK K_q178:=wl (lt:=gd) (zx IJ) (EH _ nF) Tryz.func151 loopsL_nil boxesL_none
def K_q177:jW:=⟨152,[.v fT,.v I6],[.v I6],KI,zog KI⟩
def Xn:cE:=nq ⟨[(6,.leaf I6),(5,.leaf I6),(1,.leaf I6),(2,.aV z0 [])],[(z0,false,.var fT (.leaf fT))]⟩ [((.exit 0),⟨[(5,.leaf I6)],[]⟩)] abF II
def ag4:LT:=[(3,Xn)]
def YN:FK K_q177:=wl (lt:=ag4) (Ls:=[Xn]) (zx KI) nF Tryz.func152 (fk loopsL_nil) boxesL_none
def K_q149:jW:=⟨63,[.v fT],[.v .bool],G9,zog G9⟩
def Xg:cE:=nq ⟨[(1,.aV z0 []),(3,.leaf I6)],[(z0,false,.var fT (.leaf fT))]⟩ [(.ret,⟨[(2,.leaf .bool)],[]⟩),((.exit 0),⟨[(1,.aV z0 [])],[(z0,false,.var fT (.leaf fT))]⟩)] abo G_
def Xh:cE:=nq ⟨[(4,.leaf I6),(1,.aV z0 []),(3,.leaf I6)],[(z0,false,.var fT (.leaf fT))]⟩ [(.ret,⟨[(2,.leaf .bool)],[]⟩),((.exit 2),⟨[(1,.aV z0 []),(3,.leaf I6)],[(z0,false,.var fT (.leaf fT))]⟩)] abp Ej
def Xi:cE:=nq ⟨[(5,.leaf I6),(1,.aV z0 [])],[(z0,false,.var fT (.leaf fT))]⟩ [(.ret,⟨[(2,.leaf .bool)],[]⟩),((.exit 4),⟨[],[]⟩)] abq He
def agS:LT:=[(4,Xg),(9,Xh),(14,Xi)]
def YB:FK K_q149:=wl (lt:=agS) (Ls:=[Xg,Xh,Xi]) (zx G9) (YN _ (afd _ (EH _ nF))) Tryz.func63 (fk (fk (fk loopsL_nil))) boxesL_none
def K_q56:jW:=⟨65,[.v fe,.v I6],[.v an,.v .bool],FC,zog FC⟩
def XY:cE:=nq ⟨[(4,.aV z0 []),(6,.leaf I6),(2,.aV z1 []),(1,.leaf I6)],[(z0,false,.var an (.leaf an)),(z1,false,.var fe (.leaf fe))]⟩ [(.ret,⟨[(4,.aV z0 []),(5,.leaf .bool)],[(z0,false,.var an (.leaf an))]⟩),((.exit 0),⟨[(4,.aV z0 [])],[(z0,false,.var an (.leaf an))]⟩)] acn IZ
def lt_q56:LT:=[(2,XY)]
def PL:FK K_q56:=wl (lt:=lt_q56) (Ls:=[XY]) (zx FC) nF Tryz.func65 (fk loopsL_nil) boxesL_none
def K_q86:jW:=⟨138,[.v I6],[.v I6],Cr,zog Cr⟩
def PN:FK K_q86:=wl (lt:=gd) (zx Cr) nF Tryz.func138 loopsL_nil boxesL_none
def K_q54:jW:=⟨64,[.v eA],[.v .bool],q54,zog q54⟩
def Xt:cE:=nq ⟨[(3,.leaf I6),(1,.aV z0 [])],[(z0,false,.var eA (.leaf eA))]⟩ [(.ret,⟨[(2,.leaf .bool)],[]⟩),((.exit 0),⟨[],[]⟩)] ack Hp
def lt_q54:LT:=[(2,Xt)]
def fk_q54:FK K_q54:=wl (lt:=lt_q54) (Ls:=[Xt]) (zx q54) (PN _ (PL _ (EH _ nF))) Tryz.func64 (fk loopsL_nil) boxesL_none
def K_q132:jW:=⟨66,[.v gv],[.v I6],C3,zog C3⟩
def NN:FK K_q132:=wl (lt:=gd) (zx C3) nF Tryz.func66 loopsL_nil boxesL_none
def K_q187:jW:=⟨67,[.v I6],[.v (.pair I6 (.pair I6 (.pair (.own I6) (.pair (.own I6) .unit))))],Cb,zog Cb⟩
def XQ:cE:=nq ⟨[(3,.aV z0 []),(2,.aV z1 [])],[(z0,false,.var gv (.pair (.leaf I6) (.pair (.leaf I6) (.pair (.whole z2 I6) (.pair (.whole z3 I6) (.leaf .unit)))))),(z1,false,.var gv (.pair (.leaf I6) (.pair (.leaf I6) (.pair (.whole 500000004 I6) (.pair (.whole 500000005 I6) (.leaf .unit)))))),(z2,false,.rows I6),(z3,false,.rows I6),(500000004,false,.rows I6),(500000005,false,.rows I6)]⟩ [((.exit 0),⟨[(2,.aV z0 []),(3,.aV z1 [])],[(z0,false,.var gv (.pair (.leaf I6) (.pair (.leaf I6) (.pair (.whole z2 I6) (.pair (.whole z3 I6) (.leaf .unit)))))),(z1,false,.var gv (.pair (.leaf I6) (.pair (.leaf I6) (.pair (.whole 500000004 I6) (.pair (.whole 500000005 I6) (.leaf .unit)))))),(z2,false,.rows I6),(z3,false,.rows I6),(500000004,false,.rows I6),(500000005,false,.rows I6)]⟩)] abP Em
def aha:LT:=[(2,XQ)]
def R1:FK K_q187:=wl (lt:=aha) (Ls:=[XQ]) (zx Cb) (NN _ nF) Tryz.func67 (fk loopsL_nil) boxesL_none
def K_q84:jW:=⟨68,[.v di],[.v .bool],q84,zog q84⟩
def fk_q84:FK K_q84:=wl (lt:=gd) (zx q84) (EH _ nF) Tryz.func68 loopsL_nil boxesL_none
def K_q85:jW:=⟨15,[.v eA],[.v .bool],q85,zog q85⟩
def Xj:cE:=nq ⟨[(7,.leaf I6),(1,.aV z0 [])],[(z0,false,.var eA (.leaf eA))]⟩ [(.ret,⟨[(2,.leaf .bool)],[]⟩),((.exit 0),⟨[(1,.aV z0 [])],[(z0,false,.var eA (.leaf eA))]⟩)] acG E5
def Xk:cE:=nq ⟨[(10,.leaf I6),(1,.aV z0 [])],[(z0,false,.var eA (.leaf eA))]⟩ [(.ret,⟨[(2,.leaf .bool)],[]⟩),((.exit 2),⟨[],[]⟩)] acH I4
def lt_q85:LT:=[(10,Xj),(16,Xk)]
def fk_q85:FK K_q85:=wl (lt:=lt_q85) (Ls:=[Xj,Xk]) (zx q85) (fk_q84 _ (NN _ (R1 _ (PL _ (fk_q54 _ (YB _ (aeI _ (YL _ (YI _ (aeJ _ (EH _ nF))))))))))) Tryz.func15 (fk (fk loopsL_nil)) boxesL_none
def K_q139:jW:=⟨73,[.v I6,.v I6,.v I6],[.v .bool],gz,zog gz⟩
def BD:FK K_q139:=wl (lt:=gd) (zx gz) nF Tryz.func73 loopsL_nil boxesL_none
def K_q138:jW:=⟨389,[.v I3,.v I6],[.v I3],A7,zog A7⟩
def aeQ:FK K_q138:=wl (lt:=gd) (zx A7) nF Tryz.func389 loopsL_nil boxesL_none
def K_q69:jW:=⟨334,[.v .str],[.v .str],q69,zog q69⟩
def Wy:cE:=nq ⟨[(4,.whole z0 I8),(3,.aV z1 []),(0,.leaf .str)],[(z0,false,.rows I8),(z1,false,.var (.arr 8 I3) (.leaf (.arr 8 I3)))]⟩ [((.exit 0),⟨[(4,.whole z0 I8),(3,.aV z1 []),(0,.leaf .str)],[(z0,false,.rows I8),(z1,false,.var (.arr 8 I3) (.leaf (.arr 8 I3)))]⟩)] acs Lb
def Wz:cE:=nq ⟨[(6,.leaf I6),(5,.leaf (.int .u64)),(4,.whole z0 I8),(3,.aV z1 [])],[(z0,false,.rows I8),(z1,false,.var (.arr 8 I3) (.leaf (.arr 8 I3)))]⟩ [((.exit 2),⟨[(4,.whole z0 I8),(3,.aV z1 [])],[(z0,false,.rows I8),(z1,false,.var (.arr 8 I3) (.leaf (.arr 8 I3)))]⟩)] acu MT
def WA:cE:=nq ⟨[(4,.piece z0 I8),(3,.aV z1 [])],[(z0,false,.rows I8),(z1,false,.var (.arr 8 I3) (.leaf (.arr 8 I3)))]⟩ [((.exit 4),⟨[(3,.aV z0 [])],[(z0,false,.var (.arr 8 I3) (.leaf (.arr 8 I3)))]⟩)] acv Lc
def WB:cE:=nq ⟨[(54,.leaf I6),(7,.aV z0 []),(4,.piece z1 I8),(3,.aV z2 [])],[(z0,false,.var (.arr 64 I3) (.leaf (.arr 64 I3))),(z1,false,.rows I8),(z2,false,.var (.arr 8 I3) (.leaf (.arr 8 I3)))]⟩ [((.exit 6),⟨[(7,.aV z0 []),(3,.aV z1 []),(4,.piece z2 I8)],[(z0,false,.var (.arr 64 I3) (.leaf (.arr 64 I3))),(z1,false,.var (.arr 8 I3) (.leaf (.arr 8 I3))),(z2,false,.rows I8)]⟩)] acw Ld
def WC:cE:=nq ⟨[(133,.leaf I6),(11,.aV z0 []),(7,.aV z1 []),(3,.aV z2 []),(4,.piece z3 I8)],[(z0,false,.var (.arr 8 I3) (.leaf (.arr 8 I3))),(z1,false,.var (.arr 64 I3) (.leaf (.arr 64 I3))),(z2,false,.var (.arr 8 I3) (.leaf (.arr 8 I3))),(z3,false,.rows I8)]⟩ [((.exit 8),⟨[(3,.aV z0 []),(11,.aV z1 []),(4,.piece z2 I8)],[(z0,false,.var (.arr 8 I3) (.leaf (.arr 8 I3))),(z1,false,.var (.arr 8 I3) (.leaf (.arr 8 I3))),(z2,false,.rows I8)]⟩)] acy MU
def WD:cE:=nq ⟨[(213,.leaf I6),(3,.aV z0 []),(11,.aV z1 []),(4,.piece z2 I8)],[(z0,false,.var (.arr 8 I3) (.leaf (.arr 8 I3))),(z1,false,.var (.arr 8 I3) (.leaf (.arr 8 I3))),(z2,false,.rows I8)]⟩ [((.exit 10),⟨[(3,.aV z0 []),(4,.piece z1 I8)],[(z0,false,.var (.arr 8 I3) (.leaf (.arr 8 I3))),(z1,false,.rows I8)]⟩)] acz QK
def WE:cE:=nq ⟨[(227,.leaf I6),(18,.whole z0 I8),(226,.leaf (.arr 8 I3))],[(z0,false,.rows I8)]⟩ [((.exit 12),⟨[(18,.whole z0 I8)],[(z0,false,.rows I8)]⟩)] acA QL
def lt_q69:LT:=[(3,Wy),(7,Wz),(10,WA),(14,WB),(23,WC),(31,WD),(37,WE)]
def fk_q69:FK K_q69:=wl (lt:=lt_q69) (Ls:=[Wy,Wz,WA,WB,WC,WD,WE]) (zx q69) (aeQ _ nF) Tryz.func334 (fk (fk (fk (fk (fk (fk (fk loopsL_nil))))))) boxesL_none
def K_q169:jW:=⟨333,[.v .str],[.v .str],ML,zog ML⟩
def Ww:cE:=nq ⟨[(4,.leaf I6),(0,.leaf .str),(3,.whole z0 I8)],[(z0,false,.rows I8)]⟩ [((.exit 0),⟨[(3,.whole z0 I8)],[(z0,false,.rows I8)]⟩)] abA Un
def ag1:LT:=[(3,Ww)]
def ae_:FK K_q169:=wl (lt:=ag1) (Ls:=[Ww]) (zx ML) nF Tryz.func333 (fk loopsL_nil) boxesL_none
def K_q93:jW:=⟨263,[.v .str],[.v .str],E6,zog E6⟩
def fk_q93:FK K_q93:=wl (lt:=gd) (zx E6) (ae_ _ (fk_q69 _ nF)) Tryz.func263 loopsL_nil boxesL_none
def K_q102:jW:=⟨159,[.v I6,.v .str],[.v .str],Mk,zog Mk⟩
def aen:FK K_q102:=wl (lt:=gd) (zx Mk) (fk_q93 _ (R5 _ nF)) Tryz.func159 loopsL_nil boxesL_none
def K_q6:jW:=⟨243,[.v .str,.v .str],[.v .bool],Wh.q6,zog Wh.q6⟩
def fk_q6:FK K_q6:=wl (lt:=gd) (zx Wh.q6) nF Tryz.func243 loopsL_nil boxesL_none
def K_q14:jW:=⟨140,[.v .str,.v .str],[.v .bool],q14,zog q14⟩
def fk_q14:FK K_q14:=wl (lt:=gd) (zx q14) (fk_q6 _ nF) Tryz.func140 loopsL_nil boxesL_none
def K_q95:jW:=⟨74,[.v .str],[.v (.own .str),.v I6],q95,zog q95⟩
def V8:cE:=nq ⟨[(5,.leaf I6),(4,.whole z0 .str),(0,.leaf .str)],[(z0,false,.rows .str)]⟩ [(.ret,⟨[(2,.whole z0 .str),(3,.leaf I6)],[(z0,false,.rows .str)]⟩)] acP Hv
def lt_q95:LT:=[(3,V8)]
def fk_q95:FK K_q95:=wl (lt:=lt_q95) (Ls:=[V8]) (zx q95) (fk_q14 _ (aen _ (BD _ (R5 _ (Yv _ (Y1 _ nF)))))) Tryz.func74 (fk loopsL_nil) boxesL_none
def K_q170:jW:=⟨233,[.v I6],[.v .bool],CI,zog CI⟩
def PK:FK K_q170:=wl (lt:=gd) (zx CI) (BD _ nF) Tryz.func233 loopsL_nil boxesL_none
def K_q134:jW:=⟨213,[.v .str],[.v .bool],G6,zog G6⟩
def V9:cE:=nq ⟨[(6,.leaf I6),(0,.leaf .str),(5,.leaf I6)],[]⟩ [(.ret,⟨[(2,.leaf .bool)],[]⟩),((.exit 0),⟨[(0,.leaf .str)],[]⟩)] abg Iv
def agN:LT:=[(2,V9)]
def Yz:FK K_q134:=wl (lt:=agN) (Ls:=[V9]) (zx G6) (BD _ nF) Tryz.func213 (fk loopsL_nil) boxesL_none
def K_q38:jW:=⟨192,[.v I6,.v .str,.v .str],[.v .str],q38,zog q38⟩
def fk_q38:FK K_q38:=wl (lt:=gd) (zx q38) (R5 _ (Yz _ (PK _ nF))) Tryz.func192 loopsL_nil boxesL_none
def K_q67:jW:=⟨267,[.v fe],[.v (.pair I6 (.pair (.own an) .unit))],Ht,zog Ht⟩
def R3:FK K_q67:=wl (lt:=gd) (zx Ht) nF Tryz.func267 loopsL_nil boxesL_none
def K_q25:jW:=⟨276,[.v an,.v (.ref I6),.v (.ref .str)],[.v .bool],q25,zog q25⟩
def fk_q25:FK K_q25:=wl (lt:=gd) (zx q25) nF Tryz.func276 loopsL_nil boxesL_none
def K_q3:jW:=⟨165,[.v (.lst an),.f 276 (.pair (.ref I6) (.pair (.ref .str) .unit))],[.v I6],Wh.q3,zog Wh.q3⟩
def W7:cE:=nq ⟨[(8,.leaf I6),(0,.leaf (.lst an)),(1,.fn 276 (.bL (.leaf (.ref I6)) (.bL (.leaf (.ref .str)) (.cJ)))),(7,.leaf I6)],[]⟩ [(.ret,⟨[(4,.leaf I6)],[]⟩),((.exit 0),⟨[],[]⟩)] ab7 IU
def lt_q3:LT:=[(2,W7)]
def fk_q3:FK K_q3:=wl (lt:=lt_q3) (Ls:=[W7]) (zx Wh.q3) (fk_q25 _ nF) Tryz.func165 (fk loopsL_nil) boxesL_none
def K_q60:jW:=⟨193,[.v fe,.v I6,.v .str],[.v I6],Gt,zog Gt⟩
def YV:FK K_q60:=wl (lt:=gd) (zx Gt) (fk_q3 _ nF) Tryz.func193 loopsL_nil boxesL_none
def K_q10:jW:=⟨277,[.k (.own an),.v I6,.v I6],[.v (.own an)],q10,zog q10⟩
def fk_q10:FK K_q10:=wl (lt:=gd) (zx q10) nF Tryz.func277 loopsL_nil boxesL_none
def K_q61:jW:=⟨194,[.v fe,.v I6,.v .str],[.v (.pair I6 (.pair (.own an) .unit)),.v I6],q61,zog q61⟩
def fk_q61:FK K_q61:=wl (lt:=gd) (zx q61) (fk_q10 _ (YV _ (R3 _ nF))) Tryz.func194 loopsL_nil boxesL_none
def K_q21:jW:=⟨130,[.v I6,.v .str,.v .str],[.v .bool],q21,zog q21⟩
def fk_q21:FK K_q21:=wl (lt:=gd) (zx q21) (BD _ (Yz _ (PK _ nF))) Tryz.func130 loopsL_nil boxesL_none
def K_q40:jW:=⟨273,[.v fe,.v I6],[.v I6],q40,zog q40⟩
def V4:cE:=nq ⟨[(11,.leaf I6),(5,.leaf I6),(1,.leaf I6),(9,.leaf (.lst an)),(10,.leaf I6)],[]⟩ [((.exit 0),⟨[(5,.leaf I6)],[]⟩)] ab8 IV
def lt_q40:LT:=[(3,V4)]
def fk_q40:FK K_q40:=wl (lt:=lt_q40) (Ls:=[V4]) (zx q40) nF Tryz.func273 (fk loopsL_nil) boxesL_none
def K_q57:jW:=⟨398,[.v I6],[.v .bool],q57,zog q57⟩
def fk_q57:FK K_q57:=wl (lt:=gd) (zx q57) nF Tryz.func398 loopsL_nil boxesL_none
def K_q24:jW:=⟨337,[.v I6,.v I6],[.v I6],q24,zog q24⟩
def fk_q24:FK K_q24:=wl (lt:=gd) (zx q24) (fk_q57 _ nF) Tryz.func337 loopsL_nil boxesL_none
def K_q15:jW:=⟨399,[.v .str],[.v .bool],q15,zog q15⟩
def fk_q15:FK K_q15:=wl (lt:=gd) (zx q15) nF Tryz.func399 loopsL_nil boxesL_none
def K_q8:jW:=⟨338,[.v .str,.v .str],[.v I6],Lf,zog Lf⟩
def fk_q8:FK K_q8:=wl (lt:=gd) (zx Lf) (fk_q15 _ nF) Tryz.func338 loopsL_nil boxesL_none
def K_q166:jW:=⟨336,[.v (.lst I6)],[.v I6],KC,zog KC⟩
def V2:cE:=nq ⟨[(8,.leaf I6),(3,.leaf I6),(6,.leaf (.lst I6)),(7,.leaf I6)],[]⟩ [(.ret,⟨[(2,.leaf I6)],[]⟩),((.exit 0),⟨[(3,.leaf I6)],[]⟩)] abx KD
def agY:LT:=[(3,V2)]
def ae7:FK K_q166:=wl (lt:=agY) (Ls:=[V2]) (zx KC) nF Tryz.func336 (fk loopsL_nil) boxesL_none
def K_q44:jW:=⟨275,[.v an,.v an],[.v I6],q44,zog q44⟩
def YT:FK K_q44:=wl (lt:=gd) (zx q44) (ae7 _ (fk_q8 _ (fk_q24 _ nF))) Tryz.func275 loopsL_nil boxesL_none
def K_q0:jW:=⟨390,[.m an,.v I6,.v I6,.f 275 .unit],[],Wh.q0,zog Wh.q0⟩
def W8:cE:=nq ⟨[(0,.whole 900 an),(8,.leaf I6),(3,.fn 275 (.cJ)),(1,.leaf I6),(2,.leaf I6)],[(900,false,.rows an)]⟩ [((.exit 0),⟨[],[(900,false,.rows an)]⟩)] aaY Gg
def W9:cE:=nq ⟨[(9,.leaf I6),(0,.whole 900 an),(3,.fn 275 (.cJ)),(1,.leaf I6),(2,.leaf I6),(8,.leaf I6)],[(900,false,.rows an)]⟩ [((.exit 2),⟨[(0,.whole 900 an),(3,.fn 275 (.cJ)),(1,.leaf I6),(2,.leaf I6),(8,.leaf I6)],[(900,false,.rows an)]⟩)] aaZ GY
def lt_q0:LT:=[(1,W8),(4,W9)]
def fk_q0:FK K_q0:=wl (lt:=lt_q0) (Ls:=[W8,W9]) (zx Wh.q0) (YT _ nF) Tryz.func390 (fk (fk loopsL_nil)) boxesL_none
def K_q1:jW:=⟨335,[.m an,.v I6,.v I6,.v I6,.f 275 .unit],[],Wh.q1,zog Wh.q1⟩
def W_:cE:=nq ⟨[(4,.fn 275 (.cJ)),(2,.leaf I6),(1,.leaf I6),(0,.whole 900 an),(11,.leaf .bool),(10,.leaf .bool),(3,.leaf I6)],[(900,false,.rows an)]⟩ [(.ret,⟨[],[(900,false,.rows an)]⟩)] abX OJ
def lt_q1:LT:=[(2,W_)]
def fk_q1:FK K_q1:=wl (lt:=lt_q1) (Ls:=[W_]) (zx Wh.q1) (YT _ (fk_q0 _ nF)) Tryz.func335 (fk loopsL_nil) boxesL_none
def K_q4:jW:=⟨274,[.m an,.f 275 .unit],[],Wh.q4,zog Wh.q4⟩
def fk_q4:FK K_q4:=wl (lt:=gd) (zx Wh.q4) (fk_q1 _ (ael _ nF)) Tryz.func274 loopsL_nil boxesL_none
def K_q91:jW:=⟨190,[.v fe,.v I6,.v .str,.v .str],[.v (.pair I6 (.pair (.own an) .unit)),.v I6],q91,zog q91⟩
def fk_q91:FK K_q91:=wl (lt:=gd) (zx q91) (fk_q4 _ (fk_q40 _ (YV _ (fk_q21 _ (R3 _ nF))))) Tryz.func190 loopsL_nil boxesL_none
def K_q39:jW:=⟨160,[.v fe,.v .str],[.v (.pair I6 (.pair (.own an) .unit)),.v .bool],q39,zog q39⟩
def fk_q39:FK K_q39:=wl (lt:=gd) (zx q39) (fk_q91 _ (fk_q61 _ (fk_q38 _ (Yv _ (Y1 _ nF))))) Tryz.func160 loopsL_nil boxesL_none
def K_q167:jW:=⟨75,[.v (.lst .str)],[.v (.pair I6 (.pair (.own an) .unit)),.v .bool],MK,zog MK⟩
def V3:cE:=nq ⟨[(2,.aV z0 []),(13,.leaf I6),(4,.aV z1 []),(11,.leaf (.lst .str)),(12,.leaf I6)],[(z0,false,.var fe (.pair (.leaf I6) (.pair (.whole z2 an) (.leaf .unit)))),(z1,false,.var fe (.pair (.leaf I6) (.pair (.whole z3 an) (.leaf .unit)))),(z2,false,.rows an),(z3,false,.rows an)]⟩ [(.ret,⟨[(2,.aV z0 []),(3,.leaf .bool)],[(z0,false,.var fe (.pair (.leaf I6) (.pair (.whole z1 an) (.leaf .unit)))),(z1,false,.rows an)]⟩),((.exit 0),⟨[(2,.aV z0 []),(4,.aV z1 [])],[(z0,false,.var fe (.pair (.leaf I6) (.pair (.whole z2 an) (.leaf .unit)))),(z1,false,.var fe (.pair (.leaf I6) (.pair (.whole z3 an) (.leaf .unit)))),(z2,false,.rows an),(z3,false,.rows an)]⟩)] aby ID
def agZ:LT:=[(3,V3)]
def ae8:FK K_q167:=wl (lt:=agZ) (Ls:=[V3]) (zx MK) (fk_q39 _ nF) Tryz.func75 (fk loopsL_nil) boxesL_none
def K_q13:jW:=⟨161,[.v (.lst an),.v (.lst an)],[.v .bool],q13,zog q13⟩
def W5:cE:=nq ⟨[(13,.leaf I6),(1,.leaf (.lst an)),(0,.leaf (.lst an)),(12,.leaf I6)],[]⟩ [(.ret,⟨[(4,.leaf .bool)],[]⟩),((.exit 0),⟨[],[]⟩)] abm Iw
def lt_q13:LT:=[(4,W5)]
def fk_q13:FK K_q13:=wl (lt:=lt_q13) (Ls:=[W5]) (zx q13) nF Tryz.func161 (fk loopsL_nil) boxesL_none
def K_q103:jW:=⟨76,[.v fe,.v fe],[.v .bool],Kd,zog Kd⟩
def aeo:FK K_q103:=wl (lt:=gd) (zx Kd) (fk_q13 _ nF) Tryz.func76 loopsL_nil boxesL_none
def K_q41:jW:=⟨264,[.v fT,.v I6,.v I6],[.v I6],Ho,zog Ho⟩
def Wg:cE:=nq ⟨[(12,.leaf I6),(2,.leaf I6),(1,.leaf I6),(10,.leaf (.lst bp)),(11,.leaf I6)],[]⟩ [(.ret,⟨[(6,.leaf I6)],[]⟩),((.exit 0),⟨[],[]⟩)] ab9 IW
def lt_q41:LT:=[(2,Wg)]
def YR:FK K_q41:=wl (lt:=lt_q41) (Ls:=[Wg]) (zx Ho) nF Tryz.func264 (fk loopsL_nil) boxesL_none
def K_q99:jW:=⟨265,[.v fT,.v I6],[.v I6],q99,zog q99⟩
def Wi:cE:=nq ⟨[(11,.leaf I6),(5,.leaf I6),(1,.leaf I6),(9,.leaf (.lst bp)),(10,.leaf I6)],[]⟩ [((.exit 0),⟨[(5,.leaf I6)],[]⟩)] acU I9
def lt_q99:LT:=[(3,Wi)]
def YZ:FK K_q99:=wl (lt:=lt_q99) (Ls:=[Wi]) (zx q99) nF Tryz.func265 (fk loopsL_nil) boxesL_none
def K_q136:jW:=⟨162,[.v fT],[.v .bool],Kn,zog Kn⟩
def We:cE:=nq ⟨[(19,.leaf I6),(1,.aV z0 []),(17,.leaf (.lst bp)),(18,.leaf I6)],[(z0,false,.var fT (.leaf fT))]⟩ [(.ret,⟨[(2,.leaf .bool)],[]⟩),((.exit 0),⟨[(1,.aV z0 [])],[(z0,false,.var fT (.leaf fT))]⟩)] abi G7
def Wf:cE:=nq ⟨[(63,.leaf I6),(1,.aV z0 [])],[(z0,false,.var fT (.leaf fT))]⟩ [(.ret,⟨[(2,.leaf .bool)],[]⟩),((.exit 2),⟨[],[]⟩)] abj G8
def agP:LT:=[(4,We),(13,Wf)]
def aeO:FK K_q136:=wl (lt:=agP) (Ls:=[We,Wf]) (zx Kn) (YZ _ (YR _ (PK _ (BD _ nF)))) Tryz.func162 (fk (fk loopsL_nil)) boxesL_none
def K_q9:jW:=⟨166,[.v an,.v (.ref I6)],[.v .bool],MY,zog MY⟩
def fk_q9:FK K_q9:=wl (lt:=gd) (zx MY) nF Tryz.func166 loopsL_nil boxesL_none
def K_q2:jW:=⟨165,[.v (.lst an),.f 166 (.pair (.ref I6) .unit)],[.v I6],Wh.q2,zog Wh.q2⟩
def W6:cE:=nq ⟨[(8,.leaf I6),(0,.leaf (.lst an)),(1,.fn 166 (.bL (.leaf (.ref I6)) (.cJ))),(7,.leaf I6)],[]⟩ [(.ret,⟨[(4,.leaf I6)],[]⟩),((.exit 0),⟨[],[]⟩)] ab1 IS
def lt_q2:LT:=[(2,W6)]
def fk_q2:FK K_q2:=wl (lt:=lt_q2) (Ls:=[W6]) (zx Wh.q2) (fk_q9 _ nF) Tryz.func165 (fk loopsL_nil) boxesL_none
def K_q16:jW:=⟨80,[.v fe,.v I6],[.v I6],Gm,zog Gm⟩
def PJ:FK K_q16:=wl (lt:=gd) (zx Gm) (fk_q2 _ nF) Tryz.func80 loopsL_nil boxesL_none
def K_q27:jW:=⟨164,[.v gv],[.v I6],BH,zog BH⟩
def NO:FK K_q27:=wl (lt:=gd) (zx BH) nF Tryz.func164 loopsL_nil boxesL_none
def K_q97:jW:=⟨163,[.v I6],[.v (.pair I6 (.pair I6 (.pair (.own I6) (.pair (.own I6) .unit))))],C6,zog C6⟩
def Wa:cE:=nq ⟨[(3,.aV z0 []),(2,.aV z1 [])],[(z0,false,.var gv (.pair (.leaf I6) (.pair (.leaf I6) (.pair (.whole z2 I6) (.pair (.whole z3 I6) (.leaf .unit)))))),(z1,false,.var gv (.pair (.leaf I6) (.pair (.leaf I6) (.pair (.whole 500000004 I6) (.pair (.whole 500000005 I6) (.leaf .unit)))))),(z2,false,.rows I6),(z3,false,.rows I6),(500000004,false,.rows I6),(500000005,false,.rows I6)]⟩ [((.exit 0),⟨[(2,.aV z0 []),(3,.aV z1 [])],[(z0,false,.var gv (.pair (.leaf I6) (.pair (.leaf I6) (.pair (.whole z2 I6) (.pair (.whole z3 I6) (.leaf .unit)))))),(z1,false,.var gv (.pair (.leaf I6) (.pair (.leaf I6) (.pair (.whole 500000004 I6) (.pair (.whole 500000005 I6) (.leaf .unit)))))),(z2,false,.rows I6),(z3,false,.rows I6),(500000004,false,.rows I6),(500000005,false,.rows I6)]⟩)] acR OM
def lt_q97:LT:=[(4,Wa)]
def R4:FK K_q97:=wl (lt:=lt_q97) (Ls:=[Wa]) (zx C6) (NO _ (BD _ nF)) Tryz.func163 (fk loopsL_nil) boxesL_none
def K_q68:jW:=⟨77,[.v fT,.v fe],[.v .bool],q68,zog q68⟩
def Wx:cE:=nq ⟨[(14,.leaf I6),(3,.aV z0 []),(12,.leaf (.lst bp)),(13,.leaf I6)],[(z0,false,.var fe (.leaf fe))]⟩ [(.ret,⟨[(4,.leaf .bool)],[]⟩),((.exit 0),⟨[],[]⟩)] acr E4
def lt_q68:LT:=[(4,Wx)]
def fk_q68:FK K_q68:=wl (lt:=lt_q68) (Ls:=[Wx]) (zx q68) (NO _ (R4 _ (PJ _ (aeO _ nF)))) Tryz.func77 (fk loopsL_nil) boxesL_none
def K_q59:jW:=⟨78,[.v di],[.v .bool],Hr,zog Hr⟩
def YU:FK K_q59:=wl (lt:=gd) (zx Hr) (BD _ nF) Tryz.func78 loopsL_nil boxesL_none
def K_q66:jW:=⟨79,[.v I6],[.v .bool],q66,zog q66⟩
def fk_q66:FK K_q66:=wl (lt:=gd) (zx q66) (BD _ nF) Tryz.func79 loopsL_nil boxesL_none
def K_q101:jW:=⟨81,[.v I6],[.v I6],Im,zog Im⟩
def Yw:FK K_q101:=wl (lt:=gd) (zx Im) nF Tryz.func81 loopsL_nil boxesL_none
def K_q65:jW:=⟨17,[.v eA],[.v .bool],q65,zog q65⟩
def Wp:cE:=nq ⟨[(105,.leaf I6),(1,.aV z0 []),(103,.leaf (.lst di)),(104,.leaf I6)],[(z0,false,.var eA (.leaf eA))]⟩ [(.ret,⟨[(2,.leaf .bool)],[]⟩),((.exit 0),⟨[(1,.aV z0 [])],[(z0,false,.var eA (.leaf eA))]⟩)] acp I1
def Wq:cE:=nq ⟨[(133,.leaf I6),(1,.aV z0 []),(131,.leaf (.lst bx)),(132,.leaf I6)],[(z0,false,.var eA (.leaf eA))]⟩ [(.ret,⟨[(2,.leaf .bool)],[]⟩),((.exit 2),⟨[],[]⟩)] acq Hs
def lt_q65:LT:=[(13,Wp),(19,Wq)]
def fk_q65:FK K_q65:=wl (lt:=lt_q65) (Ls:=[Wp,Wq]) (zx q65) (Yw _ (PJ _ (fk_q66 _ (YU _ (fk_q68 _ (aeo _ (ae8 _ (fk_q95 _ (BD _ nF))))))))) Tryz.func17 (fk (fk loopsL_nil)) boxesL_none
def K_q140:jW:=⟨235,[.v an,.v an],[.v .bool],Kr,zog Kr⟩
def aeR:FK K_q140:=wl (lt:=gd) (zx Kr) nF Tryz.func235 loopsL_nil boxesL_none
def K_q105:jW:=⟨133,[.v (.lst an),.v (.lst an)],[.v .bool],Ml,zog Ml⟩
def WJ:cE:=nq ⟨[(5,.leaf I6),(1,.leaf (.lst an)),(0,.leaf (.lst an))],[]⟩ [(.ret,⟨[(4,.leaf .bool)],[]⟩),((.exit 0),⟨[],[]⟩)] aa2 Mm
def agz:LT:=[(4,WJ)]
def aeq:FK K_q105:=wl (lt:=agz) (Ls:=[WJ]) (zx Ml) (aeR _ nF) Tryz.func133 (fk loopsL_nil) boxesL_none
def K_q172:jW:=⟨82,[.v fe,.v fe],[.v .bool],MM,zog MM⟩
def afa:FK K_q172:=wl (lt:=gd) (zx MM) (aeq _ nF) Tryz.func82 loopsL_nil boxesL_none
def K_q104:jW:=⟨266,[.v bp,.v bp],[.v .bool],Ke,zog Ke⟩
def aep:FK K_q104:=wl (lt:=gd) (zx Ke) nF Tryz.func266 loopsL_nil boxesL_none
def K_q71:jW:=⟨167,[.v (.lst bp),.v (.lst bp)],[.v .bool],q71,zog q71⟩
def WI:cE:=nq ⟨[(5,.leaf I6),(1,.leaf (.lst bp)),(0,.leaf (.lst bp))],[]⟩ [(.ret,⟨[(4,.leaf .bool)],[]⟩),((.exit 0),⟨[],[]⟩)] acB MV
def lt_q71:LT:=[(4,WI)]
def fk_q71:FK K_q71:=wl (lt:=lt_q71) (Ls:=[WI]) (zx q71) (aep _ nF) Tryz.func167 (fk loopsL_nil) boxesL_none
def K_q141:jW:=⟨83,[.v fT,.v fT],[.v .bool],ME,zog ME⟩
def aeS:FK K_q141:=wl (lt:=gd) (zx ME) (fk_q71 _ nF) Tryz.func83 loopsL_nil boxesL_none
def K_q70:jW:=⟨168,[.v di,.v di],[.v .bool],q70,zog q70⟩
def fk_q70:FK K_q70:=wl (lt:=gd) (zx q70) nF Tryz.func168 loopsL_nil boxesL_none
def K_q45:jW:=⟨84,[.v (.lst di),.v (.lst di)],[.v .bool],q45,zog q45⟩
def WH:cE:=nq ⟨[(5,.leaf I6),(1,.leaf (.lst di)),(0,.leaf (.lst di))],[]⟩ [(.ret,⟨[(4,.leaf .bool)],[]⟩),((.exit 0),⟨[],[]⟩)] acd MS
def lt_q45:LT:=[(4,WH)]
def fk_q45:FK K_q45:=wl (lt:=lt_q45) (Ls:=[WH]) (zx q45) (fk_q70 _ nF) Tryz.func84 (fk loopsL_nil) boxesL_none
def K_q106:jW:=⟨169,[.v bx,.v bx],[.v .bool],Kf,zog Kf⟩
def aer:FK K_q106:=wl (lt:=gd) (zx Kf) nF Tryz.func169 loopsL_nil boxesL_none
def K_q72:jW:=⟨85,[.v (.lst bx),.v (.lst bx)],[.v .bool],q72,zog q72⟩
def WK:cE:=nq ⟨[(5,.leaf I6),(1,.leaf (.lst bx)),(0,.leaf (.lst bx))],[]⟩ [(.ret,⟨[(4,.leaf .bool)],[]⟩),((.exit 0),⟨[],[]⟩)] acC MW
def lt_q72:LT:=[(4,WK)]
def fk_q72:FK K_q72:=wl (lt:=lt_q72) (Ls:=[WK]) (zx q72) (aer _ nF) Tryz.func85 (fk loopsL_nil) boxesL_none
def K_q73:jW:=⟨18,[.v eA,.v eA],[.v .bool],Eo,zog Eo⟩
def fk_q73:FK K_q73:=wl (lt:=gd) (zx Eo) (fk_q72 _ (fk_q45 _ (aeS _ (afa _ nF)))) Tryz.func18 loopsL_nil boxesL_none
def K_q118:jW:=⟨171,[.v fT],[.v (.pair (.own bp) (.pair I6 .unit))],Gh,zog Gh⟩
def RZ:FK K_q118:=wl (lt:=gd) (zx Gh) nF Tryz.func171 loopsL_nil boxesL_none
def K_q122:jW:=⟨86,[.v eA],[.v (.pair .bool (.pair I6 (.pair .str (.pair (.pair I6 (.pair (.own an) .unit)) (.pair (.pair (.own bp) (.pair I6 .unit)) (.pair (.own di) (.pair (.own bx) .unit)))))))],Mw,zog Mw⟩
def aeF:FK K_q122:=wl (lt:=gd) (zx Mw) (RZ _ (R0 _ nF)) Tryz.func86 loopsL_nil boxesL_none
def K_q43:jW:=⟨268,[.v fT],[.v (.pair (.own bp) (.pair I6 .unit))],q43,zog q43⟩
def YS:FK K_q43:=wl (lt:=gd) (zx q43) nF Tryz.func268 loopsL_nil boxesL_none
def K_q20:jW:=⟨172,[.v eA],[.v (.pair .bool (.pair I6 (.pair .str (.pair (.pair I6 (.pair (.own an) .unit)) (.pair (.pair (.own bp) (.pair I6 .unit)) (.pair (.own di) (.pair (.own bx) .unit)))))))],q20,zog q20⟩
def fk_q20:FK K_q20:=wl (lt:=gd) (zx q20) (YS _ (R3 _ nF)) Tryz.func172 loopsL_nil boxesL_none
def K_q76:jW:=⟨121,[.v I6],[.v .str],A8,zog A8⟩
def WW:cE:=nq ⟨[(0,.leaf I6),(3,.leaf .str)],[]⟩ [((.exit 0),⟨[(3,.leaf .str)],[]⟩)] acD Le
def lt_q76:LT:=[(4,WW)]
def PM:FK K_q76:=wl (lt:=lt_q76) (Ls:=[WW]) (zx A8) nF Tryz.func121 (fk loopsL_nil) boxesL_none
def K_q48:jW:=⟨174,[.d (.lst an),.v I6],[.v I6],q48,zog q48⟩
def WU:cE:=nq ⟨[(5,.leaf I6),(0,.whole 950 an),(1,.leaf I6)],[(950,false,.rows an)]⟩ [((.exit 0),⟨[(1,.leaf I6)],[(950,false,.rows an)]⟩)] acg K8
def lt_q48:LT:=[(2,WU)]
def fk_q48:FK K_q48:=wl (lt:=lt_q48) (Ls:=[WU]) (zx q48) (PM _ nT) Tryz.func174 (fk loopsL_nil) boxesL_none
def K_q109:jW:=⟨90,[.d fe,.v I6],[.v I6],Mp,zog Mp⟩
def aeu:FK K_q109:=wl (lt:=gd) (zx Mp) (fk_q48 _ nT) Tryz.func90 loopsL_nil boxesL_none
def K_q32:jW:=⟨175,[.d (.lst bp),.v I6],[.v I6],q32,zog q32⟩
def WT:cE:=nq ⟨[(5,.leaf I6),(0,.whole 950 bp),(1,.leaf I6)],[(950,false,.rows bp)]⟩ [((.exit 0),⟨[(1,.leaf I6)],[(950,false,.rows bp)]⟩)] ab3 K4
def lt_q32:LT:=[(2,WT)]
def fk_q32:FK K_q32:=wl (lt:=lt_q32) (Ls:=[WT]) (zx q32) nT Tryz.func175 (fk loopsL_nil) boxesL_none
def K_q75:jW:=⟨91,[.d fT,.v I6],[.v I6],q75,zog q75⟩
def fk_q75:FK K_q75:=wl (lt:=gd) (zx q75) (fk_q32 _ nT) Tryz.func91 loopsL_nil boxesL_none
def K_q23:jW:=⟨92,[.d (.lst di),.v I6],[.v I6],q23,zog q23⟩
def WS:cE:=nq ⟨[(5,.leaf I6),(0,.whole 950 di),(1,.leaf I6)],[(950,false,.rows di)]⟩ [((.exit 0),⟨[(1,.leaf I6)],[(950,false,.rows di)]⟩)] abZ KZ
def lt_q23:LT:=[(2,WS)]
def fk_q23:FK K_q23:=wl (lt:=lt_q23) (Ls:=[WS]) (zx q23) nT Tryz.func92 (fk loopsL_nil) boxesL_none
def K_q33:jW:=⟨93,[.d (.lst bx),.v I6],[.v I6],q33,zog q33⟩
def WV:cE:=nq ⟨[(5,.leaf I6),(0,.whole 950 bx),(1,.leaf I6)],[(950,false,.rows bx)]⟩ [((.exit 0),⟨[(1,.leaf I6)],[(950,false,.rows bx)]⟩)] ab4 K5
def lt_q33:LT:=[(2,WV)]
def fk_q33:FK K_q33:=wl (lt:=lt_q33) (Ls:=[WV]) (zx q33) nT Tryz.func93 (fk loopsL_nil) boxesL_none
def K_q34:jW:=⟨21,[.d eA,.v I6],[.v I6],q34,zog q34⟩
def fk_q34:FK K_q34:=wl (lt:=gd) (zx q34) (fk_q33 _ (fk_q23 _ (fk_q75 _ (aeu _ nT)))) Tryz.func21 loopsL_nil boxesL_none
def K_q46:jW:=⟨176,[.v (.lst an),.v I6],[.v I6],q46,zog q46⟩
def WO:cE:=nq ⟨[(5,.leaf I6),(0,.leaf (.lst an)),(1,.leaf I6)],[]⟩ [(.ret,⟨[(4,.leaf I6)],[]⟩),((.exit 0),⟨[(1,.leaf I6)],[]⟩)] ace K6
def lt_q46:LT:=[(2,WO)]
def fk_q46:FK K_q46:=wl (lt:=lt_q46) (Ls:=[WO]) (zx q46) (PM _ nF) Tryz.func176 (fk loopsL_nil) boxesL_none
def K_q108:jW:=⟨94,[.v fe,.v I6],[.v I6],Mo,zog Mo⟩
def aet:FK K_q108:=wl (lt:=gd) (zx Mo) (fk_q46 _ nF) Tryz.func94 loopsL_nil boxesL_none
def K_q29:jW:=⟨177,[.v (.lst bp),.v I6],[.v I6],q29,zog q29⟩
def WN:cE:=nq ⟨[(5,.leaf I6),(0,.leaf (.lst bp)),(1,.leaf I6)],[]⟩ [(.ret,⟨[(4,.leaf I6)],[]⟩),((.exit 0),⟨[(1,.leaf I6)],[]⟩)] ab0 K0
def lt_q29:LT:=[(2,WN)]
def fk_q29:FK K_q29:=wl (lt:=lt_q29) (Ls:=[WN]) (zx q29) nF Tryz.func177 (fk loopsL_nil) boxesL_none
def K_q74:jW:=⟨95,[.v fT,.v I6],[.v I6],q74,zog q74⟩
def fk_q74:FK K_q74:=wl (lt:=gd) (zx q74) (fk_q29 _ nF) Tryz.func95 loopsL_nil boxesL_none
def K_q22:jW:=⟨96,[.v (.lst di),.v I6],[.v I6],q22,zog q22⟩
def WM:cE:=nq ⟨[(5,.leaf I6),(0,.leaf (.lst di)),(1,.leaf I6)],[]⟩ [(.ret,⟨[(4,.leaf I6)],[]⟩),((.exit 0),⟨[(1,.leaf I6)],[]⟩)] abY KY
def lt_q22:LT:=[(2,WM)]
def fk_q22:FK K_q22:=wl (lt:=lt_q22) (Ls:=[WM]) (zx q22) nF Tryz.func96 (fk loopsL_nil) boxesL_none
def K_q30:jW:=⟨97,[.v (.lst bx),.v I6],[.v I6],q30,zog q30⟩
def WQ:cE:=nq ⟨[(5,.leaf I6),(0,.leaf (.lst bx)),(1,.leaf I6)],[]⟩ [(.ret,⟨[(4,.leaf I6)],[]⟩),((.exit 0),⟨[(1,.leaf I6)],[]⟩)] ab2 K3
def lt_q30:LT:=[(2,WQ)]
def fk_q30:FK K_q30:=wl (lt:=lt_q30) (Ls:=[WQ]) (zx q30) nF Tryz.func97 (fk loopsL_nil) boxesL_none
def K_q31:jW:=⟨22,[.v eA,.v I6],[.v I6],q31,zog q31⟩
def fk_q31:FK K_q31:=wl (lt:=gd) (zx q31) (fk_q30 _ (fk_q22 _ (fk_q74 _ (aet _ nF)))) Tryz.func22 loopsL_nil boxesL_none
def K_q135:jW:=⟨290,[.v gv],[.v .bool],C4,zog C4⟩
def Wb:cE:=nq ⟨[(50,.leaf I6),(1,.aV z0 []),(48,.leaf (.lst I6)),(49,.leaf I6)],[(z0,false,.var gv (.leaf gv))]⟩ [(.ret,⟨[(2,.leaf .bool)],[]⟩),((.exit 0),⟨[],[]⟩)] abh FA
def agO:LT:=[(6,Wb)]
def YA:FK K_q135:=wl (lt:=agO) (Ls:=[Wb]) (zx C4) (NO _ (BD _ nF)) Tryz.func290 (fk loopsL_nil) boxesL_none
def K_q168:jW:=⟨345,[.v (.lst I6),.v I6],[.v .bool],KE,zog KE⟩
def Wm:cE:=nq ⟨[(9,.leaf I6),(0,.leaf (.lst I6)),(1,.leaf I6),(7,.leaf (.lst I6)),(8,.leaf I6)],[]⟩ [(.ret,⟨[(4,.leaf .bool)],[]⟩),((.exit 0),⟨[(1,.leaf I6)],[]⟩)] abz IE
def ag0:LT:=[(2,Wm)]
def ae9:FK K_q168:=wl (lt:=ag0) (Ls:=[Wm]) (zx KE) (BD _ nF) Tryz.func345 (fk loopsL_nil) boxesL_none
def K_q180:jW:=⟨144,[.v eA,.v I6],[.v I6],KK,zog KK⟩
def Xp:cE:=nq ⟨[(5,.leaf I6),(1,.leaf I6),(2,.aV z0 [])],[(z0,false,.var eA (.leaf eA))]⟩ [(.ret,⟨[(4,.leaf I6)],[]⟩),((.exit 0),⟨[],[]⟩)] abH IK
def ag5:LT:=[(2,Xp)]
def aff:FK K_q180:=wl (lt:=ag5) (Ls:=[Xp]) (zx KK) nF Tryz.func144 (fk loopsL_nil) boxesL_none
def K_q36:jW:=⟨145,[.v eA,.v I6],[.v (.pair .bool (.pair I6 (.pair .str (.pair fe (.pair fT (.pair (.lst di) (.pair (.own bx) .unit)))))))],q36,zog q36⟩
def Xv:cE:=nq ⟨[(6,.leaf I6),(2,.aV z0 []),(5,.whole z1 bx),(1,.leaf I6),(4,.aV z2 [])],[(z0,false,.var eA (.leaf eA)),(z1,false,.rows bx),(z2,false,.var eA (.pair (.leaf .bool) (.pair (.leaf I6) (.pair (.leaf .str) (.pair (.pair (.leaf I6) (.pair (.whole z3 an) (.leaf .unit))) (.pair (.pair (.whole 500000004 bp) (.leaf (.pair I6 .unit))) (.pair (.whole 500000005 di) (.pair (.whole 500000006 bx) (.leaf .unit))))))))),(z3,false,.rows an),(500000004,false,.rows bp),(500000005,false,.rows di),(500000006,false,.rows bx)]⟩ [((.exit 0),⟨[(4,.aV z0 []),(2,.aV z1 []),(5,.whole z2 bx)],[(z0,false,.var eA (.pair (.leaf .bool) (.pair (.leaf I6) (.pair (.leaf .str) (.pair (.pair (.leaf I6) (.pair (.whole z3 an) (.leaf .unit))) (.pair (.pair (.whole 500000004 bp) (.leaf (.pair I6 .unit))) (.pair (.whole 500000005 di) (.pair (.whole 500000006 bx) (.leaf .unit))))))))),(z1,false,.var eA (.leaf eA)),(z2,false,.rows bx),(z3,false,.rows an),(500000004,false,.rows bp),(500000005,false,.rows di),(500000006,false,.rows bx)]⟩)] ab6 IT
def lt_q36:LT:=[(3,Xv)]
def fk_q36:FK K_q36:=wl (lt:=lt_q36) (Ls:=[Xv]) (zx q36) nF Tryz.func145 (fk loopsL_nil) boxesL_none
def K_q123:jW:=⟨146,[.v I6,.v I6,.v I6],[.v (.own r5)],Mx,zog Mx⟩
def aeG:FK K_q123:=wl (lt:=gd) (zx Mx) nF Tryz.func146 loopsL_nil boxesL_none
def K_q7:jW:=⟨311,[.k (.own bx),.v I6,.v I6],[.v (.own bx)],Wh.q7,zog Wh.q7⟩
def fk_q7:FK K_q7:=wl (lt:=gd) (zx Wh.q7) nF Tryz.func311 loopsL_nil boxesL_none
def K_q11:jW:=⟨239,[.p (.pair .bool (.pair I6 (.pair .str (.pair (.pair I6 (.pair (.own an) .unit)) (.pair (.pair (.own bp) (.pair I6 .unit)) (.pair (.own di) (.pair (.own bx) .unit))))))),.v I6],[],q11,zog q11⟩
def fk_q11:FK K_q11:=wl (lt:=gd) (zx q11) (fk_q7 _ nF) Tryz.func239 loopsL_nil boxesL_none
def K_q142:jW:=⟨119,[.v r5,.v r5],[.v .bool],Ku,zog Ku⟩
def aeT:FK K_q142:=wl (lt:=gd) (zx Ku) nF Tryz.func119 loopsL_nil boxesL_none
def V1:jW:=⟨36,[.v (.lst r5),.v (.lst r5)],[.v .bool],GZ,zog GZ⟩
def WL:cE:=nq ⟨[(5,.leaf I6),(1,.leaf (.lst r5)),(0,.leaf (.lst r5))],[]⟩ [(.ret,⟨[(4,.leaf .bool)],[]⟩),((.exit 0),⟨[],[]⟩)] aa3 Mn
def agA:LT:=[(4,WL)]
def aes:FK V1:=wl (lt:=agA) (Ls:=[WL]) (zx GZ) (aeT _ nF) Tryz.func36 (fk loopsL_nil) boxesL_none
def K_q49:jW:=⟨38,[.m r5,.v I6],[.v I6],q49,zog q49⟩
def WX:cE:=nq ⟨[(5,.leaf I6),(0,.whole 900 r5),(1,.leaf I6)],[(900,false,.rows r5)]⟩ [((.exit 0),⟨[(1,.leaf I6)],[(900,false,.rows r5)]⟩)] ach K9
def lt_q49:LT:=[(2,WX)]
def fk_q49:FK K_q49:=wl (lt:=lt_q49) (Ls:=[WX]) (zx q49) (PM _ nF) Tryz.func38 (fk loopsL_nil) boxesL_none
def K_q47:jW:=⟨40,[.v (.lst r5),.v I6],[.v I6],q47,zog q47⟩
def WR:cE:=nq ⟨[(5,.leaf I6),(0,.leaf (.lst r5)),(1,.leaf I6)],[]⟩ [(.ret,⟨[(4,.leaf I6)],[]⟩),((.exit 0),⟨[(1,.leaf I6)],[]⟩)] acf K7
def lt_q47:LT:=[(2,WR)]
def fk_q47:FK K_q47:=wl (lt:=lt_q47) (Ls:=[WR]) (zx q47) (PM _ nF) Tryz.func40 (fk loopsL_nil) boxesL_none
def K_q179:jW:=⟨141,[.v di,.v I6],[.v di],Gq,zog Gq⟩
def afe:FK K_q179:=wl (lt:=gd) (zx Gq) nF Tryz.func141 loopsL_nil boxesL_none
def K_q150:jW:=⟨245,[.v bx],[.v zR],Ek,zog Ek⟩
def YC:FK K_q150:=wl (lt:=gd) (zx Ek) nF Tryz.func245 loopsL_nil boxesL_none
def K_q116:jW:=⟨143,[.v (.lst zR),.v I6],[.v I6],Ki,zog Ki⟩
def Xe:cE:=nq ⟨[(6,.leaf I6),(5,.leaf I6),(0,.leaf (.lst zR)),(1,.leaf I6)],[]⟩ [(.ret,⟨[(4,.leaf I6)],[]⟩),((.exit 0),⟨[(5,.leaf I6)],[]⟩)] aa5 Io
def agD:LT:=[(3,Xe)]
def Yx:FK K_q116:=wl (lt:=agD) (Ls:=[Xe]) (zx Ki) (EH _ nF) Tryz.func143 (fk loopsL_nil) boxesL_none
def K_q121:jW:=⟨244,[.v eA,.v I6],[.v .bool],Gi,zog Gi⟩
def Xq:cE:=nq ⟨[(6,.leaf I6),(2,.aV z0 []),(5,.whole z1 zR),(1,.leaf I6)],[(z0,false,.var eA (.leaf eA)),(z1,false,.rows zR)]⟩ [((.exit 0),⟨[(1,.leaf I6),(5,.whole z0 zR),(2,.aV z1 [])],[(z0,false,.rows zR),(z1,false,.var eA (.leaf eA))]⟩)] aa7 Iq
def agF:LT:=[(3,Xq)]
def aeE:FK K_q121:=wl (lt:=agF) (Ls:=[Xq]) (zx Gi) (Yx _ (YC _ (PN _ nF))) Tryz.func244 (fk loopsL_nil) boxesL_none
def K_q124:jW:=⟨142,[.v eA],[.v (.own zR)],My,zog My⟩
def Xr:cE:=nq ⟨[(4,.leaf I6),(3,.whole z0 zR),(1,.aV z1 [])],[(z0,false,.rows zR),(z1,false,.var eA (.leaf eA))]⟩ [((.exit 0),⟨[(3,.whole z0 zR)],[(z0,false,.rows zR)]⟩)] aa8 Gj
def agG:LT:=[(3,Xr)]
def aeH:FK K_q124:=wl (lt:=agG) (Ls:=[Xr]) (zx My) (YC _ (PN _ (aeE _ (R1 _ (PL _ nF))))) Tryz.func142 (fk loopsL_nil) boxesL_none
def K_q155:jW:=⟨357,[.v I6],[.v I6],El,zog El⟩
def YF:FK K_q155:=wl (lt:=gd) (zx El) nF Tryz.func357 loopsL_nil boxesL_none
def K_q156:jW:=⟨359,[.v I6,.v I6],[.v I6],DM,zog DM⟩
def YG:FK K_q156:=wl (lt:=gd) (zx DM) nF Tryz.func359 loopsL_nil boxesL_none
def K_q90:jW:=⟨314,[.v gv,.v I6],[.v I6],q90,zog q90⟩
def XS:cE:=nq ⟨[(6,.leaf I6),(2,.aV z0 []),(5,.leaf I6),(1,.leaf I6)],[(z0,false,.var gv (.leaf gv))]⟩ [((.exit 0),⟨[(2,.aV z0 []),(5,.leaf I6),(1,.leaf I6)],[(z0,false,.var gv (.leaf gv))]⟩)] acL OK
def XT:cE:=nq ⟨[(8,.leaf I6),(2,.aV z0 []),(7,.leaf I6)],[(z0,false,.var gv (.leaf gv))]⟩ [(.ret,⟨[(4,.leaf I6)],[]⟩),((.exit 2),⟨[(2,.aV z0 [])],[(z0,false,.var gv (.leaf gv))]⟩)] acM OL
def lt_q90:LT:=[(3,XS),(8,XT)]
def fk_q90:FK K_q90:=wl (lt:=lt_q90) (Ls:=[XS,XT]) (zx q90) (NN _ (YG _ (YF _ nF))) Tryz.func314 (fk (fk loopsL_nil)) boxesL_none
def K_q55:jW:=⟨416,[.v I6],[.v (.own I6)],q55,zog q55⟩
def XK:cE:=nq ⟨[(5,.leaf I6),(4,.leaf I6),(3,.whole z0 I6),(0,.leaf I6)],[(z0,false,.rows I6)]⟩ [((.exit 0),⟨[(4,.leaf I6),(3,.whole z0 I6)],[(z0,false,.rows I6)]⟩)] acm Hq
def lt_q55:LT:=[(4,XK)]
def fk_q55:FK K_q55:=wl (lt:=lt_q55) (Ls:=[XK]) (zx q55) nF Tryz.func416 (fk loopsL_nil) boxesL_none
def K_q89:jW:=⟨358,[.v I6,.v I6],[.v I6],q89,zog q89⟩
def XJ:cE:=nq ⟨[(6,.leaf I6),(5,.whole z0 I6),(1,.leaf I6),(0,.leaf I6)],[(z0,false,.rows I6)]⟩ [(.ret,⟨[(4,.leaf I6)],[]⟩),((.exit 0),⟨[(0,.leaf I6)],[]⟩)] acK I5
def lt_q89:LT:=[(3,XJ)]
def fk_q89:FK K_q89:=wl (lt:=lt_q89) (Ls:=[XJ]) (zx q89) (fk_q55 _ nF) Tryz.func358 (fk loopsL_nil) boxesL_none
def K_q154:jW:=⟨360,[.v (.lst I6),.v I6],[.v (.own I6)],Iz,zog Iz⟩
def XL:cE:=nq ⟨[(5,.leaf I6),(0,.leaf (.lst I6)),(1,.leaf I6)],[]⟩ [((.exit 0),⟨[(5,.leaf I6),(0,.leaf (.lst I6)),(1,.leaf I6)],[]⟩)] abt Hf
def agU:LT:=[(2,XL)]
def ae1:FK K_q154:=wl (lt:=agU) (Ls:=[XL]) (zx Iz) nF Tryz.func360 (fk loopsL_nil) boxesL_none
def K_q185:jW:=⟨313,[.v I6,.v I6],[.v (.own I6)],KP,zog KP⟩
def XM:cE:=nq ⟨[(8,.leaf I6),(7,.whole z0 I6),(5,.leaf I6),(6,.leaf I6),(0,.leaf I6)],[(z0,false,.rows I6)]⟩ [((.exit 0),⟨[(7,.whole z0 I6),(5,.leaf I6),(6,.leaf I6)],[(z0,false,.rows I6)]⟩)] abM KQ
def XN:cE:=nq ⟨[(10,.leaf I6),(7,.whole z0 I6),(9,.whole z1 I6),(5,.leaf I6),(6,.leaf I6)],[(z0,false,.rows I6),(z1,false,.rows I6)]⟩ [((.exit 2),⟨[(9,.whole z0 I6)],[(z0,false,.rows I6)]⟩)] abN IM
def ag9:LT:=[(5,XM),(10,XN)]
def afj:FK K_q185:=wl (lt:=ag9) (Ls:=[XM,XN]) (zx KP) (ae1 _ (fk_q89 _ (YG _ (YF _ nF)))) Tryz.func313 (fk (fk loopsL_nil)) boxesL_none
def K_q189:jW:=⟨246,[.v gv,.v I6],[.v (.own I6)],KU,zog KU⟩
def afl:FK K_q189:=wl (lt:=gd) (zx KU) (afj _ (fk_q90 _ (NN _ nF))) Tryz.func246 loopsL_nil boxesL_none
def K_q119:jW:=⟨315,[.v fT,.v I6,.v I6],[.v I6],Mv,zog Mv⟩
def Xm:cE:=nq ⟨[(7,.leaf I6),(2,.leaf I6),(3,.aV z0 []),(1,.leaf I6)],[(z0,false,.var fT (.leaf fT))]⟩ [(.ret,⟨[(6,.leaf I6)],[]⟩),((.exit 0),⟨[],[]⟩)] aa6 Ip
def agE:LT:=[(2,Xm)]
def aeC:FK K_q119:=wl (lt:=agE) (Ls:=[Xm]) (zx Mv) nF Tryz.func315 (fk loopsL_nil) boxesL_none
def K_q53:jW:=⟨316,[.k (.pair (.own bp) (.pair I6 .unit)),.v I6],[.v (.pair (.own bp) (.pair I6 .unit)),.v I6],q53,zog q53⟩
def Xo:cE:=nq ⟨[(7,.leaf I6),(2,.aV z0 []),(4,.aV z1 []),(1,.leaf I6),(6,.leaf .bool)],[(z0,false,.var fT (.pair (.whole z2 bp) (.leaf (.pair I6 .unit)))),(z1,false,.var fT (.pair (.whole z3 bp) (.leaf (.pair I6 .unit)))),(z2,false,.rows bp),(z3,false,.rows bp)]⟩ [(.ret,⟨[(4,.aV z0 []),(5,.leaf I6)],[(z0,false,.var fT (.pair (.whole z1 bp) (.leaf (.pair I6 .unit)))),(z1,false,.rows bp)]⟩),((.exit 0),⟨[(4,.aV z0 []),(2,.aV z1 [])],[(z0,false,.var fT (.pair (.whole z2 bp) (.leaf (.pair I6 .unit)))),(z1,false,.var fT (.pair (.whole z3 bp) (.leaf (.pair I6 .unit)))),(z2,false,.rows bp),(z3,false,.rows bp)]⟩)] acj IY
def lt_q53:LT:=[(3,Xo)]
def fk_q53:FK K_q53:=wl (lt:=lt_q53) (Ls:=[Xo]) (zx q53) (YN _ nF) Tryz.func316 (fk loopsL_nil) boxesL_none
def K_q120:jW:=⟨247,[.v fT,.v I6,.v I6,.v I6],[.v (.pair (.own bp) (.pair I6 .unit)),.v I6,.v I6],G3,zog G3⟩
def aeD:FK K_q120:=wl (lt:=gd) (zx G3) (fk_q53 _ (aeC _ (RZ _ nF))) Tryz.func247 loopsL_nil boxesL_none
def K_q117:jW:=⟨248,[.v fT,.v I6],[.v (.pair (.own bp) (.pair I6 .unit)),.v .bool],Mu,zog Mu⟩
def aeB:FK K_q117:=wl (lt:=gd) (zx Mu) (EH _ (RZ _ (YB _ nF))) Tryz.func248 loopsL_nil boxesL_none
def K_q151:jW:=⟨317,[.v .str,.v I6],[.v .str],Ky,zog Ky⟩
def XA:cE:=nq ⟨[(1,.leaf I6),(0,.leaf .str),(5,.leaf .str)],[]⟩ [((.exit 0),⟨[(5,.leaf .str)],[]⟩)] abr Kz
def agT:LT:=[(2,XA)]
def YD:FK K_q151:=wl (lt:=agT) (Ls:=[XA]) (zx Ky) nF Tryz.func317 (fk loopsL_nil) boxesL_none
def K_q153:jW:=⟨319,[.v I6],[.v .str],Iy,zog Iy⟩
def ae0:FK K_q153:=wl (lt:=gd) (zx Iy) (YD _ nF) Tryz.func319 loopsL_nil boxesL_none
def K_q186:jW:=⟨250,[.v gv,.v .str],[.v (.own .str)],KR,zog KR⟩
def XO:cE:=nq ⟨[(7,.leaf I6),(2,.aV z0 []),(5,.leaf .str),(6,.whole z1 .str)],[(z0,false,.var gv (.leaf gv)),(z1,false,.rows .str)]⟩ [((.exit 0),⟨[(6,.whole z0 .str)],[(z0,false,.rows .str)]⟩)] abO KS
def ag_:LT:=[(4,XO)]
def afk:FK K_q186:=wl (lt:=ag_) (Ls:=[XO]) (zx KR) (ae0 _ (NN _ nF)) Tryz.func250 (fk loopsL_nil) boxesL_none
def K_q131:jW:=⟨318,[.v .str,.v .str],[.v .str],Kl,zog Kl⟩
def XH:cE:=nq ⟨[(6,.leaf I6),(1,.leaf .str),(0,.leaf .str),(5,.whole z0 I8)],[(z0,false,.rows I8)]⟩ [((.exit 0),⟨[(5,.whole z0 I8)],[(z0,false,.rows I8)]⟩)] abe Km
def agL:LT:=[(3,XH)]
def aeN:FK K_q131:=wl (lt:=agL) (Ls:=[XH]) (zx Kl) nF Tryz.func318 (fk loopsL_nil) boxesL_none
def K_q184:jW:=⟨249,[.v (.lst .str),.v (.lst I6),.v I6],[.v .str],IL,zog IL⟩
def XI:cE:=nq ⟨[(8,.leaf I6),(1,.leaf (.lst I6)),(0,.leaf (.lst .str)),(7,.leaf .str)],[]⟩ [((.exit 0),⟨[(7,.leaf .str)],[]⟩)] abL KO
def ag8:LT:=[(3,XI)]
def afi:FK K_q184:=wl (lt:=ag8) (Ls:=[XI]) (zx IL) (aeN _ (YD _ nF)) Tryz.func249 (fk loopsL_nil) boxesL_none
def K_q127:jW:=⟨147,[.k (.pair .bool (.pair I6 (.pair .str (.pair (.pair I6 (.pair (.own an) .unit)) (.pair (.pair (.own bp) (.pair I6 .unit)) (.pair (.own di) (.pair (.own bx) .unit))))))),.v I6,.v an],[.v (.pair .bool (.pair I6 (.pair .str (.pair (.pair I6 (.pair (.own an) .unit)) (.pair (.pair (.own bp) (.pair I6 .unit)) (.pair (.own di) (.pair (.own bx) .unit))))))),.v (.own r5)],Mz,zog Mz⟩
def Xu:cE:=nq ⟨[(11,.leaf I6),(3,.aV z0 []),(10,.whole z1 I6),(5,.aV z2 []),(6,.aV z3 []),(9,.aV 500000004 []),(8,.aV 500000005 []),(1,.leaf I6)],[(z0,false,.var eA (.pair (.leaf .bool) (.pair (.leaf I6) (.pair (.leaf .str) (.pair (.pair (.leaf I6) (.pair (.whole 500000006 an) (.leaf .unit))) (.pair (.pair (.whole 500000007 bp) (.leaf (.pair I6 .unit))) (.pair (.whole 500000008 di) (.pair (.whole 500000009 bx) (.leaf .unit))))))))),(z1,false,.rows I6),(z2,false,.var an (.leaf an)),(z3,false,.var eA (.pair (.leaf .bool) (.pair (.leaf I6) (.pair (.leaf .str) (.pair (.pair (.leaf I6) (.pair (.whole 500000010 an) (.leaf .unit))) (.pair (.pair (.whole 500000011 bp) (.leaf (.pair I6 .unit))) (.pair (.whole 500000012 di) (.pair (.whole 500000013 bx) (.leaf .unit))))))))),(500000004,false,.var gv (.pair (.leaf I6) (.pair (.leaf I6) (.pair (.whole 500000014 I6) (.pair (.whole 500000015 I6) (.leaf .unit)))))),(500000005,false,.var bx (.leaf bx)),(500000006,false,.rows an),(500000007,false,.rows bp),(500000008,false,.rows di),(500000009,false,.rows bx),(500000010,false,.rows an),(500000011,false,.rows bp),(500000012,false,.rows di),(500000013,false,.rows bx),(500000014,false,.rows I6),(500000015,false,.rows I6)]⟩ [((.exit 0),⟨[(6,.aV z0 []),(9,.aV z1 []),(10,.whole z2 I6),(5,.aV z3 []),(8,.aV 500000004 []),(3,.aV 500000005 []),(1,.leaf I6)],[(z0,false,.var eA (.pair (.leaf .bool) (.pair (.leaf I6) (.pair (.leaf .str) (.pair (.pair (.leaf I6) (.pair (.whole 500000006 an) (.leaf .unit))) (.pair (.pair (.whole 500000007 bp) (.leaf (.pair I6 .unit))) (.pair (.whole 500000008 di) (.pair (.whole 500000009 bx) (.leaf .unit))))))))),(z1,false,.var gv (.pair (.leaf I6) (.pair (.leaf I6) (.pair (.whole 500000010 I6) (.pair (.whole 500000011 I6) (.leaf .unit)))))),(z2,false,.rows I6),(z3,false,.var an (.leaf an)),(500000004,false,.var bx (.leaf bx)),(500000005,false,.var eA (.pair (.leaf .bool) (.pair (.leaf I6) (.pair (.leaf .str) (.pair (.pair (.leaf I6) (.pair (.whole 500000012 an) (.leaf .unit))) (.pair (.pair (.whole 500000013 bp) (.leaf (.pair I6 .unit))) (.pair (.whole 500000014 di) (.pair (.whole 500000015 bx) (.leaf .unit))))))))),(500000006,false,.rows an),(500000007,false,.rows bp),(500000008,false,.rows di),(500000009,false,.rows bx),(500000010,false,.rows I6),(500000011,false,.rows I6),(500000012,false,.rows an),(500000013,false,.rows bp),(500000014,false,.rows di),(500000015,false,.rows bx)]⟩)] aa_ G5
def agI:LT:=[(5,Xu)]
def aeK:FK K_q127:=wl (lt:=agI) (Ls:=[Xu]) (zx Mz) (afi _ (afk _ (PN _ (aeB _ (aeD _ (afl _ (R1 _ nF))))))) Tryz.func147 (fk loopsL_nil) boxesL_none
def K_q35:jW:=⟨52,[.v eA],[.v (.pair .bool (.pair I6 (.pair .str (.pair fe (.pair fT (.pair (.lst di) (.pair (.own bx) .unit))))))),.v (.own r5)],E3,zog E3⟩
def Xl:cE:=nq ⟨[(5,.leaf I6),(4,.aV z0 []),(2,.aV z1 [])],[(z0,false,.var eA (.pair (.leaf .bool) (.pair (.leaf I6) (.pair (.leaf .str) (.pair (.pair (.leaf I6) (.pair (.whole z2 an) (.leaf .unit))) (.pair (.pair (.whole z3 bp) (.leaf (.pair I6 .unit))) (.pair (.whole 500000004 di) (.pair (.whole 500000005 bx) (.leaf .unit))))))))),(z1,false,.var eA (.pair (.leaf .bool) (.pair (.leaf I6) (.pair (.leaf .str) (.pair (.pair (.leaf I6) (.pair (.whole 500000006 an) (.leaf .unit))) (.pair (.pair (.whole 500000007 bp) (.leaf (.pair I6 .unit))) (.pair (.whole 500000008 di) (.pair (.whole 500000009 bx) (.leaf .unit))))))))),(z2,false,.rows an),(z3,false,.rows bp),(500000004,false,.rows di),(500000005,false,.rows bx),(500000006,false,.rows an),(500000007,false,.rows bp),(500000008,false,.rows di),(500000009,false,.rows bx)]⟩ [((.exit 0),⟨[(2,.aV z0 []),(4,.aV z1 [])],[(z0,false,.var eA (.pair (.leaf .bool) (.pair (.leaf I6) (.pair (.leaf .str) (.pair (.pair (.leaf I6) (.pair (.whole z2 an) (.leaf .unit))) (.pair (.pair (.whole z3 bp) (.leaf (.pair I6 .unit))) (.pair (.whole 500000004 di) (.pair (.whole 500000005 bx) (.leaf .unit))))))))),(z1,false,.var eA (.pair (.leaf .bool) (.pair (.leaf I6) (.pair (.leaf .str) (.pair (.pair (.leaf I6) (.pair (.whole 500000006 an) (.leaf .unit))) (.pair (.pair (.whole 500000007 bp) (.leaf (.pair I6 .unit))) (.pair (.whole 500000008 di) (.pair (.whole 500000009 bx) (.leaf .unit))))))))),(z2,false,.rows an),(z3,false,.rows bp),(500000004,false,.rows di),(500000005,false,.rows bx),(500000006,false,.rows an),(500000007,false,.rows bp),(500000008,false,.rows di),(500000009,false,.rows bx)]⟩)] ab5 MR
def lt_q35:LT:=[(8,Xl)]
def fk_q35:FK K_q35:=wl (lt:=lt_q35) (Ls:=[Xl]) (zx E3) (aeK _ (aeG _ (fk_q36 _ (PL _ (aff _ (Yx _ (aeH _ (afe _ (aeF _ (fk_q85 _ nF)))))))))) Tryz.func52 (fk loopsL_nil) boxesL_none
def K_q58:jW:=⟨251,[.v di,.v I6],[.v di],q58,zog q58⟩
def fk_q58:FK K_q58:=wl (lt:=gd) (zx q58) (BD _ (YU _ nF)) Tryz.func251 loopsL_nil boxesL_none
def K_q94:jW:=⟨320,[.v (.lst zR),.v I6],[.v I6],q94,zog q94⟩
def V7:cE:=nq ⟨[(10,.leaf I6),(5,.leaf I6),(0,.leaf (.lst zR)),(1,.leaf I6),(8,.leaf (.lst zR)),(9,.leaf I6)],[]⟩ [(.ret,⟨[(4,.leaf I6)],[]⟩),((.exit 0),⟨[(5,.leaf I6)],[]⟩)] acO I7
def lt_q94:LT:=[(3,V7)]
def fk_q94:FK K_q94:=wl (lt:=lt_q94) (Ls:=[V7]) (zx q94) (BD _ nF) Tryz.func320 (fk loopsL_nil) boxesL_none
def K_q17:jW:=⟨252,[.v eA,.v (.lst I6)],[.v I6],FB,zog FB⟩
def Wr:cE:=nq ⟨[(12,.leaf I6),(2,.aV z0 []),(5,.whole z1 zR),(10,.leaf (.lst I6)),(1,.leaf (.lst I6)),(11,.leaf I6)],[(z0,false,.var eA (.leaf eA)),(z1,false,.rows zR)]⟩ [((.exit 0),⟨[(1,.leaf (.lst I6)),(2,.aV z0 []),(5,.whole z1 zR)],[(z0,false,.var eA (.leaf eA)),(z1,false,.rows zR)]⟩)] abG KJ
def lt_q17:LT:=[(3,Wr)]
def fk_q17:FK K_q17:=wl (lt:=lt_q17) (Ls:=[Wr]) (zx FB) (fk_q94 _ nF) Tryz.func252 (fk loopsL_nil) boxesL_none
def K_q18:jW:=⟨253,[.v eA,.v I6],[.v I6],q18,zog q18⟩
def fk_q18:FK K_q18:=wl (lt:=gd) (zx q18) (R4 _ (PJ _ nF)) Tryz.func253 loopsL_nil boxesL_none
def K_q63:jW:=⟨324,[.v I6],[.v I6],En,zog En⟩
def YW:FK K_q63:=wl (lt:=gd) (zx En) (BD _ nF) Tryz.func324 loopsL_nil boxesL_none
def K_q64:jW:=⟨323,[.v I6,.v I6],[.v I6],DO,zog DO⟩
def YX:FK K_q64:=wl (lt:=gd) (zx DO) (BD _ nF) Tryz.func323 loopsL_nil boxesL_none
def K_q92:jW:=⟨422,[.v I6],[.v (.own I6)],q92,zog q92⟩
def V6:cE:=nq ⟨[(5,.leaf I6),(4,.leaf I6),(3,.whole z0 I6),(0,.leaf I6)],[(z0,false,.rows I6)]⟩ [((.exit 0),⟨[(4,.leaf I6),(3,.whole z0 I6)],[(z0,false,.rows I6)]⟩)] acN Hu
def lt_q92:LT:=[(6,V6)]
def fk_q92:FK K_q92:=wl (lt:=lt_q92) (Ls:=[V6]) (zx q92) (BD _ nF) Tryz.func422 (fk loopsL_nil) boxesL_none
def K_q62:jW:=⟨372,[.v I6,.v I6],[.v I6],q62,zog q62⟩
def V5:cE:=nq ⟨[(14,.leaf I6),(1,.leaf I6),(5,.leaf I6),(12,.whole z0 I6),(13,.leaf I6)],[(z0,false,.rows I6)]⟩ [(.ret,⟨[(4,.leaf I6)],[]⟩),((.exit 0),⟨[],[]⟩)] aco La
def lt_q62:LT:=[(5,V5)]
def fk_q62:FK K_q62:=wl (lt:=lt_q62) (Ls:=[V5]) (zx q62) (fk_q92 _ (BD _ nF)) Tryz.func372 (fk loopsL_nil) boxesL_none
def K_q12:jW:=⟨373,[.k (.own I6),.v I6,.v I6],[.v (.own I6)],q12,zog q12⟩
def fk_q12:FK K_q12:=wl (lt:=gd) (zx q12) nF Tryz.func373 loopsL_nil boxesL_none
def K_q100:jW:=⟨325,[.v I6,.v I6],[.v (.own I6)],Fz,zog Fz⟩
def Wk:cE:=nq ⟨[(25,.leaf I6),(7,.whole z0 I6),(5,.whole z1 I6),(6,.leaf I6),(0,.leaf I6),(24,.leaf I6)],[(z0,false,.rows I6),(z1,false,.rows I6)]⟩ [((.exit 0),⟨[(7,.whole z0 I6),(5,.whole z1 I6),(6,.leaf I6),(0,.leaf I6)],[(z0,false,.rows I6),(z1,false,.rows I6)]⟩)] aa0 Kc
def Wl:cE:=nq ⟨[(37,.leaf I6),(7,.whole z0 I6),(5,.whole z1 I6),(6,.leaf I6),(36,.leaf I6)],[(z0,false,.rows I6),(z1,false,.rows I6)]⟩ [((.exit 2),⟨[(5,.whole z0 I6)],[(z0,false,.rows I6)]⟩)] aa1 Il
def agy:LT:=[(7,Wk),(12,Wl)]
def aem:FK K_q100:=wl (lt:=agy) (Ls:=[Wk,Wl]) (zx Fz) (Y0 _ (fk_q12 _ (fk_q62 _ (YX _ (YW _ (BD _ nF)))))) Tryz.func325 (fk (fk loopsL_nil)) boxesL_none
def K_q98:jW:=⟨255,[.v gv,.v I6],[.v (.own I6)],FD,zog FD⟩
def Wc:cE:=nq ⟨[(30,.leaf I6),(5,.leaf I6),(28,.leaf (.lst I6)),(1,.leaf I6),(2,.aV z0 []),(29,.leaf I6)],[(z0,false,.var gv (.leaf gv))]⟩ [((.exit 0),⟨[(1,.leaf I6),(2,.aV z0 []),(5,.leaf I6)],[(z0,false,.var gv (.leaf gv))]⟩)] acS ON
def Wd:cE:=nq ⟨[(1,.leaf I6),(2,.aV z0 []),(45,.leaf I6),(8,.leaf I6),(9,.leaf I6),(43,.leaf (.lst I6)),(44,.leaf I6)],[(z0,false,.var gv (.leaf gv))]⟩ [(.ret,⟨[(4,.whole z0 I6)],[(z0,false,.rows I6)]⟩),((.exit 2),⟨[],[]⟩)] acT Hw
def lt_q98:LT:=[(7,Wc),(14,Wd)]
def YY:FK K_q98:=wl (lt:=lt_q98) (Ls:=[Wc,Wd]) (zx FD) (aem _ (YX _ (YW _ (NO _ (BD _ (YA _ nF)))))) Tryz.func255 (fk (fk loopsL_nil)) boxesL_none
def K_q42:jW:=⟨256,[.v fT,.v I6,.v I6,.v I6],[.v (.pair (.own bp) (.pair I6 .unit)),.v I6,.v I6],q42,zog q42⟩
def Wj:cE:=nq ⟨[(74,.leaf I6),(8,.aV z0 []),(11,.aV z1 []),(3,.leaf I6),(2,.leaf I6),(1,.leaf I6),(14,.leaf .bool),(4,.aV z2 [])],[(z0,false,.var fT (.pair (.whole z3 bp) (.leaf (.pair I6 .unit)))),(z1,false,.var fT (.pair (.whole 500000004 bp) (.leaf (.pair I6 .unit)))),(z2,false,.var fT (.leaf fT)),(z3,false,.rows bp),(500000004,false,.rows bp)]⟩ [(.ret,⟨[(8,.aV z0 []),(9,.leaf I6),(10,.leaf I6)],[(z0,false,.var fT (.pair (.whole z1 bp) (.leaf (.pair I6 .unit)))),(z1,false,.rows bp)]⟩),((.exit 0),⟨[(8,.aV z0 []),(4,.aV z1 [])],[(z0,false,.var fT (.pair (.whole z2 bp) (.leaf (.pair I6 .unit)))),(z1,false,.var fT (.leaf fT)),(z2,false,.rows bp)]⟩)] ab_ IX
def lt_q42:LT:=[(14,Wj)]
def fk_q42:FK K_q42:=wl (lt:=lt_q42) (Ls:=[Wj]) (zx q42) (YZ _ (YR _ (BD _ (PK _ (YS _ nF))))) Tryz.func256 (fk loopsL_nil) boxesL_none
def K_q171:jW:=⟨351,[.v I6],[.v .str],Gp,zog Gp⟩
def YK:FK K_q171:=wl (lt:=gd) (zx Gp) nF Tryz.func351 loopsL_nil boxesL_none
def K_q96:jW:=⟨327,[.v gv,.v .str],[.v (.own .str)],q96,zog q96⟩
def V_:cE:=nq ⟨[(2,.aV z0 []),(6,.leaf I6),(1,.leaf .str),(5,.whole z1 .str)],[(z0,false,.var gv (.leaf gv)),(z1,false,.rows .str)]⟩ [((.exit 0),⟨[(5,.whole z0 .str)],[(z0,false,.rows .str)]⟩)] acQ Lj
def lt_q96:LT:=[(6,V_)]
def fk_q96:FK K_q96:=wl (lt:=lt_q96) (Ls:=[V_]) (zx q96) (YK _ (NO _ (YA _ nF))) Tryz.func327 (fk loopsL_nil) boxesL_none
def K_q194:jW:=⟨353,[.v .str,.v .str],[.v .str],KV,zog KV⟩
def WG:cE:=nq ⟨[(11,.leaf I6),(1,.leaf .str),(5,.whole z0 I8),(10,.leaf I6)],[(z0,false,.rows I8)]⟩ [((.exit 0),⟨[(5,.whole z0 I8)],[(z0,false,.rows I8)]⟩)] abT KW
def ahe:LT:=[(3,WG)]
def afn:FK K_q194:=wl (lt:=ahe) (Ls:=[WG]) (zx KV) nF Tryz.func353 (fk loopsL_nil) boxesL_none
def K_q137:jW:=⟨326,[.v (.lst .str),.v (.lst I6)],[.v .str,.v .bool],Ko,zog Ko⟩
def Wn:cE:=nq ⟨[(30,.leaf I6),(0,.leaf (.lst .str)),(28,.leaf (.lst .str)),(1,.leaf (.lst I6)),(29,.leaf I6)],[]⟩ [(.ret,⟨[(4,.leaf .str),(5,.leaf .bool)],[]⟩),((.exit 0),⟨[(0,.leaf (.lst .str)),(1,.leaf (.lst I6))],[]⟩)] abk Kp
def Wo:cE:=nq ⟨[(49,.leaf I6),(0,.leaf (.lst .str)),(8,.leaf .str),(47,.leaf (.lst I6)),(48,.leaf I6)],[]⟩ [((.exit 2),⟨[(8,.leaf .str)],[]⟩)] abl Kq
def agQ:LT:=[(4,Wn),(11,Wo)]
def aeP:FK K_q137:=wl (lt:=agQ) (Ls:=[Wn,Wo]) (zx Ko) (afn _ (YK _ (ae9 _ nF))) Tryz.func326 (fk (fk loopsL_nil)) boxesL_none
def K_q26:jW:=⟨257,[.v gv,.v .str,.v I6],[.v .str,.v .bool],q26,zog q26⟩
def fk_q26:FK K_q26:=wl (lt:=gd) (zx q26) (aeP _ (YY _ (fk_q96 _ (BD _ nF)))) Tryz.func257 loopsL_nil boxesL_none
def K_q19:jW:=⟨148,[.v eA],[.d eA,.v (.own r5)],DN,zog DN⟩
def Wt:cE:=nq ⟨[(39,.leaf I6),(5,.whole z0 I6),(4,.aV z1 []),(2,.aV z2 [])],[(z0,false,.rows I6),(z1,false,.var eA (.pair (.leaf .bool) (.pair (.leaf I6) (.pair (.leaf .str) (.pair (.pair (.leaf I6) (.pair (.whole z3 an) (.leaf .unit))) (.pair (.pair (.whole 500000004 bp) (.leaf (.pair I6 .unit))) (.pair (.whole 500000005 di) (.pair (.whole 500000006 bx) (.leaf .unit))))))))),(z2,false,.var eA (.pair (.leaf .bool) (.pair (.leaf I6) (.pair (.leaf .str) (.pair (.pair (.leaf I6) (.pair (.whole 500000007 an) (.leaf .unit))) (.pair (.pair (.whole 500000008 bp) (.leaf (.pair I6 .unit))) (.pair (.whole 500000009 di) (.pair (.whole 500000010 bx) (.leaf .unit))))))))),(z3,false,.rows an),(500000004,false,.rows bp),(500000005,false,.rows di),(500000006,false,.rows bx),(500000007,false,.rows an),(500000008,false,.rows bp),(500000009,false,.rows di),(500000010,false,.rows bx)]⟩ [((.exit 0),⟨[(2,.aV z0 []),(4,.aV z1 []),(5,.whole z2 I6)],[(z0,false,.var eA (.pair (.leaf .bool) (.pair (.leaf I6) (.pair (.leaf .str) (.pair (.pair (.leaf I6) (.pair (.whole z3 an) (.leaf .unit))) (.pair (.pair (.whole 500000004 bp) (.leaf (.pair I6 .unit))) (.pair (.whole 500000005 di) (.pair (.whole 500000006 bx) (.leaf .unit))))))))),(z1,false,.var eA (.pair (.leaf .bool) (.pair (.leaf I6) (.pair (.leaf .str) (.pair (.pair (.leaf I6) (.pair (.whole 500000007 an) (.leaf .unit))) (.pair (.pair (.whole 500000008 bp) (.leaf (.pair I6 .unit))) (.pair (.whole 500000009 di) (.pair (.whole 500000010 bx) (.leaf .unit))))))))),(z2,false,.rows I6),(z3,false,.rows an),(500000004,false,.rows bp),(500000005,false,.rows di),(500000006,false,.rows bx),(500000007,false,.rows an),(500000008,false,.rows bp),(500000009,false,.rows di),(500000010,false,.rows bx)]⟩)] abU IQ
def Wu:cE:=nq ⟨[(58,.leaf I6),(7,.whole z0 I6),(6,.leaf I6),(56,.whole z1 bx),(4,.aV z2 []),(2,.aV z3 []),(39,.leaf I6),(5,.whole 500000004 I6),(57,.leaf I6)],[(z0,false,.rows I6),(z1,false,.rows bx),(z2,false,.var eA (.pair (.leaf .bool) (.pair (.leaf I6) (.pair (.leaf .str) (.pair (.pair (.leaf I6) (.pair (.whole 500000005 an) (.leaf .unit))) (.pair (.pair (.whole 500000006 bp) (.leaf (.pair I6 .unit))) (.pair (.whole 500000007 di) (.pair (.whole z1 bx) (.leaf .unit))))))))),(z3,false,.var eA (.pair (.leaf .bool) (.pair (.leaf I6) (.pair (.leaf .str) (.pair (.pair (.leaf I6) (.pair (.whole 500000008 an) (.leaf .unit))) (.pair (.pair (.whole 500000009 bp) (.leaf (.pair I6 .unit))) (.pair (.whole 500000010 di) (.pair (.whole 500000011 bx) (.leaf .unit))))))))),(500000004,false,.rows I6),(500000005,false,.rows an),(500000006,false,.rows bp),(500000007,false,.rows di),(500000008,false,.rows an),(500000009,false,.rows bp),(500000010,false,.rows di),(500000011,false,.rows bx)]⟩ [((.exit 2),⟨[(4,.aV z0 []),(2,.aV z1 []),(39,.leaf I6),(5,.whole z2 I6),(6,.leaf I6),(7,.whole z3 I6)],[(z0,false,.var eA (.pair (.leaf .bool) (.pair (.leaf I6) (.pair (.leaf .str) (.pair (.pair (.leaf I6) (.pair (.whole 500000004 an) (.leaf .unit))) (.pair (.pair (.whole 500000005 bp) (.leaf (.pair I6 .unit))) (.pair (.whole 500000006 di) (.pair (.whole 500000007 bx) (.leaf .unit))))))))),(z1,false,.var eA (.pair (.leaf .bool) (.pair (.leaf I6) (.pair (.leaf .str) (.pair (.pair (.leaf I6) (.pair (.whole 500000008 an) (.leaf .unit))) (.pair (.pair (.whole 500000009 bp) (.leaf (.pair I6 .unit))) (.pair (.whole 500000010 di) (.pair (.whole 500000011 bx) (.leaf .unit))))))))),(z2,false,.rows I6),(z3,false,.rows I6),(500000004,false,.rows an),(500000005,false,.rows bp),(500000006,false,.rows di),(500000007,false,.rows bx),(500000008,false,.rows an),(500000009,false,.rows bp),(500000010,false,.rows di),(500000011,false,.rows bx)]⟩)] abV KX
def Wv:cE:=nq ⟨[(149,.leaf I6),(4,.aV z0 []),(15,.aV z1 []),(147,.whole z2 I6),(2,.aV z3 []),(13,.aV 500000004 []),(11,.leaf I6),(12,.aV 500000005 []),(16,.aV 500000006 []),(148,.leaf I6)],[(z0,false,.var eA (.pair (.leaf .bool) (.pair (.leaf I6) (.pair (.leaf .str) (.pair (.pair (.leaf I6) (.pair (.whole 500000007 an) (.leaf .unit))) (.pair (.pair (.whole 500000008 bp) (.leaf (.pair I6 .unit))) (.pair (.whole 500000009 di) (.pair (.whole 500000010 bx) (.leaf .unit))))))))),(z1,false,.var an (.leaf an)),(z2,false,.rows I6),(z3,false,.var eA (.pair (.leaf .bool) (.pair (.leaf I6) (.pair (.leaf .str) (.pair (.pair (.leaf I6) (.pair (.whole 500000011 an) (.leaf .unit))) (.pair (.pair (.whole 500000012 bp) (.leaf (.pair I6 .unit))) (.pair (.whole 500000013 di) (.pair (.whole 500000014 bx) (.leaf .unit))))))))),(500000004,false,.var r5 (.leaf r5)),(500000005,false,.var bx (.leaf bx)),(500000006,false,.var gv (.pair (.leaf I6) (.pair (.leaf I6) (.pair (.whole 500000015 I6) (.pair (.whole 500000016 I6) (.leaf .unit)))))),(500000007,false,.rows an),(500000008,false,.rows bp),(500000009,false,.rows di),(500000010,false,.rows bx),(500000011,false,.rows an),(500000012,false,.rows bp),(500000013,false,.rows di),(500000014,false,.rows bx),(500000015,false,.rows I6),(500000016,false,.rows I6)]⟩ [((.exit 4),⟨[(2,.aV z0 []),(13,.aV z1 []),(4,.aV z2 []),(11,.leaf I6),(12,.aV z3 []),(15,.aV 500000004 []),(16,.aV 500000005 [])],[(z0,false,.var eA (.pair (.leaf .bool) (.pair (.leaf I6) (.pair (.leaf .str) (.pair (.pair (.leaf I6) (.pair (.whole 500000006 an) (.leaf .unit))) (.pair (.pair (.whole 500000007 bp) (.leaf (.pair I6 .unit))) (.pair (.whole 500000008 di) (.pair (.whole 500000009 bx) (.leaf .unit))))))))),(z1,false,.var r5 (.leaf r5)),(z2,false,.var eA (.pair (.leaf .bool) (.pair (.leaf I6) (.pair (.leaf .str) (.pair (.pair (.leaf I6) (.pair (.whole 500000010 an) (.leaf .unit))) (.pair (.pair (.whole 500000011 bp) (.leaf (.pair I6 .unit))) (.pair (.whole 500000012 di) (.pair (.whole 500000013 bx) (.leaf .unit))))))))),(z3,false,.var bx (.leaf bx)),(500000004,false,.var an (.leaf an)),(500000005,false,.var gv (.pair (.leaf I6) (.pair (.leaf I6) (.pair (.whole 500000014 I6) (.pair (.whole 500000015 I6) (.leaf .unit)))))),(500000006,false,.rows an),(500000007,false,.rows bp),(500000008,false,.rows di),(500000009,false,.rows bx),(500000010,false,.rows an),(500000011,false,.rows bp),(500000012,false,.rows di),(500000013,false,.rows bx),(500000014,false,.rows I6),(500000015,false,.rows I6)]⟩)] abW Hl
def lt_q19:LT:=[(7,Wt),(12,Wu),(35,Wv)]
def fk_q19:FK K_q19:=wl (lt:=lt_q19) (Ls:=[Wt,Wu,Wv]) (zx DN) (fk_q26 _ (fk_q42 _ (YY _ (R4 _ (fk_q11 _ (PJ _ (Y0 _ (fk_q18 _ (fk_q17 _ (Yw _ (fk_q58 _ (fk_q20 _ nT)))))))))))) Tryz.func148 (fk (fk (fk loopsL_nil))) boxesL_none
def K_q28:jW:=⟨53,[.v eA],[.d eA,.v (.own r5)],E0,zog E0⟩
def fk_q28:FK K_q28:=wl (lt:=gd) (zx E0) (fk_q19 _ (fk_q65 _ nT)) Tryz.func53 loopsL_nil boxesL_none
def K_q5:jW:=⟨13,[.v eA],[.v .bool],Wh.q5,zog Wh.q5⟩
def C_q5:Cx:=⟨Dx,[K_q47.entry,K_q31.entry,K_q49.entry,K_q34.entry,V1.entry,K_q73.entry,K_q28.entry,K_q35.entry,K_q83.entry,K_q79.entry],false,Gl⟩
def e_q5:EV C_q5 gd Tryz.f13 [.v eA] [.v .bool] Wh.q5:=by intro xs;kernel_rfl
def ok_q5:CO K_q5:=con_ok (Ls:=[]) mixed (RS _ _) (fk_q47 _ (fk_q31 _ (fk_q49 _ (fk_q34 _ (aes _ (fk_q73 _ (fk_q28 _ (fk_q35 _ (fk_q83 _ (fk_q79 _ nF)))))))))) Tryz.func13 loopsL_nil boxesL_none e_q5
end
end Go.Proofs.EC
