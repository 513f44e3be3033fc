import Derived.Test.YthgepblcaaiieaaGreatDoorX11
import Derived.Test.YthgepblcaaiieaaGreatDoorProg
import Derived.KernelRfl
set_option linter.defProp false
namespace Wh
end Wh
open Wh
open Go Go.Ab
namespace Go.Proofs.CY
noncomputable section
def an:List (Nat×TI):=[(2,⟨(.int .i64),0⟩),(3,⟨(.int .i64),0⟩),(4,⟨.bool,0⟩),(5,⟨(.int .u8),0⟩),(6,⟨(.int .u8),0⟩),(7,⟨VK,1⟩),(8,⟨VK,1⟩),(9,⟨.str,0⟩),(10,⟨.str,0⟩),(11,⟨.str,0⟩),(12,⟨(.int .u64),0⟩),(13,⟨VL,0⟩),(14,⟨VL,0⟩),(21,⟨(.int .i32),0⟩),(299,⟨(.int .i32),0⟩),(298,⟨(.int .i32),0⟩),(273,⟨(.ref (.int .u8)),0⟩),(296,⟨(.int .u8),0⟩),(295,⟨(.int .u8),0⟩),(210,⟨(.int .u32),0⟩),(61,⟨bn,1⟩),(100,⟨bn,1⟩),(22,⟨(.lst bn),0⟩),(23,⟨bx,0⟩),(24,⟨bx,0⟩),(136,⟨di,1⟩),(180,⟨di,1⟩),(25,⟨(.lst di),0⟩),(26,⟨eI,0⟩),(27,⟨eI,0⟩),(140,⟨ek,1⟩),(150,⟨ek,1⟩),(28,⟨(.lst ek),0⟩),(151,⟨e_,1⟩),(154,⟨e_,1⟩),(29,⟨(.lst e_),0⟩),(30,⟨dj,0⟩),(31,⟨dj,0⟩),(63,⟨(.lst (.int .i64)),0⟩),(146,⟨er,0⟩),(228,⟨er,0⟩),(89,⟨(.lst er),0⟩),(90,⟨b7,0⟩),(91,⟨b7,0⟩),(64,⟨fe,0⟩),(88,⟨fe,0⟩),(92,⟨fk,0⟩),(93,⟨fk,0⟩),(94,⟨b9,0⟩),(95,⟨b9,0⟩),(32,⟨(.lst b9),0⟩),(97,⟨eL,1⟩),(98,⟨eL,1⟩),(33,⟨(.lst eL),0⟩),(34,⟨bV,0⟩),(35,⟨bV,0⟩),(62,⟨bn,1⟩),(38,⟨(.lst bn),0⟩),(39,⟨bx,0⟩),(40,⟨bx,0⟩),(137,⟨di,1⟩),(41,⟨(.lst di),0⟩),(42,⟨eI,0⟩),(43,⟨eI,0⟩),(141,⟨ek,1⟩),(44,⟨(.lst ek),0⟩),(152,⟨e_,1⟩),(45,⟨(.lst e_),0⟩),(46,⟨dj,0⟩),(47,⟨dj,0⟩),(147,⟨er,0⟩),(66,⟨(.lst er),0⟩),(67,⟨b7,0⟩),(68,⟨b7,0⟩),(65,⟨fe,0⟩),(69,⟨fk,0⟩),(70,⟨fk,0⟩),(71,⟨b9,0⟩),(72,⟨b9,0⟩),(48,⟨(.lst b9),0⟩),(103,⟨eL,1⟩),(49,⟨(.lst eL),0⟩),(50,⟨bV,0⟩),(51,⟨bV,0⟩),(105,⟨(.lst (.int .u8)),0⟩),(106,⟨(.lst .str),0⟩),(219,⟨(.arr 24 (.int .u8)),0⟩),(220,⟨(.int .u64),0⟩),(236,⟨(.int .u64),0⟩),(237,⟨(.int .i64),0⟩),(243,⟨(.arr 8 (.int .u32)),0⟩),(244,⟨(.arr 64 (.int .u32)),0⟩),(250,⟨(.arr 20 (.int .u64)),0⟩),(251,⟨(.arr 65 (.int .u8)),0⟩),(262,⟨(.int .i64),0⟩),(269,⟨(.lst (.int .u32)),0⟩),(275,⟨Dv,1⟩),(276,⟨Dv,1⟩),(274,⟨(.ref Dv),0⟩),(277,⟨(.int .u64),0⟩),(281,⟨(.ref (.int .i64)),0⟩),(283,⟨(.arr 32 (.int .u8)),0⟩),(284,⟨(.arr 64 (.int .u8)),0⟩),(287,⟨(.ref (.int .u64)),0⟩),(305,⟨Py,1⟩),(306,⟨Py,1⟩),(304,⟨(.lst Py),0⟩)]
def tab_ok:cN (fun x=>(dG Tryz.prog x.2.t).1 x.1&&(!(Nat.beq x.2.e 1) || eqB Tryz.prog x.1)) an=true:=by kernel_rfl
def bq (fns:List (Nat×List Ab.Mode×(List Arg→Option Res)))(dp:Bool):bW Tryz.prog ⟨an,fns,dp,Gl⟩:=cxOk_of tab_ok
def mixed:Tryz.prog.follows .mixedOrders=true:=by kernel_rfl
abbrev FT:Type:=List (Nat×List Ab.Mode×(List Arg→Option Res))
abbrev FK (c:jW):Prop:=∀(fns:FT) {dp:Bool},eW Tryz.prog Gb ⟨an,fns,dp,Gl⟩→eW Tryz.prog Gb ⟨an,c.entry::fns,dp,Gl⟩
abbrev EV (C:Cx)(lt:List (Nat×cE))(f:Func)(ps:List PT)(ws:List Want)(g:jf ps→Option (k7 ws×jU ps)):Prop:=∀xs,evT C lt f ps ws xs=g xs
abbrev CO (c:jW):Prop:=ConOk Tryz.prog Gb c
abbrev LT:Type:=List (Nat×cE)
def cp:LT:=[]
abbrev z0:Nat:=500000000
abbrev z1:Nat:=500000001
abbrev z2:Nat:=500000002
abbrev z3:Nat:=500000003
abbrev I6:Ty:=.int .i64
abbrev I8:Ty:=.int .u8
abbrev I3:Ty:=.int .u32
def nF:eW Tryz.prog Gb ⟨an,[],false,Gl⟩:=eW.nil an false gl_ok
def Yn {C:Cx}{lt:LT}{fn:Func}{k:Nat}{sh:Sh}{ex:fJ}{y0:ex.den}{r:sh.den→Option (sh.den⊕ex.den)}{l:List cE}(h3:kH C lt fn (k+1) l)(h:∀x,round C lt (iV fn k) (nq sh ex y0 r) x=r x:=by intro x;kernel_rfl)(h1:find lt (iA (iV fn k))=some (nq sh ex y0 r):=by kernel_rfl)(h4:(find lt (iA (iV fn k)+500000)).isSome=false:=by kernel_rfl):kH C lt fn k (nq sh ex y0 r::l):=loopsC (loopD_ok h) h3 h1 h4
def zx {α β:Type}[Inhabited β](f:α→Option β):∀x y,f x=some y→zog f x=y:=zv
def wl {c:jW}{F:FT}{b:Bool}{fn:Func}{Ls:List cE}{lt:LT}(hv:∀x y,c.fn x=some y→c.val x=y)(hF:eW Tryz.prog Gb ⟨an,F,b,Gl⟩)(hf:Tryz.prog.funcs[c.id]?=some fn)(hlo:kH ⟨an,F,b,Gl⟩ lt fn 0 Ls)(hbx:∀b'∈jh (kJ fn),nU ⟨an,F,b,Gl⟩ lt b')(hev:∀xs,evT ⟨an,F,b,Gl⟩ lt fn c.ps c.ws xs=c.fn xs:=by intro xs;kernel_rfl)(he:fnB Tryz.prog c.id=true:=by kernel_rfl):FK c:=fun _ _ h=>h.cons c he hv (con_ok mixed (bq _ _) hF hf hlo hbx hev)
def Mo:jW:=⟨33,[.v bn,.v I6],[.v I6],Gj,zog Gj⟩
def C_q130:Cx:=⟨an,[],false,Gl⟩
def e_q130:EV C_q130 cp Tryz.f33 [.v bn,.v I6] [.v I6] Gj:=by intro xs;kernel_rfl
def afr:CO Mo:=con_ok (Ls:=[]) mixed (bq _ _) nF Tryz.func33 loopsL_nil boxesL_none e_q130
def adg (fns:List (Nat×List Ab.Mode×(List Arg→Option Res))){dp:Bool}(h:eW Tryz.prog Gb ⟨an,fns,dp,Gl⟩):eW Tryz.prog Gb ⟨an,Mo.entry::fns,dp,Gl⟩:=h.cons Mo (by kernel_rfl) (zv (f:=Gj)) afr
def JY:jW:=⟨12,[.v (.lst bn),.v I6],[.v I6],F9,zog F9⟩
def VW:Cx:=⟨an,[Mo.entry],false,Gl⟩
def QY:cE:=nq ⟨[(5,.leaf I6),(1,.leaf I6),(0,.leaf (.lst bn))],[]⟩ [(.ret,⟨[(4,.leaf I6)],[]⟩),((.exit 0),⟨[(1,.leaf I6)],[]⟩)] TG F_
def Yy:LT:=[(5,QY)]
def aiW:∀x,round VW Yy (iV Tryz.f12 0) QY x=F_ x:=by intro x;kernel_rfl
def e_q101:EV VW Yy Tryz.f12 [.v (.lst bn),.v I6] [.v I6] F9:=by intro xs;kernel_rfl
def ae0:CO JY:=con_ok (Ls:=[QY]) mixed (bq _ _) (adg _ nF) Tryz.func12 (loopsC (loopD_ok aiW) loopsL_nil) boxesL_none e_q101
def W4 (fns:List (Nat×List Ab.Mode×(List Arg→Option Res))){dp:Bool}(h:eW Tryz.prog Gb ⟨an,fns,dp,Gl⟩):eW Tryz.prog Gb ⟨an,JY.entry::fns,dp,Gl⟩:=h.cons JY (by kernel_rfl) (zv (f:=F9)) ae0
def MM:jW:=⟨27,[.v bx,.v I6],[.v I6],Il,zog Il⟩
def C_q161:Cx:=⟨an,[JY.entry],false,Gl⟩
def e_q161:EV C_q161 cp Tryz.f27 [.v bx,.v I6] [.v I6] Il:=by intro xs;kernel_rfl
def afW:CO MM:=con_ok (Ls:=[]) mixed (bq _ _) (W4 _ nF) Tryz.func27 loopsL_nil boxesL_none e_q161
def adB (fns:List (Nat×List Ab.Mode×(List Arg→Option Res))){dp:Bool}(h:eW Tryz.prog Gb ⟨an,fns,dp,Gl⟩):eW Tryz.prog Gb ⟨an,MM.entry::fns,dp,Gl⟩:=h.cons MM (by kernel_rfl) (zv (f:=Il)) afW
def NM:jW:=⟨63,[.v (.lst di),.v I6],[.v I6],q66,zog q66⟩
def C_q66:Cx:=⟨an,[],false,Gl⟩
def e_q66:EV C_q66 cp Tryz.f63 [.v (.lst di),.v I6] [.v I6] q66:=by intro xs;kernel_rfl
def ok_q66:CO NM:=con_ok (Ls:=[]) mixed (bq _ _) nF Tryz.func63 loopsL_nil boxesL_none e_q66
def fk_q66 (fns:List (Nat×List Ab.Mode×(List Arg→Option Res))){dp:Bool}(h:eW Tryz.prog Gb ⟨an,fns,dp,Gl⟩):eW Tryz.prog Gb ⟨an,NM.entry::fns,dp,Gl⟩:=h.cons NM (by kernel_rfl) (zv (f:=q66)) ok_q66
def Mq:jW:=⟨28,[.v eI,.v I6],[.v I6],H_,zog H_⟩
def C_q132:Cx:=⟨an,[NM.entry],false,Gl⟩
def e_q132:EV C_q132 cp Tryz.f28 [.v eI,.v I6] [.v I6] H_:=by intro xs;kernel_rfl
def aft:CO Mq:=con_ok (Ls:=[]) mixed (bq _ _) (fk_q66 _ nF) Tryz.func28 loopsL_nil boxesL_none e_q132
def adi (fns:List (Nat×List Ab.Mode×(List Arg→Option Res))){dp:Bool}(h:eW Tryz.prog Gb ⟨an,fns,dp,Gl⟩):eW Tryz.prog Gb ⟨an,Mq.entry::fns,dp,Gl⟩:=h.cons Mq (by kernel_rfl) (zv (f:=H_)) aft
def Ni:jW:=⟨29,[.v (.lst ek),.v I6],[.v I6],q35,zog q35⟩
def C_q35:Cx:=⟨an,[],false,Gl⟩
def e_q35:EV C_q35 cp Tryz.f29 [.v (.lst ek),.v I6] [.v I6] q35:=by intro xs;kernel_rfl
def ok_q35:CO Ni:=con_ok (Ls:=[]) mixed (bq _ _) nF Tryz.func29 loopsL_nil boxesL_none e_q35
def fk_q35 (fns:List (Nat×List Ab.Mode×(List Arg→Option Res))){dp:Bool}(h:eW Tryz.prog Gb ⟨an,fns,dp,Gl⟩):eW Tryz.prog Gb ⟨an,Ni.entry::fns,dp,Gl⟩:=h.cons Ni (by kernel_rfl) (zv (f:=q35)) ok_q35
def NO:jW:=⟨30,[.v (.lst e_),.v I6],[.v I6],q68,zog q68⟩
def C_q68:Cx:=⟨an,[],false,Gl⟩
def e_q68:EV C_q68 cp Tryz.f30 [.v (.lst e_),.v I6] [.v I6] q68:=by intro xs;kernel_rfl
def ok_q68:CO NO:=con_ok (Ls:=[]) mixed (bq _ _) nF Tryz.func30 loopsL_nil boxesL_none e_q68
def fk_q68 (fns:List (Nat×List Ab.Mode×(List Arg→Option Res))){dp:Bool}(h:eW Tryz.prog Gb ⟨an,fns,dp,Gl⟩):eW Tryz.prog Gb ⟨an,NO.entry::fns,dp,Gl⟩:=h.cons NO (by kernel_rfl) (zv (f:=q68)) ok_q68
def NP:jW:=⟨9,[.v dj,.v I6],[.v I6],q69,zog q69⟩
def C_q69:Cx:=⟨an,[NO.entry,Ni.entry,Mq.entry,MM.entry],false,Gl⟩
def e_q69:EV C_q69 cp Tryz.f9 [.v dj,.v I6] [.v I6] q69:=by intro xs;kernel_rfl
def ok_q69:CO NP:=con_ok (Ls:=[]) mixed (bq _ _) (fk_q68 _ (fk_q35 _ (adi _ (adB _ nF)))) Tryz.func9 loopsL_nil boxesL_none e_q69
def fk_q69 (fns:List (Nat×List Ab.Mode×(List Arg→Option Res))){dp:Bool}(h:eW Tryz.prog Gb ⟨an,fns,dp,Gl⟩):eW Tryz.prog Gb ⟨an,NP.entry::fns,dp,Gl⟩:=h.cons NP (by kernel_rfl) (zv (f:=q69)) ok_q69
def J2:jW:=⟨139,[.v (.lst I6),.v I6],[.v I6],ES,zog ES⟩
def C_q129:Cx:=⟨an,[],false,Gl⟩
def e_q129:EV C_q129 cp Tryz.f139 [.v (.lst I6),.v I6] [.v I6] ES:=by intro xs;kernel_rfl
def afq:CO J2:=con_ok (Ls:=[]) mixed (bq _ _) nF Tryz.func139 loopsL_nil boxesL_none e_q129
def W8 (fns:List (Nat×List Ab.Mode×(List Arg→Option Res))){dp:Bool}(h:eW Tryz.prog Gb ⟨an,fns,dp,Gl⟩):eW Tryz.prog Gb ⟨an,J2.entry::fns,dp,Gl⟩:=h.cons J2 (by kernel_rfl) (zv (f:=ES)) afq
def Mp:jW:=⟨106,[.v fe,.v I6],[.v I6],H9,zog H9⟩
def C_q131:Cx:=⟨an,[J2.entry],false,Gl⟩
def e_q131:EV C_q131 cp Tryz.f106 [.v fe,.v I6] [.v I6] H9:=by intro xs;kernel_rfl
def afs:CO Mp:=con_ok (Ls:=[]) mixed (bq _ _) (W8 _ nF) Tryz.func106 loopsL_nil boxesL_none e_q131
def adh (fns:List (Nat×List Ab.Mode×(List Arg→Option Res))){dp:Bool}(h:eW Tryz.prog Gb ⟨an,fns,dp,Gl⟩):eW Tryz.prog Gb ⟨an,Mp.entry::fns,dp,Gl⟩:=h.cons Mp (by kernel_rfl) (zv (f:=H9)) afs
def M1:jW:=⟨173,[.v er,.v I6],[.v I6],GD,zog GD⟩
def C_q181:Cx:=⟨an,[J2.entry],false,Gl⟩
def e_q181:EV C_q181 cp Tryz.f173 [.v er,.v I6] [.v I6] GD:=by intro xs;kernel_rfl
def agf:CO M1:=con_ok (Ls:=[]) mixed (bq _ _) (W8 _ nF) Tryz.func173 loopsL_nil boxesL_none e_q181
def adP (fns:List (Nat×List Ab.Mode×(List Arg→Option Res))){dp:Bool}(h:eW Tryz.prog Gb ⟨an,fns,dp,Gl⟩):eW Tryz.prog Gb ⟨an,M1.entry::fns,dp,Gl⟩:=h.cons M1 (by kernel_rfl) (zv (f:=GD)) agf
def MN:jW:=⟨140,[.v (.lst er),.v I6],[.v I6],Im,zog Im⟩
def Wg:Cx:=⟨an,[M1.entry],false,Gl⟩
def QX:cE:=nq ⟨[(5,.leaf I6),(1,.leaf I6),(0,.leaf (.lst er))],[]⟩ [(.ret,⟨[(4,.leaf I6)],[]⟩),((.exit 0),⟨[(1,.leaf I6)],[]⟩)] Ui Gs
def YT:LT:=[(5,QX)]
def aiV:∀x,round Wg YT (iV Tryz.f140 0) QX x=Gs x:=by intro x;kernel_rfl
def e_q162:EV Wg YT Tryz.f140 [.v (.lst er),.v I6] [.v I6] Im:=by intro xs;kernel_rfl
def afX:CO MN:=con_ok (Ls:=[QX]) mixed (bq _ _) (adP _ nF) Tryz.func140 (loopsC (loopD_ok aiV) loopsL_nil) boxesL_none e_q162
def adC (fns:List (Nat×List Ab.Mode×(List Arg→Option Res))){dp:Bool}(h:eW Tryz.prog Gb ⟨an,fns,dp,Gl⟩):eW Tryz.prog Gb ⟨an,MN.entry::fns,dp,Gl⟩:=h.cons MN (by kernel_rfl) (zv (f:=Im)) afX
def NR:jW:=⟨107,[.v b7,.v I6],[.v I6],q70,zog q70⟩
def C_q70:Cx:=⟨an,[MN.entry],false,Gl⟩
def e_q70:EV C_q70 cp Tryz.f107 [.v b7,.v I6] [.v I6] q70:=by intro xs;kernel_rfl
def ok_q70:CO NR:=con_ok (Ls:=[]) mixed (bq _ _) (adC _ nF) Tryz.func107 loopsL_nil boxesL_none e_q70
def fk_q70 (fns:List (Nat×List Ab.Mode×(List Arg→Option Res))){dp:Bool}(h:eW Tryz.prog Gb ⟨an,fns,dp,Gl⟩):eW Tryz.prog Gb ⟨an,NR.entry::fns,dp,Gl⟩:=h.cons NR (by kernel_rfl) (zv (f:=q70)) ok_q70
def Nk:jW:=⟨64,[.v fk,.v I6],[.v I6],q37,zog q37⟩
def C_q37:Cx:=⟨an,[NR.entry,Mp.entry],false,Gl⟩
def e_q37:EV C_q37 cp Tryz.f64 [.v fk,.v I6] [.v I6] q37:=by intro xs;kernel_rfl
def ok_q37:CO Nk:=con_ok (Ls:=[]) mixed (bq _ _) (fk_q70 _ (adh _ nF)) Tryz.func64 loopsL_nil boxesL_none e_q37
def fk_q37 (fns:List (Nat×List Ab.Mode×(List Arg→Option Res))){dp:Bool}(h:eW Tryz.prog Gb ⟨an,fns,dp,Gl⟩):eW Tryz.prog Gb ⟨an,Nk.entry::fns,dp,Gl⟩:=h.cons Nk (by kernel_rfl) (zv (f:=q37)) ok_q37
def NL:jW:=⟨31,[.v b9,.v I6],[.v I6],q65,zog q65⟩
def C_q65:Cx:=⟨an,[Nk.entry],false,Gl⟩
def e_q65:EV C_q65 cp Tryz.f31 [.v b9,.v I6] [.v I6] q65:=by intro xs;kernel_rfl
def ok_q65:CO NL:=con_ok (Ls:=[]) mixed (bq _ _) (fk_q37 _ nF) Tryz.func31 loopsL_nil boxesL_none e_q65
def fk_q65 (fns:List (Nat×List Ab.Mode×(List Arg→Option Res))){dp:Bool}(h:eW Tryz.prog Gb ⟨an,fns,dp,Gl⟩):eW Tryz.prog Gb ⟨an,NL.entry::fns,dp,Gl⟩:=h.cons NL (by kernel_rfl) (zv (f:=q65)) ok_q65
def Nj:jW:=⟨10,[.v (.lst b9),.v I6],[.v I6],q36,zog q36⟩
def C_q36:Cx:=⟨an,[NL.entry],false,Gl⟩
def QW:cE:=nq ⟨[(5,.leaf I6),(1,.leaf I6),(0,.leaf (.lst b9))],[]⟩ [(.ret,⟨[(4,.leaf I6)],[]⟩),((.exit 0),⟨[(1,.leaf I6)],[]⟩)] aaN Fj
def Zb:LT:=[(5,QW)]
def aiU:∀x,round C_q36 Zb (iV Tryz.f10 0) QW x=Fj x:=by intro x;kernel_rfl
def e_q36:EV C_q36 Zb Tryz.f10 [.v (.lst b9),.v I6] [.v I6] q36:=by intro xs;kernel_rfl
def ok_q36:CO Nj:=con_ok (Ls:=[QW]) mixed (bq _ _) (fk_q65 _ nF) Tryz.func10 (loopsC (loopD_ok aiU) loopsL_nil) boxesL_none e_q36
def fk_q36 (fns:List (Nat×List Ab.Mode×(List Arg→Option Res))){dp:Bool}(h:eW Tryz.prog Gb ⟨an,fns,dp,Gl⟩):eW Tryz.prog Gb ⟨an,Nj.entry::fns,dp,Gl⟩:=h.cons Nj (by kernel_rfl) (zv (f:=q36)) ok_q36
def NN:jW:=⟨32,[.v eL,.v I6],[.v I6],q67,zog q67⟩
def C_q67:Cx:=⟨an,[],false,Gl⟩
def e_q67:EV C_q67 cp Tryz.f32 [.v eL,.v I6] [.v I6] q67:=by intro xs;kernel_rfl
def ok_q67:CO NN:=con_ok (Ls:=[]) mixed (bq _ _) nF Tryz.func32 loopsL_nil boxesL_none e_q67
def fk_q67 (fns:List (Nat×List Ab.Mode×(List Arg→Option Res))){dp:Bool}(h:eW Tryz.prog Gb ⟨an,fns,dp,Gl⟩):eW Tryz.prog Gb ⟨an,NN.entry::fns,dp,Gl⟩:=h.cons NN (by kernel_rfl) (zv (f:=q67)) ok_q67
def Nl:jW:=⟨11,[.v (.lst eL),.v I6],[.v I6],q38,zog q38⟩
def C_q38:Cx:=⟨an,[NN.entry],false,Gl⟩
def QZ:cE:=nq ⟨[(5,.leaf I6),(1,.leaf I6),(0,.leaf (.lst eL))],[]⟩ [(.ret,⟨[(4,.leaf I6)],[]⟩),((.exit 0),⟨[(1,.leaf I6)],[]⟩)] UQ GH
def Zc:LT:=[(5,QZ)]
def aiX:∀x,round C_q38 Zc (iV Tryz.f11 0) QZ x=GH x:=by intro x;kernel_rfl
def e_q38:EV C_q38 Zc Tryz.f11 [.v (.lst eL),.v I6] [.v I6] q38:=by intro xs;kernel_rfl
def ok_q38:CO Nl:=con_ok (Ls:=[QZ]) mixed (bq _ _) (fk_q67 _ nF) Tryz.func11 (loopsC (loopD_ok aiX) loopsL_nil) boxesL_none e_q38
def fk_q38 (fns:List (Nat×List Ab.Mode×(List Arg→Option Res))){dp:Bool}(h:eW Tryz.prog Gb ⟨an,fns,dp,Gl⟩):eW Tryz.prog Gb ⟨an,Nl.entry::fns,dp,Gl⟩:=h.cons Nl (by kernel_rfl) (zv (f:=q38)) ok_q38
def L1:jW:=⟨4,[.v bV,.v I6],[.v I6],HS,zog HS⟩
def C_q102:Cx:=⟨an,[JY.entry,Nl.entry,Nj.entry,NP.entry],false,Gl⟩
def e_q102:EV C_q102 cp Tryz.f4 [.v bV,.v I6] [.v I6] HS:=by intro xs;kernel_rfl
def ae1:CO L1:=con_ok (Ls:=[]) mixed (bq _ _) (W4 _ (fk_q38 _ (fk_q36 _ (fk_q69 _ nF)))) Tryz.func4 loopsL_nil boxesL_none e_q102
def acV (fns:List (Nat×List Ab.Mode×(List Arg→Option Res))){dp:Bool}(h:eW Tryz.prog Gb ⟨an,fns,dp,Gl⟩):eW Tryz.prog Gb ⟨an,L1.entry::fns,dp,Gl⟩:=h.cons L1 (by kernel_rfl) (zv (f:=HS)) ae1
def Mr:jW:=⟨46,[.v bn],[.v bn],Ia,zog Ia⟩
def C_q134:Cx:=⟨an,[],false,Gl⟩
def e_q134:EV C_q134 cp Tryz.f46 [.v bn] [.v bn] Ia:=by intro xs;kernel_rfl
def afv:CO Mr:=con_ok (Ls:=[]) mixed (bq _ _) nF Tryz.func46 loopsL_nil boxesL_none e_q134
def adj (fns:List (Nat×List Ab.Mode×(List Arg→Option Res))){dp:Bool}(h:eW Tryz.prog Gb ⟨an,fns,dp,Gl⟩):eW Tryz.prog Gb ⟨an,Mr.entry::fns,dp,Gl⟩:=h.cons Mr (by kernel_rfl) (zv (f:=Ia)) afv
def JZ:jW:=⟨20,[.v (.lst bn)],[.v (.own bn)],Ga,zog Ga⟩
def VX:Cx:=⟨an,[Mr.entry],false,Gl⟩
def Q5:cE:=nq ⟨[(4,.leaf I6),(0,.leaf (.lst bn)),(3,.whole z0 bn)],[(z0,false,.rows bn)]⟩ [((.exit 0),⟨[(3,.whole z0 bn)],[(z0,false,.rows bn)]⟩)] ZS Gc
def Yz:LT:=[(3,Q5)]
def ai3:∀x,round VX Yz (iV Tryz.f20 0) Q5 x=Gc x:=by intro x;kernel_rfl
def e_q104:EV VX Yz Tryz.f20 [.v (.lst bn)] [.v (.own bn)] Ga:=by intro xs;kernel_rfl
def ae3:CO JZ:=con_ok (Ls:=[Q5]) mixed (bq _ _) (adj _ nF) Tryz.func20 (loopsC (loopD_ok ai3) loopsL_nil) boxesL_none e_q104
def W5 (fns:List (Nat×List Ab.Mode×(List Arg→Option Res))){dp:Bool}(h:eW Tryz.prog Gb ⟨an,fns,dp,Gl⟩):eW Tryz.prog Gb ⟨an,JZ.entry::fns,dp,Gl⟩:=h.cons JZ (by kernel_rfl) (zv (f:=Ga)) ae3
def MO:jW:=⟨40,[.v bx],[.v (.pair I6 (.pair (.own bn) .unit))],Io,zog Io⟩
def C_q163:Cx:=⟨an,[JZ.entry],false,Gl⟩
def e_q163:EV C_q163 cp Tryz.f40 [.v bx] [.v (.pair I6 (.pair (.own bn) .unit))] Io:=by intro xs;kernel_rfl
def afY:CO MO:=con_ok (Ls:=[]) mixed (bq _ _) (W5 _ nF) Tryz.func40 loopsL_nil boxesL_none e_q163
def adD (fns:List (Nat×List Ab.Mode×(List Arg→Option Res))){dp:Bool}(h:eW Tryz.prog Gb ⟨an,fns,dp,Gl⟩):eW Tryz.prog Gb ⟨an,MO.entry::fns,dp,Gl⟩:=h.cons MO (by kernel_rfl) (zv (f:=Io)) afY
def L3:jW:=⟨115,[.v di],[.v di],HT,zog HT⟩
def C_q103:Cx:=⟨an,[],false,Gl⟩
def e_q103:EV C_q103 cp Tryz.f115 [.v di] [.v di] HT:=by intro xs;kernel_rfl
def ae2:CO L3:=con_ok (Ls:=[]) mixed (bq _ _) nF Tryz.func115 loopsL_nil boxesL_none e_q103
def acW (fns:List (Nat×List Ab.Mode×(List Arg→Option Res))){dp:Bool}(h:eW Tryz.prog Gb ⟨an,fns,dp,Gl⟩):eW Tryz.prog Gb ⟨an,L3.entry::fns,dp,Gl⟩:=h.cons L3 (by kernel_rfl) (zv (f:=HT)) ae2
def NU:jW:=⟨81,[.v (.lst di)],[.v (.own di)],q73,zog q73⟩
def C_q73:Cx:=⟨an,[L3.entry],false,Gl⟩
def Q3:cE:=nq ⟨[(4,.leaf I6),(0,.leaf (.lst di)),(3,.whole z0 di)],[(z0,false,.rows di)]⟩ [((.exit 0),⟨[(3,.whole z0 di)],[(z0,false,.rows di)]⟩)] aa8 GP
def Zl:LT:=[(3,Q3)]
def ai1:∀x,round C_q73 Zl (iV Tryz.f81 0) Q3 x=GP x:=by intro x;kernel_rfl
def e_q73:EV C_q73 Zl Tryz.f81 [.v (.lst di)] [.v (.own di)] q73:=by intro xs;kernel_rfl
def ok_q73:CO NU:=con_ok (Ls:=[Q3]) mixed (bq _ _) (acW _ nF) Tryz.func81 (loopsC (loopD_ok ai1) loopsL_nil) boxesL_none e_q73
def fk_q73 (fns:List (Nat×List Ab.Mode×(List Arg→Option Res))){dp:Bool}(h:eW Tryz.prog Gb ⟨an,fns,dp,Gl⟩):eW Tryz.prog Gb ⟨an,NU.entry::fns,dp,Gl⟩:=h.cons NU (by kernel_rfl) (zv (f:=q73)) ok_q73
def Mt:jW:=⟨41,[.v eI],[.v (.pair (.own di) (.pair I6 .unit))],Ic,zog Ic⟩
def C_q136:Cx:=⟨an,[NU.entry],false,Gl⟩
def e_q136:EV C_q136 cp Tryz.f41 [.v eI] [.v (.pair (.own di) (.pair I6 .unit))] Ic:=by intro xs;kernel_rfl
def afx:CO Mt:=con_ok (Ls:=[]) mixed (bq _ _) (fk_q73 _ nF) Tryz.func41 loopsL_nil boxesL_none e_q136
def adl (fns:List (Nat×List Ab.Mode×(List Arg→Option Res))){dp:Bool}(h:eW Tryz.prog Gb ⟨an,fns,dp,Gl⟩):eW Tryz.prog Gb ⟨an,Mt.entry::fns,dp,Gl⟩:=h.cons Mt (by kernel_rfl) (zv (f:=Ic)) afx
def NS:jW:=⟨82,[.v ek],[.v ek],q71,zog q71⟩
def C_q71:Cx:=⟨an,[],false,Gl⟩
def e_q71:EV C_q71 cp Tryz.f82 [.v ek] [.v ek] q71:=by intro xs;kernel_rfl
def ok_q71:CO NS:=con_ok (Ls:=[]) mixed (bq _ _) nF Tryz.func82 loopsL_nil boxesL_none e_q71
def fk_q71 (fns:List (Nat×List Ab.Mode×(List Arg→Option Res))){dp:Bool}(h:eW Tryz.prog Gb ⟨an,fns,dp,Gl⟩):eW Tryz.prog Gb ⟨an,NS.entry::fns,dp,Gl⟩:=h.cons NS (by kernel_rfl) (zv (f:=q71)) ok_q71
def Nn:jW:=⟨42,[.v (.lst ek)],[.v (.own ek)],q39,zog q39⟩
def C_q39:Cx:=⟨an,[NS.entry],false,Gl⟩
def Q0:cE:=nq ⟨[(4,.leaf I6),(0,.leaf (.lst ek)),(3,.whole z0 ek)],[(z0,false,.rows ek)]⟩ [((.exit 0),⟨[(3,.whole z0 ek)],[(z0,false,.rows ek)]⟩)] aaO GI
def Zd:LT:=[(3,Q0)]
def aiY:∀x,round C_q39 Zd (iV Tryz.f42 0) Q0 x=GI x:=by intro x;kernel_rfl
def e_q39:EV C_q39 Zd Tryz.f42 [.v (.lst ek)] [.v (.own ek)] q39:=by intro xs;kernel_rfl
def ok_q39:CO Nn:=con_ok (Ls:=[Q0]) mixed (bq _ _) (fk_q71 _ nF) Tryz.func42 (loopsC (loopD_ok aiY) loopsL_nil) boxesL_none e_q39
def fk_q39 (fns:List (Nat×List Ab.Mode×(List Arg→Option Res))){dp:Bool}(h:eW Tryz.prog Gb ⟨an,fns,dp,Gl⟩):eW Tryz.prog Gb ⟨an,Nn.entry::fns,dp,Gl⟩:=h.cons Nn (by kernel_rfl) (zv (f:=q39)) ok_q39
def L4:jW:=⟨83,[.v e_],[.v e_],HU,zog HU⟩
def C_q105:Cx:=⟨an,[],false,Gl⟩
def e_q105:EV C_q105 cp Tryz.f83 [.v e_] [.v e_] HU:=by intro xs;kernel_rfl
def ae4:CO L4:=con_ok (Ls:=[]) mixed (bq _ _) nF Tryz.func83 loopsL_nil boxesL_none e_q105
def acX (fns:List (Nat×List Ab.Mode×(List Arg→Option Res))){dp:Bool}(h:eW Tryz.prog Gb ⟨an,fns,dp,Gl⟩):eW Tryz.prog Gb ⟨an,L4.entry::fns,dp,Gl⟩:=h.cons L4 (by kernel_rfl) (zv (f:=HU)) ae4
def NW:jW:=⟨43,[.v (.lst e_)],[.v (.own e_)],q75,zog q75⟩
def C_q75:Cx:=⟨an,[L4.entry],false,Gl⟩
def Q7:cE:=nq ⟨[(4,.leaf I6),(0,.leaf (.lst e_)),(3,.whole z0 e_)],[(z0,false,.rows e_)]⟩ [((.exit 0),⟨[(3,.whole z0 e_)],[(z0,false,.rows e_)]⟩)] aa9 GQ
def Zm:LT:=[(3,Q7)]
def ai5:∀x,round C_q75 Zm (iV Tryz.f43 0) Q7 x=GQ x:=by intro x;kernel_rfl
def e_q75:EV C_q75 Zm Tryz.f43 [.v (.lst e_)] [.v (.own e_)] q75:=by intro xs;kernel_rfl
def ok_q75:CO NW:=con_ok (Ls:=[Q7]) mixed (bq _ _) (acX _ nF) Tryz.func43 (loopsC (loopD_ok ai5) loopsL_nil) boxesL_none e_q75
def fk_q75 (fns:List (Nat×List Ab.Mode×(List Arg→Option Res))){dp:Bool}(h:eW Tryz.prog Gb ⟨an,fns,dp,Gl⟩):eW Tryz.prog Gb ⟨an,NW.entry::fns,dp,Gl⟩:=h.cons NW (by kernel_rfl) (zv (f:=q75)) ok_q75
def NX:jW:=⟨17,[.v dj],[.v (.pair .bool (.pair I6 (.pair .str (.pair (.pair I6 (.pair (.own bn) .unit)) (.pair (.pair (.own di) (.pair I6 .unit)) (.pair (.own ek) (.pair (.own e_) .unit)))))))],q76,zog q76⟩
def C_q76:Cx:=⟨an,[NW.entry,Nn.entry,Mt.entry,MO.entry],false,Gl⟩
def e_q76:EV C_q76 cp Tryz.f17 [.v dj] [.v (.pair .bool (.pair I6 (.pair .str (.pair (.pair I6 (.pair (.own bn) .unit)) (.pair (.pair (.own di) (.pair I6 .unit)) (.pair (.own ek) (.pair (.own e_) .unit)))))))] q76:=by intro xs;kernel_rfl
def ok_q76:CO NX:=con_ok (Ls:=[]) mixed (bq _ _) (fk_q75 _ (fk_q39 _ (adl _ (adD _ nF)))) Tryz.func17 loopsL_nil boxesL_none e_q76
def fk_q76 (fns:List (Nat×List Ab.Mode×(List Arg→Option Res))){dp:Bool}(h:eW Tryz.prog Gb ⟨an,fns,dp,Gl⟩):eW Tryz.prog Gb ⟨an,NX.entry::fns,dp,Gl⟩:=h.cons NX (by kernel_rfl) (zv (f:=q76)) ok_q76
def J3:jW:=⟨150,[.v (.lst I6)],[.v (.own I6)],EU,zog EU⟩
def V4:Cx:=⟨an,[],false,Gl⟩
def Q4:cE:=nq ⟨[(4,.leaf I6),(0,.leaf (.lst I6)),(3,.whole z0 I6)],[(z0,false,.rows I6)]⟩ [((.exit 0),⟨[(3,.whole z0 I6)],[(z0,false,.rows I6)]⟩)] Z_ Gk
def YH:LT:=[(3,Q4)]
def ai2:∀x,round V4 YH (iV Tryz.f150 0) Q4 x=Gk x:=by intro x;kernel_rfl
def e_q133:EV V4 YH Tryz.f150 [.v (.lst I6)] [.v (.own I6)] EU:=by intro xs;kernel_rfl
def afu:CO J3:=con_ok (Ls:=[Q4]) mixed (bq _ _) nF Tryz.func150 (loopsC (loopD_ok ai2) loopsL_nil) boxesL_none e_q133
def W9 (fns:List (Nat×List Ab.Mode×(List Arg→Option Res))){dp:Bool}(h:eW Tryz.prog Gb ⟨an,fns,dp,Gl⟩):eW Tryz.prog Gb ⟨an,J3.entry::fns,dp,Gl⟩:=h.cons J3 (by kernel_rfl) (zv (f:=EU)) afu
def Ms:jW:=⟨116,[.v fe],[.v (.pair I6 (.pair I6 (.pair (.own I6) (.pair (.own I6) .unit))))],Ib,zog Ib⟩
def C_q135:Cx:=⟨an,[J3.entry],false,Gl⟩
def e_q135:EV C_q135 cp Tryz.f116 [.v fe] [.v (.pair I6 (.pair I6 (.pair (.own I6) (.pair (.own I6) .unit))))] Ib:=by intro xs;kernel_rfl
def afw:CO Ms:=con_ok (Ls:=[]) mixed (bq _ _) (W9 _ nF) Tryz.func116 loopsL_nil boxesL_none e_q135
def adk (fns:List (Nat×List Ab.Mode×(List Arg→Option Res))){dp:Bool}(h:eW Tryz.prog Gb ⟨an,fns,dp,Gl⟩):eW Tryz.prog Gb ⟨an,Ms.entry::fns,dp,Gl⟩:=h.cons Ms (by kernel_rfl) (zv (f:=Ib)) afw
def M3:jW:=⟨181,[.v er],[.v (.pair (.own I6) Dv)],GF,zog GF⟩
def C_q182:Cx:=⟨an,[J3.entry],false,Gl⟩
def e_q182:EV C_q182 cp Tryz.f181 [.v er] [.v (.pair (.own I6) Dv)] GF:=by intro xs;kernel_rfl
def agh:CO M3:=con_ok (Ls:=[]) mixed (bq _ _) (W9 _ nF) Tryz.func181 loopsL_nil boxesL_none e_q182
def adQ (fns:List (Nat×List Ab.Mode×(List Arg→Option Res))){dp:Bool}(h:eW Tryz.prog Gb ⟨an,fns,dp,Gl⟩):eW Tryz.prog Gb ⟨an,M3.entry::fns,dp,Gl⟩:=h.cons M3 (by kernel_rfl) (zv (f:=GF)) agh
def MP:jW:=⟨151,[.v (.lst er)],[.v (.own er)],Ip,zog Ip⟩
def Wi:Cx:=⟨an,[M3.entry],false,Gl⟩
def Q2:cE:=nq ⟨[(4,.leaf I6),(0,.leaf (.lst er)),(3,.whole z0 er)],[(z0,false,.rows er)]⟩ [((.exit 0),⟨[(3,.whole z0 er)],[(z0,false,.rows er)]⟩)] aao Gt
def YU:LT:=[(3,Q2)]
def ai0:∀x,round Wi YU (iV Tryz.f151 0) Q2 x=Gt x:=by intro x;kernel_rfl
def e_q164:EV Wi YU Tryz.f151 [.v (.lst er)] [.v (.own er)] Ip:=by intro xs;kernel_rfl
def afZ:CO MP:=con_ok (Ls:=[Q2]) mixed (bq _ _) (adQ _ nF) Tryz.func151 (loopsC (loopD_ok ai0) loopsL_nil) boxesL_none e_q164
def adE (fns:List (Nat×List Ab.Mode×(List Arg→Option Res))){dp:Bool}(h:eW Tryz.prog Gb ⟨an,fns,dp,Gl⟩):eW Tryz.prog Gb ⟨an,MP.entry::fns,dp,Gl⟩:=h.cons MP (by kernel_rfl) (zv (f:=Ip)) afZ
def NY:jW:=⟨117,[.v b7],[.v (.pair I6 (.pair I6 (.pair (.own er) .unit)))],q77,zog q77⟩
def C_q77:Cx:=⟨an,[MP.entry],false,Gl⟩
def e_q77:EV C_q77 cp Tryz.f117 [.v b7] [.v (.pair I6 (.pair I6 (.pair (.own er) .unit)))] q77:=by intro xs;kernel_rfl
def ok_q77:CO NY:=con_ok (Ls:=[]) mixed (bq _ _) (adE _ nF) Tryz.func117 loopsL_nil boxesL_none e_q77
def fk_q77 (fns:List (Nat×List Ab.Mode×(List Arg→Option Res))){dp:Bool}(h:eW Tryz.prog Gb ⟨an,fns,dp,Gl⟩):eW Tryz.prog Gb ⟨an,NY.entry::fns,dp,Gl⟩:=h.cons NY (by kernel_rfl) (zv (f:=q77)) ok_q77
def Nq:jW:=⟨84,[.v fk],[.v (.pair (.pair I6 (.pair I6 (.pair (.own I6) (.pair (.own I6) .unit)))) (.pair (.pair I6 (.pair I6 (.pair (.own er) .unit))) .unit))],q41,zog q41⟩
def C_q41:Cx:=⟨an,[NY.entry,Ms.entry],false,Gl⟩
def e_q41:EV C_q41 cp Tryz.f84 [.v fk] [.v (.pair (.pair I6 (.pair I6 (.pair (.own I6) (.pair (.own I6) .unit)))) (.pair (.pair I6 (.pair I6 (.pair (.own er) .unit))) .unit))] q41:=by intro xs;kernel_rfl
def ok_q41:CO Nq:=con_ok (Ls:=[]) mixed (bq _ _) (fk_q77 _ (adk _ nF)) Tryz.func84 loopsL_nil boxesL_none e_q41
def fk_q41 (fns:List (Nat×List Ab.Mode×(List Arg→Option Res))){dp:Bool}(h:eW Tryz.prog Gb ⟨an,fns,dp,Gl⟩):eW Tryz.prog Gb ⟨an,Nq.entry::fns,dp,Gl⟩:=h.cons Nq (by kernel_rfl) (zv (f:=q41)) ok_q41
def NT:jW:=⟨44,[.v b9],[.v (.pair I6 (.pair I6 (.pair I6 (.pair .str (.pair I6 (.pair (.pair (.pair I6 (.pair I6 (.pair (.own I6) (.pair (.own I6) .unit)))) (.pair (.pair I6 (.pair I6 (.pair (.own er) .unit))) .unit)) .unit))))))],q72,zog q72⟩
def C_q72:Cx:=⟨an,[Nq.entry],false,Gl⟩
def e_q72:EV C_q72 cp Tryz.f44 [.v b9] [.v (.pair I6 (.pair I6 (.pair I6 (.pair .str (.pair I6 (.pair (.pair (.pair I6 (.pair I6 (.pair (.own I6) (.pair (.own I6) .unit)))) (.pair (.pair I6 (.pair I6 (.pair (.own er) .unit))) .unit)) .unit))))))] q72:=by intro xs;kernel_rfl
def ok_q72:CO NT:=con_ok (Ls:=[]) mixed (bq _ _) (fk_q41 _ nF) Tryz.func44 loopsL_nil boxesL_none e_q72
def fk_q72 (fns:List (Nat×List Ab.Mode×(List Arg→Option Res))){dp:Bool}(h:eW Tryz.prog Gb ⟨an,fns,dp,Gl⟩):eW Tryz.prog Gb ⟨an,NT.entry::fns,dp,Gl⟩:=h.cons NT (by kernel_rfl) (zv (f:=q72)) ok_q72
def Np:jW:=⟨18,[.v (.lst b9)],[.v (.own b9)],q40,zog q40⟩
def C_q40:Cx:=⟨an,[NT.entry],false,Gl⟩
def Q1:cE:=nq ⟨[(4,.leaf I6),(0,.leaf (.lst b9)),(3,.whole z0 b9)],[(z0,false,.rows b9)]⟩ [((.exit 0),⟨[(3,.whole z0 b9)],[(z0,false,.rows b9)]⟩)] aaQ GJ
def Ze:LT:=[(3,Q1)]
def aiZ:∀x,round C_q40 Ze (iV Tryz.f18 0) Q1 x=GJ x:=by intro x;kernel_rfl
def e_q40:EV C_q40 Ze Tryz.f18 [.v (.lst b9)] [.v (.own b9)] q40:=by intro xs;kernel_rfl
def ok_q40:CO Np:=con_ok (Ls:=[Q1]) mixed (bq _ _) (fk_q72 _ nF) Tryz.func18 (loopsC (loopD_ok aiZ) loopsL_nil) boxesL_none e_q40
def fk_q40 (fns:List (Nat×List Ab.Mode×(List Arg→Option Res))){dp:Bool}(h:eW Tryz.prog Gb ⟨an,fns,dp,Gl⟩):eW Tryz.prog Gb ⟨an,Np.entry::fns,dp,Gl⟩:=h.cons Np (by kernel_rfl) (zv (f:=q40)) ok_q40
def NV:jW:=⟨45,[.v eL],[.v eL],q74,zog q74⟩
def C_q74:Cx:=⟨an,[],false,Gl⟩
def e_q74:EV C_q74 cp Tryz.f45 [.v eL] [.v eL] q74:=by intro xs;kernel_rfl
def ok_q74:CO NV:=con_ok (Ls:=[]) mixed (bq _ _) nF Tryz.func45 loopsL_nil boxesL_none e_q74
def fk_q74 (fns:List (Nat×List Ab.Mode×(List Arg→Option Res))){dp:Bool}(h:eW Tryz.prog Gb ⟨an,fns,dp,Gl⟩):eW Tryz.prog Gb ⟨an,NV.entry::fns,dp,Gl⟩:=h.cons NV (by kernel_rfl) (zv (f:=q74)) ok_q74
def Nr:jW:=⟨19,[.v (.lst eL)],[.v (.own eL)],q42,zog q42⟩
def C_q42:Cx:=⟨an,[NV.entry],false,Gl⟩
def Q6:cE:=nq ⟨[(4,.leaf I6),(0,.leaf (.lst eL)),(3,.whole z0 eL)],[(z0,false,.rows eL)]⟩ [((.exit 0),⟨[(3,.whole z0 eL)],[(z0,false,.rows eL)]⟩)] aaR GK
def Zf:LT:=[(3,Q6)]
def ai4:∀x,round C_q42 Zf (iV Tryz.f19 0) Q6 x=GK x:=by intro x;kernel_rfl
def e_q42:EV C_q42 Zf Tryz.f19 [.v (.lst eL)] [.v (.own eL)] q42:=by intro xs;kernel_rfl
def ok_q42:CO Nr:=con_ok (Ls:=[Q6]) mixed (bq _ _) (fk_q74 _ nF) Tryz.func19 (loopsC (loopD_ok ai4) loopsL_nil) boxesL_none e_q42
def fk_q42 (fns:List (Nat×List Ab.Mode×(List Arg→Option Res))){dp:Bool}(h:eW Tryz.prog Gb ⟨an,fns,dp,Gl⟩):eW Tryz.prog Gb ⟨an,Nr.entry::fns,dp,Gl⟩:=h.cons Nr (by kernel_rfl) (zv (f:=q42)) ok_q42
def L5:jW:=⟨6,[.v bV],[.v (.pair (.pair .bool (.pair I6 (.pair .str (.pair (.pair I6 (.pair (.own bn) .unit)) (.pair (.pair (.own di) (.pair I6 .unit)) (.pair (.own ek) (.pair (.own e_) .unit))))))) (.pair (.own b9) (.pair (.own eL) (.pair (.own bn) .unit))))],DQ,zog DQ⟩
def C_q106:Cx:=⟨an,[JZ.entry,Nr.entry,Np.entry,NX.entry],false,Gl⟩
def e_q106:EV C_q106 cp Tryz.f6 [.v bV] [.v (.pair (.pair .bool (.pair I6 (.pair .str (.pair (.pair I6 (.pair (.own bn) .unit)) (.pair (.pair (.own di) (.pair I6 .unit)) (.pair (.own ek) (.pair (.own e_) .unit))))))) (.pair (.own b9) (.pair (.own eL) (.pair (.own bn) .unit))))] DQ:=by intro xs;kernel_rfl
def ae5:CO L5:=con_ok (Ls:=[]) mixed (bq _ _) (W5 _ (fk_q42 _ (fk_q40 _ (fk_q76 _ nF)))) Tryz.func6 loopsL_nil boxesL_none e_q106
def acY (fns:List (Nat×List Ab.Mode×(List Arg→Option Res))){dp:Bool}(h:eW Tryz.prog Gb ⟨an,fns,dp,Gl⟩):eW Tryz.prog Gb ⟨an,L5.entry::fns,dp,Gl⟩:=h.cons L5 (by kernel_rfl) (zv (f:=DQ)) ae5
def Ar:jW:=⟨37,[.v I6,.v I6,.v I6],[.v .bool],cr,zog cr⟩
def C_q183:Cx:=⟨an,[],false,Gl⟩
def e_q183:EV C_q183 cp Tryz.f37 [.v I6,.v I6,.v I6] [.v .bool] cr:=by intro xs;kernel_rfl
def agi:CO Ar:=con_ok (Ls:=[]) mixed (bq _ _) nF Tryz.func37 loopsL_nil boxesL_none e_q183
def A4 (fns:List (Nat×List Ab.Mode×(List Arg→Option Res))){dp:Bool}(h:eW Tryz.prog Gb ⟨an,fns,dp,Gl⟩):eW Tryz.prog Gb ⟨an,Ar.entry::fns,dp,Gl⟩:=h.cons Ar (by kernel_rfl) (zv (f:=cr)) agi
def J6:jW:=⟨141,[.v .str,.v I6,.v I8],[.v I6],Ao,zog Ao⟩
def V9:Cx:=⟨an,[],false,Gl⟩
def RU:cE:=nq ⟨[(7,.leaf I6),(2,.leaf I8),(0,.leaf .str)],[]⟩ [(.ret,⟨[(6,.leaf I6)],[]⟩),((.exit 0),⟨[],[]⟩)] aah DZ
def YM:LT:=[(2,RU)]
def ajR:∀x,round V9 YM (iV Tryz.f141 0) RU x=DZ x:=by intro x;kernel_rfl
def e_q144:EV V9 YM Tryz.f141 [.v .str,.v I6,.v I8] [.v I6] Ao:=by intro xs;kernel_rfl
def afF:CO J6:=con_ok (Ls:=[RU]) mixed (bq _ _) nF Tryz.func141 (loopsC (loopD_ok ajR) loopsL_nil) boxesL_none e_q144
def Xb (fns:List (Nat×List Ab.Mode×(List Arg→Option Res))){dp:Bool}(h:eW Tryz.prog Gb ⟨an,fns,dp,Gl⟩):eW Tryz.prog Gb ⟨an,J6.entry::fns,dp,Gl⟩:=h.cons J6 (by kernel_rfl) (zv (f:=Ao)) afF
def Kf:jW:=⟨142,[.v .str],[.v I6],Ba,zog Ba⟩
def Wq:Cx:=⟨an,[Ar.entry],false,Gl⟩
def RS:cE:=nq ⟨[(4,.leaf I6),(0,.leaf .str),(3,.leaf I6)],[]⟩ [(.ret,⟨[(2,.leaf I6)],[]⟩),((.exit 0),⟨[(3,.leaf I6)],[]⟩)] aaB GB
def Y2:LT:=[(5,RS)]
def ajP:∀x,round Wq Y2 (iV Tryz.f142 0) RS x=GB x:=by intro x;kernel_rfl
def e_q177:EV Wq Y2 Tryz.f142 [.v .str] [.v I6] Ba:=by intro xs;kernel_rfl
def agb:CO Kf:=con_ok (Ls:=[RS]) mixed (bq _ _) (A4 _ nF) Tryz.func142 (loopsC (loopD_ok ajP) loopsL_nil) boxesL_none e_q177
def Xl (fns:List (Nat×List Ab.Mode×(List Arg→Option Res))){dp:Bool}(h:eW Tryz.prog Gb ⟨an,fns,dp,Gl⟩):eW Tryz.prog Gb ⟨an,Kf.entry::fns,dp,Gl⟩:=h.cons Kf (by kernel_rfl) (zv (f:=Ba)) agb
def Jd:jW:=⟨14,[.v I6],[.v .str],gb,zog gb⟩
def JW (g:((Int))→Option (((List UInt8))×(Unit)))(g':((Int))→((List UInt8))×(Unit)):jW:=⟨14,[.v I6],[.v .str],g,g'⟩
def C_q171 (g:((Int))→Option (((List UInt8))×(Unit)))(g':((Int))→((List UInt8))×(Unit)):Cx:=⟨an,[(JW g g').entry],false,Gl⟩
def e_q171 (g:((Int))→Option (((List UInt8))×(Unit)))(g':((Int))→((List UInt8))×(Unit)):∀xs,evT (C_q171 g g') cp Tryz.f14 [.v I6] [.v .str] xs=q25 g g' xs:=by intro xs;kernel_rfl
def s_q171 (g:((Int))→Option (((List UInt8))×(Unit)))(g':((Int))→((List UInt8))×(Unit))(hv:∀x y,g x=some y→g' x=y)(h:CO (JW g g')):CO (JW (q25 g g') (fun x=>match q25 g g' x with | some y=>y|none=>default)):=con_ok (Ls:=[]) mixed (bq _ _) (eW.cons nF (JW g g') (by kernel_rfl) hv h) Tryz.func14 loopsL_nil boxesL_none (e_q171 g g')
def n_q171 (n:Nat):CO (JW (Ch n) (fun x=>match Ch n x with | some y=>y|none=>default)):=by
 induction n with
 |zero=>intro xs y h;exact absurd (show none=some y from h) (by simp)
 |succ n ih=>
  rw[Us n]
  exact s_q171 _ _ (fun x y h=>by simp only[h]) ih
def af6:CO Jd:=n_q171 20
def Ss (fns:List (Nat×List Ab.Mode×(List Arg→Option Res))){dp:Bool}(h:eW Tryz.prog Gb ⟨an,fns,dp,Gl⟩):eW Tryz.prog Gb ⟨an,Jd.entry::fns,dp,Gl⟩:=h.cons Jd (by kernel_rfl) (zv (f:=gb)) af6
def N7:jW:=⟨225,[.v .str],[.v (.own I8)],q85,zog q85⟩
def Qb:Cx:=⟨an,[],false,Gl⟩
def RG:cE:=nq ⟨[(3,.whole z0 I8),(0,.leaf .str)],[(z0,false,.rows I8)]⟩ [((.exit 0),⟨[(3,.whole z0 I8),(0,.leaf .str)],[(z0,false,.rows I8)]⟩)] abg GU
def RH:cE:=nq ⟨[(5,.leaf I6),(4,.leaf I6),(3,.whole z0 I8)],[(z0,false,.rows I8)]⟩ [((.exit 2),⟨[(3,.whole z0 I8)],[(z0,false,.rows I8)]⟩)] abh ID
def Tf:LT:=[(2,RG),(6,RH)]
def ajE:∀x,round Qb Tf (iV Tryz.f225 0) RG x=GU x:=by intro x;kernel_rfl
def ajF:∀x,round Qb Tf (iV Tryz.f225 1) RH x=ID x:=by intro x;kernel_rfl
def e_q85:EV Qb Tf Tryz.f225 [.v .str] [.v (.own I8)] q85:=by intro xs;kernel_rfl
def ok_q85:CO N7:=con_ok (Ls:=[RG,RH]) mixed (bq _ _) nF Tryz.func225 (loopsC (loopD_ok ajE) (loopsC (loopD_ok ajF) loopsL_nil)) boxesL_none e_q85
def fk_q85 (fns:List (Nat×List Ab.Mode×(List Arg→Option Res))){dp:Bool}(h:eW Tryz.prog Gb ⟨an,fns,dp,Gl⟩):eW Tryz.prog Gb ⟨an,N7.entry::fns,dp,Gl⟩:=h.cons N7 (by kernel_rfl) (zv (f:=q85)) ok_q85
def J5:jW:=⟨236,[.v I3,.v I6],[.v I3],lA,zog lA⟩
def C_q141:Cx:=⟨an,[],false,Gl⟩
def e_q141:EV C_q141 cp Tryz.f236 [.v I3,.v I6] [.v I3] lA:=by intro xs;kernel_rfl
def afC:CO J5:=con_ok (Ls:=[]) mixed (bq _ _) nF Tryz.func236 loopsL_nil boxesL_none e_q141
def Xa (fns:List (Nat×List Ab.Mode×(List Arg→Option Res))){dp:Bool}(h:eW Tryz.prog Gb ⟨an,fns,dp,Gl⟩):eW Tryz.prog Gb ⟨an,J5.entry::fns,dp,Gl⟩:=h.cons J5 (by kernel_rfl) (zv (f:=lA)) afC
def Mf:jW:=⟨234,[.v (.lst I8)],[.v (.own I3)],HX,zog HX⟩
def P3:Cx:=⟨an,[J5.entry],false,Gl⟩
def RL:cE:=nq ⟨[(4,.leaf I6),(0,.leaf (.lst I8)),(3,.whole z0 I3)],[(z0,false,.rows I3)]⟩ [((.exit 0),⟨[(3,.whole z0 I3)],[(z0,false,.rows I3)]⟩)] ZZ HY
def RM:cE:=nq ⟨[(5,.leaf I6),(3,.whole z0 I3)],[(z0,false,.rows I3)]⟩ [((.exit 2),⟨[(3,.whole z0 I3)],[(z0,false,.rows I3)]⟩)] Z0 HZ
def S7:LT:=[(3,RL),(7,RM)]
def ajI:∀x,round P3 S7 (iV Tryz.f234 0) RL x=HY x:=by intro x;kernel_rfl
def ajJ:∀x,round P3 S7 (iV Tryz.f234 1) RM x=HZ x:=by intro x;kernel_rfl
def e_q117:EV P3 S7 Tryz.f234 [.v (.lst I8)] [.v (.own I3)] HX:=by intro xs;kernel_rfl
def afe:CO Mf:=con_ok (Ls:=[RL,RM]) mixed (bq _ _) (Xa _ nF) Tryz.func234 (loopsC (loopD_ok ajI) (loopsC (loopD_ok ajJ) loopsL_nil)) boxesL_none e_q117
def ac8 (fns:List (Nat×List Ab.Mode×(List Arg→Option Res))){dp:Bool}(h:eW Tryz.prog Gb ⟨an,fns,dp,Gl⟩):eW Tryz.prog Gb ⟨an,Mf.entry::fns,dp,Gl⟩:=h.cons Mf (by kernel_rfl) (zv (f:=HX)) afe
def N6:jW:=⟨235,[],[.v (.own I3)],q84,zog q84⟩
def C_q84:Cx:=⟨an,[],false,Gl⟩
def e_q84:EV C_q84 cp Tryz.f235 [] [.v (.own I3)] q84:=by intro xs;kernel_rfl
def ok_q84:CO N6:=con_ok (Ls:=[]) mixed (bq _ _) nF Tryz.func235 loopsL_nil boxesL_none e_q84
def fk_q84 (fns:List (Nat×List Ab.Mode×(List Arg→Option Res))){dp:Bool}(h:eW Tryz.prog Gb ⟨an,fns,dp,Gl⟩):eW Tryz.prog Gb ⟨an,N6.entry::fns,dp,Gl⟩:=h.cons N6 (by kernel_rfl) (zv (f:=q84)) ok_q84
def Me:jW:=⟨226,[.v (.lst I3),.v (.lst I8)],[.v (.own I3)],Gg,zog Gg⟩
def LR:Cx:=⟨an,[J5.entry,N6.entry,Mf.entry],false,Gl⟩
def RC:cE:=nq ⟨[(7,.whole z0 I3),(8,.leaf I6),(5,.whole z1 I3),(6,.whole z2 I3),(0,.leaf (.lst I3))],[(z0,false,.rows I3),(z1,false,.rows I3),(z2,false,.rows I3)]⟩ [((.exit 0),⟨[(7,.whole z0 I3),(0,.leaf (.lst I3))],[(z0,false,.rows I3)]⟩)] ZX HW
def RD:cE:=nq ⟨[(14,.leaf I6),(7,.whole z0 I3),(5,.whole z1 I3),(6,.whole z2 I3),(0,.leaf (.lst I3)),(8,.leaf I6),(13,.leaf I3),(12,.leaf I3),(11,.leaf I3)],[(z0,false,.rows I3),(z1,false,.rows I3),(z2,false,.rows I3)]⟩ [((.exit 2),⟨[(7,.whole z0 I3),(5,.whole z1 I3),(6,.whole z2 I3),(0,.leaf (.lst I3)),(8,.leaf I6),(13,.leaf I3),(12,.leaf I3),(11,.leaf I3)],[(z0,false,.rows I3),(z1,false,.rows I3),(z2,false,.rows I3)]⟩)] TQ K6
def RE:cE:=nq ⟨[(16,.leaf I6),(7,.whole z0 I3),(0,.leaf (.lst I3)),(15,.whole z1 I3)],[(z0,false,.rows I3),(z1,false,.rows I3)]⟩ [((.exit 4),⟨[(15,.whole z0 I3)],[(z0,false,.rows I3)]⟩)] ZY K7
def OV:LT:=[(5,RC),(13,RD),(20,RE)]
def ajA:∀x,round LR OV (iV Tryz.f226 0) RC x=HW x:=by intro x;kernel_rfl
def ajB:∀x,round LR OV (iV Tryz.f226 1) RD x=K6 x:=by intro x;kernel_rfl
def ajC:∀x,round LR OV (iV Tryz.f226 2) RE x=K7 x:=by intro x;kernel_rfl
def e_q115:EV LR OV Tryz.f226 [.v (.lst I3),.v (.lst I8)] [.v (.own I3)] Gg:=by intro xs;kernel_rfl
def afd:CO Me:=con_ok (Ls:=[RC,RD,RE]) mixed (bq _ _) (Xa _ (fk_q84 _ (ac8 _ nF))) Tryz.func226 (loopsC (loopD_ok ajA) (loopsC (loopD_ok ajB) (loopsC (loopD_ok ajC) loopsL_nil))) boxesL_none e_q115
def ac7 (fns:List (Nat×List Ab.Mode×(List Arg→Option Res))){dp:Bool}(h:eW Tryz.prog Gb ⟨an,fns,dp,Gl⟩):eW Tryz.prog Gb ⟨an,Me.entry::fns,dp,Gl⟩:=h.cons Me (by kernel_rfl) (zv (f:=Gg)) afd
def MU:jW:=⟨205,[.v .str],[.v .str],Gx,zog Gx⟩
def P6:Cx:=⟨an,[Me.entry,N7.entry],false,Gl⟩
def RI:cE:=nq ⟨[(5,.leaf I6),(4,.whole z0 I8),(3,.whole z1 I3)],[(z0,false,.rows I8),(z1,false,.rows I3)]⟩ [((.exit 0),⟨[(3,.whole z0 I3)],[(z0,false,.rows I3)]⟩)] aaw Gy
def RJ:cE:=nq ⟨[(7,.leaf I6),(3,.whole z0 I3),(6,.whole z1 I8)],[(z0,false,.rows I3),(z1,false,.rows I8)]⟩ [((.exit 2),⟨[(6,.whole z0 I8)],[(z0,false,.rows I8)]⟩)] aax K8
def S_:LT:=[(4,RI),(9,RJ)]
def ajG:∀x,round P6 S_ (iV Tryz.f205 0) RI x=Gy x:=by intro x;kernel_rfl
def ajH:∀x,round P6 S_ (iV Tryz.f205 1) RJ x=K8 x:=by intro x;kernel_rfl
def e_q173:EV P6 S_ Tryz.f205 [.v .str] [.v .str] Gx:=by intro xs;kernel_rfl
def af8:CO MU:=con_ok (Ls:=[RI,RJ]) mixed (bq _ _) (ac7 _ (fk_q85 _ nF)) Tryz.func205 (loopsC (loopD_ok ajG) (loopsC (loopD_ok ajH) loopsL_nil)) boxesL_none e_q173
def adJ (fns:List (Nat×List Ab.Mode×(List Arg→Option Res))){dp:Bool}(h:eW Tryz.prog Gb ⟨an,fns,dp,Gl⟩):eW Tryz.prog Gb ⟨an,MU.entry::fns,dp,Gl⟩:=h.cons MU (by kernel_rfl) (zv (f:=Gx)) af8
def MT:jW:=⟨204,[.v .str],[.v .str],D_,zog D_⟩
def Wm:Cx:=⟨an,[],false,Gl⟩
def RF:cE:=nq ⟨[(4,.leaf I6),(0,.leaf .str),(3,.whole z0 I8)],[(z0,false,.rows I8)]⟩ [((.exit 0),⟨[(3,.whole z0 I8)],[(z0,false,.rows I8)]⟩)] aav Gw
def YY:LT:=[(3,RF)]
def ajD:∀x,round Wm YY (iV Tryz.f204 0) RF x=Gw x:=by intro x;kernel_rfl
def e_q172:EV Wm YY Tryz.f204 [.v .str] [.v .str] D_:=by intro xs;kernel_rfl
def af7:CO MT:=con_ok (Ls:=[RF]) mixed (bq _ _) nF Tryz.func204 (loopsC (loopD_ok ajD) loopsL_nil) boxesL_none e_q172
def adI (fns:List (Nat×List Ab.Mode×(List Arg→Option Res))){dp:Bool}(h:eW Tryz.prog Gb ⟨an,fns,dp,Gl⟩):eW Tryz.prog Gb ⟨an,MT.entry::fns,dp,Gl⟩:=h.cons MT (by kernel_rfl) (zv (f:=D_)) af7
def L8:jW:=⟨174,[.v .str],[.v .str],Cg,zog Cg⟩
def C_q109:Cx:=⟨an,[MT.entry,MU.entry],false,Gl⟩
def e_q109:EV C_q109 cp Tryz.f174 [.v .str] [.v .str] Cg:=by intro xs;kernel_rfl
def ae8:CO L8:=con_ok (Ls:=[]) mixed (bq _ _) (adI _ (adJ _ nF)) Tryz.func174 loopsL_nil boxesL_none e_q109
def ac1 (fns:List (Nat×List Ab.Mode×(List Arg→Option Res))){dp:Bool}(h:eW Tryz.prog Gb ⟨an,fns,dp,Gl⟩):eW Tryz.prog Gb ⟨an,L8.entry::fns,dp,Gl⟩:=h.cons L8 (by kernel_rfl) (zv (f:=Cg)) ae8
def MA:jW:=⟨143,[.v I6,.v .str],[.v .str],Gm,zog Gm⟩
def C_q145:Cx:=⟨an,[L8.entry,Jd.entry],false,Gl⟩
def e_q145:EV C_q145 cp Tryz.f143 [.v I6,.v .str] [.v .str] Gm:=by intro xs;kernel_rfl
def afG:CO MA:=con_ok (Ls:=[]) mixed (bq _ _) (ac1 _ (Ss _ nF)) Tryz.func143 loopsL_nil boxesL_none e_q145
def adr (fns:List (Nat×List Ab.Mode×(List Arg→Option Res))){dp:Bool}(h:eW Tryz.prog Gb ⟨an,fns,dp,Gl⟩):eW Tryz.prog Gb ⟨an,MA.entry::fns,dp,Gl⟩:=h.cons MA (by kernel_rfl) (zv (f:=Gm)) afG
def MB:jW:=⟨108,[.v .str,.v I6,.v I6],[.v .str,.v I6],EY,zog EY⟩
def C_q146:Cx:=⟨an,[MA.entry,Ar.entry,Kf.entry,J6.entry],false,Gl⟩
def e_q146:EV C_q146 cp Tryz.f108 [.v .str,.v I6,.v I6] [.v .str,.v I6] EY:=by intro xs;kernel_rfl
def afH:CO MB:=con_ok (Ls:=[]) mixed (bq _ _) (adr _ (A4 _ (Xl _ (Xb _ nF)))) Tryz.func108 loopsL_nil boxesL_none e_q146
def ads (fns:List (Nat×List Ab.Mode×(List Arg→Option Res))){dp:Bool}(h:eW Tryz.prog Gb ⟨an,fns,dp,Gl⟩):eW Tryz.prog Gb ⟨an,MB.entry::fns,dp,Gl⟩:=h.cons MB (by kernel_rfl) (zv (f:=EY)) afH
def Ja:jW:=⟨66,[.v .str],[.v (.own .str),.v I6],Db,zog Db⟩
def V_:Cx:=⟨an,[MB.entry],false,Gl⟩
def RW:cE:=nq ⟨[(5,.leaf I6),(4,.whole z0 .str),(0,.leaf .str)],[(z0,false,.rows .str)]⟩ [(.ret,⟨[(2,.whole z0 .str),(3,.leaf I6)],[(z0,false,.rows .str)]⟩)] aai Gn
def YN:LT:=[(3,RW)]
def ajS:∀x,round V_ YN (iV Tryz.f66 0) RW x=Gn x:=by intro x;kernel_rfl
def e_q147:EV V_ YN Tryz.f66 [.v .str] [.v (.own .str),.v I6] Db:=by intro xs;kernel_rfl
def afI:CO Ja:=con_ok (Ls:=[RW]) mixed (bq _ _) (ads _ nF) Tryz.func66 (loopsC (loopD_ok ajS) loopsL_nil) boxesL_none e_q147
def Sp (fns:List (Nat×List Ab.Mode×(List Arg→Option Res))){dp:Bool}(h:eW Tryz.prog Gb ⟨an,fns,dp,Gl⟩):eW Tryz.prog Gb ⟨an,Ja.entry::fns,dp,Gl⟩:=h.cons Ja (by kernel_rfl) (zv (f:=Db)) afI
def My:jW:=⟨144,[.v .str,.v I8],[.v (.own .str)],DY,zog DY⟩
def V7:Cx:=⟨an,[],false,Gl⟩
def RQ:cE:=nq ⟨[(7,.leaf I6),(6,.leaf I6),(0,.leaf .str),(5,.whole z0 .str),(1,.leaf I8)],[(z0,false,.rows .str)]⟩ [((.exit 0),⟨[(6,.leaf I6),(0,.leaf .str),(5,.whole z0 .str)],[(z0,false,.rows .str)]⟩)] aaf AV
def YK:LT:=[(4,RQ)]
def ajN:∀x,round V7 YK (iV Tryz.f144 0) RQ x=AV x:=by intro x;kernel_rfl
def e_q142:EV V7 YK Tryz.f144 [.v .str,.v I8] [.v (.own .str)] DY:=by intro xs;kernel_rfl
def afD:CO My:=con_ok (Ls:=[RQ]) mixed (bq _ _) nF Tryz.func144 (loopsC (loopD_ok ajN) loopsL_nil) boxesL_none e_q142
def adp (fns:List (Nat×List Ab.Mode×(List Arg→Option Res))){dp:Bool}(h:eW Tryz.prog Gb ⟨an,fns,dp,Gl⟩):eW Tryz.prog Gb ⟨an,My.entry::fns,dp,Gl⟩:=h.cons My (by kernel_rfl) (zv (f:=DY)) afD
def J4:jW:=⟨79,[.v .str],[.v .bool],Ci,zog Ci⟩
def V5:Cx:=⟨an,[Ar.entry],false,Gl⟩
def Rh:cE:=nq ⟨[(3,.leaf I6),(0,.leaf .str)],[]⟩ [(.ret,⟨[(2,.leaf .bool)],[]⟩),((.exit 0),⟨[(0,.leaf .str)],[]⟩)] aaa BR
def YI:LT:=[(2,Rh)]
def ajf:∀x,round V5 YI (iV Tryz.f79 0) Rh x=BR x:=by intro x;kernel_rfl
def e_q138:EV V5 YI Tryz.f79 [.v .str] [.v .bool] Ci:=by intro xs;kernel_rfl
def afz:CO J4:=con_ok (Ls:=[Rh]) mixed (bq _ _) (A4 _ nF) Tryz.func79 (loopsC (loopD_ok ajf) loopsL_nil) boxesL_none e_q138
def W_ (fns:List (Nat×List Ab.Mode×(List Arg→Option Res))){dp:Bool}(h:eW Tryz.prog Gb ⟨an,fns,dp,Gl⟩):eW Tryz.prog Gb ⟨an,J4.entry::fns,dp,Gl⟩:=h.cons J4 (by kernel_rfl) (zv (f:=Ci)) afz
def Hp:jW:=⟨75,[.v bn],[.v .bool],Bw,zog Bw⟩
def C_q185:Cx:=⟨an,[J4.entry,Ar.entry],false,Gl⟩
def e_q185:EV C_q185 cp Tryz.f75 [.v bn] [.v .bool] Bw:=by intro xs;kernel_rfl
def agk:CO Hp:=con_ok (Ls:=[]) mixed (bq _ _) (W_ _ (A4 _ nF)) Tryz.func75 loopsL_nil boxesL_none e_q185
def Oy (fns:List (Nat×List Ab.Mode×(List Arg→Option Res))){dp:Bool}(h:eW Tryz.prog Gb ⟨an,fns,dp,Gl⟩):eW Tryz.prog Gb ⟨an,Hp.entry::fns,dp,Gl⟩:=h.cons Hp (by kernel_rfl) (zv (f:=Bw)) agk
def Ns:jW:=⟨145,[.v I6,.v .str,.v .str],[.v .str],Fl,zog Fl⟩
def C_q43:Cx:=⟨an,[Jd.entry,Hp.entry],false,Gl⟩
def e_q43:EV C_q43 cp Tryz.f145 [.v I6,.v .str,.v .str] [.v .str] Fl:=by intro xs;kernel_rfl
def ok_q43:CO Ns:=con_ok (Ls:=[]) mixed (bq _ _) (Ss _ (Oy _ nF)) Tryz.func145 loopsL_nil boxesL_none e_q43
def fk_q43 (fns:List (Nat×List Ab.Mode×(List Arg→Option Res))){dp:Bool}(h:eW Tryz.prog Gb ⟨an,fns,dp,Gl⟩):eW Tryz.prog Gb ⟨an,Ns.entry::fns,dp,Gl⟩:=h.cons Ns (by kernel_rfl) (zv (f:=Fl)) ok_q43
def J9:jW:=⟨206,[.v bn,.v I6,.v .str],[.v .bool],E0,zog E0⟩
def C_q150:Cx:=⟨an,[],false,Gl⟩
def e_q150:EV C_q150 cp Tryz.f206 [.v bn,.v I6,.v .str] [.v .bool] E0:=by intro xs;kernel_rfl
def afL:CO J9:=con_ok (Ls:=[]) mixed (bq _ _) nF Tryz.func206 loopsL_nil boxesL_none e_q150
def Xe (fns:List (Nat×List Ab.Mode×(List Arg→Option Res))){dp:Bool}(h:eW Tryz.prog Gb ⟨an,fns,dp,Gl⟩):eW Tryz.prog Gb ⟨an,J9.entry::fns,dp,Gl⟩:=h.cons J9 (by kernel_rfl) (zv (f:=E0)) afL
def J0:jW:=⟨179,[.v (.lst bn),.v I6],[.v I6],EN,zog EN⟩
def V0:Cx:=⟨an,[],false,Gl⟩
def RY:cE:=nq ⟨[(6,.leaf I6),(0,.leaf (.lst bn)),(5,.leaf I6),(1,.leaf I6)],[]⟩ [((.exit 0),⟨[(5,.leaf I6)],[]⟩)] Z3 EO
def YC:LT:=[(3,RY)]
def ajU:∀x,round V0 YC (iV Tryz.f179 0) RY x=EO x:=by intro x;kernel_rfl
def e_q119:EV V0 YC Tryz.f179 [.v (.lst bn),.v I6] [.v I6] EN:=by intro xs;kernel_rfl
def afg:CO J0:=con_ok (Ls:=[RY]) mixed (bq _ _) nF Tryz.func179 (loopsC (loopD_ok ajU) loopsL_nil) boxesL_none e_q119
def W6 (fns:List (Nat×List Ab.Mode×(List Arg→Option Res))){dp:Bool}(h:eW Tryz.prog Gb ⟨an,fns,dp,Gl⟩):eW Tryz.prog Gb ⟨an,J0.entry::fns,dp,Gl⟩:=h.cons J0 (by kernel_rfl) (zv (f:=EN)) afg
def Kb:jW:=⟨175,[.v bx],[.v .bool],Gu,zog Gu⟩
def LU:Cx:=⟨an,[J0.entry,J9.entry,Hp.entry,Ar.entry],false,Gl⟩
def Re:cE:=nq ⟨[(1,.aV z0 []),(3,.leaf I6)],[(z0,false,.var bx (.leaf bx))]⟩ [(.ret,⟨[(2,.leaf .bool)],[]⟩),((.exit 0),⟨[(1,.aV z0 [])],[(z0,false,.var bx (.leaf bx))]⟩)] aaq E6
def Rf:cE:=nq ⟨[(5,.leaf I6),(4,.aV z0 []),(1,.aV z1 []),(3,.leaf I6)],[(z0,false,.var bn (.leaf bn)),(z1,false,.var bx (.leaf bx))]⟩ [(.ret,⟨[(2,.leaf .bool)],[]⟩),((.exit 2),⟨[(1,.aV z0 []),(3,.leaf I6)],[(z0,false,.var bx (.leaf bx))]⟩)] aar Gv
def Rg:cE:=nq ⟨[(6,.leaf I6),(1,.aV z0 [])],[(z0,false,.var bx (.leaf bx))]⟩ [(.ret,⟨[(2,.leaf .bool)],[]⟩),((.exit 4),⟨[],[]⟩)] aas Iq
def OX:LT:=[(4,Re),(10,Rf),(15,Rg)]
def ajc:∀x,round LU OX (iV Tryz.f175 0) Re x=E6 x:=by intro x;kernel_rfl
def ajd:∀x,round LU OX (iV Tryz.f175 1) Rf x=Gv x:=by intro x;kernel_rfl
def aje:∀x,round LU OX (iV Tryz.f175 2) Rg x=Iq x:=by intro x;kernel_rfl
def e_q166:EV LU OX Tryz.f175 [.v bx] [.v .bool] Gu:=by intro xs;kernel_rfl
def af1:CO Kb:=con_ok (Ls:=[Re,Rf,Rg]) mixed (bq _ _) (W6 _ (Xe _ (Oy _ (A4 _ nF)))) Tryz.func175 (loopsC (loopD_ok ajc) (loopsC (loopD_ok ajd) (loopsC (loopD_ok aje) loopsL_nil))) boxesL_none e_q166
def Xh (fns:List (Nat×List Ab.Mode×(List Arg→Option Res))){dp:Bool}(h:eW Tryz.prog Gb ⟨an,fns,dp,Gl⟩):eW Tryz.prog Gb ⟨an,Kb.entry::fns,dp,Gl⟩:=h.cons Kb (by kernel_rfl) (zv (f:=Gu)) af1
def Kg:jW:=⟨176,[.v bx,.v I6,.v .str],[.v I6],Dg,zog Dg⟩
def Wu:Cx:=⟨an,[],false,Gl⟩
def RX:cE:=nq ⟨[(7,.leaf I6),(2,.leaf .str),(3,.aV z0 []),(1,.leaf I6)],[(z0,false,.var bx (.leaf bx))]⟩ [(.ret,⟨[(6,.leaf I6)],[]⟩),((.exit 0),⟨[],[]⟩)] aaE Fe
def Y5:LT:=[(2,RX)]
def ajT:∀x,round Wu Y5 (iV Tryz.f176 0) RX x=Fe x:=by intro x;kernel_rfl
def e_q184:EV Wu Y5 Tryz.f176 [.v bx,.v I6,.v .str] [.v I6] Dg:=by intro xs;kernel_rfl
def agj:CO Kg:=con_ok (Ls:=[RX]) mixed (bq _ _) nF Tryz.func176 (loopsC (loopD_ok ajT) loopsL_nil) boxesL_none e_q184
def Xm (fns:List (Nat×List Ab.Mode×(List Arg→Option Res))){dp:Bool}(h:eW Tryz.prog Gb ⟨an,fns,dp,Gl⟩):eW Tryz.prog Gb ⟨an,Kg.entry::fns,dp,Gl⟩:=h.cons Kg (by kernel_rfl) (zv (f:=Dg)) agj
def J7:jW:=⟨177,[.v bx],[.v (.pair I6 (.pair (.own bn) .unit))],D0,zog D0⟩
def C_q148:Cx:=⟨an,[],false,Gl⟩
def e_q148:EV C_q148 cp Tryz.f177 [.v bx] [.v (.pair I6 (.pair (.own bn) .unit))] D0:=by intro xs;kernel_rfl
def afJ:CO J7:=con_ok (Ls:=[]) mixed (bq _ _) nF Tryz.func177 loopsL_nil boxesL_none e_q148
def Xc (fns:List (Nat×List Ab.Mode×(List Arg→Option Res))){dp:Bool}(h:eW Tryz.prog Gb ⟨an,fns,dp,Gl⟩):eW Tryz.prog Gb ⟨an,J7.entry::fns,dp,Gl⟩:=h.cons J7 (by kernel_rfl) (zv (f:=D0)) afJ
def MD:jW:=⟨178,[.v bx,.v I6],[.v (.pair I6 (.pair (.own bn) .unit))],Ig,zog Ig⟩
def C_q151:Cx:=⟨an,[],false,Gl⟩
def e_q151:EV C_q151 cp Tryz.f178 [.v bx,.v I6] [.v (.pair I6 (.pair (.own bn) .unit))] Ig:=by intro xs;kernel_rfl
def afM:CO MD:=con_ok (Ls:=[]) mixed (bq _ _) nF Tryz.func178 loopsL_nil boxesL_none e_q151
def adu (fns:List (Nat×List Ab.Mode×(List Arg→Option Res))){dp:Bool}(h:eW Tryz.prog Gb ⟨an,fns,dp,Gl⟩):eW Tryz.prog Gb ⟨an,MD.entry::fns,dp,Gl⟩:=h.cons MD (by kernel_rfl) (zv (f:=Ig)) afM
def L6:jW:=⟨146,[.v bx,.v I6,.v .str],[.v (.pair I6 (.pair (.own bn) .unit)),.v I6],DR,zog DR⟩
def C_q107:Cx:=⟨an,[MD.entry,J7.entry,Kg.entry,Kb.entry],false,Gl⟩
def e_q107:EV C_q107 cp Tryz.f146 [.v bx,.v I6,.v .str] [.v (.pair I6 (.pair (.own bn) .unit)),.v I6] DR:=by intro xs;kernel_rfl
def ae6:CO L6:=con_ok (Ls:=[]) mixed (bq _ _) (adu _ (Xc _ (Xm _ (Xh _ nF)))) Tryz.func146 loopsL_nil boxesL_none e_q107
def acZ (fns:List (Nat×List Ab.Mode×(List Arg→Option Res))){dp:Bool}(h:eW Tryz.prog Gb ⟨an,fns,dp,Gl⟩):eW Tryz.prog Gb ⟨an,L6.entry::fns,dp,Gl⟩:=h.cons L6 (by kernel_rfl) (zv (f:=DR)) ae6
def MX:jW:=⟨180,[.v bx,.v bn],[.v (.pair I6 (.pair (.own bn) .unit))],Is,zog Is⟩
def Wr:Cx:=⟨an,[J9.entry],false,Gl⟩
def R0:cE:=nq ⟨[(5,.leaf I6),(4,.aV z0 []),(2,.aV z1 []),(3,.aV z2 [])],[(z0,false,.var bx (.pair (.leaf I6) (.pair (.whole z3 bn) (.leaf .unit)))),(z1,false,.var bx (.leaf bx)),(z2,false,.var bn (.leaf bn)),(z3,false,.rows bn)]⟩ [((.exit 0),⟨[(4,.aV z0 []),(5,.leaf I6),(2,.aV z1 []),(3,.aV z2 [])],[(z0,false,.var bx (.pair (.leaf I6) (.pair (.whole z3 bn) (.leaf .unit)))),(z1,false,.var bx (.leaf bx)),(z2,false,.var bn (.leaf bn)),(z3,false,.rows bn)]⟩)] aaC Fb
def Y3:LT:=[(2,R0)]
def ajW:∀x,round Wr Y3 (iV Tryz.f180 0) R0 x=Fb x:=by intro x;kernel_rfl
def e_q178:EV Wr Y3 Tryz.f180 [.v bx,.v bn] [.v (.pair I6 (.pair (.own bn) .unit))] Is:=by intro xs;kernel_rfl
def agc:CO MX:=con_ok (Ls:=[R0]) mixed (bq _ _) (Xe _ nF) Tryz.func180 (loopsC (loopD_ok ajW) loopsL_nil) boxesL_none e_q178
def adM (fns:List (Nat×List Ab.Mode×(List Arg→Option Res))){dp:Bool}(h:eW Tryz.prog Gb ⟨an,fns,dp,Gl⟩):eW Tryz.prog Gb ⟨an,MX.entry::fns,dp,Gl⟩:=h.cons MX (by kernel_rfl) (zv (f:=Is)) agc
def Mu:jW:=⟨147,[.v bx,.v I6,.v .str,.v .str],[.v (.pair I6 (.pair (.own bn) .unit)),.v I6],Da,zog Da⟩
def C_q137:Cx:=⟨an,[MX.entry,J0.entry,Kg.entry,J7.entry,Hp.entry,Kb.entry],false,Gl⟩
def e_q137:EV C_q137 cp Tryz.f147 [.v bx,.v I6,.v .str,.v .str] [.v (.pair I6 (.pair (.own bn) .unit)),.v I6] Da:=by intro xs;kernel_rfl
def afy:CO Mu:=con_ok (Ls:=[]) mixed (bq _ _) (adM _ (W6 _ (Xm _ (Xc _ (Oy _ (Xh _ nF)))))) Tryz.func147 loopsL_nil boxesL_none e_q137
def adm (fns:List (Nat×List Ab.Mode×(List Arg→Option Res))){dp:Bool}(h:eW Tryz.prog Gb ⟨an,fns,dp,Gl⟩):eW Tryz.prog Gb ⟨an,Mu.entry::fns,dp,Gl⟩:=h.cons Mu (by kernel_rfl) (zv (f:=Da)) afy
def MC:jW:=⟨109,[.v bx,.v .str],[.v (.pair I6 (.pair (.own bn) .unit)),.v .bool],D3,zog D3⟩
def C_q149:Cx:=⟨an,[Mu.entry,L6.entry,Ns.entry,Kf.entry,My.entry,J6.entry],false,Gl⟩
def e_q149:EV C_q149 cp Tryz.f109 [.v bx,.v .str] [.v (.pair I6 (.pair (.own bn) .unit)),.v .bool] D3:=by intro xs;kernel_rfl
def afK:CO MC:=con_ok (Ls:=[]) mixed (bq _ _) (adm _ (acZ _ (fk_q43 _ (Xl _ (adp _ (Xb _ nF)))))) Tryz.func109 loopsL_nil boxesL_none e_q149
def adt (fns:List (Nat×List Ab.Mode×(List Arg→Option Res))){dp:Bool}(h:eW Tryz.prog Gb ⟨an,fns,dp,Gl⟩):eW Tryz.prog Gb ⟨an,MC.entry::fns,dp,Gl⟩:=h.cons MC (by kernel_rfl) (zv (f:=D3)) afK
def Jc:jW:=⟨67,[.v (.lst .str)],[.v (.pair I6 (.pair (.own bn) .unit)),.v .bool],D7,zog D7⟩
def Wj:Cx:=⟨an,[MC.entry],false,Gl⟩
def Rd:cE:=nq ⟨[(2,.aV z0 []),(5,.leaf I6),(4,.aV z1 []),(0,.leaf (.lst .str))],[(z0,false,.var bx (.pair (.leaf I6) (.pair (.whole z2 bn) (.leaf .unit)))),(z1,false,.var bx (.pair (.leaf I6) (.pair (.whole z3 bn) (.leaf .unit)))),(z2,false,.rows bn),(z3,false,.rows bn)]⟩ [(.ret,⟨[(2,.aV z0 []),(3,.leaf .bool)],[(z0,false,.var bx (.pair (.leaf I6) (.pair (.whole z1 bn) (.leaf .unit)))),(z1,false,.rows bn)]⟩),((.exit 0),⟨[(2,.aV z0 []),(4,.aV z1 [])],[(z0,false,.var bx (.pair (.leaf I6) (.pair (.whole z2 bn) (.leaf .unit)))),(z1,false,.var bx (.pair (.leaf I6) (.pair (.whole z3 bn) (.leaf .unit)))),(z2,false,.rows bn),(z3,false,.rows bn)]⟩)] aap E5
def YV:LT:=[(3,Rd)]
def ajb:∀x,round Wj YV (iV Tryz.f67 0) Rd x=E5 x:=by intro x;kernel_rfl
def e_q165:EV Wj YV Tryz.f67 [.v (.lst .str)] [.v (.pair I6 (.pair (.own bn) .unit)),.v .bool] D7:=by intro xs;kernel_rfl
def af0:CO Jc:=con_ok (Ls:=[Rd]) mixed (bq _ _) (adt _ nF) Tryz.func67 (loopsC (loopD_ok ajb) loopsL_nil) boxesL_none e_q165
def Sr (fns:List (Nat×List Ab.Mode×(List Arg→Option Res))){dp:Bool}(h:eW Tryz.prog Gb ⟨an,fns,dp,Gl⟩):eW Tryz.prog Gb ⟨an,Jc.entry::fns,dp,Gl⟩:=h.cons Jc (by kernel_rfl) (zv (f:=D7)) af0
def Mb:jW:=⟨65,[.v dj],[.v .bool],Ge,zog Ge⟩
def C_q112:Cx:=⟨an,[Jc.entry,Ja.entry],false,Gl⟩
def e_q112:EV C_q112 cp Tryz.f65 [.v dj] [.v .bool] Ge:=by intro xs;kernel_rfl
def afa:CO Mb:=con_ok (Ls:=[]) mixed (bq _ _) (Sr _ (Sp _ nF)) Tryz.func65 loopsL_nil boxesL_none e_q112
def ac4 (fns:List (Nat×List Ab.Mode×(List Arg→Option Res))){dp:Bool}(h:eW Tryz.prog Gb ⟨an,fns,dp,Gl⟩):eW Tryz.prog Gb ⟨an,Mb.entry::fns,dp,Gl⟩:=h.cons Mb (by kernel_rfl) (zv (f:=Ge)) afa
def Ma:jW:=⟨68,[.v bx,.v bx],[.v .bool],DS,zog DS⟩
def VY:Cx:=⟨an,[],false,Gl⟩
def Rx:cE:=nq ⟨[(5,.leaf I6),(3,.aV z0 []),(2,.aV z1 [])],[(z0,false,.var bx (.leaf bx)),(z1,false,.var bx (.leaf bx))]⟩ [(.ret,⟨[(4,.leaf .bool)],[]⟩),((.exit 0),⟨[],[]⟩)] ZV EL
def YA:LT:=[(4,Rx)]
def ajv:∀x,round VY YA (iV Tryz.f68 0) Rx x=EL x:=by intro x;kernel_rfl
def e_q111:EV VY YA Tryz.f68 [.v bx,.v bx] [.v .bool] DS:=by intro xs;kernel_rfl
def ae_:CO Ma:=con_ok (Ls:=[Rx]) mixed (bq _ _) nF Tryz.func68 (loopsC (loopD_ok ajv) loopsL_nil) boxesL_none e_q111
def ac3 (fns:List (Nat×List Ab.Mode×(List Arg→Option Res))){dp:Bool}(h:eW Tryz.prog Gb ⟨an,fns,dp,Gl⟩):eW Tryz.prog Gb ⟨an,Ma.entry::fns,dp,Gl⟩:=h.cons Ma (by kernel_rfl) (zv (f:=DS)) ae_
def MS:jW:=⟨110,[.v di],[.v .bool],E9,zog E9⟩
def C_q170:Cx:=⟨an,[Ar.entry],false,Gl⟩
def e_q170:EV C_q170 cp Tryz.f110 [.v di] [.v .bool] E9:=by intro xs;kernel_rfl
def af5:CO MS:=con_ok (Ls:=[]) mixed (bq _ _) (A4 _ nF) Tryz.func110 loopsL_nil boxesL_none e_q170
def adH (fns:List (Nat×List Ab.Mode×(List Arg→Option Res))){dp:Bool}(h:eW Tryz.prog Gb ⟨an,fns,dp,Gl⟩):eW Tryz.prog Gb ⟨an,MS.entry::fns,dp,Gl⟩:=h.cons MS (by kernel_rfl) (zv (f:=E9)) af5
def MR:jW:=⟨111,[.v eI,.v I6],[.v I6],Ir,zog Ir⟩
def Wl:Cx:=⟨an,[],false,Gl⟩
def Rw:cE:=nq ⟨[(6,.leaf I6),(5,.leaf I6),(1,.leaf I6),(2,.aV z0 [])],[(z0,false,.var eI (.leaf eI))]⟩ [((.exit 0),⟨[(5,.leaf I6)],[]⟩)] aau E7
def YX:LT:=[(3,Rw)]
def aju:∀x,round Wl YX (iV Tryz.f111 0) Rw x=E7 x:=by intro x;kernel_rfl
def e_q169:EV Wl YX Tryz.f111 [.v eI,.v I6] [.v I6] Ir:=by intro xs;kernel_rfl
def af4:CO MR:=con_ok (Ls:=[Rw]) mixed (bq _ _) nF Tryz.func111 (loopsC (loopD_ok aju) loopsL_nil) boxesL_none e_q169
def adG (fns:List (Nat×List Ab.Mode×(List Arg→Option Res))){dp:Bool}(h:eW Tryz.prog Gb ⟨an,fns,dp,Gl⟩):eW Tryz.prog Gb ⟨an,MR.entry::fns,dp,Gl⟩:=h.cons MR (by kernel_rfl) (zv (f:=Ir)) af4
def Mx:jW:=⟨69,[.v eI],[.v .bool],EW,zog EW⟩
def LS:Cx:=⟨an,[MR.entry,MS.entry,Ar.entry],false,Gl⟩
def Rj:cE:=nq ⟨[(1,.aV z0 []),(3,.leaf I6)],[(z0,false,.var eI (.leaf eI))]⟩ [(.ret,⟨[(2,.leaf .bool)],[]⟩),((.exit 0),⟨[(1,.aV z0 [])],[(z0,false,.var eI (.leaf eI))]⟩)] aac DW
def Rk:cE:=nq ⟨[(4,.leaf I6),(1,.aV z0 []),(3,.leaf I6)],[(z0,false,.var eI (.leaf eI))]⟩ [(.ret,⟨[(2,.leaf .bool)],[]⟩),((.exit 2),⟨[(1,.aV z0 []),(3,.leaf I6)],[(z0,false,.var eI (.leaf eI))]⟩)] aad BU
def Rl:cE:=nq ⟨[(5,.leaf I6),(1,.aV z0 [])],[(z0,false,.var eI (.leaf eI))]⟩ [(.ret,⟨[(2,.leaf .bool)],[]⟩),((.exit 4),⟨[],[]⟩)] aae DX
def OW:LT:=[(4,Rj),(9,Rk),(14,Rl)]
def ajh:∀x,round LS OW (iV Tryz.f69 0) Rj x=DW x:=by intro x;kernel_rfl
def aji:∀x,round LS OW (iV Tryz.f69 1) Rk x=BU x:=by intro x;kernel_rfl
def ajj:∀x,round LS OW (iV Tryz.f69 2) Rl x=DX x:=by intro x;kernel_rfl
def e_q140:EV LS OW Tryz.f69 [.v eI] [.v .bool] EW:=by intro xs;kernel_rfl
def afB:CO Mx:=con_ok (Ls:=[Rj,Rk,Rl]) mixed (bq _ _) (adG _ (adH _ (A4 _ nF))) Tryz.func69 (loopsC (loopD_ok ajh) (loopsC (loopD_ok aji) (loopsC (loopD_ok ajj) loopsL_nil))) boxesL_none e_q140
def ado (fns:List (Nat×List Ab.Mode×(List Arg→Option Res))){dp:Bool}(h:eW Tryz.prog Gb ⟨an,fns,dp,Gl⟩):eW Tryz.prog Gb ⟨an,Mx.entry::fns,dp,Gl⟩:=h.cons Mx (by kernel_rfl) (zv (f:=EW)) afB
def Kj:jW:=⟨71,[.v bx,.v I6],[.v bn,.v .bool],Fm,zog Fm⟩
def C_q46:Cx:=⟨an,[],false,Gl⟩
def RZ:cE:=nq ⟨[(4,.aV z0 []),(6,.leaf I6),(2,.aV z1 []),(1,.leaf I6)],[(z0,false,.var bn (.leaf bn)),(z1,false,.var bx (.leaf bx))]⟩ [(.ret,⟨[(4,.aV z0 []),(5,.leaf .bool)],[(z0,false,.var bn (.leaf bn))]⟩),((.exit 0),⟨[(4,.aV z0 [])],[(z0,false,.var bn (.leaf bn))]⟩)] aaT Fo
def Zh:LT:=[(2,RZ)]
def ajV:∀x,round C_q46 Zh (iV Tryz.f71 0) RZ x=Fo x:=by intro x;kernel_rfl
def e_q46:EV C_q46 Zh Tryz.f71 [.v bx,.v I6] [.v bn,.v .bool] Fm:=by intro xs;kernel_rfl
def ok_q46:CO Kj:=con_ok (Ls:=[RZ]) mixed (bq _ _) nF Tryz.func71 (loopsC (loopD_ok ajV) loopsL_nil) boxesL_none e_q46
def Xp (fns:List (Nat×List Ab.Mode×(List Arg→Option Res))){dp:Bool}(h:eW Tryz.prog Gb ⟨an,fns,dp,Gl⟩):eW Tryz.prog Gb ⟨an,Kj.entry::fns,dp,Gl⟩:=h.cons Kj (by kernel_rfl) (zv (f:=Fm)) ok_q46
def N4:jW:=⟨112,[.v I6],[.v I6],q82,zog q82⟩
def C_q82:Cx:=⟨an,[],false,Gl⟩
def e_q82:EV C_q82 cp Tryz.f112 [.v I6] [.v I6] q82:=by intro xs;kernel_rfl
def ok_q82:CO N4:=con_ok (Ls:=[]) mixed (bq _ _) nF Tryz.func112 loopsL_nil boxesL_none e_q82
def fk_q82 (fns:List (Nat×List Ab.Mode×(List Arg→Option Res))){dp:Bool}(h:eW Tryz.prog Gb ⟨an,fns,dp,Gl⟩):eW Tryz.prog Gb ⟨an,N4.entry::fns,dp,Gl⟩:=h.cons N4 (by kernel_rfl) (zv (f:=q82)) ok_q82
def Nt:jW:=⟨70,[.v dj],[.v .bool],q44,zog q44⟩
def C_q44:Cx:=⟨an,[N4.entry,Kj.entry,Ar.entry],false,Gl⟩
def Ry:cE:=nq ⟨[(3,.leaf I6),(1,.aV z0 [])],[(z0,false,.var dj (.leaf dj))]⟩ [(.ret,⟨[(2,.leaf .bool)],[]⟩),((.exit 0),⟨[],[]⟩)] aaS Ec
def Zg:LT:=[(2,Ry)]
def ajw:∀x,round C_q44 Zg (iV Tryz.f70 0) Ry x=Ec x:=by intro x;kernel_rfl
def e_q44:EV C_q44 Zg Tryz.f70 [.v dj] [.v .bool] q44:=by intro xs;kernel_rfl
def ok_q44:CO Nt:=con_ok (Ls:=[Ry]) mixed (bq _ _) (fk_q82 _ (Xp _ (A4 _ nF))) Tryz.func70 (loopsC (loopD_ok ajw) loopsL_nil) boxesL_none e_q44
def fk_q44 (fns:List (Nat×List Ab.Mode×(List Arg→Option Res))){dp:Bool}(h:eW Tryz.prog Gb ⟨an,fns,dp,Gl⟩):eW Tryz.prog Gb ⟨an,Nt.entry::fns,dp,Gl⟩:=h.cons Nt (by kernel_rfl) (zv (f:=q44)) ok_q44
def FQ:jW:=⟨72,[.v fe],[.v I6],zT,zog zT⟩
def C_q118:Cx:=⟨an,[],false,Gl⟩
def e_q118:EV C_q118 cp Tryz.f72 [.v fe] [.v I6] zT:=by intro xs;kernel_rfl
def aff:CO FQ:=con_ok (Ls:=[]) mixed (bq _ _) nF Tryz.func72 loopsL_nil boxesL_none e_q118
def KH (fns:List (Nat×List Ab.Mode×(List Arg→Option Res))){dp:Bool}(h:eW Tryz.prog Gb ⟨an,fns,dp,Gl⟩):eW Tryz.prog Gb ⟨an,FQ.entry::fns,dp,Gl⟩:=h.cons FQ (by kernel_rfl) (zv (f:=zT)) aff
def MW:jW:=⟨73,[.v I6],[.v (.pair I6 (.pair I6 (.pair (.own I6) (.pair (.own I6) .unit))))],Df,zog Df⟩
def Wp:Cx:=⟨an,[FQ.entry],false,Gl⟩
def RR:cE:=nq ⟨[(3,.aV z0 []),(2,.aV z1 [])],[(z0,false,.var fe (.pair (.leaf I6) (.pair (.leaf I6) (.pair (.whole z2 I6) (.pair (.whole z3 I6) (.leaf .unit)))))),(z1,false,.var fe (.pair (.leaf I6) (.pair (.leaf I6) (.pair (.whole 500000004 I6) (.pair (.whole 500000005 I6) (.leaf .unit)))))),(z2,false,.rows I6),(z3,false,.rows I6),(500000004,false,.rows I6),(500000005,false,.rows I6)]⟩ [((.exit 0),⟨[(2,.aV z0 []),(3,.aV z1 [])],[(z0,false,.var fe (.pair (.leaf I6) (.pair (.leaf I6) (.pair (.whole z2 I6) (.pair (.whole z3 I6) (.leaf .unit)))))),(z1,false,.var fe (.pair (.leaf I6) (.pair (.leaf I6) (.pair (.whole 500000004 I6) (.pair (.whole 500000005 I6) (.leaf .unit)))))),(z2,false,.rows I6),(z3,false,.rows I6),(500000004,false,.rows I6),(500000005,false,.rows I6)]⟩)] aaA Fa
def Y1:LT:=[(2,RR)]
def ajO:∀x,round Wp Y1 (iV Tryz.f73 0) RR x=Fa x:=by intro x;kernel_rfl
def e_q176:EV Wp Y1 Tryz.f73 [.v I6] [.v (.pair I6 (.pair I6 (.pair (.own I6) (.pair (.own I6) .unit))))] Df:=by intro xs;kernel_rfl
def aga:CO MW:=con_ok (Ls:=[RR]) mixed (bq _ _) (KH _ nF) Tryz.func73 (loopsC (loopD_ok ajO) loopsL_nil) boxesL_none e_q176
def adL (fns:List (Nat×List Ab.Mode×(List Arg→Option Res))){dp:Bool}(h:eW Tryz.prog Gb ⟨an,fns,dp,Gl⟩):eW Tryz.prog Gb ⟨an,MW.entry::fns,dp,Gl⟩:=h.cons MW (by kernel_rfl) (zv (f:=Df)) aga
def NZ:jW:=⟨74,[.v ek],[.v .bool],q78,zog q78⟩
def C_q78:Cx:=⟨an,[Ar.entry],false,Gl⟩
def e_q78:EV C_q78 cp Tryz.f74 [.v ek] [.v .bool] q78:=by intro xs;kernel_rfl
def ok_q78:CO NZ:=con_ok (Ls:=[]) mixed (bq _ _) (A4 _ nF) Tryz.func74 loopsL_nil boxesL_none e_q78
def fk_q78 (fns:List (Nat×List Ab.Mode×(List Arg→Option Res))){dp:Bool}(h:eW Tryz.prog Gb ⟨an,fns,dp,Gl⟩):eW Tryz.prog Gb ⟨an,NZ.entry::fns,dp,Gl⟩:=h.cons NZ (by kernel_rfl) (zv (f:=q78)) ok_q78
def N2:jW:=⟨34,[.v dj],[.v .bool],q80,zog q80⟩
def P_:Cx:=⟨an,[NZ.entry,FQ.entry,MW.entry,Kj.entry,Nt.entry,Mx.entry,Ma.entry,Jc.entry,Ja.entry,Mb.entry,Ar.entry],false,Gl⟩
def Rn:cE:=nq ⟨[(7,.leaf I6),(1,.aV z0 [])],[(z0,false,.var dj (.leaf dj))]⟩ [(.ret,⟨[(2,.leaf .bool)],[]⟩),((.exit 0),⟨[(1,.aV z0 [])],[(z0,false,.var dj (.leaf dj))]⟩)] aa_ Cl
def Ro:cE:=nq ⟨[(10,.leaf I6),(1,.aV z0 [])],[(z0,false,.var dj (.leaf dj))]⟩ [(.ret,⟨[(2,.leaf .bool)],[]⟩),((.exit 2),⟨[],[]⟩)] aba Ft
def Td:LT:=[(10,Rn),(16,Ro)]
def ajl:∀x,round P_ Td (iV Tryz.f34 0) Rn x=Cl x:=by intro x;kernel_rfl
def ajm:∀x,round P_ Td (iV Tryz.f34 1) Ro x=Ft x:=by intro x;kernel_rfl
def e_q80:EV P_ Td Tryz.f34 [.v dj] [.v .bool] q80:=by intro xs;kernel_rfl
def ok_q80:CO N2:=con_ok (Ls:=[Rn,Ro]) mixed (bq _ _) (fk_q78 _ (KH _ (adL _ (Xp _ (fk_q44 _ (ado _ (ac3 _ (Sr _ (Sp _ (ac4 _ (A4 _ nF))))))))))) Tryz.func34 (loopsC (loopD_ok ajl) (loopsC (loopD_ok ajm) loopsL_nil)) boxesL_none e_q80
def fk_q80 (fns:List (Nat×List Ab.Mode×(List Arg→Option Res))){dp:Bool}(h:eW Tryz.prog Gb ⟨an,fns,dp,Gl⟩):eW Tryz.prog Gb ⟨an,N2.entry::fns,dp,Gl⟩:=h.cons N2 (by kernel_rfl) (zv (f:=q80)) ok_q80
def Md:jW:=⟨76,[.v bV],[.v .bool],HV,zog HV⟩
def VZ:Cx:=⟨an,[Ar.entry,Jc.entry,Ja.entry],false,Gl⟩
def Rz:cE:=nq ⟨[(7,.leaf I6),(1,.aV z0 []),(5,.aV z1 [])],[(z0,false,.var bV (.leaf bV)),(z1,false,.var bx (.pair (.leaf I6) (.pair (.whole z2 bn) (.leaf .unit)))),(z2,false,.rows bn)]⟩ [(.ret,⟨[(2,.leaf .bool)],[]⟩),((.exit 0),⟨[(1,.aV z0 []),(5,.aV z1 [])],[(z0,false,.var bV (.leaf bV)),(z1,false,.var bx (.pair (.leaf I6) (.pair (.whole z2 bn) (.leaf .unit)))),(z2,false,.rows bn)]⟩)] ZW EM
def YB:LT:=[(4,Rz)]
def ajx:∀x,round VZ YB (iV Tryz.f76 0) Rz x=EM x:=by intro x;kernel_rfl
def e_q114:EV VZ YB Tryz.f76 [.v bV] [.v .bool] HV:=by intro xs;kernel_rfl
def afc:CO Md:=con_ok (Ls:=[Rz]) mixed (bq _ _) (A4 _ (Sr _ (Sp _ nF))) Tryz.func76 (loopsC (loopD_ok ajx) loopsL_nil) boxesL_none e_q114
def ac6 (fns:List (Nat×List Ab.Mode×(List Arg→Option Res))){dp:Bool}(h:eW Tryz.prog Gb ⟨an,fns,dp,Gl⟩):eW Tryz.prog Gb ⟨an,Md.entry::fns,dp,Gl⟩:=h.cons Md (by kernel_rfl) (zv (f:=HV)) afc
def N5:jW:=⟨35,[.v bV],[.v .bool],q83,zog q83⟩
def Qa:Cx:=⟨an,[Md.entry,Hp.entry],false,Gl⟩
def RA:cE:=nq ⟨[(3,.leaf I6),(1,.aV z0 [])],[(z0,false,.var bV (.leaf bV))]⟩ [(.ret,⟨[(2,.leaf .bool)],[]⟩),((.exit 0),⟨[(1,.aV z0 [])],[(z0,false,.var bV (.leaf bV))]⟩)] abe Fv
def RB:cE:=nq ⟨[(4,.leaf I6),(1,.aV z0 [])],[(z0,false,.var bV (.leaf bV))]⟩ [(.ret,⟨[(2,.leaf .bool)],[]⟩),((.exit 2),⟨[(1,.aV z0 [])],[(z0,false,.var bV (.leaf bV))]⟩)] abf Fw
def Te:LT:=[(2,RA),(7,RB)]
def ajy:∀x,round Qa Te (iV Tryz.f35 0) RA x=Fv x:=by intro x;kernel_rfl
def ajz:∀x,round Qa Te (iV Tryz.f35 1) RB x=Fw x:=by intro x;kernel_rfl
def e_q83:EV Qa Te Tryz.f35 [.v bV] [.v .bool] q83:=by intro xs;kernel_rfl
def ok_q83:CO N5:=con_ok (Ls:=[RA,RB]) mixed (bq _ _) (ac6 _ (Oy _ nF)) Tryz.func35 (loopsC (loopD_ok ajy) (loopsC (loopD_ok ajz) loopsL_nil)) boxesL_none e_q83
def fk_q83 (fns:List (Nat×List Ab.Mode×(List Arg→Option Res))){dp:Bool}(h:eW Tryz.prog Gb ⟨an,fns,dp,Gl⟩):eW Tryz.prog Gb ⟨an,N5.entry::fns,dp,Gl⟩:=h.cons N5 (by kernel_rfl) (zv (f:=q83)) ok_q83
def Mc:jW:=⟨77,[.v b9],[.v .bool],Gf,zog Gf⟩
def C_q113:Cx:=⟨an,[],false,Gl⟩
def e_q113:EV C_q113 cp Tryz.f77 [.v b9] [.v .bool] Gf:=by intro xs;kernel_rfl
def afb:CO Mc:=con_ok (Ls:=[]) mixed (bq _ _) nF Tryz.func77 loopsL_nil boxesL_none e_q113
def ac5 (fns:List (Nat×List Ab.Mode×(List Arg→Option Res))){dp:Bool}(h:eW Tryz.prog Gb ⟨an,fns,dp,Gl⟩):eW Tryz.prog Gb ⟨an,Mc.entry::fns,dp,Gl⟩:=h.cons Mc (by kernel_rfl) (zv (f:=Gf)) afb
def Mv:jW:=⟨113,[.v fe],[.v .bool],BT,zog BT⟩
def V6:Cx:=⟨an,[FQ.entry,Ar.entry],false,Gl⟩
def Ri:cE:=nq ⟨[(3,.leaf I6),(1,.aV z0 [])],[(z0,false,.var fe (.leaf fe))]⟩ [(.ret,⟨[(2,.leaf .bool)],[]⟩),((.exit 0),⟨[(1,.aV z0 [])],[(z0,false,.var fe (.leaf fe))]⟩)] aab CK
def YJ:LT:=[(4,Ri)]
def ajg:∀x,round V6 YJ (iV Tryz.f113 0) Ri x=CK x:=by intro x;kernel_rfl
def e_q139:EV V6 YJ Tryz.f113 [.v fe] [.v .bool] BT:=by intro xs;kernel_rfl
def afA:CO Mv:=con_ok (Ls:=[Ri]) mixed (bq _ _) (KH _ (A4 _ nF)) Tryz.func113 (loopsC (loopD_ok ajg) loopsL_nil) boxesL_none e_q139
def adn (fns:List (Nat×List Ab.Mode×(List Arg→Option Res))){dp:Bool}(h:eW Tryz.prog Gb ⟨an,fns,dp,Gl⟩):eW Tryz.prog Gb ⟨an,Mv.entry::fns,dp,Gl⟩:=h.cons Mv (by kernel_rfl) (zv (f:=BT)) afA
def MQ:jW:=⟨148,[.v (.lst I6),.v I6],[.v .bool],D8,zog D8⟩
def Wk:Cx:=⟨an,[Ar.entry],false,Gl⟩
def Rm:cE:=nq ⟨[(5,.leaf I6),(0,.leaf (.lst I6)),(1,.leaf I6)],[]⟩ [(.ret,⟨[(4,.leaf .bool)],[]⟩),((.exit 0),⟨[(1,.leaf I6)],[]⟩)] aat D9
def YW:LT:=[(2,Rm)]
def ajk:∀x,round Wk YW (iV Tryz.f148 0) Rm x=D9 x:=by intro x;kernel_rfl
def e_q168:EV Wk YW Tryz.f148 [.v (.lst I6),.v I6] [.v .bool] D8:=by intro xs;kernel_rfl
def af3:CO MQ:=con_ok (Ls:=[Rm]) mixed (bq _ _) (A4 _ nF) Tryz.func148 (loopsC (loopD_ok ajk) loopsL_nil) boxesL_none e_q168
def adF (fns:List (Nat×List Ab.Mode×(List Arg→Option Res))){dp:Bool}(h:eW Tryz.prog Gb ⟨an,fns,dp,Gl⟩):eW Tryz.prog Gb ⟨an,MQ.entry::fns,dp,Gl⟩:=h.cons MQ (by kernel_rfl) (zv (f:=D8)) af3
def MV:jW:=⟨149,[.v (.lst I6),.v I6],[.v .bool],Ea,zog Ea⟩
def Wo:Cx:=⟨an,[],false,Gl⟩
def RO:cE:=nq ⟨[(5,.leaf I6),(1,.leaf I6),(0,.leaf (.lst I6))],[]⟩ [(.ret,⟨[(4,.leaf .bool)],[]⟩),((.exit 0),⟨[],[]⟩)] aaz GA
def Y0:LT:=[(2,RO)]
def ajL:∀x,round Wo Y0 (iV Tryz.f149 0) RO x=GA x:=by intro x;kernel_rfl
def e_q175:EV Wo Y0 Tryz.f149 [.v (.lst I6),.v I6] [.v .bool] Ea:=by intro xs;kernel_rfl
def af_:CO MV:=con_ok (Ls:=[RO]) mixed (bq _ _) nF Tryz.func149 (loopsC (loopD_ok ajL) loopsL_nil) boxesL_none e_q175
def adK (fns:List (Nat×List Ab.Mode×(List Arg→Option Res))){dp:Bool}(h:eW Tryz.prog Gb ⟨an,fns,dp,Gl⟩):eW Tryz.prog Gb ⟨an,MV.entry::fns,dp,Gl⟩:=h.cons MV (by kernel_rfl) (zv (f:=Ea)) af_
def N3:jW:=⟨114,[.v b7],[.v .bool],CM,zog CM⟩
def LV:Cx:=⟨an,[MV.entry,MQ.entry,Ar.entry],false,Gl⟩
def Rp:cE:=nq ⟨[(3,.leaf I6),(1,.aV z0 [])],[(z0,false,.var b7 (.leaf b7))]⟩ [(.ret,⟨[(2,.leaf .bool)],[]⟩),((.exit 0),⟨[(1,.aV z0 [])],[(z0,false,.var b7 (.leaf b7))]⟩)] abb Fu
def Rq:cE:=nq ⟨[(5,.leaf I6),(1,.aV z0 [])],[(z0,false,.var b7 (.leaf b7))]⟩ [(.ret,⟨[(2,.leaf .bool)],[]⟩),((.exit 2),⟨[],[]⟩)] abc GR
def Rr:cE:=nq ⟨[(6,.leaf I6),(5,.leaf I6),(1,.aV z0 [])],[(z0,false,.var b7 (.leaf b7))]⟩ [(.ret,⟨[(2,.leaf .bool)],[]⟩),((.exit 4),⟨[(1,.aV z0 []),(5,.leaf I6)],[(z0,false,.var b7 (.leaf b7))]⟩)] abd GS
def OY:LT:=[(4,Rp),(10,Rq),(13,Rr)]
def ajn:∀x,round LV OY (iV Tryz.f114 0) Rp x=Fu x:=by intro x;kernel_rfl
def ajo:∀x,round LV OY (iV Tryz.f114 1) Rq x=GR x:=by intro x;kernel_rfl
def ajp:∀x,round LV OY (iV Tryz.f114 2) Rr x=GS x:=by intro x;kernel_rfl
def e_q81:EV LV OY Tryz.f114 [.v b7] [.v .bool] CM:=by intro xs;kernel_rfl
def ok_q81:CO N3:=con_ok (Ls:=[Rp,Rq,Rr]) mixed (bq _ _) (adK _ (adF _ (A4 _ nF))) Tryz.func114 (loopsC (loopD_ok ajn) (loopsC (loopD_ok ajo) (loopsC (loopD_ok ajp) loopsL_nil))) boxesL_none e_q81
def fk_q81 (fns:List (Nat×List Ab.Mode×(List Arg→Option Res))){dp:Bool}(h:eW Tryz.prog Gb ⟨an,fns,dp,Gl⟩):eW Tryz.prog Gb ⟨an,N3.entry::fns,dp,Gl⟩:=h.cons N3 (by kernel_rfl) (zv (f:=CM)) ok_q81
def Kc:jW:=⟨78,[.v fk],[.v .bool],Dc,zog Dc⟩
def C_q167:Cx:=⟨an,[FQ.entry,N3.entry,Mv.entry],false,Gl⟩
def e_q167:EV C_q167 cp Tryz.f78 [.v fk] [.v .bool] Dc:=by intro xs;kernel_rfl
def af2:CO Kc:=con_ok (Ls:=[]) mixed (bq _ _) (KH _ (fk_q81 _ (adn _ nF))) Tryz.func78 loopsL_nil boxesL_none e_q167
def Xi (fns:List (Nat×List Ab.Mode×(List Arg→Option Res))){dp:Bool}(h:eW Tryz.prog Gb ⟨an,fns,dp,Gl⟩):eW Tryz.prog Gb ⟨an,Kc.entry::fns,dp,Gl⟩:=h.cons Kc (by kernel_rfl) (zv (f:=Dc)) af2
def L7:jW:=⟨80,[.v fk],[.v .bool],Cf,zog Cf⟩
def C_q108:Cx:=⟨an,[FQ.entry,Kc.entry],false,Gl⟩
def e_q108:EV C_q108 cp Tryz.f80 [.v fk] [.v .bool] Cf:=by intro xs;kernel_rfl
def ae7:CO L7:=con_ok (Ls:=[]) mixed (bq _ _) (KH _ (Xi _ nF)) Tryz.func80 loopsL_nil boxesL_none e_q108
def ac0 (fns:List (Nat×List Ab.Mode×(List Arg→Option Res))){dp:Bool}(h:eW Tryz.prog Gb ⟨an,fns,dp,Gl⟩):eW Tryz.prog Gb ⟨an,L7.entry::fns,dp,Gl⟩:=h.cons L7 (by kernel_rfl) (zv (f:=Cf)) ae7
def N0:jW:=⟨36,[.v b9],[.v .bool],Ck,zog Ck⟩
def C_q79:Cx:=⟨an,[L7.entry,J4.entry,Kc.entry,Mc.entry,Ar.entry],false,Gl⟩
def e_q79:EV C_q79 cp Tryz.f36 [.v b9] [.v .bool] Ck:=by intro xs;kernel_rfl
def ok_q79:CO N0:=con_ok (Ls:=[]) mixed (bq _ _) (ac0 _ (W_ _ (Xi _ (ac5 _ (A4 _ nF))))) Tryz.func36 loopsL_nil boxesL_none e_q79
def fk_q79 (fns:List (Nat×List Ab.Mode×(List Arg→Option Res))){dp:Bool}(h:eW Tryz.prog Gb ⟨an,fns,dp,Gl⟩):eW Tryz.prog Gb ⟨an,N0.entry::fns,dp,Gl⟩:=h.cons N0 (by kernel_rfl) (zv (f:=Ck)) ok_q79
def L_:jW:=⟨13,[.v bV],[.v .bool],Gd,zog Gd⟩
def P2:Cx:=⟨an,[Ar.entry,N0.entry,N5.entry,N2.entry],false,Gl⟩
def Ru:cE:=nq ⟨[(3,.leaf I6),(1,.aV z0 [])],[(z0,false,.var bV (.leaf bV))]⟩ [(.ret,⟨[(2,.leaf .bool)],[]⟩),((.exit 0),⟨[(1,.aV z0 [])],[(z0,false,.var bV (.leaf bV))]⟩)] ZT EJ
def Rv:cE:=nq ⟨[(4,.leaf I6),(1,.aV z0 [])],[(z0,false,.var bV (.leaf bV))]⟩ [(.ret,⟨[(2,.leaf .bool)],[]⟩),((.exit 2),⟨[],[]⟩)] ZU EK
def S6:LT:=[(4,Ru),(9,Rv)]
def ajs:∀x,round P2 S6 (iV Tryz.f13 0) Ru x=EJ x:=by intro x;kernel_rfl
def ajt:∀x,round P2 S6 (iV Tryz.f13 1) Rv x=EK x:=by intro x;kernel_rfl
def e_q110:EV P2 S6 Tryz.f13 [.v bV] [.v .bool] Gd:=by intro xs;kernel_rfl
def ae9:CO L_:=con_ok (Ls:=[Ru,Rv]) mixed (bq _ _) (A4 _ (fk_q79 _ (fk_q83 _ (fk_q80 _ nF)))) Tryz.func13 (loopsC (loopD_ok ajs) (loopsC (loopD_ok ajt) loopsL_nil)) boxesL_none e_q110
def ac2 (fns:List (Nat×List Ab.Mode×(List Arg→Option Res))){dp:Bool}(h:eW Tryz.prog Gb ⟨an,fns,dp,Gl⟩):eW Tryz.prog Gb ⟨an,L_.entry::fns,dp,Gl⟩:=h.cons L_ (by kernel_rfl) (zv (f:=Gd)) ae9
def Nu:jW:=⟨15,[.v I6],[.v .str],q45,zog q45⟩
def C_q45:Cx:=⟨an,[],false,Gl⟩
def e_q45:EV C_q45 cp Tryz.f15 [.v I6] [.v .str] q45:=by intro xs;kernel_rfl
def ok_q45:CO Nu:=con_ok (Ls:=[]) mixed (bq _ _) nF Tryz.func15 loopsL_nil boxesL_none e_q45
def fk_q45 (fns:List (Nat×List Ab.Mode×(List Arg→Option Res))){dp:Bool}(h:eW Tryz.prog Gb ⟨an,fns,dp,Gl⟩):eW Tryz.prog Gb ⟨an,Nu.entry::fns,dp,Gl⟩:=h.cons Nu (by kernel_rfl) (zv (f:=q45)) ok_q45
def Ke:jW:=⟨39,[.v b7,.v I6],[.v .str,.v .bool],E_,zog E_⟩
def Wn:Cx:=⟨an,[],false,Gl⟩
def RN:cE:=nq ⟨[(6,.leaf I6),(2,.aV z0 []),(1,.leaf I6)],[(z0,false,.var b7 (.leaf b7))]⟩ [(.ret,⟨[(4,.leaf .str),(5,.leaf .bool)],[]⟩),((.exit 0),⟨[],[]⟩)] aay Gz
def YZ:LT:=[(2,RN)]
def ajK:∀x,round Wn YZ (iV Tryz.f39 0) RN x=Gz x:=by intro x;kernel_rfl
def e_q174:EV Wn YZ Tryz.f39 [.v b7,.v I6] [.v .str,.v .bool] E_:=by intro xs;kernel_rfl
def af9:CO Ke:=con_ok (Ls:=[RN]) mixed (bq _ _) nF Tryz.func39 (loopsC (loopD_ok ajK) loopsL_nil) boxesL_none e_q174
def Xk (fns:List (Nat×List Ab.Mode×(List Arg→Option Res))){dp:Bool}(h:eW Tryz.prog Gb ⟨an,fns,dp,Gl⟩):eW Tryz.prog Gb ⟨an,Ke.entry::fns,dp,Gl⟩:=h.cons Ke (by kernel_rfl) (zv (f:=E_)) af9
def N8:jW:=⟨38,[.v b7],[.v I6],q86,zog q86⟩
def C_q86:Cx:=⟨an,[Ke.entry],false,Gl⟩
def RP:cE:=nq ⟨[(3,.leaf I6),(1,.aV z0 [])],[(z0,false,.var b7 (.leaf b7))]⟩ [(.ret,⟨[(2,.leaf I6)],[]⟩)] abi GV
def Zn:LT:=[(2,RP)]
def ajM:∀x,round C_q86 Zn (iV Tryz.f38 0) RP x=GV x:=by intro x;kernel_rfl
def e_q86:EV C_q86 Zn Tryz.f38 [.v b7] [.v I6] q86:=by intro xs;kernel_rfl
def ok_q86:CO N8:=con_ok (Ls:=[RP]) mixed (bq _ _) (Xk _ nF) Tryz.func38 (loopsC (loopD_ok ajM) loopsL_nil) boxesL_none e_q86
def fk_q86 (fns:List (Nat×List Ab.Mode×(List Arg→Option Res))){dp:Bool}(h:eW Tryz.prog Gb ⟨an,fns,dp,Gl⟩):eW Tryz.prog Gb ⟨an,N8.entry::fns,dp,Gl⟩:=h.cons N8 (by kernel_rfl) (zv (f:=q86)) ok_q86
def Mz:jW:=⟨16,[.v fk],[.v .str],EX,zog EX⟩
def V8:Cx:=⟨an,[Ke.entry,N8.entry],false,Gl⟩
def RT:cE:=nq ⟨[(4,.leaf I6),(3,.leaf .str),(1,.aV z0 [])],[(z0,false,.var fk (.leaf fk))]⟩ [((.exit 0),⟨[(1,.aV z0 []),(3,.leaf .str)],[(z0,false,.var fk (.leaf fk))]⟩)] aag Ie
def YL:LT:=[(3,RT)]
def ajQ:∀x,round V8 YL (iV Tryz.f16 0) RT x=Ie x:=by intro x;kernel_rfl
def e_q143:EV V8 YL Tryz.f16 [.v fk] [.v .str] EX:=by intro xs;kernel_rfl
def afE:CO Mz:=con_ok (Ls:=[RT]) mixed (bq _ _) (Xk _ (fk_q86 _ nF)) Tryz.func16 (loopsC (loopD_ok ajQ) loopsL_nil) boxesL_none e_q143
def adq (fns:List (Nat×List Ab.Mode×(List Arg→Option Res))){dp:Bool}(h:eW Tryz.prog Gb ⟨an,fns,dp,Gl⟩):eW Tryz.prog Gb ⟨an,Mz.entry::fns,dp,Gl⟩:=h.cons Mz (by kernel_rfl) (zv (f:=EX)) afE
def M8:jW:=⟨5,[.v bV],[.v .str],Dh,zog Dh⟩
def P7:Cx:=⟨an,[Mz.entry,Nu.entry,Jd.entry,L_.entry],false,Gl⟩
def Rs:cE:=nq ⟨[(4,.leaf I6),(3,.leaf .str),(1,.aV z0 [])],[(z0,false,.var bV (.leaf bV))]⟩ [((.exit 0),⟨[(3,.leaf .str),(1,.aV z0 [])],[(z0,false,.var bV (.leaf bV))]⟩)] UG Dj
def Rt:cE:=nq ⟨[(6,.leaf I6),(3,.leaf .str),(1,.aV z0 [])],[(z0,false,.var bV (.leaf bV))]⟩ [((.exit 2),⟨[(1,.aV z0 []),(3,.leaf .str)],[(z0,false,.var bV (.leaf bV))]⟩)] UH Dk
def Ta:LT:=[(8,Rs),(13,Rt)]
def ajq:∀x,round P7 Ta (iV Tryz.f5 0) Rs x=Dj x:=by intro x;kernel_rfl
def ajr:∀x,round P7 Ta (iV Tryz.f5 1) Rt x=Dk x:=by intro x;kernel_rfl
def e_q24:EV P7 Ta Tryz.f5 [.v bV] [.v .str] Dh:=by intro xs;kernel_rfl
def ok_q24:CO M8:=con_ok (Ls:=[Rs,Rt]) mixed (bq _ _) (adq _ (fk_q45 _ (Ss _ (ac2 _ nF)))) Tryz.func5 (loopsC (loopD_ok ajq) (loopsC (loopD_ok ajr) loopsL_nil)) boxesL_none e_q24
def fk_q24 (fns:List (Nat×List Ab.Mode×(List Arg→Option Res))){dp:Bool}(h:eW Tryz.prog Gb ⟨an,fns,dp,Gl⟩):eW Tryz.prog Gb ⟨an,M8.entry::fns,dp,Gl⟩:=h.cons M8 (by kernel_rfl) (zv (f:=Dh)) ok_q24
def AI:jW:=⟨53,[.v I6,.v I6,.v I6],[.v .bool],eo,zog eo⟩
def C_q124:Cx:=⟨an,[],false,Gl⟩
def e_q124:EV C_q124 cp Tryz.f53 [.v I6,.v I6,.v I6] [.v .bool] eo:=by intro xs;kernel_rfl
def afl:CO AI:=con_ok (Ls:=[]) mixed (bq _ _) nF Tryz.func53 loopsL_nil boxesL_none e_q124
def BH (fns:List (Nat×List Ab.Mode×(List Arg→Option Res))){dp:Bool}(h:eW Tryz.prog Gb ⟨an,fns,dp,Gl⟩):eW Tryz.prog Gb ⟨an,AI.entry::fns,dp,Gl⟩:=h.cons AI (by kernel_rfl) (zv (f:=eo)) afl
def Mj:jW:=⟨191,[.v I3,.v I6],[.v I3],y2,zog y2⟩
def C_q123:Cx:=⟨an,[],false,Gl⟩
def e_q123:EV C_q123 cp Tryz.f191 [.v I3,.v I6] [.v I3] y2:=by intro xs;kernel_rfl
def afk:CO Mj:=con_ok (Ls:=[]) mixed (bq _ _) nF Tryz.func191 loopsL_nil boxesL_none e_q123
def ada (fns:List (Nat×List Ab.Mode×(List Arg→Option Res))){dp:Bool}(h:eW Tryz.prog Gb ⟨an,fns,dp,Gl⟩):eW Tryz.prog Gb ⟨an,Mj.entry::fns,dp,Gl⟩:=h.cons Mj (by kernel_rfl) (zv (f:=y2)) afk
def NB:jW:=⟨160,[.v .str],[.v .str],q57,zog q57⟩
def FP:Cx:=⟨an,[Mj.entry],false,Gl⟩
def QE:cE:=nq ⟨[(4,.whole z0 I8),(3,.aV z1 []),(0,.leaf .str)],[(z0,false,.rows I8),(z1,false,.var (.arr 8 I3) (.leaf (.arr 8 I3)))]⟩ [((.exit 0),⟨[(4,.whole z0 I8),(3,.aV z1 []),(0,.leaf .str)],[(z0,false,.rows I8),(z1,false,.var (.arr 8 I3) (.leaf (.arr 8 I3)))]⟩)] aaZ GM
def QF:cE:=nq ⟨[(6,.leaf I6),(5,.leaf (.int .u64)),(4,.whole z0 I8),(3,.aV z1 [])],[(z0,false,.rows I8),(z1,false,.var (.arr 8 I3) (.leaf (.arr 8 I3)))]⟩ [((.exit 2),⟨[(4,.whole z0 I8),(3,.aV z1 [])],[(z0,false,.rows I8),(z1,false,.var (.arr 8 I3) (.leaf (.arr 8 I3)))]⟩)] aa0 Iy
def QG:cE:=nq ⟨[(4,.piece z0 I8),(3,.aV z1 [])],[(z0,false,.rows I8),(z1,false,.var (.arr 8 I3) (.leaf (.arr 8 I3)))]⟩ [((.exit 4),⟨[(3,.aV z0 [])],[(z0,false,.var (.arr 8 I3) (.leaf (.arr 8 I3)))]⟩)] aa1 GN
def QH:cE:=nq ⟨[(54,.leaf I6),(7,.aV z0 []),(4,.piece z1 I8),(3,.aV z2 [])],[(z0,false,.var (.arr 64 I3) (.leaf (.arr 64 I3))),(z1,false,.rows I8),(z2,false,.var (.arr 8 I3) (.leaf (.arr 8 I3)))]⟩ [((.exit 6),⟨[(7,.aV z0 []),(3,.aV z1 []),(4,.piece z2 I8)],[(z0,false,.var (.arr 64 I3) (.leaf (.arr 64 I3))),(z1,false,.var (.arr 8 I3) (.leaf (.arr 8 I3))),(z2,false,.rows I8)]⟩)] aa2 GO
def QI:cE:=nq ⟨[(133,.leaf I6),(11,.aV z0 []),(7,.aV z1 []),(3,.aV z2 []),(4,.piece z3 I8)],[(z0,false,.var (.arr 8 I3) (.leaf (.arr 8 I3))),(z1,false,.var (.arr 64 I3) (.leaf (.arr 64 I3))),(z2,false,.var (.arr 8 I3) (.leaf (.arr 8 I3))),(z3,false,.rows I8)]⟩ [((.exit 8),⟨[(3,.aV z0 []),(11,.aV z1 []),(4,.piece z2 I8)],[(z0,false,.var (.arr 8 I3) (.leaf (.arr 8 I3))),(z1,false,.var (.arr 8 I3) (.leaf (.arr 8 I3))),(z2,false,.rows I8)]⟩)] aa3 Iz
def QJ:cE:=nq ⟨[(213,.leaf I6),(3,.aV z0 []),(11,.aV z1 []),(4,.piece z2 I8)],[(z0,false,.var (.arr 8 I3) (.leaf (.arr 8 I3))),(z1,false,.var (.arr 8 I3) (.leaf (.arr 8 I3))),(z2,false,.rows I8)]⟩ [((.exit 10),⟨[(3,.aV z0 []),(4,.piece z1 I8)],[(z0,false,.var (.arr 8 I3) (.leaf (.arr 8 I3))),(z1,false,.rows I8)]⟩)] aa4 K9
def QK:cE:=nq ⟨[(227,.leaf I6),(18,.whole z0 I8),(226,.leaf (.arr 8 I3))],[(z0,false,.rows I8)]⟩ [((.exit 12),⟨[(18,.whole z0 I8)],[(z0,false,.rows I8)]⟩)] aa5 K_
def F6:LT:=[(3,QE),(7,QF),(10,QG),(14,QH),(23,QI),(31,QJ),(37,QK)]
def aiF:∀x,round FP F6 (iV Tryz.f160 0) QE x=GM x:=by intro x;kernel_rfl
def aiG:∀x,round FP F6 (iV Tryz.f160 1) QF x=Iy x:=by intro x;kernel_rfl
def aiH:∀x,round FP F6 (iV Tryz.f160 2) QG x=GN x:=by intro x;kernel_rfl
def aiI:∀x,round FP F6 (iV Tryz.f160 3) QH x=GO x:=by intro x;kernel_rfl
def aiJ:∀x,round FP F6 (iV Tryz.f160 4) QI x=Iz x:=by intro x;kernel_rfl
def aiK:∀x,round FP F6 (iV Tryz.f160 5) QJ x=K9 x:=by intro x;kernel_rfl
def aiL:∀x,round FP F6 (iV Tryz.f160 6) QK x=K_ x:=by intro x;kernel_rfl
def e_q57:EV FP F6 Tryz.f160 [.v .str] [.v .str] q57:=by intro xs;kernel_rfl
def ok_q57:CO NB:=con_ok (Ls:=[QE,QF,QG,QH,QI,QJ,QK]) mixed (bq _ _) (ada _ nF) Tryz.func160 (loopsC (loopD_ok aiF) (loopsC (loopD_ok aiG) (loopsC (loopD_ok aiH) (loopsC (loopD_ok aiI) (loopsC (loopD_ok aiJ) (loopsC (loopD_ok aiK) (loopsC (loopD_ok aiL) loopsL_nil))))))) boxesL_none e_q57
def fk_q57 (fns:List (Nat×List Ab.Mode×(List Arg→Option Res))){dp:Bool}(h:eW Tryz.prog Gb ⟨an,fns,dp,Gl⟩):eW Tryz.prog Gb ⟨an,NB.entry::fns,dp,Gl⟩:=h.cons NB (by kernel_rfl) (zv (f:=q57)) ok_q57
def MH:jW:=⟨159,[.v .str],[.v .str],Ih,zog Ih⟩
def We:Cx:=⟨an,[],false,Gl⟩
def QB:cE:=nq ⟨[(4,.leaf I6),(0,.leaf .str),(3,.whole z0 I8)],[(z0,false,.rows I8)]⟩ [((.exit 0),⟨[(3,.whole z0 I8)],[(z0,false,.rows I8)]⟩)] aam Pb
def YR:LT:=[(3,QB)]
def aiC:∀x,round We YR (iV Tryz.f159 0) QB x=Pb x:=by intro x;kernel_rfl
def e_q156:EV We YR Tryz.f159 [.v .str] [.v .str] Ih:=by intro xs;kernel_rfl
def afR:CO MH:=con_ok (Ls:=[QB]) mixed (bq _ _) nF Tryz.func159 (loopsC (loopD_ok aiC) loopsL_nil) boxesL_none e_q156
def adx (fns:List (Nat×List Ab.Mode×(List Arg→Option Res))){dp:Bool}(h:eW Tryz.prog Gb ⟨an,fns,dp,Gl⟩):eW Tryz.prog Gb ⟨an,MH.entry::fns,dp,Gl⟩:=h.cons MH (by kernel_rfl) (zv (f:=Ih)) afR
def Oa:jW:=⟨129,[.v .str],[.v .str],Cm,zog Cm⟩
def C_q89:Cx:=⟨an,[MH.entry,NB.entry],false,Gl⟩
def e_q89:EV C_q89 cp Tryz.f129 [.v .str] [.v .str] Cm:=by intro xs;kernel_rfl
def ok_q89:CO Oa:=con_ok (Ls:=[]) mixed (bq _ _) (adx _ (fk_q57 _ nF)) Tryz.func129 loopsL_nil boxesL_none e_q89
def fk_q89 (fns:List (Nat×List Ab.Mode×(List Arg→Option Res))){dp:Bool}(h:eW Tryz.prog Gb ⟨an,fns,dp,Gl⟩):eW Tryz.prog Gb ⟨an,Oa.entry::fns,dp,Gl⟩:=h.cons Oa (by kernel_rfl) (zv (f:=Cm)) ok_q89
def Of:jW:=⟨97,[.v I6,.v .str],[.v .str],q95,zog q95⟩
def C_q95:Cx:=⟨an,[Oa.entry,Hr.entry],false,Gl⟩
def e_q95:EV C_q95 cp Tryz.f97 [.v I6,.v .str] [.v .str] q95:=by intro xs;kernel_rfl
def ok_q95:CO Of:=con_ok (Ls:=[]) mixed (bq _ _) (fk_q89 _ (OA _ nF)) Tryz.func97 loopsL_nil boxesL_none e_q95
def fk_q95 (fns:List (Nat×List Ab.Mode×(List Arg→Option Res))){dp:Bool}(h:eW Tryz.prog Gb ⟨an,fns,dp,Gl⟩):eW Tryz.prog Gb ⟨an,Of.entry::fns,dp,Gl⟩:=h.cons Of (by kernel_rfl) (zv (f:=q95)) ok_q95
def NF:jW:=⟨130,[.v .str,.v .str],[.v .bool],Wh.q6,zog Wh.q6⟩
def C_q6:Cx:=⟨an,[],false,Gl⟩
def e_q6:EV C_q6 cp Tryz.f130 [.v .str,.v .str] [.v .bool] Wh.q6:=by intro xs;kernel_rfl
def ok_q6:CO NF:=con_ok (Ls:=[]) mixed (bq _ _) nF Tryz.func130 loopsL_nil boxesL_none e_q6
def fk_q6 (fns:List (Nat×List Ab.Mode×(List Arg→Option Res))){dp:Bool}(h:eW Tryz.prog Gb ⟨an,fns,dp,Gl⟩):eW Tryz.prog Gb ⟨an,NF.entry::fns,dp,Gl⟩:=h.cons NF (by kernel_rfl) (zv (f:=Wh.q6)) ok_q6
def Mn:jW:=⟨98,[.v .str,.v .str],[.v .bool],q13,zog q13⟩
def C_q13:Cx:=⟨an,[NF.entry],false,Gl⟩
def e_q13:EV C_q13 cp Tryz.f98 [.v .str,.v .str] [.v .bool] q13:=by intro xs;kernel_rfl
def ok_q13:CO Mn:=con_ok (Ls:=[]) mixed (bq _ _) (fk_q6 _ nF) Tryz.func98 loopsL_nil boxesL_none e_q13
def fk_q13 (fns:List (Nat×List Ab.Mode×(List Arg→Option Res))){dp:Bool}(h:eW Tryz.prog Gb ⟨an,fns,dp,Gl⟩):eW Tryz.prog Gb ⟨an,Mn.entry::fns,dp,Gl⟩:=h.cons Mn (by kernel_rfl) (zv (f:=q13)) ok_q13
def Ko:jW:=⟨51,[.v .str],[.v (.own .str),.v I6],Ee,zog Ee⟩
def C_q90:Cx:=⟨an,[Mn.entry,Of.entry,AI.entry,Hr.entry,JX.entry,Kq.entry],false,Gl⟩
def Qg:cE:=nq ⟨[(5,.leaf I6),(4,.whole z0 .str),(0,.leaf .str)],[(z0,false,.rows .str)]⟩ [(.ret,⟨[(2,.whole z0 .str),(3,.leaf I6)],[(z0,false,.rows .str)]⟩)] abk Ef
def Zp:LT:=[(3,Qg)]
def aif:∀x,round C_q90 Zp (iV Tryz.f51 0) Qg x=Ef x:=by intro x;kernel_rfl
def e_q90:EV C_q90 Zp Tryz.f51 [.v .str] [.v (.own .str),.v I6] Ee:=by intro xs;kernel_rfl
def ok_q90:CO Ko:=con_ok (Ls:=[Qg]) mixed (bq _ _) (fk_q13 _ (fk_q95 _ (BH _ (OA _ (W3 _ (Xv _ nF)))))) Tryz.func51 (loopsC (loopD_ok aif) loopsL_nil) boxesL_none e_q90
def Xt (fns:List (Nat×List Ab.Mode×(List Arg→Option Res))){dp:Bool}(h:eW Tryz.prog Gb ⟨an,fns,dp,Gl⟩):eW Tryz.prog Gb ⟨an,Ko.entry::fns,dp,Gl⟩:=h.cons Ko (by kernel_rfl) (zv (f:=Ee)) ok_q90
def Jb:jW:=⟨94,[.v I6],[.v .bool],A_,zog A_⟩
def C_q157:Cx:=⟨an,[AI.entry],false,Gl⟩
def e_q157:EV C_q157 cp Tryz.f94 [.v I6] [.v .bool] A_:=by intro xs;kernel_rfl
def afS:CO Jb:=con_ok (Ls:=[]) mixed (bq _ _) (BH _ nF) Tryz.func94 loopsL_nil boxesL_none e_q157
def Sq (fns:List (Nat×List Ab.Mode×(List Arg→Option Res))){dp:Bool}(h:eW Tryz.prog Gb ⟨an,fns,dp,Gl⟩):eW Tryz.prog Gb ⟨an,Jb.entry::fns,dp,Gl⟩:=h.cons Jb (by kernel_rfl) (zv (f:=A_)) afS
def I_:jW:=⟨92,[.v .str],[.v .bool],Br,zog Br⟩
def V1:Cx:=⟨an,[AI.entry],false,Gl⟩
def Qh:cE:=nq ⟨[(6,.leaf I6),(0,.leaf .str),(5,.leaf I6)],[]⟩ [(.ret,⟨[(2,.leaf .bool)],[]⟩),((.exit 0),⟨[(0,.leaf .str)],[]⟩)] Z4 BQ
def YE:LT:=[(2,Qh)]
def aih:∀x,round V1 YE (iV Tryz.f92 0) Qh x=BQ x:=by intro x;kernel_rfl
def e_q120:EV V1 YE Tryz.f92 [.v .str] [.v .bool] Br:=by intro xs;kernel_rfl
def afh:CO I_:=con_ok (Ls:=[Qh]) mixed (bq _ _) (BH _ nF) Tryz.func92 (loopsC (loopD_ok aih) loopsL_nil) boxesL_none e_q120
def So (fns:List (Nat×List Ab.Mode×(List Arg→Option Res))){dp:Bool}(h:eW Tryz.prog Gb ⟨an,fns,dp,Gl⟩):eW Tryz.prog Gb ⟨an,I_.entry::fns,dp,Gl⟩:=h.cons I_ (by kernel_rfl) (zv (f:=Br)) afh
def M9:jW:=⟨131,[.v I6,.v .str,.v .str],[.v .str],q26,zog q26⟩
def C_q26:Cx:=⟨an,[Hr.entry,I_.entry,Jb.entry],false,Gl⟩
def e_q26:EV C_q26 cp Tryz.f131 [.v I6,.v .str,.v .str] [.v .str] q26:=by intro xs;kernel_rfl
def ok_q26:CO M9:=con_ok (Ls:=[]) mixed (bq _ _) (OA _ (So _ (Sq _ nF))) Tryz.func131 loopsL_nil boxesL_none e_q26
def fk_q26 (fns:List (Nat×List Ab.Mode×(List Arg→Option Res))){dp:Bool}(h:eW Tryz.prog Gb ⟨an,fns,dp,Gl⟩):eW Tryz.prog Gb ⟨an,M9.entry::fns,dp,Gl⟩:=h.cons M9 (by kernel_rfl) (zv (f:=q26)) ok_q26
def Km:jW:=⟨161,[.v bx],[.v (.pair I6 (.pair (.own bn) .unit))],Fq,zog Fq⟩
def C_q55:Cx:=⟨an,[],false,Gl⟩
def e_q55:EV C_q55 cp Tryz.f161 [.v bx] [.v (.pair I6 (.pair (.own bn) .unit))] Fq:=by intro xs;kernel_rfl
def ok_q55:CO Km:=con_ok (Ls:=[]) mixed (bq _ _) nF Tryz.func161 loopsL_nil boxesL_none e_q55
def Xs (fns:List (Nat×List Ab.Mode×(List Arg→Option Res))){dp:Bool}(h:eW Tryz.prog Gb ⟨an,fns,dp,Gl⟩):eW Tryz.prog Gb ⟨an,Km.entry::fns,dp,Gl⟩:=h.cons Km (by kernel_rfl) (zv (f:=Fq)) ok_q55
def M4:jW:=⟨192,[.v bn,.v (.ref I6),.v (.ref .str)],[.v .bool],q19,zog q19⟩
def C_q19:Cx:=⟨an,[],false,Gl⟩
def e_q19:EV C_q19 cp Tryz.f192 [.v bn,.v (.ref I6),.v (.ref .str)] [.v .bool] q19:=by intro xs;kernel_rfl
def ok_q19:CO M4:=con_ok (Ls:=[]) mixed (bq _ _) nF Tryz.func192 loopsL_nil boxesL_none e_q19
def fk_q19 (fns:List (Nat×List Ab.Mode×(List Arg→Option Res))){dp:Bool}(h:eW Tryz.prog Gb ⟨an,fns,dp,Gl⟩):eW Tryz.prog Gb ⟨an,M4.entry::fns,dp,Gl⟩:=h.cons M4 (by kernel_rfl) (zv (f:=q19)) ok_q19
def Nc:jW:=⟨122,[.v (.lst bn),.f 192 (.pair (.ref I6) (.pair (.ref .str) .unit))],[.v I6],Wh.q3,zog Wh.q3⟩
def C_q3:Cx:=⟨an,[M4.entry],false,Gl⟩
def Q_:cE:=nq ⟨[(8,.leaf I6),(0,.leaf (.lst bn)),(1,.fn 192 (.bL (.leaf (.ref I6)) (.bL (.leaf (.ref .str)) (.cJ)))),(7,.leaf I6)],[]⟩ [(.ret,⟨[(4,.leaf I6)],[]⟩),((.exit 0),⟨[],[]⟩)] aaP Fk
def lt_q3:LT:=[(2,Q_)]
def ai8:∀x,round C_q3 lt_q3 (iV Tryz.f122 0) Q_ x=Fk x:=by intro x;kernel_rfl
def e_q3:EV C_q3 lt_q3 Tryz.f122 [.v (.lst bn),.f 192 (.pair (.ref I6) (.pair (.ref .str) .unit))] [.v I6] Wh.q3:=by intro xs;kernel_rfl
def ok_q3:CO Nc:=con_ok (Ls:=[Q_]) mixed (bq _ _) (fk_q19 _ nF) Tryz.func122 (loopsC (loopD_ok ai8) loopsL_nil) boxesL_none e_q3
def fk_q3 (fns:List (Nat×List Ab.Mode×(List Arg→Option Res))){dp:Bool}(h:eW Tryz.prog Gb ⟨an,fns,dp,Gl⟩):eW Tryz.prog Gb ⟨an,Nc.entry::fns,dp,Gl⟩:=h.cons Nc (by kernel_rfl) (zv (f:=Wh.q3)) ok_q3
def Kk:jW:=⟨162,[.v bx,.v I6,.v .str],[.v I6],Dl,zog Dl⟩
def C_q49:Cx:=⟨an,[Nc.entry],false,Gl⟩
def e_q49:EV C_q49 cp Tryz.f162 [.v bx,.v I6,.v .str] [.v I6] Dl:=by intro xs;kernel_rfl
def ok_q49:CO Kk:=con_ok (Ls:=[]) mixed (bq _ _) (fk_q3 _ nF) Tryz.func162 loopsL_nil boxesL_none e_q49
def Xq (fns:List (Nat×List Ab.Mode×(List Arg→Option Res))){dp:Bool}(h:eW Tryz.prog Gb ⟨an,fns,dp,Gl⟩):eW Tryz.prog Gb ⟨an,Kk.entry::fns,dp,Gl⟩:=h.cons Kk (by kernel_rfl) (zv (f:=Dl)) ok_q49
def LZ:jW:=⟨163,[.k (.own bn),.v I6,.v I6],[.v (.own bn)],q10,zog q10⟩
def C_q10:Cx:=⟨an,[],false,Gl⟩
def e_q10:EV C_q10 cp Tryz.f163 [.k (.own bn),.v I6,.v I6] [.v (.own bn)] q10:=by intro xs;kernel_rfl
def ok_q10:CO LZ:=con_ok (Ls:=[]) mixed (bq _ _) nF Tryz.func163 loopsL_nil boxesL_none e_q10
def fk_q10 (fns:List (Nat×List Ab.Mode×(List Arg→Option Res))){dp:Bool}(h:eW Tryz.prog Gb ⟨an,fns,dp,Gl⟩):eW Tryz.prog Gb ⟨an,LZ.entry::fns,dp,Gl⟩:=h.cons LZ (by kernel_rfl) (zv (f:=q10)) ok_q10
def Nx:jW:=⟨132,[.v bx,.v I6,.v .str],[.v (.pair I6 (.pair (.own bn) .unit)),.v I6],q50,zog q50⟩
def C_q50:Cx:=⟨an,[LZ.entry,Kk.entry,Km.entry],false,Gl⟩
def e_q50:EV C_q50 cp Tryz.f132 [.v bx,.v I6,.v .str] [.v (.pair I6 (.pair (.own bn) .unit)),.v I6] q50:=by intro xs;kernel_rfl
def ok_q50:CO Nx:=con_ok (Ls:=[]) mixed (bq _ _) (fk_q10 _ (Xq _ (Xs _ nF))) Tryz.func132 loopsL_nil boxesL_none e_q50
def fk_q50 (fns:List (Nat×List Ab.Mode×(List Arg→Option Res))){dp:Bool}(h:eW Tryz.prog Gb ⟨an,fns,dp,Gl⟩):eW Tryz.prog Gb ⟨an,Nx.entry::fns,dp,Gl⟩:=h.cons Nx (by kernel_rfl) (zv (f:=q50)) ok_q50
def Kd:jW:=⟨50,[.v I6,.v .str,.v .str],[.v .bool],E8,zog E8⟩
def C_q17:Cx:=⟨an,[AI.entry,I_.entry,Jb.entry],false,Gl⟩
def e_q17:EV C_q17 cp Tryz.f50 [.v I6,.v .str,.v .str] [.v .bool] E8:=by intro xs;kernel_rfl
def ok_q17:CO Kd:=con_ok (Ls:=[]) mixed (bq _ _) (BH _ (So _ (Sq _ nF))) Tryz.func50 loopsL_nil boxesL_none e_q17
def Xj (fns:List (Nat×List Ab.Mode×(List Arg→Option Res))){dp:Bool}(h:eW Tryz.prog Gb ⟨an,fns,dp,Gl⟩):eW Tryz.prog Gb ⟨an,Kd.entry::fns,dp,Gl⟩:=h.cons Kd (by kernel_rfl) (zv (f:=E8)) ok_q17
def Na:jW:=⟨164,[.v bx,.v I6],[.v I6],q28,zog q28⟩
def C_q28:Cx:=⟨an,[],false,Gl⟩
def Qe:cE:=nq ⟨[(11,.leaf I6),(5,.leaf I6),(1,.leaf I6),(9,.leaf (.lst bn)),(10,.leaf I6)],[]⟩ [((.exit 0),⟨[(5,.leaf I6)],[]⟩)] aaH Fg
def Y7:LT:=[(3,Qe)]
def aid:∀x,round C_q28 Y7 (iV Tryz.f164 0) Qe x=Fg x:=by intro x;kernel_rfl
def e_q28:EV C_q28 Y7 Tryz.f164 [.v bx,.v I6] [.v I6] q28:=by intro xs;kernel_rfl
def ok_q28:CO Na:=con_ok (Ls:=[Qe]) mixed (bq _ _) nF Tryz.func164 (loopsC (loopD_ok aid) loopsL_nil) boxesL_none e_q28
def fk_q28 (fns:List (Nat×List Ab.Mode×(List Arg→Option Res))){dp:Bool}(h:eW Tryz.prog Gb ⟨an,fns,dp,Gl⟩):eW Tryz.prog Gb ⟨an,Na.entry::fns,dp,Gl⟩:=h.cons Na (by kernel_rfl) (zv (f:=q28)) ok_q28
def Nv:jW:=⟨221,[.v I6],[.v .bool],q47,zog q47⟩
def C_q47:Cx:=⟨an,[],false,Gl⟩
def e_q47:EV C_q47 cp Tryz.f221 [.v I6] [.v .bool] q47:=by intro xs;kernel_rfl
def ok_q47:CO Nv:=con_ok (Ls:=[]) mixed (bq _ _) nF Tryz.func221 loopsL_nil boxesL_none e_q47
def fk_q47 (fns:List (Nat×List Ab.Mode×(List Arg→Option Res))){dp:Bool}(h:eW Tryz.prog Gb ⟨an,fns,dp,Gl⟩):eW Tryz.prog Gb ⟨an,Nv.entry::fns,dp,Gl⟩:=h.cons Nv (by kernel_rfl) (zv (f:=q47)) ok_q47
def MZ:jW:=⟨196,[.v I6,.v I6],[.v I6],q18,zog q18⟩
def C_q18:Cx:=⟨an,[Nv.entry],false,Gl⟩
def e_q18:EV C_q18 cp Tryz.f196 [.v I6,.v I6] [.v I6] q18:=by intro xs;kernel_rfl
def ok_q18:CO MZ:=con_ok (Ls:=[]) mixed (bq _ _) (fk_q47 _ nF) Tryz.func196 loopsL_nil boxesL_none e_q18
def fk_q18 (fns:List (Nat×List Ab.Mode×(List Arg→Option Res))){dp:Bool}(h:eW Tryz.prog Gb ⟨an,fns,dp,Gl⟩):eW Tryz.prog Gb ⟨an,MZ.entry::fns,dp,Gl⟩:=h.cons MZ (by kernel_rfl) (zv (f:=q18)) ok_q18
def Mw:jW:=⟨222,[.v .str],[.v .bool],q14,zog q14⟩
def C_q14:Cx:=⟨an,[],false,Gl⟩
def e_q14:EV C_q14 cp Tryz.f222 [.v .str] [.v .bool] q14:=by intro xs;kernel_rfl
def ok_q14:CO Mw:=con_ok (Ls:=[]) mixed (bq _ _) nF Tryz.func222 loopsL_nil boxesL_none e_q14
def fk_q14 (fns:List (Nat×List Ab.Mode×(List Arg→Option Res))){dp:Bool}(h:eW Tryz.prog Gb ⟨an,fns,dp,Gl⟩):eW Tryz.prog Gb ⟨an,Mw.entry::fns,dp,Gl⟩:=h.cons Mw (by kernel_rfl) (zv (f:=q14)) ok_q14
def NQ:jW:=⟨197,[.v .str,.v .str],[.v I6],Wh.q7,zog Wh.q7⟩
def C_q7:Cx:=⟨an,[Mw.entry],false,Gl⟩
def e_q7:EV C_q7 cp Tryz.f197 [.v .str,.v .str] [.v I6] Wh.q7:=by intro xs;kernel_rfl
def ok_q7:CO NQ:=con_ok (Ls:=[]) mixed (bq _ _) (fk_q14 _ nF) Tryz.func197 loopsL_nil boxesL_none e_q7
def fk_q7 (fns:List (Nat×List Ab.Mode×(List Arg→Option Res))){dp:Bool}(h:eW Tryz.prog Gb ⟨an,fns,dp,Gl⟩):eW Tryz.prog Gb ⟨an,NQ.entry::fns,dp,Gl⟩:=h.cons NQ (by kernel_rfl) (zv (f:=Wh.q7)) ok_q7
def ME:jW:=⟨195,[.v (.lst I6)],[.v I6],Gp,zog Gp⟩
def Wa:Cx:=⟨an,[],false,Gl⟩
def Qc:cE:=nq ⟨[(8,.leaf I6),(3,.leaf I6),(6,.leaf (.lst I6)),(7,.leaf I6)],[]⟩ [(.ret,⟨[(2,.leaf I6)],[]⟩),((.exit 0),⟨[(3,.leaf I6)],[]⟩)] aaj Gq
def YO:LT:=[(3,Qc)]
def aib:∀x,round Wa YO (iV Tryz.f195 0) Qc x=Gq x:=by intro x;kernel_rfl
def e_q152:EV Wa YO Tryz.f195 [.v (.lst I6)] [.v I6] Gp:=by intro xs;kernel_rfl
def afN:CO ME:=con_ok (Ls:=[Qc]) mixed (bq _ _) nF Tryz.func195 (loopsC (loopD_ok aib) loopsL_nil) boxesL_none e_q152
def adv (fns:List (Nat×List Ab.Mode×(List Arg→Option Res))){dp:Bool}(h:eW Tryz.prog Gb ⟨an,fns,dp,Gl⟩):eW Tryz.prog Gb ⟨an,ME.entry::fns,dp,Gl⟩:=h.cons ME (by kernel_rfl) (zv (f:=Gp)) afN
def Ki:jW:=⟨166,[.v bn,.v bn],[.v I6],q30,zog q30⟩
def C_q30:Cx:=⟨an,[ME.entry,NQ.entry,MZ.entry],false,Gl⟩
def e_q30:EV C_q30 cp Tryz.f166 [.v bn,.v bn] [.v I6] q30:=by intro xs;kernel_rfl
def ok_q30:CO Ki:=con_ok (Ls:=[]) mixed (bq _ _) (adv _ (fk_q7 _ (fk_q18 _ nF))) Tryz.func166 loopsL_nil boxesL_none e_q30
def Xo (fns:List (Nat×List Ab.Mode×(List Arg→Option Res))){dp:Bool}(h:eW Tryz.prog Gb ⟨an,fns,dp,Gl⟩):eW Tryz.prog Gb ⟨an,Ki.entry::fns,dp,Gl⟩:=h.cons Ki (by kernel_rfl) (zv (f:=q30)) ok_q30
def LX:jW:=⟨212,[.m bn,.v I6,.v I6,.f 166 .unit],[],Wh.q0,zog Wh.q0⟩
def C_q0:Cx:=⟨an,[Ki.entry],false,Gl⟩
def Ra:cE:=nq ⟨[(0,.whole 900 bn),(8,.leaf I6),(3,.fn 166 (.cJ)),(1,.leaf I6),(2,.leaf I6)],[(900,false,.rows bn)]⟩ [((.exit 0),⟨[],[(900,false,.rows bn)]⟩)] ZQ C_
def Rb:cE:=nq ⟨[(9,.leaf I6),(0,.whole 900 bn),(3,.fn 166 (.cJ)),(1,.leaf I6),(2,.leaf I6),(8,.leaf I6)],[(900,false,.rows bn)]⟩ [((.exit 2),⟨[(0,.whole 900 bn),(3,.fn 166 (.cJ)),(1,.leaf I6),(2,.leaf I6),(8,.leaf I6)],[(900,false,.rows bn)]⟩)] ZR DP
def S5:LT:=[(1,Ra),(4,Rb)]
def ai9:∀x,round C_q0 S5 (iV Tryz.f212 0) Ra x=C_ x:=by intro x;kernel_rfl
def ai_:∀x,round C_q0 S5 (iV Tryz.f212 1) Rb x=DP x:=by intro x;kernel_rfl
def e_q0:EV C_q0 S5 Tryz.f212 [.m bn,.v I6,.v I6,.f 166 .unit] [] Wh.q0:=by intro xs;kernel_rfl
def ok_q0:CO LX:=con_ok (Ls:=[Ra,Rb]) mixed (bq _ _) (Xo _ nF) Tryz.func212 (loopsC (loopD_ok ai9) (loopsC (loopD_ok ai_) loopsL_nil)) boxesL_none e_q0
def fk_q0 (fns:List (Nat×List Ab.Mode×(List Arg→Option Res))){dp:Bool}(h:eW Tryz.prog Gb ⟨an,fns,dp,Gl⟩):eW Tryz.prog Gb ⟨an,LX.entry::fns,dp,Gl⟩:=h.cons LX (by kernel_rfl) (zv (f:=Wh.q0)) ok_q0
def LY:jW:=⟨193,[.m bn,.v I6,.v I6,.v I6,.f 166 .unit],[],Wh.q1,zog Wh.q1⟩
def C_q1:Cx:=⟨an,[Ki.entry,LX.entry],false,Gl⟩
def Rc:cE:=nq ⟨[(4,.fn 166 (.cJ)),(2,.leaf I6),(1,.leaf I6),(0,.whole 900 bn),(11,.leaf .bool),(10,.leaf .bool),(3,.leaf I6)],[(900,false,.rows bn)]⟩ [(.ret,⟨[],[(900,false,.rows bn)]⟩)] aaF JG
def lt_q1:LT:=[(2,Rc)]
def aja:∀x,round C_q1 lt_q1 (iV Tryz.f193 0) Rc x=JG x:=by intro x;kernel_rfl
def e_q1:EV C_q1 lt_q1 Tryz.f193 [.m bn,.v I6,.v I6,.v I6,.f 166 .unit] [] Wh.q1:=by intro xs;kernel_rfl
def ok_q1:CO LY:=con_ok (Ls:=[Rc]) mixed (bq _ _) (Xo _ (fk_q0 _ nF)) Tryz.func193 (loopsC (loopD_ok aja) loopsL_nil) boxesL_none e_q1
def fk_q1 (fns:List (Nat×List Ab.Mode×(List Arg→Option Res))){dp:Bool}(h:eW Tryz.prog Gb ⟨an,fns,dp,Gl⟩):eW Tryz.prog Gb ⟨an,LY.entry::fns,dp,Gl⟩:=h.cons LY (by kernel_rfl) (zv (f:=Wh.q1)) ok_q1
def No:jW:=⟨165,[.m bn,.f 166 .unit],[],Wh.q4,zog Wh.q4⟩
def C_q4:Cx:=⟨an,[LY.entry,LW.entry],false,Gl⟩
def e_q4:EV C_q4 cp Tryz.f165 [.m bn,.f 166 .unit] [] Wh.q4:=by intro xs;kernel_rfl
def ok_q4:CO No:=con_ok (Ls:=[]) mixed (bq _ _) (fk_q1 _ (acT _ nF)) Tryz.func165 loopsL_nil boxesL_none e_q4
def fk_q4 (fns:List (Nat×List Ab.Mode×(List Arg→Option Res))){dp:Bool}(h:eW Tryz.prog Gb ⟨an,fns,dp,Gl⟩):eW Tryz.prog Gb ⟨an,No.entry::fns,dp,Gl⟩:=h.cons No (by kernel_rfl) (zv (f:=Wh.q4)) ok_q4
def N9:jW:=⟨133,[.v bx,.v I6,.v .str,.v .str],[.v (.pair I6 (.pair (.own bn) .unit)),.v I6],Fx,zog Fx⟩
def C_q87:Cx:=⟨an,[No.entry,Na.entry,Kk.entry,Kd.entry,Km.entry],false,Gl⟩
def e_q87:EV C_q87 cp Tryz.f133 [.v bx,.v I6,.v .str,.v .str] [.v (.pair I6 (.pair (.own bn) .unit)),.v I6] Fx:=by intro xs;kernel_rfl
def ok_q87:CO N9:=con_ok (Ls:=[]) mixed (bq _ _) (fk_q4 _ (fk_q28 _ (Xq _ (Xj _ (Xs _ nF))))) Tryz.func133 loopsL_nil boxesL_none e_q87
def fk_q87 (fns:List (Nat×List Ab.Mode×(List Arg→Option Res))){dp:Bool}(h:eW Tryz.prog Gb ⟨an,fns,dp,Gl⟩):eW Tryz.prog Gb ⟨an,N9.entry::fns,dp,Gl⟩:=h.cons N9 (by kernel_rfl) (zv (f:=Fx)) ok_q87
def M_:jW:=⟨99,[.v bx,.v .str],[.v (.pair I6 (.pair (.own bn) .unit)),.v .bool],q27,zog q27⟩
def C_q27:Cx:=⟨an,[N9.entry,Nx.entry,M9.entry,JX.entry,Kq.entry],false,Gl⟩
def e_q27:EV C_q27 cp Tryz.f99 [.v bx,.v .str] [.v (.pair I6 (.pair (.own bn) .unit)),.v .bool] q27:=by intro xs;kernel_rfl
def ok_q27:CO M_:=con_ok (Ls:=[]) mixed (bq _ _) (fk_q87 _ (fk_q50 _ (fk_q26 _ (W3 _ (Xv _ nF))))) Tryz.func99 loopsL_nil boxesL_none e_q27
def fk_q27 (fns:List (Nat×List Ab.Mode×(List Arg→Option Res))){dp:Bool}(h:eW Tryz.prog Gb ⟨an,fns,dp,Gl⟩):eW Tryz.prog Gb ⟨an,M_.entry::fns,dp,Gl⟩:=h.cons M_ (by kernel_rfl) (zv (f:=q27)) ok_q27
def J_:jW:=⟨52,[.v (.lst .str)],[.v (.pair I6 (.pair (.own bn) .unit)),.v .bool],E3,zog E3⟩
def Wb:Cx:=⟨an,[M_.entry],false,Gl⟩
def Qd:cE:=nq ⟨[(2,.aV z0 []),(13,.leaf I6),(4,.aV z1 []),(11,.leaf (.lst .str)),(12,.leaf I6)],[(z0,false,.var bx (.pair (.leaf I6) (.pair (.whole z2 bn) (.leaf .unit)))),(z1,false,.var bx (.pair (.leaf I6) (.pair (.whole z3 bn) (.leaf .unit)))),(z2,false,.rows bn),(z3,false,.rows bn)]⟩ [(.ret,⟨[(2,.aV z0 []),(3,.leaf .bool)],[(z0,false,.var bx (.pair (.leaf I6) (.pair (.whole z1 bn) (.leaf .unit)))),(z1,false,.rows bn)]⟩),((.exit 0),⟨[(2,.aV z0 []),(4,.aV z1 [])],[(z0,false,.var bx (.pair (.leaf I6) (.pair (.whole z2 bn) (.leaf .unit)))),(z1,false,.var bx (.pair (.leaf I6) (.pair (.whole z3 bn) (.leaf .unit)))),(z2,false,.rows bn),(z3,false,.rows bn)]⟩)] aak E4
def YP:LT:=[(3,Qd)]
def aic:∀x,round Wb YP (iV Tryz.f52 0) Qd x=E4 x:=by intro x;kernel_rfl
def e_q153:EV Wb YP Tryz.f52 [.v (.lst .str)] [.v (.pair I6 (.pair (.own bn) .unit)),.v .bool] E3:=by intro xs;kernel_rfl
def afO:CO J_:=con_ok (Ls:=[Qd]) mixed (bq _ _) (fk_q27 _ nF) Tryz.func52 (loopsC (loopD_ok aic) loopsL_nil) boxesL_none e_q153
def Xf (fns:List (Nat×List Ab.Mode×(List Arg→Option Res))){dp:Bool}(h:eW Tryz.prog Gb ⟨an,fns,dp,Gl⟩):eW Tryz.prog Gb ⟨an,J_.entry::fns,dp,Gl⟩:=h.cons J_ (by kernel_rfl) (zv (f:=E3)) afO
def Mg:jW:=⟨118,[.v (.lst bn),.v (.lst bn)],[.v .bool],EP,zog EP⟩
def C_q12:Cx:=⟨an,[],false,Gl⟩
def Q8:cE:=nq ⟨[(13,.leaf I6),(1,.leaf (.lst bn)),(0,.leaf (.lst bn)),(12,.leaf I6)],[]⟩ [(.ret,⟨[(4,.leaf .bool)],[]⟩),((.exit 0),⟨[],[]⟩)] Z9 ET
def YD:LT:=[(4,Q8)]
def ai6:∀x,round C_q12 YD (iV Tryz.f118 0) Q8 x=ET x:=by intro x;kernel_rfl
def e_q12:EV C_q12 YD Tryz.f118 [.v (.lst bn),.v (.lst bn)] [.v .bool] EP:=by intro xs;kernel_rfl
def ok_q12:CO Mg:=con_ok (Ls:=[Q8]) mixed (bq _ _) nF Tryz.func118 (loopsC (loopD_ok ai6) loopsL_nil) boxesL_none e_q12
def fk_q12 (fns:List (Nat×List Ab.Mode×(List Arg→Option Res))){dp:Bool}(h:eW Tryz.prog Gb ⟨an,fns,dp,Gl⟩):eW Tryz.prog Gb ⟨an,Mg.entry::fns,dp,Gl⟩:=h.cons Mg (by kernel_rfl) (zv (f:=EP)) ok_q12
def Og:jW:=⟨85,[.v bx,.v bx],[.v .bool],q96,zog q96⟩
def C_q96:Cx:=⟨an,[Mg.entry],false,Gl⟩
def e_q96:EV C_q96 cp Tryz.f85 [.v bx,.v bx] [.v .bool] q96:=by intro xs;kernel_rfl
def ok_q96:CO Og:=con_ok (Ls:=[]) mixed (bq _ _) (fk_q12 _ nF) Tryz.func85 loopsL_nil boxesL_none e_q96
def fk_q96 (fns:List (Nat×List Ab.Mode×(List Arg→Option Res))){dp:Bool}(h:eW Tryz.prog Gb ⟨an,fns,dp,Gl⟩):eW Tryz.prog Gb ⟨an,Og.entry::fns,dp,Gl⟩:=h.cons Og (by kernel_rfl) (zv (f:=q96)) ok_q96
def Nb:jW:=⟨152,[.v eI,.v I6,.v I6],[.v I6],q29,zog q29⟩
def C_q29:Cx:=⟨an,[],false,Gl⟩
def Qm:cE:=nq ⟨[(12,.leaf I6),(2,.leaf I6),(1,.leaf I6),(10,.leaf (.lst di)),(11,.leaf I6)],[]⟩ [(.ret,⟨[(6,.leaf I6)],[]⟩),((.exit 0),⟨[],[]⟩)] aaI Fh
def Y8:LT:=[(2,Qm)]
def aim:∀x,round C_q29 Y8 (iV Tryz.f152 0) Qm x=Fh x:=by intro x;kernel_rfl
def e_q29:EV C_q29 Y8 Tryz.f152 [.v eI,.v I6,.v I6] [.v I6] q29:=by intro xs;kernel_rfl
def ok_q29:CO Nb:=con_ok (Ls:=[Qm]) mixed (bq _ _) nF Tryz.func152 (loopsC (loopD_ok aim) loopsL_nil) boxesL_none e_q29
def fk_q29 (fns:List (Nat×List Ab.Mode×(List Arg→Option Res))){dp:Bool}(h:eW Tryz.prog Gb ⟨an,fns,dp,Gl⟩):eW Tryz.prog Gb ⟨an,Nb.entry::fns,dp,Gl⟩:=h.cons Nb (by kernel_rfl) (zv (f:=q29)) ok_q29
def Oc:jW:=⟨153,[.v eI,.v I6],[.v I6],q92,zog q92⟩
def C_q92:Cx:=⟨an,[],false,Gl⟩
def Qn:cE:=nq ⟨[(11,.leaf I6),(5,.leaf I6),(1,.leaf I6),(9,.leaf (.lst di)),(10,.leaf I6)],[]⟩ [((.exit 0),⟨[(5,.leaf I6)],[]⟩)] abm Fz
def Zr:LT:=[(3,Qn)]
def ain:∀x,round C_q92 Zr (iV Tryz.f153 0) Qn x=Fz x:=by intro x;kernel_rfl
def e_q92:EV C_q92 Zr Tryz.f153 [.v eI,.v I6] [.v I6] q92:=by intro xs;kernel_rfl
def ok_q92:CO Oc:=con_ok (Ls:=[Qn]) mixed (bq _ _) nF Tryz.func153 (loopsC (loopD_ok ain) loopsL_nil) boxesL_none e_q92
def fk_q92 (fns:List (Nat×List Ab.Mode×(List Arg→Option Res))){dp:Bool}(h:eW Tryz.prog Gb ⟨an,fns,dp,Gl⟩):eW Tryz.prog Gb ⟨an,Oc.entry::fns,dp,Gl⟩:=h.cons Oc (by kernel_rfl) (zv (f:=q92)) ok_q92
def Mi:jW:=⟨119,[.v eI],[.v .bool],Gh,zog Gh⟩
def P4:Cx:=⟨an,[Oc.entry,Nb.entry,Jb.entry,AI.entry],false,Gl⟩
def Qk:cE:=nq ⟨[(19,.leaf I6),(1,.aV z0 []),(17,.leaf (.lst di)),(18,.leaf I6)],[(z0,false,.var eI (.leaf eI))]⟩ [(.ret,⟨[(2,.leaf .bool)],[]⟩),((.exit 0),⟨[(1,.aV z0 [])],[(z0,false,.var eI (.leaf eI))]⟩)] Z6 DT
def Ql:cE:=nq ⟨[(63,.leaf I6),(1,.aV z0 [])],[(z0,false,.var eI (.leaf eI))]⟩ [(.ret,⟨[(2,.leaf .bool)],[]⟩),((.exit 2),⟨[],[]⟩)] Z7 DU
def S8:LT:=[(4,Qk),(13,Ql)]
def aik:∀x,round P4 S8 (iV Tryz.f119 0) Qk x=DT x:=by intro x;kernel_rfl
def ail:∀x,round P4 S8 (iV Tryz.f119 1) Ql x=DU x:=by intro x;kernel_rfl
def e_q122:EV P4 S8 Tryz.f119 [.v eI] [.v .bool] Gh:=by intro xs;kernel_rfl
def afj:CO Mi:=con_ok (Ls:=[Qk,Ql]) mixed (bq _ _) (fk_q92 _ (fk_q29 _ (Sq _ (BH _ nF)))) Tryz.func119 (loopsC (loopD_ok aik) (loopsC (loopD_ok ail) loopsL_nil)) boxesL_none e_q122
def ac_ (fns:List (Nat×List Ab.Mode×(List Arg→Option Res))){dp:Bool}(h:eW Tryz.prog Gb ⟨an,fns,dp,Gl⟩):eW Tryz.prog Gb ⟨an,Mi.entry::fns,dp,Gl⟩:=h.cons Mi (by kernel_rfl) (zv (f:=Gh)) afj
def N1:jW:=⟨123,[.v bn,.v (.ref I6)],[.v .bool],IC,zog IC⟩
def C_q8:Cx:=⟨an,[],false,Gl⟩
def e_q8:EV C_q8 cp Tryz.f123 [.v bn,.v (.ref I6)] [.v .bool] IC:=by intro xs;kernel_rfl
def ok_q8:CO N1:=con_ok (Ls:=[]) mixed (bq _ _) nF Tryz.func123 loopsL_nil boxesL_none e_q8
def fk_q8 (fns:List (Nat×List Ab.Mode×(List Arg→Option Res))){dp:Bool}(h:eW Tryz.prog Gb ⟨an,fns,dp,Gl⟩):eW Tryz.prog Gb ⟨an,N1.entry::fns,dp,Gl⟩:=h.cons N1 (by kernel_rfl) (zv (f:=IC)) ok_q8
def M5:jW:=⟨122,[.v (.lst bn),.f 123 (.pair (.ref I6) .unit)],[.v I6],Wh.q2,zog Wh.q2⟩
def C_q2:Cx:=⟨an,[N1.entry],false,Gl⟩
def Q9:cE:=nq ⟨[(8,.leaf I6),(0,.leaf (.lst bn)),(1,.fn 123 (.bL (.leaf (.ref I6)) (.cJ))),(7,.leaf I6)],[]⟩ [(.ret,⟨[(4,.leaf I6)],[]⟩),((.exit 0),⟨[],[]⟩)] aaJ Fi
def lt_q2:LT:=[(2,Q9)]
def ai7:∀x,round C_q2 lt_q2 (iV Tryz.f122 0) Q9 x=Fi x:=by intro x;kernel_rfl
def e_q2:EV C_q2 lt_q2 Tryz.f122 [.v (.lst bn),.f 123 (.pair (.ref I6) .unit)] [.v I6] Wh.q2:=by intro xs;kernel_rfl
def ok_q2:CO M5:=con_ok (Ls:=[Q9]) mixed (bq _ _) (fk_q8 _ nF) Tryz.func122 (loopsC (loopD_ok ai7) loopsL_nil) boxesL_none e_q2
def fk_q2 (fns:List (Nat×List Ab.Mode×(List Arg→Option Res))){dp:Bool}(h:eW Tryz.prog Gb ⟨an,fns,dp,Gl⟩):eW Tryz.prog Gb ⟨an,M5.entry::fns,dp,Gl⟩:=h.cons M5 (by kernel_rfl) (zv (f:=Wh.q2)) ok_q2
def J8:jW:=⟨88,[.v bx,.v I6],[.v I6],EZ,zog EZ⟩
def C_q15:Cx:=⟨an,[M5.entry],false,Gl⟩
def e_q15:EV C_q15 cp Tryz.f88 [.v bx,.v I6] [.v I6] EZ:=by intro xs;kernel_rfl
def ok_q15:CO J8:=con_ok (Ls:=[]) mixed (bq _ _) (fk_q2 _ nF) Tryz.func88 loopsL_nil boxesL_none e_q15
def Xd (fns:List (Nat×List Ab.Mode×(List Arg→Option Res))){dp:Bool}(h:eW Tryz.prog Gb ⟨an,fns,dp,Gl⟩):eW Tryz.prog Gb ⟨an,J8.entry::fns,dp,Gl⟩:=h.cons J8 (by kernel_rfl) (zv (f:=EZ)) ok_q15
def Hq:jW:=⟨121,[.v fe],[.v I6],Ax,zog Ax⟩
def C_q21:Cx:=⟨an,[],false,Gl⟩
def e_q21:EV C_q21 cp Tryz.f121 [.v fe] [.v I6] Ax:=by intro xs;kernel_rfl
def ok_q21:CO Hq:=con_ok (Ls:=[]) mixed (bq _ _) nF Tryz.func121 loopsL_nil boxesL_none e_q21
def Oz (fns:List (Nat×List Ab.Mode×(List Arg→Option Res))){dp:Bool}(h:eW Tryz.prog Gb ⟨an,fns,dp,Gl⟩):eW Tryz.prog Gb ⟨an,Hq.entry::fns,dp,Gl⟩:=h.cons Hq (by kernel_rfl) (zv (f:=Ax)) ok_q21
def Ob:jW:=⟨120,[.v I6],[.v (.pair I6 (.pair I6 (.pair (.own I6) (.pair (.own I6) .unit))))],Fy,zog Fy⟩
def C_q91:Cx:=⟨an,[Hq.entry,AI.entry],false,Gl⟩
def Qi:cE:=nq ⟨[(3,.aV z0 []),(2,.aV z1 [])],[(z0,false,.var fe (.pair (.leaf I6) (.pair (.leaf I6) (.pair (.whole z2 I6) (.pair (.whole z3 I6) (.leaf .unit)))))),(z1,false,.var fe (.pair (.leaf I6) (.pair (.leaf I6) (.pair (.whole 500000004 I6) (.pair (.whole 500000005 I6) (.leaf .unit)))))),(z2,false,.rows I6),(z3,false,.rows I6),(500000004,false,.rows I6),(500000005,false,.rows I6)]⟩ [((.exit 0),⟨[(2,.aV z0 []),(3,.aV z1 [])],[(z0,false,.var fe (.pair (.leaf I6) (.pair (.leaf I6) (.pair (.whole z2 I6) (.pair (.whole z3 I6) (.leaf .unit)))))),(z1,false,.var fe (.pair (.leaf I6) (.pair (.leaf I6) (.pair (.whole 500000004 I6) (.pair (.whole 500000005 I6) (.leaf .unit)))))),(z2,false,.rows I6),(z3,false,.rows I6),(500000004,false,.rows I6),(500000005,false,.rows I6)]⟩)] abl La
def Zq:LT:=[(4,Qi)]
def aii:∀x,round C_q91 Zq (iV Tryz.f120 0) Qi x=La x:=by intro x;kernel_rfl
def e_q91:EV C_q91 Zq Tryz.f120 [.v I6] [.v (.pair I6 (.pair I6 (.pair (.own I6) (.pair (.own I6) .unit))))] Fy:=by intro xs;kernel_rfl
def ok_q91:CO Ob:=con_ok (Ls:=[Qi]) mixed (bq _ _) (Oz _ (BH _ nF)) Tryz.func120 (loopsC (loopD_ok aii) loopsL_nil) boxesL_none e_q91
def fk_q91 (fns:List (Nat×List Ab.Mode×(List Arg→Option Res))){dp:Bool}(h:eW Tryz.prog Gb ⟨an,fns,dp,Gl⟩):eW Tryz.prog Gb ⟨an,Ob.entry::fns,dp,Gl⟩:=h.cons Ob (by kernel_rfl) (zv (f:=Fy)) ok_q91
def NA:jW:=⟨86,[.v eI,.v bx],[.v .bool],Fs,zog Fs⟩
def C_q56:Cx:=⟨an,[Hq.entry,Ob.entry,J8.entry,Mi.entry],false,Gl⟩
def QD:cE:=nq ⟨[(14,.leaf I6),(3,.aV z0 []),(12,.leaf (.lst di)),(13,.leaf I6)],[(z0,false,.var bx (.leaf bx))]⟩ [(.ret,⟨[(4,.leaf .bool)],[]⟩),((.exit 0),⟨[],[]⟩)] aaY Cj
def Zi:LT:=[(4,QD)]
def aiE:∀x,round C_q56 Zi (iV Tryz.f86 0) QD x=Cj x:=by intro x;kernel_rfl
def e_q56:EV C_q56 Zi Tryz.f86 [.v eI,.v bx] [.v .bool] Fs:=by intro xs;kernel_rfl
def ok_q56:CO NA:=con_ok (Ls:=[QD]) mixed (bq _ _) (Oz _ (fk_q91 _ (Xd _ (ac_ _ nF)))) Tryz.func86 (loopsC (loopD_ok aiE) loopsL_nil) boxesL_none e_q56
def fk_q56 (fns:List (Nat×List Ab.Mode×(List Arg→Option Res))){dp:Bool}(h:eW Tryz.prog Gb ⟨an,fns,dp,Gl⟩):eW Tryz.prog Gb ⟨an,NA.entry::fns,dp,Gl⟩:=h.cons NA (by kernel_rfl) (zv (f:=Fs)) ok_q56
def Nw:jW:=⟨87,[.v ek],[.v .bool],q48,zog q48⟩
def C_q48:Cx:=⟨an,[AI.entry],false,Gl⟩
def e_q48:EV C_q48 cp Tryz.f87 [.v ek] [.v .bool] q48:=by intro xs;kernel_rfl
def ok_q48:CO Nw:=con_ok (Ls:=[]) mixed (bq _ _) (BH _ nF) Tryz.func87 loopsL_nil boxesL_none e_q48
def fk_q48 (fns:List (Nat×List Ab.Mode×(List Arg→Option Res))){dp:Bool}(h:eW Tryz.prog Gb ⟨an,fns,dp,Gl⟩):eW Tryz.prog Gb ⟨an,Nw.entry::fns,dp,Gl⟩:=h.cons Nw (by kernel_rfl) (zv (f:=q48)) ok_q48
def Je:jW:=⟨49,[.v I6],[.v .bool],Bx,zog Bx⟩
def C_q54:Cx:=⟨an,[AI.entry],false,Gl⟩
def e_q54:EV C_q54 cp Tryz.f49 [.v I6] [.v .bool] Bx:=by intro xs;kernel_rfl
def ok_q54:CO Je:=con_ok (Ls:=[]) mixed (bq _ _) (BH _ nF) Tryz.func49 loopsL_nil boxesL_none e_q54
def Su (fns:List (Nat×List Ab.Mode×(List Arg→Option Res))){dp:Bool}(h:eW Tryz.prog Gb ⟨an,fns,dp,Gl⟩):eW Tryz.prog Gb ⟨an,Je.entry::fns,dp,Gl⟩:=h.cons Je (by kernel_rfl) (zv (f:=Bx)) ok_q54
def Oe:jW:=⟨89,[.v I6],[.v I6],q94,zog q94⟩
def C_q94:Cx:=⟨an,[],false,Gl⟩
def e_q94:EV C_q94 cp Tryz.f89 [.v I6] [.v I6] q94:=by intro xs;kernel_rfl
def ok_q94:CO Oe:=con_ok (Ls:=[]) mixed (bq _ _) nF Tryz.func89 loopsL_nil boxesL_none e_q94
def fk_q94 (fns:List (Nat×List Ab.Mode×(List Arg→Option Res))){dp:Bool}(h:eW Tryz.prog Gb ⟨an,fns,dp,Gl⟩):eW Tryz.prog Gb ⟨an,Oe.entry::fns,dp,Gl⟩:=h.cons Oe (by kernel_rfl) (zv (f:=q94)) ok_q94
def Ny:jW:=⟨47,[.v dj],[.v .bool],q52,zog q52⟩
def P8:Cx:=⟨an,[Oe.entry,J8.entry,Je.entry,Nw.entry,NA.entry,Og.entry,J_.entry,Ko.entry,AI.entry],false,Gl⟩
def Qp:cE:=nq ⟨[(105,.leaf I6),(1,.aV z0 []),(103,.leaf (.lst ek)),(104,.leaf I6)],[(z0,false,.var dj (.leaf dj))]⟩ [(.ret,⟨[(2,.leaf .bool)],[]⟩),((.exit 0),⟨[(1,.aV z0 [])],[(z0,false,.var dj (.leaf dj))]⟩)] aaU Fp
def Qq:cE:=nq ⟨[(133,.leaf I6),(1,.aV z0 []),(131,.leaf (.lst e_)),(132,.leaf I6)],[(z0,false,.var dj (.leaf dj))]⟩ [(.ret,⟨[(2,.leaf .bool)],[]⟩),((.exit 2),⟨[],[]⟩)] aaV Ed
def Tb:LT:=[(13,Qp),(19,Qq)]
def aip:∀x,round P8 Tb (iV Tryz.f47 0) Qp x=Fp x:=by intro x;kernel_rfl
def aiq:∀x,round P8 Tb (iV Tryz.f47 1) Qq x=Ed x:=by intro x;kernel_rfl
def e_q52:EV P8 Tb Tryz.f47 [.v dj] [.v .bool] q52:=by intro xs;kernel_rfl
def ok_q52:CO Ny:=con_ok (Ls:=[Qp,Qq]) mixed (bq _ _) (fk_q94 _ (Xd _ (Su _ (fk_q48 _ (fk_q56 _ (fk_q96 _ (Xf _ (Xt _ (BH _ nF))))))))) Tryz.func47 (loopsC (loopD_ok aip) (loopsC (loopD_ok aiq) loopsL_nil)) boxesL_none e_q52
def fk_q52 (fns:List (Nat×List Ab.Mode×(List Arg→Option Res))){dp:Bool}(h:eW Tryz.prog Gb ⟨an,fns,dp,Gl⟩):eW Tryz.prog Gb ⟨an,Ny.entry::fns,dp,Gl⟩:=h.cons Ny (by kernel_rfl) (zv (f:=q52)) ok_q52
def MI:jW:=⟨90,[.v fk],[.v .bool],Gr,zog Gr⟩
def C_q158:Cx:=⟨an,[],false,Gl⟩
def e_q158:EV C_q158 cp Tryz.f90 [.v fk] [.v .bool] Gr:=by intro xs;kernel_rfl
def afT:CO MI:=con_ok (Ls:=[]) mixed (bq _ _) nF Tryz.func90 loopsL_nil boxesL_none e_q158
def ady (fns:List (Nat×List Ab.Mode×(List Arg→Option Res))){dp:Bool}(h:eW Tryz.prog Gb ⟨an,fns,dp,Gl⟩):eW Tryz.prog Gb ⟨an,MI.entry::fns,dp,Gl⟩:=h.cons MI (by kernel_rfl) (zv (f:=Gr)) afT
def Mh:jW:=⟨124,[.v fe],[.v .bool],Bt,zog Bt⟩
def V2:Cx:=⟨an,[Hq.entry,AI.entry],false,Gl⟩
def Qj:cE:=nq ⟨[(50,.leaf I6),(1,.aV z0 []),(48,.leaf (.lst I6)),(49,.leaf I6)],[(z0,false,.var fe (.leaf fe))]⟩ [(.ret,⟨[(2,.leaf .bool)],[]⟩),((.exit 0),⟨[],[]⟩)] Z5 CJ
def YF:LT:=[(6,Qj)]
def aij:∀x,round V2 YF (iV Tryz.f124 0) Qj x=CJ x:=by intro x;kernel_rfl
def e_q121:EV V2 YF Tryz.f124 [.v fe] [.v .bool] Bt:=by intro xs;kernel_rfl
def afi:CO Mh:=con_ok (Ls:=[Qj]) mixed (bq _ _) (Oz _ (BH _ nF)) Tryz.func124 (loopsC (loopD_ok aij) loopsL_nil) boxesL_none e_q121
def ac9 (fns:List (Nat×List Ab.Mode×(List Arg→Option Res))){dp:Bool}(h:eW Tryz.prog Gb ⟨an,fns,dp,Gl⟩):eW Tryz.prog Gb ⟨an,Mh.entry::fns,dp,Gl⟩:=h.cons Mh (by kernel_rfl) (zv (f:=Bt)) afi
def MG:jW:=⟨154,[.v (.lst I6),.v I6],[.v .bool],D5,zog D5⟩
def Wc:Cx:=⟨an,[AI.entry],false,Gl⟩
def Qo:cE:=nq ⟨[(9,.leaf I6),(0,.leaf (.lst I6)),(1,.leaf I6),(7,.leaf (.lst I6)),(8,.leaf I6)],[]⟩ [(.ret,⟨[(4,.leaf .bool)],[]⟩),((.exit 0),⟨[(1,.leaf I6)],[]⟩)] aal D6
def YQ:LT:=[(2,Qo)]
def aio:∀x,round Wc YQ (iV Tryz.f154 0) Qo x=D6 x:=by intro x;kernel_rfl
def e_q155:EV Wc YQ Tryz.f154 [.v (.lst I6),.v I6] [.v .bool] D5:=by intro xs;kernel_rfl
def afQ:CO MG:=con_ok (Ls:=[Qo]) mixed (bq _ _) (BH _ nF) Tryz.func154 (loopsC (loopD_ok aio) loopsL_nil) boxesL_none e_q155
def adw (fns:List (Nat×List Ab.Mode×(List Arg→Option Res))){dp:Bool}(h:eW Tryz.prog Gb ⟨an,fns,dp,Gl⟩):eW Tryz.prog Gb ⟨an,MG.entry::fns,dp,Gl⟩:=h.cons MG (by kernel_rfl) (zv (f:=D5)) afQ
def MY:jW:=⟨155,[.v (.lst I6)],[.v I3],Fc,zog Fc⟩
def Wt:Cx:=⟨an,[],false,Gl⟩
def QC:cE:=nq ⟨[(8,.leaf I6),(3,.leaf I3),(6,.leaf (.lst I6)),(7,.leaf I6)],[]⟩ [((.exit 0),⟨[(3,.leaf I3)],[]⟩)] aaD Iu
def Y4:LT:=[(3,QC)]
def aiD:∀x,round Wt Y4 (iV Tryz.f155 0) QC x=Iu x:=by intro x;kernel_rfl
def e_q179:EV Wt Y4 Tryz.f155 [.v (.lst I6)] [.v I3] Fc:=by intro xs;kernel_rfl
def agd:CO MY:=con_ok (Ls:=[QC]) mixed (bq _ _) nF Tryz.func155 (loopsC (loopD_ok aiD) loopsL_nil) boxesL_none e_q179
def adN (fns:List (Nat×List Ab.Mode×(List Arg→Option Res))){dp:Bool}(h:eW Tryz.prog Gb ⟨an,fns,dp,Gl⟩):eW Tryz.prog Gb ⟨an,MY.entry::fns,dp,Gl⟩:=h.cons MY (by kernel_rfl) (zv (f:=Fc)) agd
def Nz:jW:=⟨125,[.v b7],[.v .bool],CL,zog CL⟩
def P9:Cx:=⟨an,[MY.entry,MG.entry,AI.entry],false,Gl⟩
def Qr:cE:=nq ⟨[(21,.leaf I6),(3,.leaf I3),(1,.aV z0 []),(19,.leaf (.lst er)),(20,.leaf I6)],[(z0,false,.var b7 (.leaf b7))]⟩ [(.ret,⟨[(2,.leaf .bool)],[]⟩),((.exit 0),⟨[(3,.leaf I3),(1,.aV z0 [])],[(z0,false,.var b7 (.leaf b7))]⟩)] aaW Dn
def Qs:cE:=nq ⟨[(77,.leaf I6),(3,.leaf I3),(75,.leaf (.lst er)),(76,.leaf I6)],[]⟩ [(.ret,⟨[(2,.leaf .bool)],[]⟩),((.exit 2),⟨[],[]⟩)] aaX GL
def Tc:LT:=[(5,Qr),(12,Qs)]
def air:∀x,round P9 Tc (iV Tryz.f125 0) Qr x=Dn x:=by intro x;kernel_rfl
def ais:∀x,round P9 Tc (iV Tryz.f125 1) Qs x=GL x:=by intro x;kernel_rfl
def e_q53:EV P9 Tc Tryz.f125 [.v b7] [.v .bool] CL:=by intro xs;kernel_rfl
def ok_q53:CO Nz:=con_ok (Ls:=[Qr,Qs]) mixed (bq _ _) (adN _ (adw _ (BH _ nF))) Tryz.func125 (loopsC (loopD_ok air) (loopsC (loopD_ok ais) loopsL_nil)) boxesL_none e_q53
def fk_q53 (fns:List (Nat×List Ab.Mode×(List Arg→Option Res))){dp:Bool}(h:eW Tryz.prog Gb ⟨an,fns,dp,Gl⟩):eW Tryz.prog Gb ⟨an,Nz.entry::fns,dp,Gl⟩:=h.cons Nz (by kernel_rfl) (zv (f:=CL)) ok_q53
def Ka:jW:=⟨91,[.v fk],[.v .bool],D4,zog D4⟩
def C_q154:Cx:=⟨an,[Hq.entry,Nz.entry,Mh.entry],false,Gl⟩
def e_q154:EV C_q154 cp Tryz.f91 [.v fk] [.v .bool] D4:=by intro xs;kernel_rfl
def afP:CO Ka:=con_ok (Ls:=[]) mixed (bq _ _) (Oz _ (fk_q53 _ (ac9 _ nF))) Tryz.func91 loopsL_nil boxesL_none e_q154
def Xg (fns:List (Nat×List Ab.Mode×(List Arg→Option Res))){dp:Bool}(h:eW Tryz.prog Gb ⟨an,fns,dp,Gl⟩):eW Tryz.prog Gb ⟨an,Ka.entry::fns,dp,Gl⟩:=h.cons Ka (by kernel_rfl) (zv (f:=D4)) afP
def Kh:jW:=⟨135,[.v b7,.v I6],[.v .str,.v .bool],Ff,zog Ff⟩
def C_q22:Cx:=⟨an,[],false,Gl⟩
def Qt:cE:=nq ⟨[(11,.leaf I6),(1,.leaf I6),(9,.leaf (.lst er)),(10,.leaf I6)],[]⟩ [(.ret,⟨[(4,.leaf .str),(5,.leaf .bool)],[]⟩),((.exit 0),⟨[],[]⟩)] aaG GG
def Y6:LT:=[(2,Qt)]
def ait:∀x,round C_q22 Y6 (iV Tryz.f135 0) Qt x=GG x:=by intro x;kernel_rfl
def e_q22:EV C_q22 Y6 Tryz.f135 [.v b7,.v I6] [.v .str,.v .bool] Ff:=by intro xs;kernel_rfl
def ok_q22:CO Kh:=con_ok (Ls:=[Qt]) mixed (bq _ _) nF Tryz.func135 (loopsC (loopD_ok ait) loopsL_nil) boxesL_none e_q22
def Xn (fns:List (Nat×List Ab.Mode×(List Arg→Option Res))){dp:Bool}(h:eW Tryz.prog Gb ⟨an,fns,dp,Gl⟩):eW Tryz.prog Gb ⟨an,Kh.entry::fns,dp,Gl⟩:=h.cons Kh (by kernel_rfl) (zv (f:=Ff)) ok_q22
def Kn:jW:=⟨126,[.v b7],[.v I6],GW,zog GW⟩
def C_q9:Cx:=⟨an,[Kh.entry],false,Gl⟩
def Qu:cE:=nq ⟨[(3,.leaf I6),(1,.aV z0 [])],[(z0,false,.var b7 (.leaf b7))]⟩ [((.exit 0),⟨[(3,.leaf I6)],[]⟩)] abu GX
def lt_q9:LT:=[(2,Qu)]
def aiu:∀x,round C_q9 lt_q9 (iV Tryz.f126 0) Qu x=GX x:=by intro x;kernel_rfl
def e_q9:EV C_q9 lt_q9 Tryz.f126 [.v b7] [.v I6] GW:=by intro xs;kernel_rfl
def ok_q9:CO Kn:=con_ok (Ls:=[Qu]) mixed (bq _ _) (Xn _ nF) Tryz.func126 (loopsC (loopD_ok aiu) loopsL_nil) boxesL_none e_q9
def fk_q9 (fns:List (Nat×List Ab.Mode×(List Arg→Option Res))){dp:Bool}(h:eW Tryz.prog Gb ⟨an,fns,dp,Gl⟩):eW Tryz.prog Gb ⟨an,Kn.entry::fns,dp,Gl⟩:=h.cons Kn (by kernel_rfl) (zv (f:=GW)) ok_q9
def L9:jW:=⟨93,[.v fk],[.v .bool],AH,zog AH⟩
def C_q11:Cx:=⟨an,[Kn.entry],false,Gl⟩
def e_q11:EV C_q11 cp Tryz.f93 [.v fk] [.v .bool] AH:=by intro xs;kernel_rfl
def ok_q11:CO L9:=con_ok (Ls:=[]) mixed (bq _ _) (fk_q9 _ nF) Tryz.func93 loopsL_nil boxesL_none e_q11
def fk_q11 (fns:List (Nat×List Ab.Mode×(List Arg→Option Res))){dp:Bool}(h:eW Tryz.prog Gb ⟨an,fns,dp,Gl⟩):eW Tryz.prog Gb ⟨an,L9.entry::fns,dp,Gl⟩:=h.cons L9 (by kernel_rfl) (zv (f:=AH)) ok_q11
def Kl:jW:=⟨48,[.v b9],[.v .bool],Dm,zog Dm⟩
def C_q51:Cx:=⟨an,[L9.entry,I_.entry,Ka.entry,MI.entry,AI.entry,Je.entry],false,Gl⟩
def e_q51:EV C_q51 cp Tryz.f48 [.v b9] [.v .bool] Dm:=by intro xs;kernel_rfl
def ok_q51:CO Kl:=con_ok (Ls:=[]) mixed (bq _ _) (fk_q11 _ (So _ (Xg _ (ady _ (BH _ (Su _ nF)))))) Tryz.func48 loopsL_nil boxesL_none e_q51
def Xr (fns:List (Nat×List Ab.Mode×(List Arg→Option Res))){dp:Bool}(h:eW Tryz.prog Gb ⟨an,fns,dp,Gl⟩):eW Tryz.prog Gb ⟨an,Kl.entry::fns,dp,Gl⟩:=h.cons Kl (by kernel_rfl) (zv (f:=Dm)) ok_q51
def Od:jW:=⟨21,[.v bV],[.v .bool],q93,zog q93⟩
def I7:Cx:=⟨an,[AI.entry,J_.entry,Ko.entry,Kd.entry,Je.entry,Kl.entry,Ny.entry],false,Gl⟩
def Qv:cE:=nq ⟨[(34,.leaf I6),(1,.aV z0 []),(32,.leaf (.lst b9)),(33,.leaf I6)],[(z0,false,.var bV (.leaf bV))]⟩ [(.ret,⟨[(2,.leaf .bool)],[]⟩),((.exit 0),⟨[(1,.aV z0 [])],[(z0,false,.var bV (.leaf bV))]⟩)] abn FA
def Qw:cE:=nq ⟨[(60,.leaf I6),(58,.leaf (.lst eL)),(1,.aV z0 []),(59,.leaf I6)],[(z0,false,.var bV (.leaf bV))]⟩ [(.ret,⟨[(2,.leaf .bool)],[]⟩),((.exit 2),⟨[(1,.aV z0 [])],[(z0,false,.var bV (.leaf bV))]⟩)] abo FB
def Qx:cE:=nq ⟨[(83,.leaf I6),(81,.leaf (.lst bn)),(1,.aV z0 []),(82,.leaf I6)],[(z0,false,.var bV (.leaf bV))]⟩ [(.ret,⟨[(2,.leaf .bool)],[]⟩),((.exit 4),⟨[(1,.aV z0 [])],[(z0,false,.var bV (.leaf bV))]⟩)] abp FC
def Qy:cE:=nq ⟨[(138,.leaf I6),(1,.aV z0 []),(136,.whole z1 bn),(137,.leaf I6)],[(z0,false,.var bV (.leaf bV)),(z1,false,.rows bn)]⟩ [(.ret,⟨[(2,.leaf .bool)],[]⟩),((.exit 6),⟨[],[]⟩)] abq FD
def Wv:cE:=nq ⟨[(138,.leaf I6),(1,.aV z0 []),(136,.leaf (.lst bn)),(137,.leaf I6)],[(z0,false,.var bV (.leaf bV))]⟩ [(.ret,⟨[(2,.leaf .bool)],[]⟩),((.exit 6),⟨[],[]⟩)] abr FE
def Jy:LT:=[(4,Qv),(10,Qw),(16,Qx),(29,Qy),(500029,Wv)]
def aiv:∀x,round I7 Jy (iV Tryz.f21 0) Qv x=FA x:=by intro x;kernel_rfl
def aiw:∀x,round I7 Jy (iV Tryz.f21 1) Qw x=FB x:=by intro x;kernel_rfl
def aix:∀x,round I7 Jy (iV Tryz.f21 2) Qx x=FC x:=by intro x;kernel_rfl
def aiy:∀x,round I7 Jy (iV Tryz.f21 3) Qy x=FD x:=by intro x;kernel_rfl
def aiz:∀x,round I7 Jy (iV Tryz.f21 3) Wv x=FE x:=by intro x;kernel_rfl
def e_q93:EV I7 Jy Tryz.f21 [.v bV] [.v .bool] q93:=by intro xs;kernel_rfl
def ok_q93:CO Od:=con_ok (Ls:=[Qv,Qw,Qx,Qy]) mixed (bq _ _) (BH _ (Xf _ (Xt _ (Xj _ (Su _ (Xr _ (fk_q52 _ nF))))))) Tryz.func21 (loopsC (loopD_ok aiv) (loopsC (loopD_ok aiw) (loopsC (loopD_ok aix) (loopsL_two (by kernel_rfl) (loopD_ok aiy) (by kernel_rfl) (loopD_ok aiz) loopsL_nil)))) boxesL_none e_q93
def fk_q93 (fns:List (Nat×List Ab.Mode×(List Arg→Option Res))){dp:Bool}(h:eW Tryz.prog Gb ⟨an,fns,dp,Gl⟩):eW Tryz.prog Gb ⟨an,Od.entry::fns,dp,Gl⟩:=h.cons Od (by kernel_rfl) (zv (f:=q93)) ok_q93
def N_:jW:=⟨101,[.v fk],[.v .str],q88,zog q88⟩
def C_q88:Cx:=⟨an,[Kh.entry,Kn.entry,Ka.entry],false,Gl⟩
def Qf:cE:=nq ⟨[(13,.leaf I6),(3,.leaf .str),(1,.aV z0 []),(12,.leaf I6)],[(z0,false,.var fk (.leaf fk))]⟩ [((.exit 0),⟨[(1,.aV z0 []),(3,.leaf .str)],[(z0,false,.var fk (.leaf fk))]⟩)] abj IE
def Zo:LT:=[(5,Qf)]
def aie:∀x,round C_q88 Zo (iV Tryz.f101 0) Qf x=IE x:=by intro x;kernel_rfl
def e_q88:EV C_q88 Zo Tryz.f101 [.v fk] [.v .str] q88:=by intro xs;kernel_rfl
def ok_q88:CO N_:=con_ok (Ls:=[Qf]) mixed (bq _ _) (Xn _ (fk_q9 _ (Xg _ nF))) Tryz.func101 (loopsC (loopD_ok aie) loopsL_nil) boxesL_none e_q88
def fk_q88 (fns:List (Nat×List Ab.Mode×(List Arg→Option Res))){dp:Bool}(h:eW Tryz.prog Gb ⟨an,fns,dp,Gl⟩):eW Tryz.prog Gb ⟨an,N_.entry::fns,dp,Gl⟩:=h.cons N_ (by kernel_rfl) (zv (f:=q88)) ok_q88
def M6:jW:=⟨55,[.v b9],[.v .str],Eb,zog Eb⟩
def C_q20:Cx:=⟨an,[N_.entry,Kl.entry],false,Gl⟩
def e_q20:EV C_q20 cp Tryz.f55 [.v b9] [.v .str] Eb:=by intro xs;kernel_rfl
def ok_q20:CO M6:=con_ok (Ls:=[]) mixed (bq _ _) (fk_q88 _ (Xr _ nF)) Tryz.func55 loopsL_nil boxesL_none e_q20
def fk_q20 (fns:List (Nat×List Ab.Mode×(List Arg→Option Res))){dp:Bool}(h:eW Tryz.prog Gb ⟨an,fns,dp,Gl⟩):eW Tryz.prog Gb ⟨an,M6.entry::fns,dp,Gl⟩:=h.cons M6 (by kernel_rfl) (zv (f:=Eb)) ok_q20
def MK:jW:=⟨22,[.v bV],[.v .str],q16,zog q16⟩
def P5:Cx:=⟨an,[M6.entry,Hr.entry],false,Gl⟩
def Qz:cE:=nq ⟨[(41,.leaf I6),(3,.fn 54 (.cJ)),(4,.leaf .str),(39,.leaf (.lst bn)),(1,.aV z0 []),(40,.leaf I6)],[(z0,false,.var bV (.leaf bV))]⟩ [((.exit 0),⟨[(3,.fn 54 (.cJ)),(4,.leaf .str),(1,.aV z0 [])],[(z0,false,.var bV (.leaf bV))]⟩)] Uq Dd
def QA:cE:=nq ⟨[(74,.leaf I6),(3,.fn 54 (.cJ)),(4,.leaf .str),(72,.leaf (.lst b9)),(1,.aV z0 []),(73,.leaf I6)],[(z0,false,.var bV (.leaf bV))]⟩ [((.exit 2),⟨[(1,.aV z0 []),(3,.fn 54 (.cJ)),(4,.leaf .str)],[(z0,false,.var bV (.leaf bV))]⟩)] Ur De
def S9:LT:=[(7,Qz),(12,QA)]
def aiA:∀x,round P5 S9 (iV Tryz.f22 0) Qz x=Dd x:=by intro x;kernel_rfl
def aiB:∀x,round P5 S9 (iV Tryz.f22 1) QA x=De x:=by intro x;kernel_rfl
def e_q16:EV P5 S9 Tryz.f22 [.v bV] [.v .str] q16:=by intro xs;kernel_rfl
def ok_q16:CO MK:=con_ok (Ls:=[Qz,QA]) mixed (bq _ _) (fk_q20 _ (OA _ nF)) Tryz.func22 (loopsC (loopD_ok aiA) (loopsC (loopD_ok aiB) loopsL_nil)) boxesL_none e_q16
def fk_q16 (fns:List (Nat×List Ab.Mode×(List Arg→Option Res))){dp:Bool}(h:eW Tryz.prog Gb ⟨an,fns,dp,Gl⟩):eW Tryz.prog Gb ⟨an,MK.entry::fns,dp,Gl⟩:=h.cons MK (by kernel_rfl) (zv (f:=q16)) ok_q16
def M7:jW:=⟨7,[.v bV],[.v .str],q23,zog q23⟩
def C_q23:Cx:=⟨an,[MK.entry,Od.entry],false,Gl⟩
def e_q23:EV C_q23 cp Tryz.f7 [.v bV] [.v .str] q23:=by intro xs;kernel_rfl
def ok_q23:CO M7:=con_ok (Ls:=[]) mixed (bq _ _) (fk_q16 _ (fk_q93 _ nF)) Tryz.func7 loopsL_nil boxesL_none e_q23
def fk_q23 (fns:List (Nat×List Ab.Mode×(List Arg→Option Res))){dp:Bool}(h:eW Tryz.prog Gb ⟨an,fns,dp,Gl⟩):eW Tryz.prog Gb ⟨an,M7.entry::fns,dp,Gl⟩:=h.cons M7 (by kernel_rfl) (zv (f:=q23)) ok_q23
def Mk:jW:=⟨62,[.v bn,.v bn],[.v .bool],Gi,zog Gi⟩
def C_q126:Cx:=⟨an,[],false,Gl⟩
def e_q126:EV C_q126 cp Tryz.f62 [.v bn,.v bn] [.v .bool] Gi:=by intro xs;kernel_rfl
def afn:CO Mk:=con_ok (Ls:=[]) mixed (bq _ _) nF Tryz.func62 loopsL_nil boxesL_none e_q126
def adb (fns:List (Nat×List Ab.Mode×(List Arg→Option Res))){dp:Bool}(h:eW Tryz.prog Gb ⟨an,fns,dp,Gl⟩):eW Tryz.prog Gb ⟨an,Mk.entry::fns,dp,Gl⟩:=h.cons Mk (by kernel_rfl) (zv (f:=Gi)) afn
def Kp:jW:=⟨26,[.v (.lst bn),.v (.lst bn)],[.v .bool],q98,zog q98⟩
def C_q98:Cx:=⟨an,[Mk.entry],false,Gl⟩
def QT:cE:=nq ⟨[(5,.leaf I6),(1,.leaf (.lst bn)),(0,.leaf (.lst bn))],[]⟩ [(.ret,⟨[(4,.leaf .bool)],[]⟩),((.exit 0),⟨[],[]⟩)] abt IF
def Zt:LT:=[(4,QT)]
def aiR:∀x,round C_q98 Zt (iV Tryz.f26 0) QT x=IF x:=by intro x;kernel_rfl
def e_q98:EV C_q98 Zt Tryz.f26 [.v (.lst bn),.v (.lst bn)] [.v .bool] q98:=by intro xs;kernel_rfl
def ok_q98:CO Kp:=con_ok (Ls:=[QT]) mixed (bq _ _) (adb _ nF) Tryz.func26 (loopsC (loopD_ok aiR) loopsL_nil) boxesL_none e_q98
def Xu (fns:List (Nat×List Ab.Mode×(List Arg→Option Res))){dp:Bool}(h:eW Tryz.prog Gb ⟨an,fns,dp,Gl⟩):eW Tryz.prog Gb ⟨an,Kp.entry::fns,dp,Gl⟩:=h.cons Kp (by kernel_rfl) (zv (f:=q98)) ok_q98
def MJ:jW:=⟨56,[.v bx,.v bx],[.v .bool],Ii,zog Ii⟩
def C_q159:Cx:=⟨an,[Kp.entry],false,Gl⟩
def e_q159:EV C_q159 cp Tryz.f56 [.v bx,.v bx] [.v .bool] Ii:=by intro xs;kernel_rfl
def afU:CO MJ:=con_ok (Ls:=[]) mixed (bq _ _) (Xu _ nF) Tryz.func56 loopsL_nil boxesL_none e_q159
def adz (fns:List (Nat×List Ab.Mode×(List Arg→Option Res))){dp:Bool}(h:eW Tryz.prog Gb ⟨an,fns,dp,Gl⟩):eW Tryz.prog Gb ⟨an,MJ.entry::fns,dp,Gl⟩:=h.cons MJ (by kernel_rfl) (zv (f:=Ii)) afU
def Oh:jW:=⟨136,[.v di,.v di],[.v .bool],q97,zog q97⟩
def C_q97:Cx:=⟨an,[],false,Gl⟩
def e_q97:EV C_q97 cp Tryz.f136 [.v di,.v di] [.v .bool] q97:=by intro xs;kernel_rfl
def ok_q97:CO Oh:=con_ok (Ls:=[]) mixed (bq _ _) nF Tryz.func136 loopsL_nil boxesL_none e_q97
def fk_q97 (fns:List (Nat×List Ab.Mode×(List Arg→Option Res))){dp:Bool}(h:eW Tryz.prog Gb ⟨an,fns,dp,Gl⟩):eW Tryz.prog Gb ⟨an,Oh.entry::fns,dp,Gl⟩:=h.cons Oh (by kernel_rfl) (zv (f:=q97)) ok_q97
def NG:jW:=⟨102,[.v (.lst di),.v (.lst di)],[.v .bool],q60,zog q60⟩
def C_q60:Cx:=⟨an,[Oh.entry],false,Gl⟩
def QO:cE:=nq ⟨[(5,.leaf I6),(1,.leaf (.lst di)),(0,.leaf (.lst di))],[]⟩ [(.ret,⟨[(4,.leaf .bool)],[]⟩),((.exit 0),⟨[],[]⟩)] aa6 IA
def Zj:LT:=[(4,QO)]
def aiP:∀x,round C_q60 Zj (iV Tryz.f102 0) QO x=IA x:=by intro x;kernel_rfl
def e_q60:EV C_q60 Zj Tryz.f102 [.v (.lst di),.v (.lst di)] [.v .bool] q60:=by intro xs;kernel_rfl
def ok_q60:CO NG:=con_ok (Ls:=[QO]) mixed (bq _ _) (fk_q97 _ nF) Tryz.func102 (loopsC (loopD_ok aiP) loopsL_nil) boxesL_none e_q60
def fk_q60 (fns:List (Nat×List Ab.Mode×(List Arg→Option Res))){dp:Bool}(h:eW Tryz.prog Gb ⟨an,fns,dp,Gl⟩):eW Tryz.prog Gb ⟨an,NG.entry::fns,dp,Gl⟩:=h.cons NG (by kernel_rfl) (zv (f:=q60)) ok_q60
def Mm:jW:=⟨57,[.v eI,.v eI],[.v .bool],H8,zog H8⟩
def C_q128:Cx:=⟨an,[NG.entry],false,Gl⟩
def e_q128:EV C_q128 cp Tryz.f57 [.v eI,.v eI] [.v .bool] H8:=by intro xs;kernel_rfl
def afp:CO Mm:=con_ok (Ls:=[]) mixed (bq _ _) (fk_q60 _ nF) Tryz.func57 loopsL_nil boxesL_none e_q128
def adf (fns:List (Nat×List Ab.Mode×(List Arg→Option Res))){dp:Bool}(h:eW Tryz.prog Gb ⟨an,fns,dp,Gl⟩):eW Tryz.prog Gb ⟨an,Mm.entry::fns,dp,Gl⟩:=h.cons Mm (by kernel_rfl) (zv (f:=H8)) afp
def NC:jW:=⟨103,[.v ek,.v ek],[.v .bool],q58,zog q58⟩
def C_q58:Cx:=⟨an,[],false,Gl⟩
def e_q58:EV C_q58 cp Tryz.f103 [.v ek,.v ek] [.v .bool] q58:=by intro xs;kernel_rfl
def ok_q58:CO NC:=con_ok (Ls:=[]) mixed (bq _ _) nF Tryz.func103 loopsL_nil boxesL_none e_q58
def fk_q58 (fns:List (Nat×List Ab.Mode×(List Arg→Option Res))){dp:Bool}(h:eW Tryz.prog Gb ⟨an,fns,dp,Gl⟩):eW Tryz.prog Gb ⟨an,NC.entry::fns,dp,Gl⟩:=h.cons NC (by kernel_rfl) (zv (f:=q58)) ok_q58
def Nd:jW:=⟨58,[.v (.lst ek),.v (.lst ek)],[.v .bool],q31,zog q31⟩
def C_q31:Cx:=⟨an,[NC.entry],false,Gl⟩
def QL:cE:=nq ⟨[(5,.leaf I6),(1,.leaf (.lst ek)),(0,.leaf (.lst ek))],[]⟩ [(.ret,⟨[(4,.leaf .bool)],[]⟩),((.exit 0),⟨[],[]⟩)] aaK Iv
def Y9:LT:=[(4,QL)]
def aiM:∀x,round C_q31 Y9 (iV Tryz.f58 0) QL x=Iv x:=by intro x;kernel_rfl
def e_q31:EV C_q31 Y9 Tryz.f58 [.v (.lst ek),.v (.lst ek)] [.v .bool] q31:=by intro xs;kernel_rfl
def ok_q31:CO Nd:=con_ok (Ls:=[QL]) mixed (bq _ _) (fk_q58 _ nF) Tryz.func58 (loopsC (loopD_ok aiM) loopsL_nil) boxesL_none e_q31
def fk_q31 (fns:List (Nat×List Ab.Mode×(List Arg→Option Res))){dp:Bool}(h:eW Tryz.prog Gb ⟨an,fns,dp,Gl⟩):eW Tryz.prog Gb ⟨an,Nd.entry::fns,dp,Gl⟩:=h.cons Nd (by kernel_rfl) (zv (f:=q31)) ok_q31
def Oi:jW:=⟨104,[.v e_,.v e_],[.v .bool],q99,zog q99⟩
def C_q99:Cx:=⟨an,[],false,Gl⟩
def e_q99:EV C_q99 cp Tryz.f104 [.v e_,.v e_] [.v .bool] q99:=by intro xs;kernel_rfl
def ok_q99:CO Oi:=con_ok (Ls:=[]) mixed (bq _ _) nF Tryz.func104 loopsL_nil boxesL_none e_q99
def fk_q99 (fns:List (Nat×List Ab.Mode×(List Arg→Option Res))){dp:Bool}(h:eW Tryz.prog Gb ⟨an,fns,dp,Gl⟩):eW Tryz.prog Gb ⟨an,Oi.entry::fns,dp,Gl⟩:=h.cons Oi (by kernel_rfl) (zv (f:=q99)) ok_q99
def NI:jW:=⟨59,[.v (.lst e_),.v (.lst e_)],[.v .bool],q62,zog q62⟩
def C_q62:Cx:=⟨an,[Oi.entry],false,Gl⟩
def QV:cE:=nq ⟨[(5,.leaf I6),(1,.leaf (.lst e_)),(0,.leaf (.lst e_))],[]⟩ [(.ret,⟨[(4,.leaf .bool)],[]⟩),((.exit 0),⟨[],[]⟩)] aa7 IB
def Zk:LT:=[(4,QV)]
def aiT:∀x,round C_q62 Zk (iV Tryz.f59 0) QV x=IB x:=by intro x;kernel_rfl
def e_q62:EV C_q62 Zk Tryz.f59 [.v (.lst e_),.v (.lst e_)] [.v .bool] q62:=by intro xs;kernel_rfl
def ok_q62:CO NI:=con_ok (Ls:=[QV]) mixed (bq _ _) (fk_q99 _ nF) Tryz.func59 (loopsC (loopD_ok aiT) loopsL_nil) boxesL_none e_q62
def fk_q62 (fns:List (Nat×List Ab.Mode×(List Arg→Option Res))){dp:Bool}(h:eW Tryz.prog Gb ⟨an,fns,dp,Gl⟩):eW Tryz.prog Gb ⟨an,NI.entry::fns,dp,Gl⟩:=h.cons NI (by kernel_rfl) (zv (f:=q62)) ok_q62
def NJ:jW:=⟨23,[.v dj,.v dj],[.v .bool],q63,zog q63⟩
def C_q63:Cx:=⟨an,[NI.entry,Nd.entry,Mm.entry,MJ.entry],false,Gl⟩
def e_q63:EV C_q63 cp Tryz.f23 [.v dj,.v dj] [.v .bool] q63:=by intro xs;kernel_rfl
def ok_q63:CO NJ:=con_ok (Ls:=[]) mixed (bq _ _) (fk_q62 _ (fk_q31 _ (adf _ (adz _ nF)))) Tryz.func23 loopsL_nil boxesL_none e_q63
def fk_q63 (fns:List (Nat×List Ab.Mode×(List Arg→Option Res))){dp:Bool}(h:eW Tryz.prog Gb ⟨an,fns,dp,Gl⟩):eW Tryz.prog Gb ⟨an,NJ.entry::fns,dp,Gl⟩:=h.cons NJ (by kernel_rfl) (zv (f:=q63)) ok_q63
def J1:jW:=⟨171,[.v (.lst I6),.v (.lst I6)],[.v .bool],ER,zog ER⟩
def V3:Cx:=⟨an,[],false,Gl⟩
def QS:cE:=nq ⟨[(5,.leaf I6),(1,.leaf (.lst I6)),(0,.leaf (.lst I6))],[]⟩ [(.ret,⟨[(4,.leaf .bool)],[]⟩),((.exit 0),⟨[],[]⟩)] Z8 H6
def YG:LT:=[(4,QS)]
def aiQ:∀x,round V3 YG (iV Tryz.f171 0) QS x=H6 x:=by intro x;kernel_rfl
def e_q125:EV V3 YG Tryz.f171 [.v (.lst I6),.v (.lst I6)] [.v .bool] ER:=by intro xs;kernel_rfl
def afm:CO J1:=con_ok (Ls:=[QS]) mixed (bq _ _) nF Tryz.func171 (loopsC (loopD_ok aiQ) loopsL_nil) boxesL_none e_q125
def W7 (fns:List (Nat×List Ab.Mode×(List Arg→Option Res))){dp:Bool}(h:eW Tryz.prog Gb ⟨an,fns,dp,Gl⟩):eW Tryz.prog Gb ⟨an,J1.entry::fns,dp,Gl⟩:=h.cons J1 (by kernel_rfl) (zv (f:=ER)) afm
def Ml:jW:=⟨137,[.v fe,.v fe],[.v .bool],H7,zog H7⟩
def C_q127:Cx:=⟨an,[J1.entry],false,Gl⟩
def e_q127:EV C_q127 cp Tryz.f137 [.v fe,.v fe] [.v .bool] H7:=by intro xs;kernel_rfl
def afo:CO Ml:=con_ok (Ls:=[]) mixed (bq _ _) (W7 _ nF) Tryz.func137 loopsL_nil boxesL_none e_q127
def ade (fns:List (Nat×List Ab.Mode×(List Arg→Option Res))){dp:Bool}(h:eW Tryz.prog Gb ⟨an,fns,dp,Gl⟩):eW Tryz.prog Gb ⟨an,Ml.entry::fns,dp,Gl⟩:=h.cons Ml (by kernel_rfl) (zv (f:=H7)) afo
def M0:jW:=⟨203,[.v er,.v er],[.v .bool],GC,zog GC⟩
def C_q180:Cx:=⟨an,[J1.entry],false,Gl⟩
def e_q180:EV C_q180 cp Tryz.f203 [.v er,.v er] [.v .bool] GC:=by intro xs;kernel_rfl
def age:CO M0:=con_ok (Ls:=[]) mixed (bq _ _) (W7 _ nF) Tryz.func203 loopsL_nil boxesL_none e_q180
def adO (fns:List (Nat×List Ab.Mode×(List Arg→Option Res))){dp:Bool}(h:eW Tryz.prog Gb ⟨an,fns,dp,Gl⟩):eW Tryz.prog Gb ⟨an,M0.entry::fns,dp,Gl⟩:=h.cons M0 (by kernel_rfl) (zv (f:=GC)) age
def ML:jW:=⟨172,[.v (.lst er),.v (.lst er)],[.v .bool],Ij,zog Ij⟩
def Wf:Cx:=⟨an,[M0.entry],false,Gl⟩
def QN:cE:=nq ⟨[(5,.leaf I6),(1,.leaf (.lst er)),(0,.leaf (.lst er))],[]⟩ [(.ret,⟨[(4,.leaf .bool)],[]⟩),((.exit 0),⟨[],[]⟩)] aan Ik
def YS:LT:=[(4,QN)]
def aiO:∀x,round Wf YS (iV Tryz.f172 0) QN x=Ik x:=by intro x;kernel_rfl
def e_q160:EV Wf YS Tryz.f172 [.v (.lst er),.v (.lst er)] [.v .bool] Ij:=by intro xs;kernel_rfl
def afV:CO ML:=con_ok (Ls:=[QN]) mixed (bq _ _) (adO _ nF) Tryz.func172 (loopsC (loopD_ok aiO) loopsL_nil) boxesL_none e_q160
def adA (fns:List (Nat×List Ab.Mode×(List Arg→Option Res))){dp:Bool}(h:eW Tryz.prog Gb ⟨an,fns,dp,Gl⟩):eW Tryz.prog Gb ⟨an,ML.entry::fns,dp,Gl⟩:=h.cons ML (by kernel_rfl) (zv (f:=Ij)) afV
def NK:jW:=⟨138,[.v b7,.v b7],[.v .bool],q64,zog q64⟩
def C_q64:Cx:=⟨an,[ML.entry],false,Gl⟩
def e_q64:EV C_q64 cp Tryz.f138 [.v b7,.v b7] [.v .bool] q64:=by intro xs;kernel_rfl
def ok_q64:CO NK:=con_ok (Ls:=[]) mixed (bq _ _) (adA _ nF) Tryz.func138 loopsL_nil boxesL_none e_q64
def fk_q64 (fns:List (Nat×List Ab.Mode×(List Arg→Option Res))){dp:Bool}(h:eW Tryz.prog Gb ⟨an,fns,dp,Gl⟩):eW Tryz.prog Gb ⟨an,NK.entry::fns,dp,Gl⟩:=h.cons NK (by kernel_rfl) (zv (f:=q64)) ok_q64
def Ng:jW:=⟨105,[.v fk,.v fk],[.v .bool],q33,zog q33⟩
def C_q33:Cx:=⟨an,[NK.entry,Ml.entry],false,Gl⟩
def e_q33:EV C_q33 cp Tryz.f105 [.v fk,.v fk] [.v .bool] q33:=by intro xs;kernel_rfl
def ok_q33:CO Ng:=con_ok (Ls:=[]) mixed (bq _ _) (fk_q64 _ (ade _ nF)) Tryz.func105 loopsL_nil boxesL_none e_q33
def fk_q33 (fns:List (Nat×List Ab.Mode×(List Arg→Option Res))){dp:Bool}(h:eW Tryz.prog Gb ⟨an,fns,dp,Gl⟩):eW Tryz.prog Gb ⟨an,Ng.entry::fns,dp,Gl⟩:=h.cons Ng (by kernel_rfl) (zv (f:=q33)) ok_q33
def ND:jW:=⟨60,[.v b9,.v b9],[.v .bool],q59,zog q59⟩
def C_q59:Cx:=⟨an,[Ng.entry],false,Gl⟩
def e_q59:EV C_q59 cp Tryz.f60 [.v b9,.v b9] [.v .bool] q59:=by intro xs;kernel_rfl
def ok_q59:CO ND:=con_ok (Ls:=[]) mixed (bq _ _) (fk_q33 _ nF) Tryz.func60 loopsL_nil boxesL_none e_q59
def fk_q59 (fns:List (Nat×List Ab.Mode×(List Arg→Option Res))){dp:Bool}(h:eW Tryz.prog Gb ⟨an,fns,dp,Gl⟩):eW Tryz.prog Gb ⟨an,ND.entry::fns,dp,Gl⟩:=h.cons ND (by kernel_rfl) (zv (f:=q59)) ok_q59
def Nf:jW:=⟨24,[.v (.lst b9),.v (.lst b9)],[.v .bool],q32,zog q32⟩
def C_q32:Cx:=⟨an,[ND.entry],false,Gl⟩
def QM:cE:=nq ⟨[(5,.leaf I6),(1,.leaf (.lst b9)),(0,.leaf (.lst b9))],[]⟩ [(.ret,⟨[(4,.leaf .bool)],[]⟩),((.exit 0),⟨[],[]⟩)] aaL Iw
def Y_:LT:=[(4,QM)]
def aiN:∀x,round C_q32 Y_ (iV Tryz.f24 0) QM x=Iw x:=by intro x;kernel_rfl
def e_q32:EV C_q32 Y_ Tryz.f24 [.v (.lst b9),.v (.lst b9)] [.v .bool] q32:=by intro xs;kernel_rfl
def ok_q32:CO Nf:=con_ok (Ls:=[QM]) mixed (bq _ _) (fk_q59 _ nF) Tryz.func24 (loopsC (loopD_ok aiN) loopsL_nil) boxesL_none e_q32
def fk_q32 (fns:List (Nat×List Ab.Mode×(List Arg→Option Res))){dp:Bool}(h:eW Tryz.prog Gb ⟨an,fns,dp,Gl⟩):eW Tryz.prog Gb ⟨an,Nf.entry::fns,dp,Gl⟩:=h.cons Nf (by kernel_rfl) (zv (f:=q32)) ok_q32
def NH:jW:=⟨61,[.v eL,.v eL],[.v .bool],q61,zog q61⟩
def C_q61:Cx:=⟨an,[],false,Gl⟩
def e_q61:EV C_q61 cp Tryz.f61 [.v eL,.v eL] [.v .bool] q61:=by intro xs;kernel_rfl
def ok_q61:CO NH:=con_ok (Ls:=[]) mixed (bq _ _) nF Tryz.func61 loopsL_nil boxesL_none e_q61
def fk_q61 (fns:List (Nat×List Ab.Mode×(List Arg→Option Res))){dp:Bool}(h:eW Tryz.prog Gb ⟨an,fns,dp,Gl⟩):eW Tryz.prog Gb ⟨an,NH.entry::fns,dp,Gl⟩:=h.cons NH (by kernel_rfl) (zv (f:=q61)) ok_q61
def Nh:jW:=⟨25,[.v (.lst eL),.v (.lst eL)],[.v .bool],q34,zog q34⟩
def C_q34:Cx:=⟨an,[NH.entry],false,Gl⟩
def QU:cE:=nq ⟨[(5,.leaf I6),(1,.leaf (.lst eL)),(0,.leaf (.lst eL))],[]⟩ [(.ret,⟨[(4,.leaf .bool)],[]⟩),((.exit 0),⟨[],[]⟩)] aaM Ix
def Za:LT:=[(4,QU)]
def aiS:∀x,round C_q34 Za (iV Tryz.f25 0) QU x=Ix x:=by intro x;kernel_rfl
def e_q34:EV C_q34 Za Tryz.f25 [.v (.lst eL),.v (.lst eL)] [.v .bool] q34:=by intro xs;kernel_rfl
def ok_q34:CO Nh:=con_ok (Ls:=[QU]) mixed (bq _ _) (fk_q61 _ nF) Tryz.func25 (loopsC (loopD_ok aiS) loopsL_nil) boxesL_none e_q34
def fk_q34 (fns:List (Nat×List Ab.Mode×(List Arg→Option Res))){dp:Bool}(h:eW Tryz.prog Gb ⟨an,fns,dp,Gl⟩):eW Tryz.prog Gb ⟨an,Nh.entry::fns,dp,Gl⟩:=h.cons Nh (by kernel_rfl) (zv (f:=q34)) ok_q34
def L0:jW:=⟨8,[.v bV,.v bV],[.v .bool],F8,zog F8⟩
def C_q100:Cx:=⟨an,[Kp.entry,Nh.entry,Nf.entry,NJ.entry],false,Gl⟩
def e_q100:EV C_q100 cp Tryz.f8 [.v bV,.v bV] [.v .bool] F8:=by intro xs;kernel_rfl
def aeZ:CO L0:=con_ok (Ls:=[]) mixed (bq _ _) (Xu _ (fk_q34 _ (fk_q32 _ (fk_q63 _ nF)))) Tryz.func8 loopsL_nil boxesL_none e_q100
def acU (fns:List (Nat×List Ab.Mode×(List Arg→Option Res))){dp:Bool}(h:eW Tryz.prog Gb ⟨an,fns,dp,Gl⟩):eW Tryz.prog Gb ⟨an,L0.entry::fns,dp,Gl⟩:=h.cons L0 (by kernel_rfl) (zv (f:=F8)) aeZ
def K_q5:jW:=⟨3,[.v bV],[.v .bool],Wh.q5,zog Wh.q5⟩
def C_q5:Cx:=⟨an,[L0.entry,M7.entry,M8.entry,L5.entry,L1.entry],false,Gl⟩
def e_q5:EV C_q5 cp Tryz.f3 [.v bV] [.v .bool] Wh.q5:=by intro xs;kernel_rfl
def ok_q5:CO K_q5:=con_ok (Ls:=[]) mixed (bq _ _) (acU _ (fk_q23 _ (fk_q24 _ (acY _ (acV _ nF))))) Tryz.func3 loopsL_nil boxesL_none e_q5
end
end Go.Proofs.CY
