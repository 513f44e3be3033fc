import Derived.Test.YthanhdmbelbfcaaGreatX10
import Derived.Test.YthanhdmbelbfcaaGreatProg
import Derived.KernelRfl
set_option linter.defProp false
namespace Wh
end Wh
open Wh
open Go Go.Ab
namespace Go.Proofs.Walk
noncomputable section
def bm:List (Nat×TI):=[(2,⟨(.int .i64),0⟩),(3,⟨(.int .i64),0⟩),(4,⟨.bool,0⟩),(5,⟨(.int .u8),0⟩),(6,⟨(.int .u8),0⟩),(7,⟨YE,1⟩),(8,⟨YE,1⟩),(9,⟨.str,0⟩),(10,⟨.str,0⟩),(11,⟨.str,0⟩),(12,⟨(.int .u64),0⟩),(13,⟨YF,0⟩),(14,⟨YF,0⟩),(21,⟨(.int .i32),0⟩),(247,⟨(.int .i32),0⟩),(246,⟨(.int .i32),0⟩),(245,⟨(.ref (.int .u8)),0⟩),(243,⟨(.int .u8),0⟩),(242,⟨(.int .u8),0⟩),(91,⟨(.int .u32),0⟩),(22,⟨(.lst (.int .u8)),0⟩),(23,⟨(.lst (.int .i64)),0⟩),(24,⟨g7,0⟩),(25,⟨g7,0⟩),(92,⟨gT,0⟩),(93,⟨gT,0⟩),(26,⟨(.lst gT),0⟩),(27,⟨fy,0⟩),(28,⟨fy,0⟩),(29,⟨r5,0⟩),(30,⟨r5,0⟩),(31,⟨bn,0⟩),(32,⟨bn,0⟩),(38,⟨eL,1⟩),(39,⟨eL,1⟩),(34,⟨(.lst eL),0⟩),(79,⟨dz,0⟩),(80,⟨dz,0⟩),(49,⟨(.ref dz),0⟩),(60,⟨(.lst .str),0⟩),(103,⟨an,1⟩),(104,⟨an,1⟩),(64,⟨(.lst an),0⟩),(65,⟨gv,0⟩),(66,⟨gv,0⟩),(174,⟨cg,1⟩),(175,⟨cg,1⟩),(67,⟨(.lst cg),0⟩),(68,⟨je,0⟩),(69,⟨je,0⟩),(132,⟨cw,1⟩),(133,⟨cw,1⟩),(70,⟨(.lst cw),0⟩),(155,⟨cp,1⟩),(156,⟨cp,1⟩),(71,⟨(.lst cp),0⟩),(72,⟨b7,0⟩),(73,⟨b7,0⟩),(74,⟨(.lst bn),0⟩),(105,⟨b9,1⟩),(106,⟨b9,1⟩),(75,⟨(.lst b9),0⟩),(76,⟨fN,0⟩),(77,⟨fN,0⟩),(108,⟨di,1⟩),(109,⟨di,1⟩),(99,⟨(.lst di),0⟩),(152,⟨Bp,1⟩),(153,⟨Bp,1⟩),(148,⟨(.lst Bp),0⟩),(229,⟨(.lst (.int .u32)),0⟩),(232,⟨(.int .u64),0⟩)]
def Gl:List (Nat×DV):=[]
abbrev Gb:jN:=jN.none
def gl_ok:∀g d,find Gl g=some d→∀w I,Gb.ok w I→af w I (.ref d.t) d.x [.pointer (some ⟨g,0,none⟩)]:=fun _ _ h=>by simp[Gl,find] at h
def tab_ok:cH (fun x=>(dw Tryz.prog x.2.t).1 x.1&&(!(Nat.beq x.2.e 1) || eqB Tryz.prog x.1)) bm=true:=by kernel_rfl
def ei (fns:List (Nat×List Ab.Mode×(List Arg→Option Res)))(dp:Bool):bR Tryz.prog ⟨bm,fns,dp,Gl⟩:=cxOk_of tab_ok
def mixed:Tryz.prog.follows .mixedOrders=true:=by kernel_rfl
abbrev FT:Type:=List (Nat×List Ab.Mode×(List Arg→Option Res))
abbrev FK (c:j4):Prop:=∀(fns:FT) {dp:Bool},eN Tryz.prog Gb ⟨bm,fns,dp,Gl⟩→eN Tryz.prog Gb ⟨bm,c.entry::fns,dp,Gl⟩
abbrev EV (C:Cx)(lt:List (Nat×bZ))(f:Func)(ps:List PT)(ws:List Want)(g:jf ps→Option (kY ws×jW ps)):Prop:=∀xs,evT C lt f ps ws xs=g xs
abbrev CO (c:j4):Prop:=ConOk Tryz.prog Gb c
abbrev LT:Type:=List (Nat×bZ)
def ia:LT:=[]
abbrev z0:Nat:=500000000
abbrev z1:Nat:=500000001
abbrev z2:Nat:=500000002
abbrev z3:Nat:=500000003
abbrev I6:Ty:=.int .i64
abbrev I8:Ty:=.int .u8
abbrev I3:Ty:=.int .u32
def nF:eN Tryz.prog Gb ⟨bm,[],false,Gl⟩:=eN.nil bm false gl_ok
def zx {α β:Type}[Inhabited β](f:α→Option β):∀x y,f x=some y→zog f x=y:=zv
def wl {c:j4}{F:FT}{b:Bool}{fn:Func}{Ls:List bZ}{lt:LT}(hv:∀x y,c.fn x=some y→c.val x=y)(hF:eN Tryz.prog Gb ⟨bm,F,b,Gl⟩)(hf:Tryz.prog.funcs[c.id]?=some fn)(hlo:lD ⟨bm,F,b,Gl⟩ lt fn 0 Ls)(hbx:∀b'∈h_ (jh fn),mj ⟨bm,F,b,Gl⟩ lt b')(jk:∀xs,evT ⟨bm,F,b,Gl⟩ lt fn c.ps c.ws xs=c.fn xs:=by intro xs;kernel_rfl)(he:fnB Tryz.prog c.id=true:=by kernel_rfl):FK c:=fun _ _ h=>h.cons c he hv (con_ok mixed (ei _ _) hF hf hlo hbx jk)
def QU:j4:=⟨21,[.v (.lst I8)],[.p dz],JY,zog JY⟩
def C_q135:Cx:=⟨bm,[],false,Gl⟩
def e_q135:EV C_q135 ia Tryz.f21 [.v (.lst I8)] [.p dz] JY:=by intro xs;kernel_rfl
def ake:CO QU:=con_ok (Ls:=[]) mixed (ei _ _) nF Tryz.func21 loopsL_nil boxesL_none e_q135
def ah_ (fns:List (Nat×List Ab.Mode×(List Arg→Option Res))){dp:Bool}(h:eN Tryz.prog Gb ⟨bm,fns,dp,Gl⟩):eN Tryz.prog Gb ⟨bm,QU.entry::fns,dp,Gl⟩:=h.cons QU (by kernel_rfl) (zv (f:=JY)) ake
def N5:j4:=⟨82,[],[.v (.pair (.own cg) (.pair I6 .unit))],He,zog He⟩
def C_q131:Cx:=⟨bm,[],false,Gl⟩
def e_q131:EV C_q131 ia Tryz.f82 [] [.v (.pair (.own cg) (.pair I6 .unit))] He:=by intro xs;kernel_rfl
def aka:CO N5:=con_ok (Ls:=[]) mixed (ei _ _) nF Tryz.func82 loopsL_nil boxesL_none e_q131
def aaA (fns:List (Nat×List Ab.Mode×(List Arg→Option Res))){dp:Bool}(h:eN Tryz.prog Gb ⟨bm,fns,dp,Gl⟩):eN Tryz.prog Gb ⟨bm,N5.entry::fns,dp,Gl⟩:=h.cons N5 (by kernel_rfl) (zv (f:=He)) aka
def Om:j4:=⟨83,[.v I6],[.v (.own cw)],Hr,zog Hr⟩
def C_q32:Cx:=⟨bm,[],false,Gl⟩
def Vm:bZ:=oP ⟨[(4,.leaf I6),(0,.leaf I6),(3,.whole z0 cw)],[(z0,false,.rows cw)]⟩ [((.exit 0),⟨[(3,.whole z0 cw)],[(z0,false,.rows cw)]⟩)] afk LR
def acq:LT:=[(3,Vm)]
def ano:∀x,round C_q32 acq (iY Tryz.f83 0) Vm x=LR x:=by intro x;kernel_rfl
def e_q32:EV C_q32 acq Tryz.f83 [.v I6] [.v (.own cw)] Hr:=by intro xs;kernel_rfl
def ok_q32:CO Om:=con_ok (Ls:=[Vm]) mixed (ei _ _) nF Tryz.func83 (loopsC (loopD_ok ano) loopsL_nil) boxesL_none e_q32
def aaS (fns:List (Nat×List Ab.Mode×(List Arg→Option Res))){dp:Bool}(h:eN Tryz.prog Gb ⟨bm,fns,dp,Gl⟩):eN Tryz.prog Gb ⟨bm,Om.entry::fns,dp,Gl⟩:=h.cons Om (by kernel_rfl) (zv (f:=Hr)) ok_q32
def Rx:j4:=⟨72,[],[.v (.pair .bool (.pair I6 (.pair .str (.pair (.pair I6 (.pair (.own an) .unit)) (.pair (.pair (.own cg) (.pair I6 .unit)) (.pair (.own cw) (.pair (.own cp) .unit)))))))],q40,zog q40⟩
def C_q40:Cx:=⟨bm,[Om.entry,N5.entry],false,Gl⟩
def e_q40:EV C_q40 ia Tryz.f72 [] [.v (.pair .bool (.pair I6 (.pair .str (.pair (.pair I6 (.pair (.own an) .unit)) (.pair (.pair (.own cg) (.pair I6 .unit)) (.pair (.own cw) (.pair (.own cp) .unit)))))))] q40:=by intro xs;kernel_rfl
def ok_q40:CO Rx:=con_ok (Ls:=[]) mixed (ei _ _) (aaS _ (aaA _ nF)) Tryz.func72 loopsL_nil boxesL_none e_q40
def fk_q40 (fns:List (Nat×List Ab.Mode×(List Arg→Option Res))){dp:Bool}(h:eN Tryz.prog Gb ⟨bm,fns,dp,Gl⟩):eN Tryz.prog Gb ⟨bm,Rx.entry::fns,dp,Gl⟩:=h.cons Rx (by kernel_rfl) (zv (f:=q40)) ok_q40
def BE:j4:=⟨31,[.v I6,.v I6,.v I6],[.v .bool],g8,zog g8⟩
def C_q185:Cx:=⟨bm,[],false,Gl⟩
def e_q185:EV C_q185 ia Tryz.f31 [.v I6,.v I6,.v I6] [.v .bool] g8:=by intro xs;kernel_rfl
def ak2:CO BE:=con_ok (Ls:=[]) mixed (ei _ _) nF Tryz.func31 loopsL_nil boxesL_none e_q185
def Cj (fns:List (Nat×List Ab.Mode×(List Arg→Option Res))){dp:Bool}(h:eN Tryz.prog Gb ⟨bm,fns,dp,Gl⟩):eN Tryz.prog Gb ⟨bm,BE.entry::fns,dp,Gl⟩:=h.cons BE (by kernel_rfl) (zv (f:=g8)) ak2
def Rv:j4:=⟨73,[.v I6],[.v (.pair I6 (.pair I6 (.pair I6 (.pair .str (.pair I6 (.pair (.pair (.pair I6 (.pair I6 (.pair (.own I6) (.pair (.own I6) .unit)))) (.pair (.pair I6 (.pair I6 (.pair (.own gT) .unit))) .unit)) .unit))))))],q38,zog q38⟩
def C_q38:Cx:=⟨bm,[BE.entry],false,Gl⟩
def e_q38:EV C_q38 ia Tryz.f73 [.v I6] [.v (.pair I6 (.pair I6 (.pair I6 (.pair .str (.pair I6 (.pair (.pair (.pair I6 (.pair I6 (.pair (.own I6) (.pair (.own I6) .unit)))) (.pair (.pair I6 (.pair I6 (.pair (.own gT) .unit))) .unit)) .unit))))))] q38:=by intro xs;kernel_rfl
def ok_q38:CO Rv:=con_ok (Ls:=[]) mixed (ei _ _) (Cj _ nF) Tryz.func73 loopsL_nil boxesL_none e_q38
def fk_q38 (fns:List (Nat×List Ab.Mode×(List Arg→Option Res))){dp:Bool}(h:eN Tryz.prog Gb ⟨bm,fns,dp,Gl⟩):eN Tryz.prog Gb ⟨bm,Rv.entry::fns,dp,Gl⟩:=h.cons Rv (by kernel_rfl) (zv (f:=q38)) ok_q38
def RP:j4:=⟨68,[],[.v fN],q64,zog q64⟩
def C_q64:Cx:=⟨bm,[Rv.entry,Rx.entry],false,Gl⟩
def Vf:bZ:=oP ⟨[(2,.leaf I6),(1,.aR z0 []),(0,.aR z1 [])],[(z0,false,.var fN (.pair (.pair (.leaf .bool) (.pair (.leaf I6) (.pair (.leaf .str) (.pair (.pair (.leaf I6) (.pair (.whole z2 an) (.leaf .unit))) (.pair (.pair (.whole z3 cg) (.leaf (.pair I6 .unit))) (.pair (.whole 500000004 cw) (.pair (.whole 500000005 cp) (.leaf .unit)))))))) (.pair (.whole 500000006 bn) (.pair (.whole 500000007 b9) (.pair (.whole 500000008 an) (.leaf .unit)))))),(z1,false,.var fN (.pair (.pair (.leaf .bool) (.pair (.leaf I6) (.pair (.leaf .str) (.pair (.pair (.leaf I6) (.pair (.whole 500000009 an) (.leaf .unit))) (.pair (.pair (.whole 500000010 cg) (.leaf (.pair I6 .unit))) (.pair (.whole 500000011 cw) (.pair (.whole 500000012 cp) (.leaf .unit)))))))) (.pair (.whole 500000013 bn) (.pair (.whole 500000014 b9) (.pair (.whole 500000015 an) (.leaf .unit)))))),(z2,false,.rows an),(z3,false,.rows cg),(500000004,false,.rows cw),(500000005,false,.rows cp),(500000006,false,.rows bn),(500000007,false,.rows b9),(500000008,false,.rows an),(500000009,false,.rows an),(500000010,false,.rows cg),(500000011,false,.rows cw),(500000012,false,.rows cp),(500000013,false,.rows bn),(500000014,false,.rows b9),(500000015,false,.rows an)]⟩ [((.exit 0),⟨[(0,.aR z0 []),(1,.aR z1 [])],[(z0,false,.var fN (.pair (.pair (.leaf .bool) (.pair (.leaf I6) (.pair (.leaf .str) (.pair (.pair (.leaf I6) (.pair (.whole z2 an) (.leaf .unit))) (.pair (.pair (.whole z3 cg) (.leaf (.pair I6 .unit))) (.pair (.whole 500000004 cw) (.pair (.whole 500000005 cp) (.leaf .unit)))))))) (.pair (.whole 500000006 bn) (.pair (.whole 500000007 b9) (.pair (.whole 500000008 an) (.leaf .unit)))))),(z1,false,.var fN (.pair (.pair (.leaf .bool) (.pair (.leaf I6) (.pair (.leaf .str) (.pair (.pair (.leaf I6) (.pair (.whole 500000009 an) (.leaf .unit))) (.pair (.pair (.whole 500000010 cg) (.leaf (.pair I6 .unit))) (.pair (.whole 500000011 cw) (.pair (.whole 500000012 cp) (.leaf .unit)))))))) (.pair (.whole 500000013 bn) (.pair (.whole 500000014 b9) (.pair (.whole 500000015 an) (.leaf .unit)))))),(z2,false,.rows an),(z3,false,.rows cg),(500000004,false,.rows cw),(500000005,false,.rows cp),(500000006,false,.rows bn),(500000007,false,.rows b9),(500000008,false,.rows an),(500000009,false,.rows an),(500000010,false,.rows cg),(500000011,false,.rows cw),(500000012,false,.rows cp),(500000013,false,.rows bn),(500000014,false,.rows b9),(500000015,false,.rows an)]⟩)] afM PK
def acA:LT:=[(3,Vf)]
def anh:∀x,round C_q64 acA (iY Tryz.f68 0) Vf x=PK x:=by intro x;kernel_rfl
def e_q64:EV C_q64 acA Tryz.f68 [] [.v fN] q64:=by intro xs;kernel_rfl
def ok_q64:CO RP:=con_ok (Ls:=[Vf]) mixed (ei _ _) (fk_q38 _ (fk_q40 _ nF)) Tryz.func68 (loopsC (loopD_ok anh) loopsL_nil) boxesL_none e_q64
def fk_q64 (fns:List (Nat×List Ab.Mode×(List Arg→Option Res))){dp:Bool}(h:eN Tryz.prog Gb ⟨bm,fns,dp,Gl⟩):eN Tryz.prog Gb ⟨bm,RP.entry::fns,dp,Gl⟩:=h.cons RP (by kernel_rfl) (zv (f:=q64)) ok_q64
def GL:j4:=⟨36,[.p dz,.v I6],[.v I6],m6,zog m6⟩
def C_q51:Cx:=⟨bm,[],false,Gl⟩
def e_q51:EV C_q51 ia Tryz.f36 [.p dz,.v I6] [.v I6] m6:=by intro xs;kernel_rfl
def ok_q51:CO GL:=con_ok (Ls:=[]) mixed (ei _ _) nF Tryz.func36 loopsL_nil boxesL_none e_q51
def KX (fns:List (Nat×List Ab.Mode×(List Arg→Option Res))){dp:Bool}(h:eN Tryz.prog Gb ⟨bm,fns,dp,Gl⟩):eN Tryz.prog Gb ⟨bm,GL.entry::fns,dp,Gl⟩:=h.cons GL (by kernel_rfl) (zv (f:=m6)) ok_q51
def QJ:j4:=⟨37,[.p dz,.v (.lst .str)],[.v .str],Lu,zog Lu⟩
def C_q112:Cx:=⟨bm,[GL.entry],false,Gl⟩
def e_q112:EV C_q112 ia Tryz.f37 [.p dz,.v (.lst .str)] [.v .str] Lu:=by intro xs;kernel_rfl
def ajS:CO QJ:=con_ok (Ls:=[]) mixed (ei _ _) (KX _ nF) Tryz.func37 loopsL_nil boxesL_none e_q112
def ah2 (fns:List (Nat×List Ab.Mode×(List Arg→Option Res))){dp:Bool}(h:eN Tryz.prog Gb ⟨bm,fns,dp,Gl⟩):eN Tryz.prog Gb ⟨bm,QJ.entry::fns,dp,Gl⟩:=h.cons QJ (by kernel_rfl) (zv (f:=Lu)) ajS
def HP:j4:=⟨74,[.v I6],[.v I6],BX,zog BX⟩
def C_q65:Cx:=⟨bm,[],false,Gl⟩
def e_q65:EV C_q65 ia Tryz.f74 [.v I6] [.v I6] BX:=by intro xs;kernel_rfl
def ok_q65:CO HP:=con_ok (Ls:=[]) mixed (ei _ _) nF Tryz.func74 loopsL_nil boxesL_none e_q65
def MH (fns:List (Nat×List Ab.Mode×(List Arg→Option Res))){dp:Bool}(h:eN Tryz.prog Gb ⟨bm,fns,dp,Gl⟩):eN Tryz.prog Gb ⟨bm,HP.entry::fns,dp,Gl⟩:=h.cons HP (by kernel_rfl) (zv (f:=BX)) ok_q65
def QH:j4:=⟨75,[.v .bool],[.v I6],JS,zog JS⟩
def C_q109:Cx:=⟨bm,[],false,Gl⟩
def e_q109:EV C_q109 ia Tryz.f75 [.v .bool] [.v I6] JS:=by intro xs;kernel_rfl
def ajQ:CO QH:=con_ok (Ls:=[]) mixed (ei _ _) nF Tryz.func75 loopsL_nil boxesL_none e_q109
def ah0 (fns:List (Nat×List Ab.Mode×(List Arg→Option Res))){dp:Bool}(h:eN Tryz.prog Gb ⟨bm,fns,dp,Gl⟩):eN Tryz.prog Gb ⟨bm,QH.entry::fns,dp,Gl⟩:=h.cons QH (by kernel_rfl) (zv (f:=JS)) ajQ
def RX:j4:=⟨76,[.p dz,.v I6],[.v .str],Hu,zog Hu⟩
def C_q74:Cx:=⟨bm,[GL.entry],false,Gl⟩
def Vy:bZ:=oP ⟨[(6,.leaf I6),(0,.aR 900 []),(5,.whole z0 I8),(1,.leaf I6)],[(900,false,.var dz (.leaf dz)),(z0,false,.rows I8)]⟩ [((.exit 0),⟨[(5,.whole z0 I8)],[(900,false,.var dz (.leaf dz)),(z0,false,.rows I8)]⟩)] afS PM
def acD:LT:=[(3,Vy)]
def anR:∀x,round C_q74 acD (iY Tryz.f76 0) Vy x=PM x:=by intro x;kernel_rfl
def e_q74:EV C_q74 acD Tryz.f76 [.p dz,.v I6] [.v .str] Hu:=by intro xs;kernel_rfl
def ok_q74:CO RX:=con_ok (Ls:=[Vy]) mixed (ei _ _) (KX _ nF) Tryz.func76 (loopsC (loopD_ok anR) loopsL_nil) boxesL_none e_q74
def fk_q74 (fns:List (Nat×List Ab.Mode×(List Arg→Option Res))){dp:Bool}(h:eN Tryz.prog Gb ⟨bm,fns,dp,Gl⟩):eN Tryz.prog Gb ⟨bm,RX.entry::fns,dp,Gl⟩:=h.cons RX (by kernel_rfl) (zv (f:=Hu)) ok_q74
def RU:j4:=⟨69,[.p dz,.v fN],[.v di],q72,zog q72⟩
def FZ:Cx:=⟨bm,[RX.entry,QH.entry,HP.entry,QJ.entry,GL.entry],false,Gl⟩
def ZD:bZ:=boxD ⟨[(0,.aR 900 []),(3,.aR z0 []),(4,.aR z1 []),(5,.leaf I6)],[(900,false,.var dz (.leaf dz)),(z0,false,.var fN (.leaf fN)),(z1,false,.var di (.leaf di))]⟩ [(.norm,⟨[(0,.aR 900 []),(3,.aR z0 []),(4,.aR z1 []),(5,.leaf I6)],[(900,false,.var dz (.leaf dz)),(z0,false,.var fN (.leaf fN)),(z1,false,.var di (.leaf di))]⟩)] q11 TD
def ZE:bZ:=boxD ⟨[(0,.aR 900 []),(7,.leaf I6),(3,.aR z0 []),(4,.aR z1 []),(6,.leaf .str),(5,.leaf I6)],[(900,false,.var dz (.leaf dz)),(z0,false,.var fN (.leaf fN)),(z1,false,.var di (.leaf di))]⟩ [(.norm,⟨[(4,.aR z0 []),(0,.aR 900 []),(7,.leaf I6),(6,.leaf .str),(5,.leaf I6),(3,.aR z1 [])],[(900,false,.var dz (.leaf dz)),(z0,false,.var di (.leaf di)),(z1,false,.var fN (.leaf fN))]⟩)] q12 TG
def Vw:bZ:=oP ⟨[(8,.leaf I6),(0,.aR 900 []),(7,.leaf I6),(3,.aR z0 []),(4,.aR z1 []),(6,.leaf .str),(5,.leaf I6)],[(900,false,.var dz (.leaf dz)),(z0,false,.var fN (.leaf fN)),(z1,false,.var di (.leaf di))]⟩ [((.exit 0),⟨[(4,.aR z0 []),(0,.aR 900 []),(7,.leaf I6),(6,.leaf .str),(5,.leaf I6),(3,.aR z1 [])],[(900,false,.var dz (.leaf dz)),(z0,false,.var di (.leaf di)),(z1,false,.var fN (.leaf fN))]⟩)] afO Nh
def ZF:bZ:=boxD ⟨[(4,.aR z0 []),(0,.aR 900 []),(7,.leaf I6),(6,.leaf .str),(5,.leaf I6),(3,.aR z1 [])],[(900,false,.var dz (.leaf dz)),(z0,false,.var di (.leaf di)),(z1,false,.var fN (.leaf fN))]⟩ [(.ret,⟨[(4,.aR z0 [])],[(900,false,.var dz (.leaf dz)),(z0,false,.var di (.leaf di))]⟩),(.norm,⟨[(4,.aR z0 []),(0,.aR 900 []),(6,.leaf .str),(7,.leaf I6),(5,.leaf I6)],[(900,false,.var dz (.leaf dz)),(z0,false,.var di (.leaf di))]⟩)] q13 TH
def ZG:bZ:=boxD ⟨[(4,.aR z0 []),(0,.aR 900 []),(6,.leaf .str),(7,.leaf I6),(5,.leaf I6),(100,.leaf I6)],[(900,false,.var dz (.leaf dz)),(z0,false,.var di (.leaf di))]⟩ [(.norm,⟨[(101,.leaf .bool),(4,.aR z0 []),(0,.aR 900 []),(6,.leaf .str),(7,.leaf I6),(5,.leaf I6),(100,.leaf I6)],[(900,false,.var dz (.leaf dz)),(z0,false,.var di (.leaf di))]⟩)] q14 TJ
def ZH:bZ:=boxD ⟨[(4,.aR z0 []),(6,.leaf .str),(7,.leaf I6),(0,.aR 900 []),(5,.leaf I6),(100,.leaf I6)],[(900,false,.var dz (.leaf dz)),(z0,false,.var di (.leaf di))]⟩ [(.norm,⟨[(131,.leaf .bool),(4,.aR z0 []),(6,.leaf .str),(7,.leaf I6),(0,.aR 900 []),(5,.leaf I6),(100,.leaf I6)],[(900,false,.var dz (.leaf dz)),(z0,false,.var di (.leaf di))]⟩)] q15 TK
def ZI:bZ:=boxD ⟨[(4,.aR z0 []),(0,.aR 900 []),(5,.leaf I6),(6,.leaf .str),(100,.leaf I6)],[(900,false,.var dz (.leaf dz)),(z0,false,.var di (.leaf di))]⟩ [(.norm,⟨[(148,.leaf .bool),(4,.aR z0 []),(0,.aR 900 []),(5,.leaf I6),(6,.leaf .str),(100,.leaf I6)],[(900,false,.var dz (.leaf dz)),(z0,false,.var di (.leaf di))]⟩)] q16 TL
def ZJ:bZ:=boxD ⟨[(4,.aR z0 []),(0,.aR 900 []),(5,.leaf I6),(6,.leaf .str),(100,.leaf I6)],[(900,false,.var dz (.leaf dz)),(z0,false,.var di (.leaf di))]⟩ [(.norm,⟨[(158,.leaf .bool),(4,.aR z0 []),(0,.aR 900 []),(5,.leaf I6),(6,.leaf .str),(100,.leaf I6)],[(900,false,.var dz (.leaf dz)),(z0,false,.var di (.leaf di))]⟩)] q17 TM
def ZK:bZ:=boxD ⟨[(4,.aR z0 []),(5,.leaf I6),(100,.leaf I6)],[(900,false,.var dz (.leaf dz)),(z0,false,.var di (.leaf di))]⟩ [(.norm,⟨[(201,.leaf .bool),(4,.aR z0 []),(5,.leaf I6),(100,.leaf I6)],[(900,false,.var dz (.leaf dz)),(z0,false,.var di (.leaf di))]⟩)] q18 TP
def ZL:bZ:=boxD ⟨[(4,.aR z0 []),(5,.leaf I6),(100,.leaf I6)],[(900,false,.var dz (.leaf dz)),(z0,false,.var di (.leaf di))]⟩ [(.norm,⟨[(205,.leaf .bool),(4,.aR z0 []),(5,.leaf I6)],[(900,false,.var dz (.leaf dz)),(z0,false,.var di (.leaf di))]⟩)] q19 TQ
def Ge:LT:=[(2000002,ZD),(2000006,ZE),(8,Vw),(2000013,ZF),(2000017,ZG),(2000023,ZH),(2000031,ZI),(2000040,ZJ),(2000052,ZK),(2000055,ZL)]
def anI:∀x,round FZ Ge (iY Tryz.f69 0) Vw x=Nh x:=by intro x;kernel_rfl
def anG:∀x,boxR FZ Ge (qD Tryz.f69 2) ZD x=q11 x:=by intro x;kernel_rfl
def anH:∀x,boxR FZ Ge (qD Tryz.f69 6) ZE x=q12 x:=by intro x;kernel_rfl
def anJ:∀x,boxR FZ Ge (qD Tryz.f69 14) ZF x=q13 x:=by intro x;kernel_rfl
def anK:∀x,boxR FZ Ge (qD Tryz.f69 20) ZG x=q14 x:=by intro x;kernel_rfl
def anL:∀x,boxR FZ Ge (qD Tryz.f69 26) ZH x=q15 x:=by intro x;kernel_rfl
def anM:∀x,boxR FZ Ge (qD Tryz.f69 34) ZI x=q16 x:=by intro x;kernel_rfl
def anN:∀x,boxR FZ Ge (qD Tryz.f69 43) ZJ x=q17 x:=by intro x;kernel_rfl
def anO:∀x,boxR FZ Ge (qD Tryz.f69 55) ZK x=q18 x:=by intro x;kernel_rfl
def anP:∀x,boxR FZ Ge (qD Tryz.f69 58) ZL x=q19 x:=by intro x;kernel_rfl
def e_q72:EV FZ Ge Tryz.f69 [.p dz,.v fN] [.v di] q72:=by intro xs;kernel_rfl
def ok_q72:CO RU:=con_ok (Ls:=[Vw]) mixed (ei _ _) (fk_q74 _ (ah0 _ (MH _ (ah2 _ (KX _ nF))))) Tryz.func69 (loopsC (loopD_ok anI) loopsL_nil) (boxes_of (ks:=[2,6,14,20,26,34,43,55,58]) (by kernel_rfl) (boxesL_cons (by kernel_rfl) anG q11_v (boxesL_cons (by kernel_rfl) anH q12_v (boxesL_cons (by kernel_rfl) anJ q13_v (boxesL_cons (by kernel_rfl) anK q14_v (boxesL_cons (by kernel_rfl) anL q15_v (boxesL_cons (by kernel_rfl) anM q16_v (boxesL_cons (by kernel_rfl) anN q17_v (boxesL_cons (by kernel_rfl) anO q18_v (boxesL_cons (by kernel_rfl) anP q19_v boxesL_nil)))))))))) e_q72
def fk_q72 (fns:List (Nat×List Ab.Mode×(List Arg→Option Res))){dp:Bool}(h:eN Tryz.prog Gb ⟨bm,fns,dp,Gl⟩):eN Tryz.prog Gb ⟨bm,RU.entry::fns,dp,Gl⟩:=h.cons RU (by kernel_rfl) (zv (f:=q72)) ok_q72
def Mo:j4:=⟨80,[.v gv],[.v (.pair I6 (.pair (.own an) .unit))],Gr,zog Gr⟩
def C_q152:Cx:=⟨bm,[],false,Gl⟩
def e_q152:EV C_q152 ia Tryz.f80 [.v gv] [.v (.pair I6 (.pair (.own an) .unit))] Gr:=by intro xs;kernel_rfl
def akv:CO Mo:=con_ok (Ls:=[]) mixed (ei _ _) nF Tryz.func80 loopsL_nil boxesL_none e_q152
def WV (fns:List (Nat×List Ab.Mode×(List Arg→Option Res))){dp:Bool}(h:eN Tryz.prog Gb ⟨bm,fns,dp,Gl⟩):eN Tryz.prog Gb ⟨bm,Mo.entry::fns,dp,Gl⟩:=h.cons Mo (by kernel_rfl) (zv (f:=Gr)) akv
def KQ:j4:=⟨81,[.v je],[.v (.pair (.own cg) (.pair I6 .unit))],FN,zog FN⟩
def C_q87:Cx:=⟨bm,[],false,Gl⟩
def e_q87:EV C_q87 ia Tryz.f81 [.v je] [.v (.pair (.own cg) (.pair I6 .unit))] FN:=by intro xs;kernel_rfl
def ok_q87:CO KQ:=con_ok (Ls:=[]) mixed (ei _ _) nF Tryz.func81 loopsL_nil boxesL_none e_q87
def SJ (fns:List (Nat×List Ab.Mode×(List Arg→Option Res))){dp:Bool}(h:eN Tryz.prog Gb ⟨bm,fns,dp,Gl⟩):eN Tryz.prog Gb ⟨bm,KQ.entry::fns,dp,Gl⟩:=h.cons KQ (by kernel_rfl) (zv (f:=FN)) ok_q87
def HQ:j4:=⟨71,[.v b7],[.v (.pair .bool (.pair I6 (.pair .str (.pair (.pair I6 (.pair (.own an) .unit)) (.pair (.pair (.own cg) (.pair I6 .unit)) (.pair (.own cw) (.pair (.own cp) .unit)))))))],E9,zog E9⟩
def C_q92:Cx:=⟨bm,[KQ.entry,Mo.entry],false,Gl⟩
def e_q92:EV C_q92 ia Tryz.f71 [.v b7] [.v (.pair .bool (.pair I6 (.pair .str (.pair (.pair I6 (.pair (.own an) .unit)) (.pair (.pair (.own cg) (.pair I6 .unit)) (.pair (.own cw) (.pair (.own cp) .unit)))))))] E9:=by intro xs;kernel_rfl
def ok_q92:CO HQ:=con_ok (Ls:=[]) mixed (ei _ _) (SJ _ (WV _ nF)) Tryz.func71 loopsL_nil boxesL_none e_q92
def MI (fns:List (Nat×List Ab.Mode×(List Arg→Option Res))){dp:Bool}(h:eN Tryz.prog Gb ⟨bm,fns,dp,Gl⟩):eN Tryz.prog Gb ⟨bm,HQ.entry::fns,dp,Gl⟩:=h.cons HQ (by kernel_rfl) (zv (f:=E9)) ok_q92
def Oe:j4:=⟨63,[.v g7],[.v (.pair I6 (.pair I6 (.pair (.own I6) (.pair (.own I6) .unit))))],Hh,zog Hh⟩
def C_q147:Cx:=⟨bm,[],false,Gl⟩
def e_q147:EV C_q147 ia Tryz.f63 [.v g7] [.v (.pair I6 (.pair I6 (.pair (.own I6) (.pair (.own I6) .unit))))] Hh:=by intro xs;kernel_rfl
def akq:CO Oe:=con_ok (Ls:=[]) mixed (ei _ _) nF Tryz.func63 loopsL_nil boxesL_none e_q147
def aaK (fns:List (Nat×List Ab.Mode×(List Arg→Option Res))){dp:Bool}(h:eN Tryz.prog Gb ⟨bm,fns,dp,Gl⟩):eN Tryz.prog Gb ⟨bm,Oe.entry::fns,dp,Gl⟩:=h.cons Oe (by kernel_rfl) (zv (f:=Hh)) akq
def N_:j4:=⟨64,[.v fy],[.v (.pair I6 (.pair I6 (.pair (.own gT) .unit)))],Ix,zog Ix⟩
def Y7:Cx:=⟨bm,[],false,Gl⟩
def VO:bZ:=oP ⟨[(4,.leaf I6),(3,.aR z0 []),(1,.aR z1 []),(2,.aR z2 [])],[(z0,false,.var fy (.pair (.leaf I6) (.pair (.leaf I6) (.pair (.whole z3 gT) (.leaf .unit))))),(z1,false,.var fy (.leaf fy)),(z2,false,.var fy (.pair (.leaf I6) (.pair (.leaf I6) (.pair (.whole 500000004 gT) (.leaf .unit))))),(z3,false,.rows gT),(500000004,false,.rows gT)]⟩ [((.exit 0),⟨[(2,.aR z0 []),(3,.aR z1 [])],[(z0,false,.var fy (.pair (.leaf I6) (.pair (.leaf I6) (.pair (.whole z2 gT) (.leaf .unit))))),(z1,false,.var fy (.pair (.leaf I6) (.pair (.leaf I6) (.pair (.whole z3 gT) (.leaf .unit))))),(z2,false,.rows gT),(z3,false,.rows gT)]⟩)] ad_ LB
def abW:LT:=[(3,VO)]
def an7:∀x,round Y7 abW (iY Tryz.f64 0) VO x=LB x:=by intro x;kernel_rfl
def e_q137:EV Y7 abW Tryz.f64 [.v fy] [.v (.pair I6 (.pair I6 (.pair (.own gT) .unit)))] Ix:=by intro xs;kernel_rfl
def akg:CO N_:=con_ok (Ls:=[VO]) mixed (ei _ _) nF Tryz.func64 (loopsC (loopD_ok an7) loopsL_nil) boxesL_none e_q137
def aaF (fns:List (Nat×List Ab.Mode×(List Arg→Option Res))){dp:Bool}(h:eN Tryz.prog Gb ⟨bm,fns,dp,Gl⟩):eN Tryz.prog Gb ⟨bm,N_.entry::fns,dp,Gl⟩:=h.cons N_ (by kernel_rfl) (zv (f:=Ix)) akg
def Od:j4:=⟨51,[.v r5],[.v (.pair (.pair I6 (.pair I6 (.pair (.own I6) (.pair (.own I6) .unit)))) (.pair (.pair I6 (.pair I6 (.pair (.own gT) .unit))) .unit))],J1,zog J1⟩
def C_q146:Cx:=⟨bm,[N_.entry,Oe.entry],false,Gl⟩
def e_q146:EV C_q146 ia Tryz.f51 [.v r5] [.v (.pair (.pair I6 (.pair I6 (.pair (.own I6) (.pair (.own I6) .unit)))) (.pair (.pair I6 (.pair I6 (.pair (.own gT) .unit))) .unit))] J1:=by intro xs;kernel_rfl
def akp:CO Od:=con_ok (Ls:=[]) mixed (ei _ _) (aaF _ (aaK _ nF)) Tryz.func51 loopsL_nil boxesL_none e_q146
def aaJ (fns:List (Nat×List Ab.Mode×(List Arg→Option Res))){dp:Bool}(h:eN Tryz.prog Gb ⟨bm,fns,dp,Gl⟩):eN Tryz.prog Gb ⟨bm,Od.entry::fns,dp,Gl⟩:=h.cons Od (by kernel_rfl) (zv (f:=J1)) akp
def KJ:j4:=⟨39,[.v bn],[.v (.pair I6 (.pair I6 (.pair I6 (.pair .str (.pair I6 (.pair (.pair (.pair I6 (.pair I6 (.pair (.own I6) (.pair (.own I6) .unit)))) (.pair (.pair I6 (.pair I6 (.pair (.own gT) .unit))) .unit)) .unit))))))],Gk,zog Gk⟩
def C_q102:Cx:=⟨bm,[Od.entry],false,Gl⟩
def e_q102:EV C_q102 ia Tryz.f39 [.v bn] [.v (.pair I6 (.pair I6 (.pair I6 (.pair .str (.pair I6 (.pair (.pair (.pair I6 (.pair I6 (.pair (.own I6) (.pair (.own I6) .unit)))) (.pair (.pair I6 (.pair I6 (.pair (.own gT) .unit))) .unit)) .unit))))))] Gk:=by intro xs;kernel_rfl
def ajJ:CO KJ:=con_ok (Ls:=[]) mixed (ei _ _) (aaJ _ nF) Tryz.func39 loopsL_nil boxesL_none e_q102
def SB (fns:List (Nat×List Ab.Mode×(List Arg→Option Res))){dp:Bool}(h:eN Tryz.prog Gb ⟨bm,fns,dp,Gl⟩):eN Tryz.prog Gb ⟨bm,KJ.entry::fns,dp,Gl⟩:=h.cons KJ (by kernel_rfl) (zv (f:=Gk)) ajJ
def NY:j4:=⟨67,[.v fN],[.v (.pair b7 (.pair (.own bn) (.pair (.own b9) (.pair (.own an) .unit))))],G9,zog G9⟩
def YX:Cx:=⟨bm,[KJ.entry,HQ.entry],false,Gl⟩
def Vt:bZ:=oP ⟨[(4,.leaf I6),(3,.aR z0 []),(1,.aR z1 []),(2,.aR z2 [])],[(z0,false,.var fN (.pair (.pair (.leaf .bool) (.pair (.leaf I6) (.pair (.leaf .str) (.pair (.pair (.leaf I6) (.pair (.whole z3 an) (.leaf .unit))) (.pair (.pair (.whole 500000004 cg) (.leaf (.pair I6 .unit))) (.pair (.whole 500000005 cw) (.pair (.whole 500000006 cp) (.leaf .unit)))))))) (.pair (.whole 500000007 bn) (.pair (.whole 500000008 b9) (.pair (.whole 500000009 an) (.leaf .unit)))))),(z1,false,.var fN (.leaf fN)),(z2,false,.var fN (.pair (.pair (.leaf .bool) (.pair (.leaf I6) (.pair (.leaf .str) (.pair (.pair (.leaf I6) (.pair (.whole 500000010 an) (.leaf .unit))) (.pair (.pair (.whole 500000011 cg) (.leaf (.pair I6 .unit))) (.pair (.whole 500000012 cw) (.pair (.whole 500000013 cp) (.leaf .unit)))))))) (.pair (.whole 500000014 bn) (.pair (.whole 500000015 b9) (.pair (.whole 500000016 an) (.leaf .unit)))))),(z3,false,.rows an),(500000004,false,.rows cg),(500000005,false,.rows cw),(500000006,false,.rows cp),(500000007,false,.rows bn),(500000008,false,.rows b9),(500000009,false,.rows an),(500000010,false,.rows an),(500000011,false,.rows cg),(500000012,false,.rows cw),(500000013,false,.rows cp),(500000014,false,.rows bn),(500000015,false,.rows b9),(500000016,false,.rows an)]⟩ [((.exit 0),⟨[(2,.aR z0 []),(3,.aR z1 [])],[(z0,false,.var fN (.pair (.pair (.leaf .bool) (.pair (.leaf I6) (.pair (.leaf .str) (.pair (.pair (.leaf I6) (.pair (.whole z2 an) (.leaf .unit))) (.pair (.pair (.whole z3 cg) (.leaf (.pair I6 .unit))) (.pair (.whole 500000004 cw) (.pair (.whole 500000005 cp) (.leaf .unit)))))))) (.pair (.whole 500000006 bn) (.pair (.whole 500000007 b9) (.pair (.whole 500000008 an) (.leaf .unit)))))),(z1,false,.var fN (.pair (.pair (.leaf .bool) (.pair (.leaf I6) (.pair (.leaf .str) (.pair (.pair (.leaf I6) (.pair (.whole 500000009 an) (.leaf .unit))) (.pair (.pair (.whole 500000010 cg) (.leaf (.pair I6 .unit))) (.pair (.whole 500000011 cw) (.pair (.whole 500000012 cp) (.leaf .unit)))))))) (.pair (.whole 500000013 bn) (.pair (.whole 500000014 b9) (.pair (.whole 500000015 an) (.leaf .unit)))))),(z2,false,.rows an),(z3,false,.rows cg),(500000004,false,.rows cw),(500000005,false,.rows cp),(500000006,false,.rows bn),(500000007,false,.rows b9),(500000008,false,.rows an),(500000009,false,.rows an),(500000010,false,.rows cg),(500000011,false,.rows cw),(500000012,false,.rows cp),(500000013,false,.rows bn),(500000014,false,.rows b9),(500000015,false,.rows an)]⟩)] adz PD
def abM:LT:=[(3,Vt)]
def anz:∀x,round YX abM (iY Tryz.f67 0) Vt x=PD x:=by intro x;kernel_rfl
def e_q106:EV YX abM Tryz.f67 [.v fN] [.v (.pair b7 (.pair (.own bn) (.pair (.own b9) (.pair (.own an) .unit))))] G9:=by intro xs;kernel_rfl
def ajN:CO NY:=con_ok (Ls:=[Vt]) mixed (ei _ _) (SB _ (MI _ nF)) Tryz.func67 (loopsC (loopD_ok anz) loopsL_nil) boxesL_none e_q106
def aau (fns:List (Nat×List Ab.Mode×(List Arg→Option Res))){dp:Bool}(h:eN Tryz.prog Gb ⟨bm,fns,dp,Gl⟩):eN Tryz.prog Gb ⟨bm,NY.entry::fns,dp,Gl⟩:=h.cons NY (by kernel_rfl) (zv (f:=G9)) ajN
def Mn:j4:=⟨118,[.v .str,.v I6,.v I8],[.v I6],Cn,zog Cn⟩
def Zc:Cx:=⟨bm,[],false,Gl⟩
def V7:bZ:=oP ⟨[(7,.leaf I6),(2,.leaf I8),(0,.leaf .str)],[]⟩ [(.ret,⟨[(6,.leaf I6)],[]⟩),((.exit 0),⟨[],[]⟩)] ael Fz
def ab2:LT:=[(2,V7)]
def aop:∀x,round Zc ab2 (iY Tryz.f118 0) V7 x=Fz x:=by intro x;kernel_rfl
def e_q148:EV Zc ab2 Tryz.f118 [.v .str,.v I6,.v I8] [.v I6] Cn:=by intro xs;kernel_rfl
def akr:CO Mn:=con_ok (Ls:=[V7]) mixed (ei _ _) nF Tryz.func118 (loopsC (loopD_ok aop) loopsL_nil) boxesL_none e_q148
def WU (fns:List (Nat×List Ab.Mode×(List Arg→Option Res))){dp:Bool}(h:eN Tryz.prog Gb ⟨bm,fns,dp,Gl⟩):eN Tryz.prog Gb ⟨bm,Mn.entry::fns,dp,Gl⟩:=h.cons Mn (by kernel_rfl) (zv (f:=Cn)) akr
def KL:j4:=⟨119,[.v .str,.v I8],[.v (.own .str)],Dp,zog Dp⟩
def Y_:Cx:=⟨bm,[],false,Gl⟩
def VZ:bZ:=oP ⟨[(7,.leaf I6),(6,.leaf I6),(0,.leaf .str),(5,.whole z0 .str),(1,.leaf I8)],[(z0,false,.rows .str)]⟩ [((.exit 0),⟨[(6,.leaf I6),(0,.leaf .str),(5,.whole z0 .str)],[(z0,false,.rows .str)]⟩)] aef Dq
def abZ:LT:=[(4,VZ)]
def aoh:∀x,round Y_ abZ (iY Tryz.f119 0) VZ x=Dq x:=by intro x;kernel_rfl
def e_q143:EV Y_ abZ Tryz.f119 [.v .str,.v I8] [.v (.own .str)] Dp:=by intro xs;kernel_rfl
def akm:CO KL:=con_ok (Ls:=[VZ]) mixed (ei _ _) nF Tryz.func119 (loopsC (loopD_ok aoh) loopsL_nil) boxesL_none e_q143
def SD (fns:List (Nat×List Ab.Mode×(List Arg→Option Res))){dp:Bool}(h:eN Tryz.prog Gb ⟨bm,fns,dp,Gl⟩):eN Tryz.prog Gb ⟨bm,KL.entry::fns,dp,Gl⟩:=h.cons KL (by kernel_rfl) (zv (f:=Dp)) akm
def Ji:j4:=⟨120,[.v .str],[.v I6],z9,zog z9⟩
def Zr:Cx:=⟨bm,[BE.entry],false,Gl⟩
def V2:bZ:=oP ⟨[(4,.leaf I6),(0,.leaf .str),(3,.leaf I6)],[]⟩ [(.ret,⟨[(2,.leaf I6)],[]⟩),((.exit 0),⟨[(3,.leaf I6)],[]⟩)] ae3 LN
def acj:LT:=[(5,V2)]
def aok:∀x,round Zr acj (iY Tryz.f120 0) V2 x=LN x:=by intro x;kernel_rfl
def e_q180:EV Zr acj Tryz.f120 [.v .str] [.v I6] z9:=by intro xs;kernel_rfl
def akX:CO Ji:=con_ok (Ls:=[V2]) mixed (ei _ _) (Cj _ nF) Tryz.func120 (loopsC (loopD_ok aok) loopsL_nil) boxesL_none e_q180
def OR (fns:List (Nat×List Ab.Mode×(List Arg→Option Res))){dp:Bool}(h:eN Tryz.prog Gb ⟨bm,fns,dp,Gl⟩):eN Tryz.prog Gb ⟨bm,Ji.entry::fns,dp,Gl⟩:=h.cons Ji (by kernel_rfl) (zv (f:=z9)) akX
def KK:j4:=⟨34,[.v .str],[.v .bool],DG,zog DG⟩
def Y4:Cx:=⟨bm,[BE.entry],false,Gl⟩
def U4:bZ:=oP ⟨[(3,.leaf I6),(0,.leaf .str)],[]⟩ [(.ret,⟨[(2,.leaf .bool)],[]⟩),((.exit 0),⟨[(0,.leaf .str)],[]⟩)] adY E3
def abT:LT:=[(2,U4)]
def am5:∀x,round Y4 abT (iY Tryz.f34 0) U4 x=E3 x:=by intro x;kernel_rfl
def e_q127:EV Y4 abT Tryz.f34 [.v .str] [.v .bool] DG:=by intro xs;kernel_rfl
def aj7:CO KK:=con_ok (Ls:=[U4]) mixed (ei _ _) (Cj _ nF) Tryz.func34 (loopsC (loopD_ok am5) loopsL_nil) boxesL_none e_q127
def SC (fns:List (Nat×List Ab.Mode×(List Arg→Option Res))){dp:Bool}(h:eN Tryz.prog Gb ⟨bm,fns,dp,Gl⟩):eN Tryz.prog Gb ⟨bm,KK.entry::fns,dp,Gl⟩:=h.cons KK (by kernel_rfl) (zv (f:=DG)) aj7
def Jg:j4:=⟨23,[.v eL],[.v .bool],Ed,zog Ed⟩
def C_q130:Cx:=⟨bm,[KK.entry,BE.entry],false,Gl⟩
def e_q130:EV C_q130 ia Tryz.f23 [.v eL] [.v .bool] Ed:=by intro xs;kernel_rfl
def aj_:CO Jg:=con_ok (Ls:=[]) mixed (ei _ _) (SC _ (Cj _ nF)) Tryz.func23 loopsL_nil boxesL_none e_q130
def OP (fns:List (Nat×List Ab.Mode×(List Arg→Option Res))){dp:Bool}(h:eN Tryz.prog Gb ⟨bm,fns,dp,Gl⟩):eN Tryz.prog Gb ⟨bm,Jg.entry::fns,dp,Gl⟩:=h.cons Jg (by kernel_rfl) (zv (f:=Ed)) aj_
def HM:j4:=⟨139,[.v I6],[.v .str],z5,zog z5⟩
def NV (g:((Int))→Option (((List UInt8))×(Unit)))(g':((Int))→((List UInt8))×(Unit)):j4:=⟨139,[.v I6],[.v .str],g,g'⟩
def C_q169 (g:((Int))→Option (((List UInt8))×(Unit)))(g':((Int))→((List UInt8))×(Unit)):Cx:=⟨bm,[(NV g g').entry],false,Gl⟩
def e_q169 (g:((Int))→Option (((List UInt8))×(Unit)))(g':((Int))→((List UInt8))×(Unit)):∀xs,evT (C_q169 g g') ia Tryz.f139 [.v I6] [.v .str] xs=q36 g g' xs:=by intro xs;kernel_rfl
def s_q169 (g:((Int))→Option (((List UInt8))×(Unit)))(g':((Int))→((List UInt8))×(Unit))(hv:∀x y,g x=some y→g' x=y)(h:CO (NV g g')):CO (NV (q36 g g') (fun x=>match q36 g g' x with | some y=>y|none=>default)):=con_ok (Ls:=[]) mixed (ei _ _) (eN.cons nF (NV g g') (by kernel_rfl) hv h) Tryz.func139 loopsL_nil boxesL_none (e_q169 g g')
def n_q169 (n:Nat):CO (NV (E0 n) (fun x=>match E0 n x with | some y=>y|none=>default)):=by
 induction n with
 |zero=>intro xs y h;exact absurd (show none=some y from h) (by simp)
 |succ n ih=>
  rw[Yg n]
  exact s_q169 _ _ (fun x y h=>by simp only[h]) ih
def akM:CO HM:=n_q169 20
def MD (fns:List (Nat×List Ab.Mode×(List Arg→Option Res))){dp:Bool}(h:eN Tryz.prog Gb ⟨bm,fns,dp,Gl⟩):eN Tryz.prog Gb ⟨bm,HM.entry::fns,dp,Gl⟩:=h.cons HM (by kernel_rfl) (zv (f:=z5)) akM
def QL:j4:=⟨125,[.v eL],[.v .str],Lx,zog Lx⟩
def C_q116:Cx:=⟨bm,[HM.entry],false,Gl⟩
def e_q116:EV C_q116 ia Tryz.f125 [.v eL] [.v .str] Lx:=by intro xs;kernel_rfl
def ajW:CO QL:=con_ok (Ls:=[]) mixed (ei _ _) (MD _ nF) Tryz.func125 loopsL_nil boxesL_none e_q116
def ah4 (fns:List (Nat×List Ab.Mode×(List Arg→Option Res))){dp:Bool}(h:eN Tryz.prog Gb ⟨bm,fns,dp,Gl⟩):eN Tryz.prog Gb ⟨bm,QL.entry::fns,dp,Gl⟩:=h.cons QL (by kernel_rfl) (zv (f:=Lx)) ajW
def Rf:j4:=⟨126,[.v .str],[.v .str],Kd,zog Kd⟩
def UK:Cx:=⟨bm,[HM.entry],false,Gl⟩
def V8:bZ:=oP ⟨[(4,.leaf I6),(0,.leaf .str),(3,.leaf I6)],[]⟩ [((.exit 0),⟨[(3,.leaf I6)],[]⟩)] ae5 PG
def V9:bZ:=oP ⟨[(5,.leaf .str)],[]⟩ [((.exit 2),⟨[(5,.leaf .str)],[]⟩)] ae7 Nc
def XJ:LT:=[(3,V8),(7,V9)]
def aoq:∀x,round UK XJ (iY Tryz.f126 0) V8 x=PG x:=by intro x;kernel_rfl
def aor:∀x,round UK XJ (iY Tryz.f126 1) V9 x=Nc x:=by intro x;kernel_rfl
def e_q182:EV UK XJ Tryz.f126 [.v .str] [.v .str] Kd:=by intro xs;kernel_rfl
def akZ:CO Rf:=con_ok (Ls:=[V8,V9]) mixed (ei _ _) (MD _ nF) Tryz.func126 (loopsC (loopD_ok aoq) (loopsC (loopD_ok aor) loopsL_nil)) boxesL_none e_q182
def aiw (fns:List (Nat×List Ab.Mode×(List Arg→Option Res))){dp:Bool}(h:eN Tryz.prog Gb ⟨bm,fns,dp,Gl⟩):eN Tryz.prog Gb ⟨bm,Rf.entry::fns,dp,Gl⟩:=h.cons Rf (by kernel_rfl) (zv (f:=Kd)) akZ
def On:j4:=⟨99,[.v eL],[.v .str],Hs,zog Hs⟩
def C_q43:Cx:=⟨bm,[Rf.entry,QL.entry,Jg.entry],false,Gl⟩
def e_q43:EV C_q43 ia Tryz.f99 [.v eL] [.v .str] Hs:=by intro xs;kernel_rfl
def ok_q43:CO On:=con_ok (Ls:=[]) mixed (ei _ _) (aiw _ (ah4 _ (OP _ nF))) Tryz.func99 loopsL_nil boxesL_none e_q43
def aaT (fns:List (Nat×List Ab.Mode×(List Arg→Option Res))){dp:Bool}(h:eN Tryz.prog Gb ⟨bm,fns,dp,Gl⟩):eN Tryz.prog Gb ⟨bm,On.entry::fns,dp,Gl⟩:=h.cons On (by kernel_rfl) (zv (f:=Hs)) ok_q43
def RO:j4:=⟨95,[.v .str],[.v eL,.v .bool],q63,zog q63⟩
def C_q63:Cx:=⟨bm,[On.entry,Jg.entry,Ji.entry,KL.entry,Mn.entry],false,Gl⟩
def e_q63:EV C_q63 ia Tryz.f95 [.v .str] [.v eL,.v .bool] q63:=by intro xs;kernel_rfl
def ok_q63:CO RO:=con_ok (Ls:=[]) mixed (ei _ _) (aaT _ (OP _ (OR _ (SD _ (WU _ nF))))) Tryz.func95 loopsL_nil boxesL_none e_q63
def fk_q63 (fns:List (Nat×List Ab.Mode×(List Arg→Option Res))){dp:Bool}(h:eN Tryz.prog Gb ⟨bm,fns,dp,Gl⟩):eN Tryz.prog Gb ⟨bm,RO.entry::fns,dp,Gl⟩:=h.cons RO (by kernel_rfl) (zv (f:=q63)) ok_q63
def R0:j4:=⟨185,[.v .str],[.v (.own I8)],q77,zog q77⟩
def UN:Cx:=⟨bm,[],false,Gl⟩
def VE:bZ:=oP ⟨[(3,.whole z0 I8),(0,.leaf .str)],[(z0,false,.rows I8)]⟩ [((.exit 0),⟨[(3,.whole z0 I8),(0,.leaf .str)],[(z0,false,.rows I8)]⟩)] afU LW
def VF:bZ:=oP ⟨[(5,.leaf I6),(4,.leaf I6),(3,.whole z0 I8)],[(z0,false,.rows I8)]⟩ [((.exit 2),⟨[(3,.whole z0 I8)],[(z0,false,.rows I8)]⟩)] afW Ni
def XM:LT:=[(2,VE),(6,VF)]
def anX:∀x,round UN XM (iY Tryz.f185 0) VE x=LW x:=by intro x;kernel_rfl
def anY:∀x,round UN XM (iY Tryz.f185 1) VF x=Ni x:=by intro x;kernel_rfl
def e_q77:EV UN XM Tryz.f185 [.v .str] [.v (.own I8)] q77:=by intro xs;kernel_rfl
def ok_q77:CO R0:=con_ok (Ls:=[VE,VF]) mixed (ei _ _) nF Tryz.func185 (loopsC (loopD_ok anX) (loopsC (loopD_ok anY) loopsL_nil)) boxesL_none e_q77
def fk_q77 (fns:List (Nat×List Ab.Mode×(List Arg→Option Res))){dp:Bool}(h:eN Tryz.prog Gb ⟨bm,fns,dp,Gl⟩):eN Tryz.prog Gb ⟨bm,R0.entry::fns,dp,Gl⟩:=h.cons R0 (by kernel_rfl) (zv (f:=q77)) ok_q77
def N9:j4:=⟨189,[.v I3,.v I6],[.v I3],wm,zog wm⟩
def C_q136:Cx:=⟨bm,[],false,Gl⟩
def e_q136:EV C_q136 ia Tryz.f189 [.v I3,.v I6] [.v I3] wm:=by intro xs;kernel_rfl
def akf:CO N9:=con_ok (Ls:=[]) mixed (ei _ _) nF Tryz.func189 loopsL_nil boxesL_none e_q136
def aaE (fns:List (Nat×List Ab.Mode×(List Arg→Option Res))){dp:Bool}(h:eN Tryz.prog Gb ⟨bm,fns,dp,Gl⟩):eN Tryz.prog Gb ⟨bm,N9.entry::fns,dp,Gl⟩:=h.cons N9 (by kernel_rfl) (zv (f:=wm)) akf
def QK:j4:=⟨187,[.v (.lst I8)],[.v (.own I3)],Lv,zog Lv⟩
def UH:Cx:=⟨bm,[N9.entry],false,Gl⟩
def VI:bZ:=oP ⟨[(4,.leaf I6),(0,.leaf (.lst I8)),(3,.whole z0 I3)],[(z0,false,.rows I3)]⟩ [((.exit 0),⟨[(3,.whole z0 I3)],[(z0,false,.rows I3)]⟩)] adK M8
def VJ:bZ:=oP ⟨[(5,.leaf I6),(3,.whole z0 I3)],[(z0,false,.rows I3)]⟩ [((.exit 2),⟨[(3,.whole z0 I3)],[(z0,false,.rows I3)]⟩)] adM M9
def XG:LT:=[(3,VI),(7,VJ)]
def an1:∀x,round UH XG (iY Tryz.f187 0) VI x=M8 x:=by intro x;kernel_rfl
def an2:∀x,round UH XG (iY Tryz.f187 1) VJ x=M9 x:=by intro x;kernel_rfl
def e_q113:EV UH XG Tryz.f187 [.v (.lst I8)] [.v (.own I3)] Lv:=by intro xs;kernel_rfl
def ajT:CO QK:=con_ok (Ls:=[VI,VJ]) mixed (ei _ _) (aaE _ nF) Tryz.func187 (loopsC (loopD_ok an1) (loopsC (loopD_ok an2) loopsL_nil)) boxesL_none e_q113
def ah3 (fns:List (Nat×List Ab.Mode×(List Arg→Option Res))){dp:Bool}(h:eN Tryz.prog Gb ⟨bm,fns,dp,Gl⟩):eN Tryz.prog Gb ⟨bm,QK.entry::fns,dp,Gl⟩:=h.cons QK (by kernel_rfl) (zv (f:=Lv)) ajT
def RZ:j4:=⟨188,[],[.v (.own I3)],q76,zog q76⟩
def C_q76:Cx:=⟨bm,[],false,Gl⟩
def e_q76:EV C_q76 ia Tryz.f188 [] [.v (.own I3)] q76:=by intro xs;kernel_rfl
def ok_q76:CO RZ:=con_ok (Ls:=[]) mixed (ei _ _) nF Tryz.func188 loopsL_nil boxesL_none e_q76
def fk_q76 (fns:List (Nat×List Ab.Mode×(List Arg→Option Res))){dp:Bool}(h:eN Tryz.prog Gb ⟨bm,fns,dp,Gl⟩):eN Tryz.prog Gb ⟨bm,RZ.entry::fns,dp,Gl⟩:=h.cons RZ (by kernel_rfl) (zv (f:=q76)) ok_q76
def QI:j4:=⟨186,[.v (.lst I3),.v (.lst I8)],[.v (.own I3)],JT,zog JT⟩
def Qw:Cx:=⟨bm,[N9.entry,RZ.entry,QK.entry],false,Gl⟩
def Vz:bZ:=oP ⟨[(7,.whole z0 I3),(8,.leaf I6),(5,.whole z1 I3),(6,.whole z2 I3),(0,.leaf (.lst I3))],[(z0,false,.rows I3),(z1,false,.rows I3),(z2,false,.rows I3)]⟩ [((.exit 0),⟨[(7,.whole z0 I3),(0,.leaf (.lst I3))],[(z0,false,.rows I3)]⟩)] adF M7
def VA:bZ:=oP ⟨[(14,.leaf I6),(7,.whole z0 I3),(5,.whole z1 I3),(6,.whole z2 I3),(0,.leaf (.lst I3)),(8,.leaf I6),(13,.leaf I3),(12,.leaf I3),(11,.leaf I3)],[(z0,false,.rows I3),(z1,false,.rows I3),(z2,false,.rows I3)]⟩ [((.exit 2),⟨[(7,.whole z0 I3),(5,.whole z1 I3),(6,.whole z2 I3),(0,.leaf (.lst I3)),(8,.leaf I6),(13,.leaf I3),(12,.leaf I3),(11,.leaf I3)],[(z0,false,.rows I3),(z1,false,.rows I3),(z2,false,.rows I3)]⟩)] Yf TE
def VB:bZ:=oP ⟨[(16,.leaf I6),(7,.whole z0 I3),(0,.leaf (.lst I3)),(15,.whole z1 I3)],[(z0,false,.rows I3),(z1,false,.rows I3)]⟩ [((.exit 4),⟨[(15,.whole z0 I3)],[(z0,false,.rows I3)]⟩)] adI TF
def Tf:LT:=[(5,Vz),(13,VA),(20,VB)]
def anS:∀x,round Qw Tf (iY Tryz.f186 0) Vz x=M7 x:=by intro x;kernel_rfl
def anT:∀x,round Qw Tf (iY Tryz.f186 1) VA x=TE x:=by intro x;kernel_rfl
def anU:∀x,round Qw Tf (iY Tryz.f186 2) VB x=TF x:=by intro x;kernel_rfl
def e_q110:EV Qw Tf Tryz.f186 [.v (.lst I3),.v (.lst I8)] [.v (.own I3)] JT:=by intro xs;kernel_rfl
def ajR:CO QI:=con_ok (Ls:=[Vz,VA,VB]) mixed (ei _ _) (aaE _ (fk_q76 _ (ah3 _ nF))) Tryz.func186 (loopsC (loopD_ok anS) (loopsC (loopD_ok anT) (loopsC (loopD_ok anU) loopsL_nil))) boxesL_none e_q110
def ah1 (fns:List (Nat×List Ab.Mode×(List Arg→Option Res))){dp:Bool}(h:eN Tryz.prog Gb ⟨bm,fns,dp,Gl⟩):eN Tryz.prog Gb ⟨bm,QI.entry::fns,dp,Gl⟩:=h.cons QI (by kernel_rfl) (zv (f:=JT)) ajR
def Q_:j4:=⟨183,[.v .str],[.v .str],J9,zog J9⟩
def UI:Cx:=⟨bm,[QI.entry,R0.entry],false,Gl⟩
def VG:bZ:=oP ⟨[(5,.leaf I6),(4,.whole z0 I8),(3,.whole z1 I3)],[(z0,false,.rows I8),(z1,false,.rows I3)]⟩ [((.exit 0),⟨[(3,.whole z0 I3)],[(z0,false,.rows I3)]⟩)] aeH LH
def VH:bZ:=oP ⟨[(7,.leaf I6),(3,.whole z0 I3),(6,.whole z1 I8)],[(z0,false,.rows I3),(z1,false,.rows I8)]⟩ [((.exit 2),⟨[(6,.whole z0 I8)],[(z0,false,.rows I8)]⟩)] aeJ TN
def XH:LT:=[(4,VG),(9,VH)]
def anZ:∀x,round UI XH (iY Tryz.f183 0) VG x=LH x:=by intro x;kernel_rfl
def an0:∀x,round UI XH (iY Tryz.f183 1) VH x=TN x:=by intro x;kernel_rfl
def e_q171:EV UI XH Tryz.f183 [.v .str] [.v .str] J9:=by intro xs;kernel_rfl
def akO:CO Q_:=con_ok (Ls:=[VG,VH]) mixed (ei _ _) (ah1 _ (fk_q77 _ nF)) Tryz.func183 (loopsC (loopD_ok anZ) (loopsC (loopD_ok an0) loopsL_nil)) boxesL_none e_q171
def aiq (fns:List (Nat×List Ab.Mode×(List Arg→Option Res))){dp:Bool}(h:eN Tryz.prog Gb ⟨bm,fns,dp,Gl⟩):eN Tryz.prog Gb ⟨bm,Q_.entry::fns,dp,Gl⟩:=h.cons Q_ (by kernel_rfl) (zv (f:=J9)) akO
def Q9:j4:=⟨182,[.v .str],[.v .str],Hp,zog Hp⟩
def Zj:Cx:=⟨bm,[],false,Gl⟩
def VC:bZ:=oP ⟨[(4,.leaf I6),(0,.leaf .str),(3,.whole z0 I8)],[(z0,false,.rows I8)]⟩ [((.exit 0),⟨[(3,.whole z0 I8)],[(z0,false,.rows I8)]⟩)] aeF LG
def ab9:LT:=[(3,VC)]
def anV:∀x,round Zj ab9 (iY Tryz.f182 0) VC x=LG x:=by intro x;kernel_rfl
def e_q170:EV Zj ab9 Tryz.f182 [.v .str] [.v .str] Hp:=by intro xs;kernel_rfl
def akN:CO Q9:=con_ok (Ls:=[VC]) mixed (ei _ _) nF Tryz.func182 (loopsC (loopD_ok anV) loopsL_nil) boxesL_none e_q170
def aip (fns:List (Nat×List Ab.Mode×(List Arg→Option Res))){dp:Bool}(h:eN Tryz.prog Gb ⟨bm,fns,dp,Gl⟩):eN Tryz.prog Gb ⟨bm,Q9.entry::fns,dp,Gl⟩:=h.cons Q9 (by kernel_rfl) (zv (f:=Hp)) akN
def R6:j4:=⟨174,[.v .str],[.v .str],q83,zog q83⟩
def C_q83:Cx:=⟨bm,[Q9.entry,Q_.entry],false,Gl⟩
def e_q83:EV C_q83 ia Tryz.f174 [.v .str] [.v .str] q83:=by intro xs;kernel_rfl
def ok_q83:CO R6:=con_ok (Ls:=[]) mixed (ei _ _) (aip _ (aiq _ nF)) Tryz.func174 loopsL_nil boxesL_none e_q83
def fk_q83 (fns:List (Nat×List Ab.Mode×(List Arg→Option Res))){dp:Bool}(h:eN Tryz.prog Gb ⟨bm,fns,dp,Gl⟩):eN Tryz.prog Gb ⟨bm,R6.entry::fns,dp,Gl⟩:=h.cons R6 (by kernel_rfl) (zv (f:=q83)) ok_q83
def Of:j4:=⟨159,[.v I6,.v .str],[.v .str],Hi,zog Hi⟩
def C_q149:Cx:=⟨bm,[R6.entry,HM.entry],false,Gl⟩
def e_q149:EV C_q149 ia Tryz.f159 [.v I6,.v .str] [.v .str] Hi:=by intro xs;kernel_rfl
def aks:CO Of:=con_ok (Ls:=[]) mixed (ei _ _) (fk_q83 _ (MD _ nF)) Tryz.func159 loopsL_nil boxesL_none e_q149
def aaL (fns:List (Nat×List Ab.Mode×(List Arg→Option Res))){dp:Bool}(h:eN Tryz.prog Gb ⟨bm,fns,dp,Gl⟩):eN Tryz.prog Gb ⟨bm,Of.entry::fns,dp,Gl⟩:=h.cons Of (by kernel_rfl) (zv (f:=Hi)) aks
def QZ:j4:=⟨148,[.v .str,.v I6,.v I6],[.v .str,.v I6],IB,zog IB⟩
def C_q150:Cx:=⟨bm,[Of.entry,BE.entry,Ji.entry,Mn.entry],false,Gl⟩
def e_q150:EV C_q150 ia Tryz.f148 [.v .str,.v I6,.v I6] [.v .str,.v I6] IB:=by intro xs;kernel_rfl
def akt:CO QZ:=con_ok (Ls:=[]) mixed (ei _ _) (aaL _ (Cj _ (OR _ (WU _ nF)))) Tryz.func148 loopsL_nil boxesL_none e_q150
def aie (fns:List (Nat×List Ab.Mode×(List Arg→Option Res))){dp:Bool}(h:eN Tryz.prog Gb ⟨bm,fns,dp,Gl⟩):eN Tryz.prog Gb ⟨bm,QZ.entry::fns,dp,Gl⟩:=h.cons QZ (by kernel_rfl) (zv (f:=IB)) akt
def Jh:j4:=⟨116,[.v .str],[.v (.own .str),.v I6],E5,zog E5⟩
def Zd:Cx:=⟨bm,[QZ.entry],false,Gl⟩
def V_:bZ:=oP ⟨[(5,.leaf I6),(4,.whole z0 .str),(0,.leaf .str)],[(z0,false,.rows .str)]⟩ [(.ret,⟨[(2,.whole z0 .str),(3,.leaf I6)],[(z0,false,.rows .str)]⟩)] aen LC
def ab3:LT:=[(3,V_)]
def aos:∀x,round Zd ab3 (iY Tryz.f116 0) V_ x=LC x:=by intro x;kernel_rfl
def e_q151:EV Zd ab3 Tryz.f116 [.v .str] [.v (.own .str),.v I6] E5:=by intro xs;kernel_rfl
def aku:CO Jh:=con_ok (Ls:=[V_]) mixed (ei _ _) (aie _ nF) Tryz.func116 (loopsC (loopD_ok aos) loopsL_nil) boxesL_none e_q151
def OQ (fns:List (Nat×List Ab.Mode×(List Arg→Option Res))){dp:Bool}(h:eN Tryz.prog Gb ⟨bm,fns,dp,Gl⟩):eN Tryz.prog Gb ⟨bm,Jh.entry::fns,dp,Gl⟩:=h.cons Jh (by kernel_rfl) (zv (f:=E5)) aku
def Mw:j4:=⟨134,[.v an],[.v .bool],Gu,zog Gu⟩
def C_q187:Cx:=⟨bm,[KK.entry,BE.entry],false,Gl⟩
def e_q187:EV C_q187 ia Tryz.f134 [.v an] [.v .bool] Gu:=by intro xs;kernel_rfl
def ak4:CO Mw:=con_ok (Ls:=[]) mixed (ei _ _) (SC _ (Cj _ nF)) Tryz.func134 loopsL_nil boxesL_none e_q187
def W5 (fns:List (Nat×List Ab.Mode×(List Arg→Option Res))){dp:Bool}(h:eN Tryz.prog Gb ⟨bm,fns,dp,Gl⟩):eN Tryz.prog Gb ⟨bm,Mw.entry::fns,dp,Gl⟩:=h.cons Mw (by kernel_rfl) (zv (f:=Gu)) ak4
def KO:j4:=⟨103,[.v I6,.v .str,.v .str],[.v .str],EE,zog EE⟩
def C_q37:Cx:=⟨bm,[HM.entry,Mw.entry],false,Gl⟩
def e_q37:EV C_q37 ia Tryz.f103 [.v I6,.v .str,.v .str] [.v .str] EE:=by intro xs;kernel_rfl
def ok_q37:CO KO:=con_ok (Ls:=[]) mixed (ei _ _) (MD _ (W5 _ nF)) Tryz.func103 loopsL_nil boxesL_none e_q37
def SG (fns:List (Nat×List Ab.Mode×(List Arg→Option Res))){dp:Bool}(h:eN Tryz.prog Gb ⟨bm,fns,dp,Gl⟩):eN Tryz.prog Gb ⟨bm,KO.entry::fns,dp,Gl⟩:=h.cons KO (by kernel_rfl) (zv (f:=EE)) ok_q37
def Og:j4:=⟨157,[.v an,.v I6,.v .str],[.v .bool],IC,zog IC⟩
def C_q154:Cx:=⟨bm,[],false,Gl⟩
def e_q154:EV C_q154 ia Tryz.f157 [.v an,.v I6,.v .str] [.v .bool] IC:=by intro xs;kernel_rfl
def akx:CO Og:=con_ok (Ls:=[]) mixed (ei _ _) nF Tryz.func157 loopsL_nil boxesL_none e_q154
def aaM (fns:List (Nat×List Ab.Mode×(List Arg→Option Res))){dp:Bool}(h:eN Tryz.prog Gb ⟨bm,fns,dp,Gl⟩):eN Tryz.prog Gb ⟨bm,Og.entry::fns,dp,Gl⟩:=h.cons Og (by kernel_rfl) (zv (f:=IC)) akx
def NZ:j4:=⟨136,[.v (.lst an),.v I6],[.v I6],Is,zog Is⟩
def Y0:Cx:=⟨bm,[],false,Gl⟩
def Wb:bZ:=oP ⟨[(6,.leaf I6),(0,.leaf (.lst an)),(5,.leaf I6),(1,.leaf I6)],[]⟩ [((.exit 0),⟨[(5,.leaf I6)],[]⟩)] adQ JU
def abP:LT:=[(3,Wb)]
def aou:∀x,round Y0 abP (iY Tryz.f136 0) Wb x=JU x:=by intro x;kernel_rfl
def e_q117:EV Y0 abP Tryz.f136 [.v (.lst an),.v I6] [.v I6] Is:=by intro xs;kernel_rfl
def ajX:CO NZ:=con_ok (Ls:=[Wb]) mixed (ei _ _) nF Tryz.func136 (loopsC (loopD_ok aou) loopsL_nil) boxesL_none e_q117
def aav (fns:List (Nat×List Ab.Mode×(List Arg→Option Res))){dp:Bool}(h:eN Tryz.prog Gb ⟨bm,fns,dp,Gl⟩):eN Tryz.prog Gb ⟨bm,NZ.entry::fns,dp,Gl⟩:=h.cons NZ (by kernel_rfl) (zv (f:=Is)) ajX
def Mr:j4:=⟨133,[.v gv],[.v .bool],Hl,zog Hl⟩
def Qy:Cx:=⟨bm,[NZ.entry,Og.entry,Mw.entry,BE.entry],false,Gl⟩
def U0:bZ:=oP ⟨[(1,.aR z0 []),(3,.leaf I6)],[(z0,false,.var gv (.leaf gv))]⟩ [(.ret,⟨[(2,.leaf .bool)],[]⟩),((.exit 0),⟨[(1,.aR z0 [])],[(z0,false,.var gv (.leaf gv))]⟩)] aet J4
def U1:bZ:=oP ⟨[(5,.leaf I6),(4,.aR z0 []),(1,.aR z1 []),(3,.leaf I6)],[(z0,false,.var an (.leaf an)),(z1,false,.var gv (.leaf gv))]⟩ [(.ret,⟨[(2,.leaf .bool)],[]⟩),((.exit 2),⟨[(1,.aR z0 []),(3,.leaf I6)],[(z0,false,.var gv (.leaf gv))]⟩)] aev LF
def U2:bZ:=oP ⟨[(6,.leaf I6),(1,.aR z0 [])],[(z0,false,.var gv (.leaf gv))]⟩ [(.ret,⟨[(2,.leaf .bool)],[]⟩),((.exit 4),⟨[],[]⟩)] aex Nb
def Th:LT:=[(4,U0),(10,U1),(15,U2)]
def am1:∀x,round Qy Th (iY Tryz.f133 0) U0 x=J4 x:=by intro x;kernel_rfl
def am2:∀x,round Qy Th (iY Tryz.f133 1) U1 x=LF x:=by intro x;kernel_rfl
def am3:∀x,round Qy Th (iY Tryz.f133 2) U2 x=Nb x:=by intro x;kernel_rfl
def e_q160:EV Qy Th Tryz.f133 [.v gv] [.v .bool] Hl:=by intro xs;kernel_rfl
def akD:CO Mr:=con_ok (Ls:=[U0,U1,U2]) mixed (ei _ _) (aav _ (aaM _ (W5 _ (Cj _ nF)))) Tryz.func133 (loopsC (loopD_ok am1) (loopsC (loopD_ok am2) (loopsC (loopD_ok am3) loopsL_nil))) boxesL_none e_q160
def WY (fns:List (Nat×List Ab.Mode×(List Arg→Option Res))){dp:Bool}(h:eN Tryz.prog Gb ⟨bm,fns,dp,Gl⟩):eN Tryz.prog Gb ⟨bm,Mr.entry::fns,dp,Gl⟩:=h.cons Mr (by kernel_rfl) (zv (f:=Hl)) akD
def Mv:j4:=⟨135,[.v gv,.v I6,.v .str],[.v I6],FF,zog FF⟩
def Zv:Cx:=⟨bm,[],false,Gl⟩
def Wa:bZ:=oP ⟨[(7,.leaf I6),(2,.leaf .str),(3,.aR z0 []),(1,.leaf I6)],[(z0,false,.var gv (.leaf gv))]⟩ [(.ret,⟨[(6,.leaf I6)],[]⟩),((.exit 0),⟨[],[]⟩)] afc Kf
def acn:LT:=[(2,Wa)]
def aot:∀x,round Zv acn (iY Tryz.f135 0) Wa x=Kf x:=by intro x;kernel_rfl
def e_q186:EV Zv acn Tryz.f135 [.v gv,.v I6,.v .str] [.v I6] FF:=by intro xs;kernel_rfl
def ak3:CO Mv:=con_ok (Ls:=[Wa]) mixed (ei _ _) nF Tryz.func135 (loopsC (loopD_ok aot) loopsL_nil) boxesL_none e_q186
def W4 (fns:List (Nat×List Ab.Mode×(List Arg→Option Res))){dp:Bool}(h:eN Tryz.prog Gb ⟨bm,fns,dp,Gl⟩):eN Tryz.prog Gb ⟨bm,Mv.entry::fns,dp,Gl⟩:=h.cons Mv (by kernel_rfl) (zv (f:=FF)) ak3
def Q0:j4:=⟨167,[.v gv,.v I6],[.v (.pair I6 (.pair (.own an) .unit))],LD,zog LD⟩
def C_q155:Cx:=⟨bm,[],false,Gl⟩
def e_q155:EV C_q155 ia Tryz.f167 [.v gv,.v I6] [.v (.pair I6 (.pair (.own an) .unit))] LD:=by intro xs;kernel_rfl
def aky:CO Q0:=con_ok (Ls:=[]) mixed (ei _ _) nF Tryz.func167 loopsL_nil boxesL_none e_q155
def aif (fns:List (Nat×List Ab.Mode×(List Arg→Option Res))){dp:Bool}(h:eN Tryz.prog Gb ⟨bm,fns,dp,Gl⟩):eN Tryz.prog Gb ⟨bm,Q0.entry::fns,dp,Gl⟩:=h.cons Q0 (by kernel_rfl) (zv (f:=LD)) aky
def R5:j4:=⟨147,[.v gv,.v I6,.v .str],[.v (.pair I6 (.pair (.own an) .unit)),.v I6],Hv,zog Hv⟩
def C_q81:Cx:=⟨bm,[Q0.entry,Mo.entry,Mv.entry,Mr.entry],false,Gl⟩
def e_q81:EV C_q81 ia Tryz.f147 [.v gv,.v I6,.v .str] [.v (.pair I6 (.pair (.own an) .unit)),.v I6] Hv:=by intro xs;kernel_rfl
def ok_q81:CO R5:=con_ok (Ls:=[]) mixed (ei _ _) (aif _ (WV _ (W4 _ (WY _ nF)))) Tryz.func147 loopsL_nil boxesL_none e_q81
def fk_q81 (fns:List (Nat×List Ab.Mode×(List Arg→Option Res))){dp:Bool}(h:eN Tryz.prog Gb ⟨bm,fns,dp,Gl⟩):eN Tryz.prog Gb ⟨bm,R5.entry::fns,dp,Gl⟩:=h.cons R5 (by kernel_rfl) (zv (f:=Hv)) ok_q81
def Rg:j4:=⟨137,[.v gv,.v an],[.v (.pair I6 (.pair (.own an) .unit))],LO,zog LO⟩
def Zt:Cx:=⟨bm,[Og.entry],false,Gl⟩
def Wd:bZ:=oP ⟨[(5,.leaf I6),(4,.aR z0 []),(2,.aR z1 []),(3,.aR z2 [])],[(z0,false,.var gv (.pair (.leaf I6) (.pair (.whole z3 an) (.leaf .unit)))),(z1,false,.var gv (.leaf gv)),(z2,false,.var an (.leaf an)),(z3,false,.rows an)]⟩ [((.exit 0),⟨[(4,.aR z0 []),(5,.leaf I6),(2,.aR z1 []),(3,.aR z2 [])],[(z0,false,.var gv (.pair (.leaf I6) (.pair (.whole z3 an) (.leaf .unit)))),(z1,false,.var gv (.leaf gv)),(z2,false,.var an (.leaf an)),(z3,false,.rows an)]⟩)] ae9 Ke
def ack:LT:=[(2,Wd)]
def aow:∀x,round Zt ack (iY Tryz.f137 0) Wd x=Ke x:=by intro x;kernel_rfl
def e_q183:EV Zt ack Tryz.f137 [.v gv,.v an] [.v (.pair I6 (.pair (.own an) .unit))] LO:=by intro xs;kernel_rfl
def ak0:CO Rg:=con_ok (Ls:=[Wd]) mixed (ei _ _) (aaM _ nF) Tryz.func137 (loopsC (loopD_ok aow) loopsL_nil) boxesL_none e_q183
def aix (fns:List (Nat×List Ab.Mode×(List Arg→Option Res))){dp:Bool}(h:eN Tryz.prog Gb ⟨bm,fns,dp,Gl⟩):eN Tryz.prog Gb ⟨bm,Rg.entry::fns,dp,Gl⟩:=h.cons Rg (by kernel_rfl) (zv (f:=LO)) ak0
def N2:j4:=⟨101,[.v gv,.v I6,.v .str,.v .str],[.v (.pair I6 (.pair (.own an) .unit)),.v I6],Fx,zog Fx⟩
def C_q123:Cx:=⟨bm,[Rg.entry,NZ.entry,Mv.entry,Mo.entry,Mw.entry,Mr.entry],false,Gl⟩
def e_q123:EV C_q123 ia Tryz.f101 [.v gv,.v I6,.v .str,.v .str] [.v (.pair I6 (.pair (.own an) .unit)),.v I6] Fx:=by intro xs;kernel_rfl
def aj3:CO N2:=con_ok (Ls:=[]) mixed (ei _ _) (aix _ (aav _ (W4 _ (WV _ (W5 _ (WY _ nF)))))) Tryz.func101 loopsL_nil boxesL_none e_q123
def aax (fns:List (Nat×List Ab.Mode×(List Arg→Option Res))){dp:Bool}(h:eN Tryz.prog Gb ⟨bm,fns,dp,Gl⟩):eN Tryz.prog Gb ⟨bm,N2.entry::fns,dp,Gl⟩:=h.cons N2 (by kernel_rfl) (zv (f:=Fx)) aj3
def Mp:j4:=⟨114,[.v gv,.v .str],[.v (.pair I6 (.pair (.own an) .unit)),.v .bool],FA,zog FA⟩
def C_q153:Cx:=⟨bm,[N2.entry,R5.entry,KO.entry,Ji.entry,KL.entry,Mn.entry],false,Gl⟩
def e_q153:EV C_q153 ia Tryz.f114 [.v gv,.v .str] [.v (.pair I6 (.pair (.own an) .unit)),.v .bool] FA:=by intro xs;kernel_rfl
def akw:CO Mp:=con_ok (Ls:=[]) mixed (ei _ _) (aax _ (fk_q81 _ (SG _ (OR _ (SD _ (WU _ nF)))))) Tryz.func114 loopsL_nil boxesL_none e_q153
def WW (fns:List (Nat×List Ab.Mode×(List Arg→Option Res))){dp:Bool}(h:eN Tryz.prog Gb ⟨bm,fns,dp,Gl⟩):eN Tryz.prog Gb ⟨bm,Mp.entry::fns,dp,Gl⟩:=h.cons Mp (by kernel_rfl) (zv (f:=FA)) akw
def Mq:j4:=⟨117,[.v (.lst .str)],[.v (.pair I6 (.pair (.own an) .unit)),.v .bool],IF,zog IF⟩
def Zf:Cx:=⟨bm,[Mp.entry],false,Gl⟩
def UZ:bZ:=oP ⟨[(2,.aR z0 []),(5,.leaf I6),(4,.aR z1 []),(0,.leaf (.lst .str))],[(z0,false,.var gv (.pair (.leaf I6) (.pair (.whole z2 an) (.leaf .unit)))),(z1,false,.var gv (.pair (.leaf I6) (.pair (.whole z3 an) (.leaf .unit)))),(z2,false,.rows an),(z3,false,.rows an)]⟩ [(.ret,⟨[(2,.aR z0 []),(3,.leaf .bool)],[(z0,false,.var gv (.pair (.leaf I6) (.pair (.whole z1 an) (.leaf .unit)))),(z1,false,.rows an)]⟩),((.exit 0),⟨[(2,.aR z0 []),(4,.aR z1 [])],[(z0,false,.var gv (.pair (.leaf I6) (.pair (.whole z2 an) (.leaf .unit)))),(z1,false,.var gv (.pair (.leaf I6) (.pair (.whole z3 an) (.leaf .unit)))),(z2,false,.rows an),(z3,false,.rows an)]⟩)] aer J3
def ab5:LT:=[(3,UZ)]
def am0:∀x,round Zf ab5 (iY Tryz.f117 0) UZ x=J3 x:=by intro x;kernel_rfl
def e_q159:EV Zf ab5 Tryz.f117 [.v (.lst .str)] [.v (.pair I6 (.pair (.own an) .unit)),.v .bool] IF:=by intro xs;kernel_rfl
def akC:CO Mq:=con_ok (Ls:=[UZ]) mixed (ei _ _) (WW _ nF) Tryz.func117 (loopsC (loopD_ok am0) loopsL_nil) boxesL_none e_q159
def WX (fns:List (Nat×List Ab.Mode×(List Arg→Option Res))){dp:Bool}(h:eN Tryz.prog Gb ⟨bm,fns,dp,Gl⟩):eN Tryz.prog Gb ⟨bm,Mq.entry::fns,dp,Gl⟩:=h.cons Mq (by kernel_rfl) (zv (f:=IF)) akC
def Sg:j4:=⟨127,[.v b7],[.v .bool],q98,zog q98⟩
def C_q98:Cx:=⟨bm,[Mq.entry,Jh.entry],false,Gl⟩
def e_q98:EV C_q98 ia Tryz.f127 [.v b7] [.v .bool] q98:=by intro xs;kernel_rfl
def ok_q98:CO Sg:=con_ok (Ls:=[]) mixed (ei _ _) (WX _ (OQ _ nF)) Tryz.func127 loopsL_nil boxesL_none e_q98
def fk_q98 (fns:List (Nat×List Ab.Mode×(List Arg→Option Res))){dp:Bool}(h:eN Tryz.prog Gb ⟨bm,fns,dp,Gl⟩):eN Tryz.prog Gb ⟨bm,Sg.entry::fns,dp,Gl⟩:=h.cons Sg (by kernel_rfl) (zv (f:=q98)) ok_q98
def Sf:j4:=⟨128,[.v gv,.v gv],[.v .bool],Hy,zog Hy⟩
def C_q97:Cx:=⟨bm,[],false,Gl⟩
def Vo:bZ:=oP ⟨[(5,.leaf I6),(3,.aR z0 []),(2,.aR z1 [])],[(z0,false,.var gv (.leaf gv)),(z1,false,.var gv (.leaf gv))]⟩ [(.ret,⟨[(4,.leaf .bool)],[]⟩),((.exit 0),⟨[],[]⟩)] agf Kp
def acM:LT:=[(4,Vo)]
def anr:∀x,round C_q97 acM (iY Tryz.f128 0) Vo x=Kp x:=by intro x;kernel_rfl
def e_q97:EV C_q97 acM Tryz.f128 [.v gv,.v gv] [.v .bool] Hy:=by intro xs;kernel_rfl
def ok_q97:CO Sf:=con_ok (Ls:=[Vo]) mixed (ei _ _) nF Tryz.func128 (loopsC (loopD_ok anr) loopsL_nil) boxesL_none e_q97
def fk_q97 (fns:List (Nat×List Ab.Mode×(List Arg→Option Res))){dp:Bool}(h:eN Tryz.prog Gb ⟨bm,fns,dp,Gl⟩):eN Tryz.prog Gb ⟨bm,Sf.entry::fns,dp,Gl⟩:=h.cons Sf (by kernel_rfl) (zv (f:=Hy)) ok_q97
def Q6:j4:=⟨155,[.v cg],[.v .bool],II,zog II⟩
def C_q165:Cx:=⟨bm,[BE.entry],false,Gl⟩
def e_q165:EV C_q165 ia Tryz.f155 [.v cg] [.v .bool] II:=by intro xs;kernel_rfl
def akI:CO Q6:=con_ok (Ls:=[]) mixed (ei _ _) (Cj _ nF) Tryz.func155 loopsL_nil boxesL_none e_q165
def aim (fns:List (Nat×List Ab.Mode×(List Arg→Option Res))){dp:Bool}(h:eN Tryz.prog Gb ⟨bm,fns,dp,Gl⟩):eN Tryz.prog Gb ⟨bm,Q6.entry::fns,dp,Gl⟩:=h.cons Q6 (by kernel_rfl) (zv (f:=II)) akI
def Oh:j4:=⟨156,[.v je,.v I6],[.v I6],J6,zog J6⟩
def Zh:Cx:=⟨bm,[],false,Gl⟩
def Vi:bZ:=oP ⟨[(6,.leaf I6),(5,.leaf I6),(1,.leaf I6),(2,.aR z0 [])],[(z0,false,.var je (.leaf je))]⟩ [((.exit 0),⟨[(5,.leaf I6)],[]⟩)] aeB J7
def ab7:LT:=[(3,Vi)]
def ank:∀x,round Zh ab7 (iY Tryz.f156 0) Vi x=J7 x:=by intro x;kernel_rfl
def e_q164:EV Zh ab7 Tryz.f156 [.v je,.v I6] [.v I6] J6:=by intro xs;kernel_rfl
def akH:CO Oh:=con_ok (Ls:=[Vi]) mixed (ei _ _) nF Tryz.func156 (loopsC (loopD_ok ank) loopsL_nil) boxesL_none e_q164
def aaN (fns:List (Nat×List Ab.Mode×(List Arg→Option Res))){dp:Bool}(h:eN Tryz.prog Gb ⟨bm,fns,dp,Gl⟩):eN Tryz.prog Gb ⟨bm,Oh.entry::fns,dp,Gl⟩:=h.cons Oh (by kernel_rfl) (zv (f:=J6)) akH
def N4:j4:=⟨129,[.v je],[.v .bool],G_,zog G_⟩
def Qx:Cx:=⟨bm,[Oh.entry,Q6.entry,BE.entry],false,Gl⟩
def U6:bZ:=oP ⟨[(1,.aR z0 []),(3,.leaf I6)],[(z0,false,.var je (.leaf je))]⟩ [(.ret,⟨[(2,.leaf .bool)],[]⟩),((.exit 0),⟨[(1,.aR z0 [])],[(z0,false,.var je (.leaf je))]⟩)] ad2 Iv
def U7:bZ:=oP ⟨[(4,.leaf I6),(1,.aR z0 []),(3,.leaf I6)],[(z0,false,.var je (.leaf je))]⟩ [(.ret,⟨[(2,.leaf .bool)],[]⟩),((.exit 2),⟨[(1,.aR z0 []),(3,.leaf I6)],[(z0,false,.var je (.leaf je))]⟩)] ad4 E4
def U8:bZ:=oP ⟨[(5,.leaf I6),(1,.aR z0 [])],[(z0,false,.var je (.leaf je))]⟩ [(.ret,⟨[(2,.leaf .bool)],[]⟩),((.exit 4),⟨[],[]⟩)] ad6 Iw
def Tg:LT:=[(4,U6),(9,U7),(14,U8)]
def am7:∀x,round Qx Tg (iY Tryz.f129 0) U6 x=Iv x:=by intro x;kernel_rfl
def am8:∀x,round Qx Tg (iY Tryz.f129 1) U7 x=E4 x:=by intro x;kernel_rfl
def am9:∀x,round Qx Tg (iY Tryz.f129 2) U8 x=Iw x:=by intro x;kernel_rfl
def e_q129:EV Qx Tg Tryz.f129 [.v je] [.v .bool] G_:=by intro xs;kernel_rfl
def aj9:CO N4:=con_ok (Ls:=[U6,U7,U8]) mixed (ei _ _) (aaN _ (aim _ (Cj _ nF))) Tryz.func129 (loopsC (loopD_ok am7) (loopsC (loopD_ok am8) (loopsC (loopD_ok am9) loopsL_nil))) boxesL_none e_q129
def aaz (fns:List (Nat×List Ab.Mode×(List Arg→Option Res))){dp:Bool}(h:eN Tryz.prog Gb ⟨bm,fns,dp,Gl⟩):eN Tryz.prog Gb ⟨bm,N4.entry::fns,dp,Gl⟩:=h.cons N4 (by kernel_rfl) (zv (f:=G_)) aj9
def KP:j4:=⟨110,[.v gv,.v I6],[.v an,.v .bool],FH,zog FH⟩
def C_q54:Cx:=⟨bm,[],false,Gl⟩
def Wc:bZ:=oP ⟨[(4,.aR z0 []),(6,.leaf I6),(2,.aR z1 []),(1,.leaf I6)],[(z0,false,.var an (.leaf an)),(z1,false,.var gv (.leaf gv))]⟩ [(.ret,⟨[(4,.aR z0 []),(5,.leaf .bool)],[(z0,false,.var an (.leaf an))]⟩),((.exit 0),⟨[(4,.aR z0 [])],[(z0,false,.var an (.leaf an))]⟩)] afw Ki
def acz:LT:=[(2,Wc)]
def aov:∀x,round C_q54 acz (iY Tryz.f110 0) Wc x=Ki x:=by intro x;kernel_rfl
def e_q54:EV C_q54 acz Tryz.f110 [.v gv,.v I6] [.v an,.v .bool] FH:=by intro xs;kernel_rfl
def ok_q54:CO KP:=con_ok (Ls:=[Wc]) mixed (ei _ _) nF Tryz.func110 (loopsC (loopD_ok aov) loopsL_nil) boxesL_none e_q54
def SH (fns:List (Nat×List Ab.Mode×(List Arg→Option Res))){dp:Bool}(h:eN Tryz.prog Gb ⟨bm,fns,dp,Gl⟩):eN Tryz.prog Gb ⟨bm,KP.entry::fns,dp,Gl⟩:=h.cons KP (by kernel_rfl) (zv (f:=FH)) ok_q54
def RB:j4:=⟨130,[.v b7],[.v .bool],q45,zog q45⟩
def C_q45:Cx:=⟨bm,[HP.entry,KP.entry,BE.entry],false,Gl⟩
def Vp:bZ:=oP ⟨[(3,.leaf I6),(1,.aR z0 [])],[(z0,false,.var b7 (.leaf b7))]⟩ [(.ret,⟨[(2,.leaf .bool)],[]⟩),((.exit 0),⟨[],[]⟩)] afq IN
def acu:LT:=[(2,Vp)]
def ans:∀x,round C_q45 acu (iY Tryz.f130 0) Vp x=IN x:=by intro x;kernel_rfl
def e_q45:EV C_q45 acu Tryz.f130 [.v b7] [.v .bool] q45:=by intro xs;kernel_rfl
def ok_q45:CO RB:=con_ok (Ls:=[Vp]) mixed (ei _ _) (MH _ (SH _ (Cj _ nF))) Tryz.func130 (loopsC (loopD_ok ans) loopsL_nil) boxesL_none e_q45
def fk_q45 (fns:List (Nat×List Ab.Mode×(List Arg→Option Res))){dp:Bool}(h:eN Tryz.prog Gb ⟨bm,fns,dp,Gl⟩):eN Tryz.prog Gb ⟨bm,RB.entry::fns,dp,Gl⟩:=h.cons RB (by kernel_rfl) (zv (f:=q45)) ok_q45
def Fh:j4:=⟨49,[.v g7],[.v I6],Bc,zog Bc⟩
def C_q115:Cx:=⟨bm,[],false,Gl⟩
def e_q115:EV C_q115 ia Tryz.f49 [.v g7] [.v I6] Bc:=by intro xs;kernel_rfl
def ajV:CO Fh:=con_ok (Ls:=[]) mixed (ei _ _) nF Tryz.func49 loopsL_nil boxesL_none e_q115
def H6 (fns:List (Nat×List Ab.Mode×(List Arg→Option Res))){dp:Bool}(h:eN Tryz.prog Gb ⟨bm,fns,dp,Gl⟩):eN Tryz.prog Gb ⟨bm,Fh.entry::fns,dp,Gl⟩:=h.cons Fh (by kernel_rfl) (zv (f:=Bc)) ajV
def KM:j4:=⟨131,[.v I6],[.v (.pair I6 (.pair I6 (.pair (.own I6) (.pair (.own I6) .unit))))],BW,zog BW⟩
def Zq:Cx:=⟨bm,[Fh.entry],false,Gl⟩
def V0:bZ:=oP ⟨[(3,.aR z0 []),(2,.aR z1 [])],[(z0,false,.var g7 (.pair (.leaf I6) (.pair (.leaf I6) (.pair (.whole z2 I6) (.pair (.whole z3 I6) (.leaf .unit)))))),(z1,false,.var g7 (.pair (.leaf I6) (.pair (.leaf I6) (.pair (.whole 500000004 I6) (.pair (.whole 500000005 I6) (.leaf .unit)))))),(z2,false,.rows I6),(z3,false,.rows I6),(500000004,false,.rows I6),(500000005,false,.rows I6)]⟩ [((.exit 0),⟨[(2,.aR z0 []),(3,.aR z1 [])],[(z0,false,.var g7 (.pair (.leaf I6) (.pair (.leaf I6) (.pair (.whole z2 I6) (.pair (.whole z3 I6) (.leaf .unit)))))),(z1,false,.var g7 (.pair (.leaf I6) (.pair (.leaf I6) (.pair (.whole 500000004 I6) (.pair (.whole 500000005 I6) (.leaf .unit)))))),(z2,false,.rows I6),(z3,false,.rows I6),(500000004,false,.rows I6),(500000005,false,.rows I6)]⟩)] ae1 E7
def aci:LT:=[(2,V0)]
def aoi:∀x,round Zq aci (iY Tryz.f131 0) V0 x=E7 x:=by intro x;kernel_rfl
def e_q179:EV Zq aci Tryz.f131 [.v I6] [.v (.pair I6 (.pair I6 (.pair (.own I6) (.pair (.own I6) .unit))))] BW:=by intro xs;kernel_rfl
def akW:CO KM:=con_ok (Ls:=[V0]) mixed (ei _ _) (H6 _ nF) Tryz.func131 (loopsC (loopD_ok aoi) loopsL_nil) boxesL_none e_q179
def SE (fns:List (Nat×List Ab.Mode×(List Arg→Option Res))){dp:Bool}(h:eN Tryz.prog Gb ⟨bm,fns,dp,Gl⟩):eN Tryz.prog Gb ⟨bm,KM.entry::fns,dp,Gl⟩:=h.cons KM (by kernel_rfl) (zv (f:=BW)) akW
def RL:j4:=⟨132,[.v cw],[.v .bool],q58,zog q58⟩
def C_q58:Cx:=⟨bm,[BE.entry],false,Gl⟩
def e_q58:EV C_q58 ia Tryz.f132 [.v cw] [.v .bool] q58:=by intro xs;kernel_rfl
def ok_q58:CO RL:=con_ok (Ls:=[]) mixed (ei _ _) (Cj _ nF) Tryz.func132 loopsL_nil boxesL_none e_q58
def fk_q58 (fns:List (Nat×List Ab.Mode×(List Arg→Option Res))){dp:Bool}(h:eN Tryz.prog Gb ⟨bm,fns,dp,Gl⟩):eN Tryz.prog Gb ⟨bm,RL.entry::fns,dp,Gl⟩:=h.cons RL (by kernel_rfl) (zv (f:=q58)) ok_q58
def HO:j4:=⟨100,[.v b7],[.v .bool],FJ,zog FJ⟩
def UM:Cx:=⟨bm,[RL.entry,Fh.entry,KM.entry,KP.entry,RB.entry,N4.entry,Sf.entry,Mq.entry,Jh.entry,Sg.entry,BE.entry],false,Gl⟩
def U_:bZ:=oP ⟨[(7,.leaf I6),(1,.aR z0 [])],[(z0,false,.var b7 (.leaf b7))]⟩ [(.ret,⟨[(2,.leaf .bool)],[]⟩),((.exit 0),⟨[(1,.aR z0 [])],[(z0,false,.var b7 (.leaf b7))]⟩)] afC FL
def Va:bZ:=oP ⟨[(10,.leaf I6),(1,.aR z0 [])],[(z0,false,.var b7 (.leaf b7))]⟩ [(.ret,⟨[(2,.leaf .bool)],[]⟩),((.exit 2),⟨[],[]⟩)] afE Kj
def XL:LT:=[(10,U_),(16,Va)]
def ana:∀x,round UM XL (iY Tryz.f100 0) U_ x=FL x:=by intro x;kernel_rfl
def anb:∀x,round UM XL (iY Tryz.f100 1) Va x=Kj x:=by intro x;kernel_rfl
def e_q61:EV UM XL Tryz.f100 [.v b7] [.v .bool] FJ:=by intro xs;kernel_rfl
def ok_q61:CO HO:=con_ok (Ls:=[U_,Va]) mixed (ei _ _) (fk_q58 _ (H6 _ (SE _ (SH _ (fk_q45 _ (aaz _ (fk_q97 _ (WX _ (OQ _ (fk_q98 _ (Cj _ nF))))))))))) Tryz.func100 (loopsC (loopD_ok ana) (loopsC (loopD_ok anb) loopsL_nil)) boxesL_none e_q61
def MG (fns:List (Nat×List Ab.Mode×(List Arg→Option Res))){dp:Bool}(h:eN Tryz.prog Gb ⟨bm,fns,dp,Gl⟩):eN Tryz.prog Gb ⟨bm,HO.entry::fns,dp,Gl⟩:=h.cons HO (by kernel_rfl) (zv (f:=FJ)) ok_q61
def Mt:j4:=⟨109,[.v b7,.v I6],[.v I6],FC,zog FC⟩
def Zi:Cx:=⟨bm,[],false,Gl⟩
def Vk:bZ:=oP ⟨[(5,.leaf I6),(1,.leaf I6),(2,.aR z0 [])],[(z0,false,.var b7 (.leaf b7))]⟩ [(.ret,⟨[(4,.leaf I6)],[]⟩),((.exit 0),⟨[],[]⟩)] aeD E6
def ab8:LT:=[(2,Vk)]
def anm:∀x,round Zi ab8 (iY Tryz.f109 0) Vk x=E6 x:=by intro x;kernel_rfl
def e_q167:EV Zi ab8 Tryz.f109 [.v b7,.v I6] [.v I6] FC:=by intro xs;kernel_rfl
def akK:CO Mt:=con_ok (Ls:=[Vk]) mixed (ei _ _) nF Tryz.func109 (loopsC (loopD_ok anm) loopsL_nil) boxesL_none e_q167
def W0 (fns:List (Nat×List Ab.Mode×(List Arg→Option Res))){dp:Bool}(h:eN Tryz.prog Gb ⟨bm,fns,dp,Gl⟩):eN Tryz.prog Gb ⟨bm,Mt.entry::fns,dp,Gl⟩:=h.cons Mt (by kernel_rfl) (zv (f:=FC)) akK
def N0:j4:=⟨104,[.v gv,.v I6,.v .str],[.v an,.v .bool],DU,zog DU⟩
def C_q122:Cx:=⟨bm,[Mr.entry,Mv.entry],false,Gl⟩
def e_q122:EV C_q122 ia Tryz.f104 [.v gv,.v I6,.v .str] [.v an,.v .bool] DU:=by intro xs;kernel_rfl
def aj2:CO N0:=con_ok (Ls:=[]) mixed (ei _ _) (WY _ (W4 _ nF)) Tryz.func104 loopsL_nil boxesL_none e_q122
def aaw (fns:List (Nat×List Ab.Mode×(List Arg→Option Res))){dp:Bool}(h:eN Tryz.prog Gb ⟨bm,fns,dp,Gl⟩):eN Tryz.prog Gb ⟨bm,N0.entry::fns,dp,Gl⟩:=h.cons N0 (by kernel_rfl) (zv (f:=DU)) aj2
def KN:j4:=⟨111,[.v b7,.v I6],[.v (.pair .bool (.pair I6 (.pair .str (.pair gv (.pair je (.pair (.lst cw) (.pair (.own cp) .unit)))))))],Gv,zog Gv⟩
def C_q34:Cx:=⟨bm,[],false,Gl⟩
def Vs:bZ:=oP ⟨[(6,.leaf I6),(2,.aR z0 []),(5,.whole z1 cp),(1,.leaf I6),(4,.aR z2 [])],[(z0,false,.var b7 (.leaf b7)),(z1,false,.rows cp),(z2,false,.var b7 (.pair (.leaf .bool) (.pair (.leaf I6) (.pair (.leaf .str) (.pair (.pair (.leaf I6) (.pair (.whole z3 an) (.leaf .unit))) (.pair (.pair (.whole 500000004 cg) (.leaf (.pair I6 .unit))) (.pair (.whole 500000005 cw) (.pair (.whole 500000006 cp) (.leaf .unit))))))))),(z3,false,.rows an),(500000004,false,.rows cg),(500000005,false,.rows cw),(500000006,false,.rows cp)]⟩ [((.exit 0),⟨[(4,.aR z0 []),(2,.aR z1 []),(5,.whole z2 cp)],[(z0,false,.var b7 (.pair (.leaf .bool) (.pair (.leaf I6) (.pair (.leaf .str) (.pair (.pair (.leaf I6) (.pair (.whole z3 an) (.leaf .unit))) (.pair (.pair (.whole 500000004 cg) (.leaf (.pair I6 .unit))) (.pair (.whole 500000005 cw) (.pair (.whole 500000006 cp) (.leaf .unit))))))))),(z1,false,.var b7 (.leaf b7)),(z2,false,.rows cp),(z3,false,.rows an),(500000004,false,.rows cg),(500000005,false,.rows cw),(500000006,false,.rows cp)]⟩)] afm Kg
def acr:LT:=[(3,Vs)]
def anv:∀x,round C_q34 acr (iY Tryz.f111 0) Vs x=Kg x:=by intro x;kernel_rfl
def e_q34:EV C_q34 acr Tryz.f111 [.v b7,.v I6] [.v (.pair .bool (.pair I6 (.pair .str (.pair gv (.pair je (.pair (.lst cw) (.pair (.own cp) .unit)))))))] Gv:=by intro xs;kernel_rfl
def ok_q34:CO KN:=con_ok (Ls:=[Vs]) mixed (ei _ _) nF Tryz.func111 (loopsC (loopD_ok anv) loopsL_nil) boxesL_none e_q34
def SF (fns:List (Nat×List Ab.Mode×(List Arg→Option Res))){dp:Bool}(h:eN Tryz.prog Gb ⟨bm,fns,dp,Gl⟩):eN Tryz.prog Gb ⟨bm,KN.entry::fns,dp,Gl⟩:=h.cons KN (by kernel_rfl) (zv (f:=Gv)) ok_q34
def Ou:j4:=⟨112,[.v I6,.v I6,.v I6],[.v (.own eL)],IV,zog IV⟩
def C_q93:Cx:=⟨bm,[],false,Gl⟩
def e_q93:EV C_q93 ia Tryz.f112 [.v I6,.v I6,.v I6] [.v (.own eL)] IV:=by intro xs;kernel_rfl
def ok_q93:CO Ou:=con_ok (Ls:=[]) mixed (ei _ _) nF Tryz.func112 loopsL_nil boxesL_none e_q93
def aaX (fns:List (Nat×List Ab.Mode×(List Arg→Option Res))){dp:Bool}(h:eN Tryz.prog Gb ⟨bm,fns,dp,Gl⟩):eN Tryz.prog Gb ⟨bm,Ou.entry::fns,dp,Gl⟩:=h.cons Ou (by kernel_rfl) (zv (f:=IV)) ok_q93
def QE:j4:=⟨168,[.v b7,.v cp],[.v (.pair .bool (.pair I6 (.pair .str (.pair gv (.pair je (.pair (.lst cw) (.pair (.own cp) .unit)))))))],Lr,zog Lr⟩
def YW:Cx:=⟨bm,[KN.entry],false,Gl⟩
def Vr:bZ:=oP ⟨[(5,.leaf I6),(4,.aR z0 []),(2,.aR z1 []),(3,.aR z2 [])],[(z0,false,.var b7 (.pair (.leaf .bool) (.pair (.leaf I6) (.pair (.leaf .str) (.pair (.pair (.leaf I6) (.pair (.whole z3 an) (.leaf .unit))) (.pair (.pair (.whole 500000004 cg) (.leaf (.pair I6 .unit))) (.pair (.whole 500000005 cw) (.pair (.whole 500000006 cp) (.leaf .unit))))))))),(z1,false,.var b7 (.pair (.leaf .bool) (.pair (.leaf I6) (.pair (.leaf .str) (.pair (.leaf gv) (.pair (.leaf je) (.pair (.leaf (.lst cw)) (.pair (.whole 500000007 cp) (.leaf .unit))))))))),(z2,false,.var cp (.leaf cp)),(z3,false,.rows an),(500000004,false,.rows cg),(500000005,false,.rows cw),(500000006,false,.rows cp),(500000007,false,.rows cp)]⟩ [((.exit 0),⟨[(4,.aR z0 []),(2,.aR z1 []),(5,.leaf I6),(3,.aR z2 [])],[(z0,false,.var b7 (.pair (.leaf .bool) (.pair (.leaf I6) (.pair (.leaf .str) (.pair (.pair (.leaf I6) (.pair (.whole z3 an) (.leaf .unit))) (.pair (.pair (.whole 500000004 cg) (.leaf (.pair I6 .unit))) (.pair (.whole 500000005 cw) (.pair (.whole 500000006 cp) (.leaf .unit))))))))),(z1,false,.var b7 (.pair (.leaf .bool) (.pair (.leaf I6) (.pair (.leaf .str) (.pair (.leaf gv) (.pair (.leaf je) (.pair (.leaf (.lst cw)) (.pair (.whole 500000007 cp) (.leaf .unit))))))))),(z2,false,.var cp (.leaf cp)),(z3,false,.rows an),(500000004,false,.rows cg),(500000005,false,.rows cw),(500000006,false,.rows cp),(500000007,false,.rows cp)]⟩)] adx JM
def abL:LT:=[(3,Vr)]
def anu:∀x,round YW abL (iY Tryz.f168 0) Vr x=JM x:=by intro x;kernel_rfl
def e_q100:EV YW abL Tryz.f168 [.v b7,.v cp] [.v (.pair .bool (.pair I6 (.pair .str (.pair gv (.pair je (.pair (.lst cw) (.pair (.own cp) .unit)))))))] Lr:=by intro xs;kernel_rfl
def ajH:CO QE:=con_ok (Ls:=[Vr]) mixed (ei _ _) (SF _ nF) Tryz.func168 (loopsC (loopD_ok anu) loopsL_nil) boxesL_none e_q100
def ahX (fns:List (Nat×List Ab.Mode×(List Arg→Option Res))){dp:Bool}(h:eN Tryz.prog Gb ⟨bm,fns,dp,Gl⟩):eN Tryz.prog Gb ⟨bm,QE.entry::fns,dp,Gl⟩:=h.cons QE (by kernel_rfl) (zv (f:=Lr)) ajH
def Mm:j4:=⟨47,[.v g7],[.v .bool],DW,zog DW⟩
def Y5:Cx:=⟨bm,[Fh.entry,BE.entry],false,Gl⟩
def U5:bZ:=oP ⟨[(3,.leaf I6),(1,.aR z0 [])],[(z0,false,.var g7 (.leaf g7))]⟩ [(.ret,⟨[(2,.leaf .bool)],[]⟩),((.exit 0),⟨[(1,.aR z0 [])],[(z0,false,.var g7 (.leaf g7))]⟩)] ad0 Gq
def abU:LT:=[(4,U5)]
def am6:∀x,round Y5 abU (iY Tryz.f47 0) U5 x=Gq x:=by intro x;kernel_rfl
def e_q128:EV Y5 abU Tryz.f47 [.v g7] [.v .bool] DW:=by intro xs;kernel_rfl
def aj8:CO Mm:=con_ok (Ls:=[U5]) mixed (ei _ _) (H6 _ (Cj _ nF)) Tryz.func47 (loopsC (loopD_ok am6) loopsL_nil) boxesL_none e_q128
def WT (fns:List (Nat×List Ab.Mode×(List Arg→Option Res))){dp:Bool}(h:eN Tryz.prog Gb ⟨bm,fns,dp,Gl⟩):eN Tryz.prog Gb ⟨bm,Mm.entry::fns,dp,Gl⟩:=h.cons Mm (by kernel_rfl) (zv (f:=DW)) aj8
def QX:j4:=⟨171,[.v (.lst I6)],[.v .str],Hf,zog Hf⟩
def Za:Cx:=⟨bm,[HM.entry],false,Gl⟩
def V1:bZ:=oP ⟨[(4,.leaf I6),(0,.leaf (.lst I6)),(3,.leaf .str)],[]⟩ [((.exit 0),⟨[(3,.leaf .str)],[]⟩)] aeh PF
def ab0:LT:=[(3,V1)]
def aoj:∀x,round Za ab0 (iY Tryz.f171 0) V1 x=PF x:=by intro x;kernel_rfl
def e_q144:EV Za ab0 Tryz.f171 [.v (.lst I6)] [.v .str] Hf:=by intro xs;kernel_rfl
def akn:CO QX:=con_ok (Ls:=[V1]) mixed (ei _ _) (MD _ nF) Tryz.func171 (loopsC (loopD_ok aoj) loopsL_nil) boxesL_none e_q144
def aic (fns:List (Nat×List Ab.Mode×(List Arg→Option Res))){dp:Bool}(h:eN Tryz.prog Gb ⟨bm,fns,dp,Gl⟩):eN Tryz.prog Gb ⟨bm,QX.entry::fns,dp,Gl⟩:=h.cons QX (by kernel_rfl) (zv (f:=Hf)) akn
def Mx:j4:=⟨152,[.v g7],[.v .str],EG,zog EG⟩
def C_q39:Cx:=⟨bm,[QX.entry,HM.entry,Mm.entry],false,Gl⟩
def e_q39:EV C_q39 ia Tryz.f152 [.v g7] [.v .str] EG:=by intro xs;kernel_rfl
def ok_q39:CO Mx:=con_ok (Ls:=[]) mixed (ei _ _) (aic _ (MD _ (WT _ nF))) Tryz.func152 loopsL_nil boxesL_none e_q39
def W6 (fns:List (Nat×List Ab.Mode×(List Arg→Option Res))){dp:Bool}(h:eN Tryz.prog Gb ⟨bm,fns,dp,Gl⟩):eN Tryz.prog Gb ⟨bm,Mx.entry::fns,dp,Gl⟩:=h.cons Mx (by kernel_rfl) (zv (f:=EG)) ok_q39
def Se:j4:=⟨149,[.k (.pair .bool (.pair I6 (.pair .str (.pair (.pair I6 (.pair (.own an) .unit)) (.pair (.pair (.own cg) (.pair I6 .unit)) (.pair (.own cw) (.pair (.own cp) .unit))))))),.v eL],[.v (.pair .bool (.pair I6 (.pair .str (.pair gv (.pair je (.pair (.lst cw) (.pair (.own cp) .unit))))))),.v (.own eL)],q96,zog q96⟩
def C_q96:Cx:=⟨bm,[Mx.entry,KM.entry,QE.entry,Ou.entry,KN.entry,N0.entry,HP.entry,Mt.entry],false,Gl⟩
def e_q96:EV C_q96 ia Tryz.f149 [.k (.pair .bool (.pair I6 (.pair .str (.pair (.pair I6 (.pair (.own an) .unit)) (.pair (.pair (.own cg) (.pair I6 .unit)) (.pair (.own cw) (.pair (.own cp) .unit))))))),.v eL] [.v (.pair .bool (.pair I6 (.pair .str (.pair gv (.pair je (.pair (.lst cw) (.pair (.own cp) .unit))))))),.v (.own eL)] q96:=by intro xs;kernel_rfl
def ok_q96:CO Se:=con_ok (Ls:=[]) mixed (ei _ _) (W6 _ (SE _ (ahX _ (aaX _ (SF _ (aaw _ (MH _ (W0 _ nF)))))))) Tryz.func149 loopsL_nil boxesL_none e_q96
def fk_q96 (fns:List (Nat×List Ab.Mode×(List Arg→Option Res))){dp:Bool}(h:eN Tryz.prog Gb ⟨bm,fns,dp,Gl⟩):eN Tryz.prog Gb ⟨bm,Se.entry::fns,dp,Gl⟩:=h.cons Se (by kernel_rfl) (zv (f:=q96)) ok_q96
def Sc:j4:=⟨121,[.k (.pair .bool (.pair I6 (.pair .str (.pair (.pair I6 (.pair (.own an) .unit)) (.pair (.pair (.own cg) (.pair I6 .unit)) (.pair (.own cw) (.pair (.own cp) .unit))))))),.v eL],[.v (.pair .bool (.pair I6 (.pair .str (.pair gv (.pair je (.pair (.lst cw) (.pair (.own cp) .unit))))))),.v (.own eL)],q94,zog q94⟩
def C_q94:Cx:=⟨bm,[KN.entry,Mt.entry,Se.entry],false,Gl⟩
def Zw:bZ:=boxD ⟨[(4,.aR z0 []),(2,.aR z1 []),(3,.aR z2 []),(6,.leaf I6)],[(z0,false,.var b7 (.pair (.leaf .bool) (.pair (.leaf I6) (.pair (.leaf .str) (.pair (.pair (.leaf I6) (.pair (.whole z3 an) (.leaf .unit))) (.pair (.pair (.whole 500000004 cg) (.leaf (.pair I6 .unit))) (.pair (.whole 500000005 cw) (.pair (.whole 500000006 cp) (.leaf .unit))))))))),(z1,false,.var b7 (.pair (.leaf .bool) (.pair (.leaf I6) (.pair (.leaf .str) (.pair (.pair (.leaf I6) (.pair (.whole 500000007 an) (.leaf .unit))) (.pair (.pair (.whole 500000008 cg) (.leaf (.pair I6 .unit))) (.pair (.whole 500000009 cw) (.pair (.whole 500000010 cp) (.leaf .unit))))))))),(z2,false,.var eL (.leaf eL)),(z3,false,.rows an),(500000004,false,.rows cg),(500000005,false,.rows cw),(500000006,false,.rows cp),(500000007,false,.rows an),(500000008,false,.rows cg),(500000009,false,.rows cw),(500000010,false,.rows cp)]⟩ [(.norm,⟨[(4,.aR z0 []),(2,.aR z1 [])],[(z0,false,.var b7 (.pair (.leaf .bool) (.pair (.leaf I6) (.pair (.leaf .str) (.pair (.pair (.leaf I6) (.pair (.whole z2 an) (.leaf .unit))) (.pair (.pair (.whole z3 cg) (.leaf (.pair I6 .unit))) (.pair (.whole 500000004 cw) (.pair (.whole 500000005 cp) (.leaf .unit))))))))),(z1,false,.var b7 (.pair (.leaf .bool) (.pair (.leaf I6) (.pair (.leaf .str) (.pair (.leaf gv) (.pair (.leaf je) (.pair (.leaf (.lst cw)) (.pair (.whole 500000006 cp) (.leaf .unit))))))))),(z2,false,.rows an),(z3,false,.rows cg),(500000004,false,.rows cw),(500000005,false,.rows cp),(500000006,false,.rows cp)]⟩),(.norm,⟨[(4,.aR z0 []),(2,.aR z1 [])],[(z0,false,.var b7 (.pair (.leaf .bool) (.pair (.leaf I6) (.pair (.leaf .str) (.pair (.pair (.leaf I6) (.pair (.whole z2 an) (.leaf .unit))) (.pair (.pair (.whole z3 cg) (.leaf (.pair I6 .unit))) (.pair (.whole 500000004 cw) (.pair (.whole 500000005 cp) (.leaf .unit))))))))),(z1,false,.var b7 (.pair (.leaf .bool) (.pair (.leaf I6) (.pair (.leaf .str) (.pair (.pair (.leaf I6) (.pair (.whole 500000006 an) (.leaf .unit))) (.pair (.pair (.whole 500000007 cg) (.leaf (.pair I6 .unit))) (.pair (.whole 500000008 cw) (.pair (.whole 500000009 cp) (.leaf .unit))))))))),(z2,false,.rows an),(z3,false,.rows cg),(500000004,false,.rows cw),(500000005,false,.rows cp),(500000006,false,.rows an),(500000007,false,.rows cg),(500000008,false,.rows cw),(500000009,false,.rows cp)]⟩)] q33 TR
def acK:LT:=[(1000006,Zw)]
def anp:∀x,boxR C_q94 acK (qD Tryz.f121 8) Zw x=q33 x:=by intro x;kernel_rfl
def e_q94:EV C_q94 acK Tryz.f121 [.k (.pair .bool (.pair I6 (.pair .str (.pair (.pair I6 (.pair (.own an) .unit)) (.pair (.pair (.own cg) (.pair I6 .unit)) (.pair (.own cw) (.pair (.own cp) .unit))))))),.v eL] [.v (.pair .bool (.pair I6 (.pair .str (.pair gv (.pair je (.pair (.lst cw) (.pair (.own cp) .unit))))))),.v (.own eL)] q94:=by intro xs;kernel_rfl
def ok_q94:CO Sc:=con_ok (Ls:=[]) mixed (ei _ _) (SF _ (W0 _ (fk_q96 _ nF))) Tryz.func121 loopsL_nil (boxes_of (ks:=[8]) (by kernel_rfl) (boxesL_cons (by kernel_rfl) anp q33_v boxesL_nil)) e_q94
def fk_q94 (fns:List (Nat×List Ab.Mode×(List Arg→Option Res))){dp:Bool}(h:eN Tryz.prog Gb ⟨bm,fns,dp,Gl⟩):eN Tryz.prog Gb ⟨bm,Sc.entry::fns,dp,Gl⟩:=h.cons Sc (by kernel_rfl) (zv (f:=q94)) ok_q94
def Rp:j4:=⟨96,[.v b7,.v eL],[.v b7,.v (.own eL)],q28,zog q28⟩
def C_q28:Cx:=⟨bm,[Sc.entry,Jg.entry,HQ.entry,HO.entry],false,Gl⟩
def e_q28:EV C_q28 ia Tryz.f96 [.v b7,.v eL] [.v b7,.v (.own eL)] q28:=by intro xs;kernel_rfl
def ok_q28:CO Rp:=con_ok (Ls:=[]) mixed (ei _ _) (fk_q94 _ (OP _ (MI _ (MG _ nF)))) Tryz.func96 loopsL_nil boxesL_none e_q28
def fk_q28 (fns:List (Nat×List Ab.Mode×(List Arg→Option Res))){dp:Bool}(h:eN Tryz.prog Gb ⟨bm,fns,dp,Gl⟩):eN Tryz.prog Gb ⟨bm,Rp.entry::fns,dp,Gl⟩:=h.cons Rp (by kernel_rfl) (zv (f:=q28)) ok_q28
def Mk:j4:=⟨87,[.k (.pair b7 (.pair (.own bn) (.pair (.own b9) (.pair (.own an) .unit)))),.v I6,.v (.lst eL)],[.v (.pair b7 (.pair (.own bn) (.pair (.own b9) (.pair (.own an) .unit))))],Gm,zog Gm⟩
def UG:Cx:=⟨bm,[On.entry],false,Gl⟩
def Vv:bZ:=oP ⟨[(7,.leaf I6),(3,.aR z0 []),(2,.leaf (.lst eL)),(1,.leaf I6),(6,.aR z1 [])],[(z0,false,.var fN (.pair (.leaf b7) (.pair (.whole z2 bn) (.pair (.whole z3 b9) (.pair (.whole 500000004 an) (.leaf .unit)))))),(z1,false,.var fN (.pair (.pair (.leaf .bool) (.pair (.leaf I6) (.pair (.leaf .str) (.pair (.pair (.leaf I6) (.pair (.whole 500000005 an) (.leaf .unit))) (.pair (.pair (.whole 500000006 cg) (.leaf (.pair I6 .unit))) (.pair (.whole 500000007 cw) (.pair (.whole 500000008 cp) (.leaf .unit)))))))) (.pair (.whole 500000009 bn) (.pair (.whole 500000010 b9) (.pair (.whole 500000011 an) (.leaf .unit)))))),(z2,false,.rows bn),(z3,false,.rows b9),(500000004,false,.rows an),(500000005,false,.rows an),(500000006,false,.rows cg),(500000007,false,.rows cw),(500000008,false,.rows cp),(500000009,false,.rows bn),(500000010,false,.rows b9),(500000011,false,.rows an)]⟩ [((.exit 0),⟨[(6,.aR z0 []),(3,.aR z1 [])],[(z0,false,.var fN (.pair (.pair (.leaf .bool) (.pair (.leaf I6) (.pair (.leaf .str) (.pair (.pair (.leaf I6) (.pair (.whole z2 an) (.leaf .unit))) (.pair (.pair (.whole z3 cg) (.leaf (.pair I6 .unit))) (.pair (.whole 500000004 cw) (.pair (.whole 500000005 cp) (.leaf .unit)))))))) (.pair (.whole 500000006 bn) (.pair (.whole 500000007 b9) (.pair (.whole 500000008 an) (.leaf .unit)))))),(z1,false,.var fN (.pair (.leaf b7) (.pair (.whole 500000009 bn) (.pair (.whole 500000010 b9) (.pair (.whole 500000011 an) (.leaf .unit)))))),(z2,false,.rows an),(z3,false,.rows cg),(500000004,false,.rows cw),(500000005,false,.rows cp),(500000006,false,.rows bn),(500000007,false,.rows b9),(500000008,false,.rows an),(500000009,false,.rows bn),(500000010,false,.rows b9),(500000011,false,.rows an)]⟩)] adD Lt
def ZC:bZ:=boxD ⟨[(3,.aR z0 []),(2,.leaf (.lst eL)),(1,.leaf I6),(6,.aR z1 []),(7,.leaf I6),(8,.leaf I6)],[(z0,false,.var fN (.pair (.leaf b7) (.pair (.whole z2 bn) (.pair (.whole z3 b9) (.pair (.whole 500000004 an) (.leaf .unit)))))),(z1,false,.var fN (.pair (.pair (.leaf .bool) (.pair (.leaf I6) (.pair (.leaf .str) (.pair (.pair (.leaf I6) (.pair (.whole 500000005 an) (.leaf .unit))) (.pair (.pair (.whole 500000006 cg) (.leaf (.pair I6 .unit))) (.pair (.whole 500000007 cw) (.pair (.whole 500000008 cp) (.leaf .unit)))))))) (.pair (.whole 500000009 bn) (.pair (.whole 500000010 b9) (.pair (.whole 500000011 an) (.leaf .unit)))))),(z2,false,.rows bn),(z3,false,.rows b9),(500000004,false,.rows an),(500000005,false,.rows an),(500000006,false,.rows cg),(500000007,false,.rows cw),(500000008,false,.rows cp),(500000009,false,.rows bn),(500000010,false,.rows b9),(500000011,false,.rows an)]⟩ [(.norm,⟨[(3,.aR z0 []),(2,.leaf (.lst eL)),(1,.leaf I6),(6,.aR z1 []),(7,.leaf I6),(8,.leaf I6)],[(z0,false,.var fN (.pair (.leaf b7) (.pair (.whole z2 bn) (.pair (.whole z3 b9) (.pair (.whole 500000004 an) (.leaf .unit)))))),(z1,false,.var fN (.pair (.pair (.leaf .bool) (.pair (.leaf I6) (.pair (.leaf .str) (.pair (.pair (.leaf I6) (.pair (.whole 500000005 an) (.leaf .unit))) (.pair (.pair (.whole 500000006 cg) (.leaf (.pair I6 .unit))) (.pair (.whole 500000007 cw) (.pair (.whole 500000008 cp) (.leaf .unit)))))))) (.pair (.whole 500000009 bn) (.pair (.whole 500000010 b9) (.pair (.whole 500000011 an) (.leaf .unit)))))),(z2,false,.rows bn),(z3,false,.rows b9),(500000004,false,.rows an),(500000005,false,.rows an),(500000006,false,.rows cg),(500000007,false,.rows cw),(500000008,false,.rows cp),(500000009,false,.rows bn),(500000010,false,.rows b9),(500000011,false,.rows an)]⟩)] q35 Ng
def XF:LT:=[(2,Vv),(2000005,ZC)]
def anE:∀x,round UG XF (iY Tryz.f87 0) Vv x=Lt x:=by intro x;kernel_rfl
def anF:∀x,boxR UG XF (qD Tryz.f87 7) ZC x=q35 x:=by intro x;kernel_rfl
def e_q108:EV UG XF Tryz.f87 [.k (.pair b7 (.pair (.own bn) (.pair (.own b9) (.pair (.own an) .unit)))),.v I6,.v (.lst eL)] [.v (.pair b7 (.pair (.own bn) (.pair (.own b9) (.pair (.own an) .unit))))] Gm:=by intro xs;kernel_rfl
def ajP:CO Mk:=con_ok (Ls:=[Vv]) mixed (ei _ _) (aaT _ nF) Tryz.func87 (loopsC (loopD_ok anE) loopsL_nil) (boxes_of (ks:=[7]) (by kernel_rfl) (boxesL_cons (by kernel_rfl) anF q35_v boxesL_nil)) e_q108
def WO (fns:List (Nat×List Ab.Mode×(List Arg→Option Res))){dp:Bool}(h:eN Tryz.prog Gb ⟨bm,fns,dp,Gl⟩):eN Tryz.prog Gb ⟨bm,Mk.entry::fns,dp,Gl⟩:=h.cons Mk (by kernel_rfl) (zv (f:=Gm)) ajP
def QF:j4:=⟨32,[.v bn],[.v .bool],JQ,zog JQ⟩
def C_q105:Cx:=⟨bm,[],false,Gl⟩
def e_q105:EV C_q105 ia Tryz.f32 [.v bn] [.v .bool] JQ:=by intro xs;kernel_rfl
def ajM:CO QF:=con_ok (Ls:=[]) mixed (ei _ _) nF Tryz.func32 loopsL_nil boxesL_none e_q105
def ahY (fns:List (Nat×List Ab.Mode×(List Arg→Option Res))){dp:Bool}(h:eN Tryz.prog Gb ⟨bm,fns,dp,Gl⟩):eN Tryz.prog Gb ⟨bm,QF.entry::fns,dp,Gl⟩:=h.cons QF (by kernel_rfl) (zv (f:=JQ)) ajM
def Q5:j4:=⟨59,[.v (.lst I6),.v I6],[.v .bool],Ho,zog Ho⟩
def Zg:Cx:=⟨bm,[BE.entry],false,Gl⟩
def U9:bZ:=oP ⟨[(5,.leaf I6),(0,.leaf (.lst I6)),(1,.leaf I6)],[]⟩ [(.ret,⟨[(4,.leaf .bool)],[]⟩),((.exit 0),⟨[(1,.leaf I6)],[]⟩)] aez IG
def ab6:LT:=[(2,U9)]
def am_:∀x,round Zg ab6 (iY Tryz.f59 0) U9 x=IG x:=by intro x;kernel_rfl
def e_q163:EV Zg ab6 Tryz.f59 [.v (.lst I6),.v I6] [.v .bool] Ho:=by intro xs;kernel_rfl
def akG:CO Q5:=con_ok (Ls:=[U9]) mixed (ei _ _) (Cj _ nF) Tryz.func59 (loopsC (loopD_ok am_) loopsL_nil) boxesL_none e_q163
def ail (fns:List (Nat×List Ab.Mode×(List Arg→Option Res))){dp:Bool}(h:eN Tryz.prog Gb ⟨bm,fns,dp,Gl⟩):eN Tryz.prog Gb ⟨bm,Q5.entry::fns,dp,Gl⟩:=h.cons Q5 (by kernel_rfl) (zv (f:=Ho)) akG
def Mu:j4:=⟨60,[.v (.lst I6),.v I6],[.v .bool],Ef,zog Ef⟩
def Zo:Cx:=⟨bm,[],false,Gl⟩
def VQ:bZ:=oP ⟨[(5,.leaf I6),(1,.leaf I6),(0,.leaf (.lst I6))],[]⟩ [(.ret,⟨[(4,.leaf .bool)],[]⟩),((.exit 0),⟨[],[]⟩)] aeT LK
def acg:LT:=[(2,VQ)]
def an9:∀x,round Zo acg (iY Tryz.f60 0) VQ x=LK x:=by intro x;kernel_rfl
def e_q176:EV Zo acg Tryz.f60 [.v (.lst I6),.v I6] [.v .bool] Ef:=by intro xs;kernel_rfl
def akT:CO Mu:=con_ok (Ls:=[VQ]) mixed (ei _ _) nF Tryz.func60 (loopsC (loopD_ok an9) loopsL_nil) boxesL_none e_q176
def W3 (fns:List (Nat×List Ab.Mode×(List Arg→Option Res))){dp:Bool}(h:eN Tryz.prog Gb ⟨bm,fns,dp,Gl⟩):eN Tryz.prog Gb ⟨bm,Mu.entry::fns,dp,Gl⟩:=h.cons Mu (by kernel_rfl) (zv (f:=Ef)) akT
def RN:j4:=⟨48,[.v fy],[.v .bool],FM,zog FM⟩
def QA:Cx:=⟨bm,[Mu.entry,Q5.entry,BE.entry],false,Gl⟩
def Vc:bZ:=oP ⟨[(3,.leaf I6),(1,.aR z0 [])],[(z0,false,.var fy (.leaf fy))]⟩ [(.ret,⟨[(2,.leaf .bool)],[]⟩),((.exit 0),⟨[(1,.aR z0 [])],[(z0,false,.var fy (.leaf fy))]⟩)] afG Kk
def Vd:bZ:=oP ⟨[(5,.leaf I6),(1,.aR z0 [])],[(z0,false,.var fy (.leaf fy))]⟩ [(.ret,⟨[(2,.leaf .bool)],[]⟩),((.exit 2),⟨[],[]⟩)] afI LU
def Ve:bZ:=oP ⟨[(6,.leaf I6),(5,.leaf I6),(1,.aR z0 [])],[(z0,false,.var fy (.leaf fy))]⟩ [(.ret,⟨[(2,.leaf .bool)],[]⟩),((.exit 4),⟨[(1,.aR z0 []),(5,.leaf I6)],[(z0,false,.var fy (.leaf fy))]⟩)] afK LV
def Tj:LT:=[(4,Vc),(10,Vd),(13,Ve)]
def ane:∀x,round QA Tj (iY Tryz.f48 0) Vc x=Kk x:=by intro x;kernel_rfl
def anf:∀x,round QA Tj (iY Tryz.f48 1) Vd x=LU x:=by intro x;kernel_rfl
def ang:∀x,round QA Tj (iY Tryz.f48 2) Ve x=LV x:=by intro x;kernel_rfl
def e_q62:EV QA Tj Tryz.f48 [.v fy] [.v .bool] FM:=by intro xs;kernel_rfl
def ok_q62:CO RN:=con_ok (Ls:=[Vc,Vd,Ve]) mixed (ei _ _) (W3 _ (ail _ (Cj _ nF))) Tryz.func48 (loopsC (loopD_ok ane) (loopsC (loopD_ok anf) (loopsC (loopD_ok ang) loopsL_nil))) boxesL_none e_q62
def fk_q62 (fns:List (Nat×List Ab.Mode×(List Arg→Option Res))){dp:Bool}(h:eN Tryz.prog Gb ⟨bm,fns,dp,Gl⟩):eN Tryz.prog Gb ⟨bm,RN.entry::fns,dp,Gl⟩:=h.cons RN (by kernel_rfl) (zv (f:=FM)) ok_q62
def Ms:j4:=⟨33,[.v r5],[.v .bool],FB,zog FB⟩
def C_q161:Cx:=⟨bm,[Fh.entry,RN.entry,Mm.entry],false,Gl⟩
def e_q161:EV C_q161 ia Tryz.f33 [.v r5] [.v .bool] FB:=by intro xs;kernel_rfl
def akE:CO Ms:=con_ok (Ls:=[]) mixed (ei _ _) (H6 _ (fk_q62 _ (WT _ nF))) Tryz.func33 loopsL_nil boxesL_none e_q161
def WZ (fns:List (Nat×List Ab.Mode×(List Arg→Option Res))){dp:Bool}(h:eN Tryz.prog Gb ⟨bm,fns,dp,Gl⟩):eN Tryz.prog Gb ⟨bm,Ms.entry::fns,dp,Gl⟩:=h.cons Ms (by kernel_rfl) (zv (f:=FB)) akE
def Oq:j4:=⟨35,[.v r5],[.v .bool],EH,zog EH⟩
def C_q82:Cx:=⟨bm,[Fh.entry,Ms.entry],false,Gl⟩
def e_q82:EV C_q82 ia Tryz.f35 [.v r5] [.v .bool] EH:=by intro xs;kernel_rfl
def ok_q82:CO Oq:=con_ok (Ls:=[]) mixed (ei _ _) (H6 _ (WZ _ nF)) Tryz.func35 loopsL_nil boxesL_none e_q82
def aaV (fns:List (Nat×List Ab.Mode×(List Arg→Option Res))){dp:Bool}(h:eN Tryz.prog Gb ⟨bm,fns,dp,Gl⟩):eN Tryz.prog Gb ⟨bm,Oq.entry::fns,dp,Gl⟩:=h.cons Oq (by kernel_rfl) (zv (f:=EH)) ok_q82
def HN:j4:=⟨11,[.v bn],[.v .bool],DH,zog DH⟩
def C_q59:Cx:=⟨bm,[Oq.entry,KK.entry,Ms.entry,QF.entry,BE.entry],false,Gl⟩
def e_q59:EV C_q59 ia Tryz.f11 [.v bn] [.v .bool] DH:=by intro xs;kernel_rfl
def ok_q59:CO HN:=con_ok (Ls:=[]) mixed (ei _ _) (aaV _ (SC _ (WZ _ (ahY _ (Cj _ nF))))) Tryz.func11 loopsL_nil boxesL_none e_q59
def ME (fns:List (Nat×List Ab.Mode×(List Arg→Option Res))){dp:Bool}(h:eN Tryz.prog Gb ⟨bm,fns,dp,Gl⟩):eN Tryz.prog Gb ⟨bm,HN.entry::fns,dp,Gl⟩:=h.cons HN (by kernel_rfl) (zv (f:=DH)) ok_q59
def NX:j4:=⟨122,[.v eL],[.v (.own eL)],JP,zog JP⟩
def C_q104:Cx:=⟨bm,[],false,Gl⟩
def e_q104:EV C_q104 ia Tryz.f122 [.v eL] [.v (.own eL)] JP:=by intro xs;kernel_rfl
def ajL:CO NX:=con_ok (Ls:=[]) mixed (ei _ _) nF Tryz.func122 loopsL_nil boxesL_none e_q104
def aat (fns:List (Nat×List Ab.Mode×(List Arg→Option Res))){dp:Bool}(h:eN Tryz.prog Gb ⟨bm,fns,dp,Gl⟩):eN Tryz.prog Gb ⟨bm,NX.entry::fns,dp,Gl⟩:=h.cons NX (by kernel_rfl) (zv (f:=JP)) ajL
def QY:j4:=⟨169,[.v .str],[.v (.own I6)],Hg,zog Hg⟩
def Zb:Cx:=⟨bm,[Ji.entry,KL.entry],false,Gl⟩
def V3:bZ:=oP ⟨[(5,.leaf I6),(4,.whole z0 .str),(3,.whole z1 I6)],[(z0,false,.rows .str),(z1,false,.rows I6)]⟩ [((.exit 0),⟨[(3,.whole z0 I6)],[(z0,false,.rows I6)]⟩)] aej Na
def ab1:LT:=[(4,V3)]
def aol:∀x,round Zb ab1 (iY Tryz.f169 0) V3 x=Na x:=by intro x;kernel_rfl
def e_q145:EV Zb ab1 Tryz.f169 [.v .str] [.v (.own I6)] Hg:=by intro xs;kernel_rfl
def ako:CO QY:=con_ok (Ls:=[V3]) mixed (ei _ _) (OR _ (SD _ nF)) Tryz.func169 (loopsC (loopD_ok aol) loopsL_nil) boxesL_none e_q145
def aid (fns:List (Nat×List Ab.Mode×(List Arg→Option Res))){dp:Bool}(h:eN Tryz.prog Gb ⟨bm,fns,dp,Gl⟩):eN Tryz.prog Gb ⟨bm,QY.entry::fns,dp,Gl⟩:=h.cons QY (by kernel_rfl) (zv (f:=Hg)) ako
def RM:j4:=⟨150,[.v .str],[.v (.pair I6 (.pair I6 (.pair (.own I6) (.pair (.own I6) .unit)))),.v .bool],q60,zog q60⟩
def C_q60:Cx:=⟨bm,[Mx.entry,QY.entry,Ji.entry,KL.entry],false,Gl⟩
def e_q60:EV C_q60 ia Tryz.f150 [.v .str] [.v (.pair I6 (.pair I6 (.pair (.own I6) (.pair (.own I6) .unit)))),.v .bool] q60:=by intro xs;kernel_rfl
def ok_q60:CO RM:=con_ok (Ls:=[]) mixed (ei _ _) (W6 _ (aid _ (OR _ (SD _ nF)))) Tryz.func150 loopsL_nil boxesL_none e_q60
def fk_q60 (fns:List (Nat×List Ab.Mode×(List Arg→Option Res))){dp:Bool}(h:eN Tryz.prog Gb ⟨bm,fns,dp,Gl⟩):eN Tryz.prog Gb ⟨bm,RM.entry::fns,dp,Gl⟩:=h.cons RM (by kernel_rfl) (zv (f:=q60)) ok_q60
def Rz:j4:=⟨170,[.v I6,.v I6],[.v (.pair I6 (.pair I6 (.pair (.own gT) .unit)))],q42,zog q42⟩
def C_q42:Cx:=⟨bm,[BE.entry],false,Gl⟩
def e_q42:EV C_q42 ia Tryz.f170 [.v I6,.v I6] [.v (.pair I6 (.pair I6 (.pair (.own gT) .unit)))] q42:=by intro xs;kernel_rfl
def ok_q42:CO Rz:=con_ok (Ls:=[]) mixed (ei _ _) (Cj _ nF) Tryz.func170 loopsL_nil boxesL_none e_q42
def fk_q42 (fns:List (Nat×List Ab.Mode×(List Arg→Option Res))){dp:Bool}(h:eN Tryz.prog Gb ⟨bm,fns,dp,Gl⟩):eN Tryz.prog Gb ⟨bm,Rz.entry::fns,dp,Gl⟩:=h.cons Rz (by kernel_rfl) (zv (f:=q42)) ok_q42
def QT:j4:=⟨151,[.v g7],[.v (.pair (.pair I6 (.pair I6 (.pair (.own I6) (.pair (.own I6) .unit)))) (.pair (.pair I6 (.pair I6 (.pair (.own gT) .unit))) .unit))],Lz,zog Lz⟩
def C_q125:Cx:=⟨bm,[Rz.entry,Fh.entry,Oe.entry,Mm.entry],false,Gl⟩
def e_q125:EV C_q125 ia Tryz.f151 [.v g7] [.v (.pair (.pair I6 (.pair I6 (.pair (.own I6) (.pair (.own I6) .unit)))) (.pair (.pair I6 (.pair I6 (.pair (.own gT) .unit))) .unit))] Lz:=by intro xs;kernel_rfl
def aj5:CO QT:=con_ok (Ls:=[]) mixed (ei _ _) (fk_q42 _ (H6 _ (aaK _ (WT _ nF)))) Tryz.func151 loopsL_nil boxesL_none e_q125
def ah9 (fns:List (Nat×List Ab.Mode×(List Arg→Option Res))){dp:Bool}(h:eN Tryz.prog Gb ⟨bm,fns,dp,Gl⟩):eN Tryz.prog Gb ⟨bm,QT.entry::fns,dp,Gl⟩:=h.cons QT (by kernel_rfl) (zv (f:=Lz)) aj5
def RC:j4:=⟨123,[.v bn,.v eL],[.v bn],q46,zog q46⟩
def C_q46:Cx:=⟨bm,[Mx.entry,QT.entry,RM.entry],false,Gl⟩
def e_q46:EV C_q46 ia Tryz.f123 [.v bn,.v eL] [.v bn] q46:=by intro xs;kernel_rfl
def ok_q46:CO RC:=con_ok (Ls:=[]) mixed (ei _ _) (W6 _ (ah9 _ (fk_q60 _ nF))) Tryz.func123 loopsL_nil boxesL_none e_q46
def fk_q46 (fns:List (Nat×List Ab.Mode×(List Arg→Option Res))){dp:Bool}(h:eN Tryz.prog Gb ⟨bm,fns,dp,Gl⟩):eN Tryz.prog Gb ⟨bm,RC.entry::fns,dp,Gl⟩:=h.cons RC (by kernel_rfl) (zv (f:=q46)) ok_q46
def Rc:j4:=⟨179,[.v fy,.v I6],[.v .str,.v .bool],J_,zog J_⟩
def Zn:Cx:=⟨bm,[],false,Gl⟩
def VP:bZ:=oP ⟨[(6,.leaf I6),(2,.aR z0 []),(1,.leaf I6)],[(z0,false,.var fy (.leaf fy))]⟩ [(.ret,⟨[(4,.leaf .str),(5,.leaf .bool)],[]⟩),((.exit 0),⟨[],[]⟩)] aeR LJ
def acf:LT:=[(2,VP)]
def an8:∀x,round Zn acf (iY Tryz.f179 0) VP x=LJ x:=by intro x;kernel_rfl
def e_q175:EV Zn acf Tryz.f179 [.v fy,.v I6] [.v .str,.v .bool] J_:=by intro xs;kernel_rfl
def akS:CO Rc:=con_ok (Ls:=[VP]) mixed (ei _ _) nF Tryz.func179 (loopsC (loopD_ok an8) loopsL_nil) boxesL_none e_q175
def ait (fns:List (Nat×List Ab.Mode×(List Arg→Option Res))){dp:Bool}(h:eN Tryz.prog Gb ⟨bm,fns,dp,Gl⟩):eN Tryz.prog Gb ⟨bm,Rc.entry::fns,dp,Gl⟩:=h.cons Rc (by kernel_rfl) (zv (f:=J_)) akS
def R1:j4:=⟨172,[.v fy],[.v I6],q78,zog q78⟩
def C_q78:Cx:=⟨bm,[Rc.entry],false,Gl⟩
def VS:bZ:=oP ⟨[(3,.leaf I6),(1,.aR z0 [])],[(z0,false,.var fy (.leaf fy))]⟩ [(.ret,⟨[(2,.leaf I6)],[]⟩)] afY PN
def acE:LT:=[(2,VS)]
def aoa:∀x,round C_q78 acE (iY Tryz.f172 0) VS x=PN x:=by intro x;kernel_rfl
def e_q78:EV C_q78 acE Tryz.f172 [.v fy] [.v I6] q78:=by intro xs;kernel_rfl
def ok_q78:CO R1:=con_ok (Ls:=[VS]) mixed (ei _ _) (ait _ nF) Tryz.func172 (loopsC (loopD_ok aoa) loopsL_nil) boxesL_none e_q78
def fk_q78 (fns:List (Nat×List Ab.Mode×(List Arg→Option Res))){dp:Bool}(h:eN Tryz.prog Gb ⟨bm,fns,dp,Gl⟩):eN Tryz.prog Gb ⟨bm,R1.entry::fns,dp,Gl⟩:=h.cons R1 (by kernel_rfl) (zv (f:=q78)) ok_q78
def RI:j4:=⟨153,[.v r5],[.v I6],IQ,zog IQ⟩
def C_q53:Cx:=⟨bm,[R1.entry],false,Gl⟩
def V6:bZ:=oP ⟨[(3,.leaf I6),(4,.leaf I6),(1,.aR z0 [])],[(z0,false,.var r5 (.leaf r5))]⟩ [((.exit 0),⟨[(3,.leaf I6)],[]⟩)] afu PJ
def acy:LT:=[(3,V6)]
def aoo:∀x,round C_q53 acy (iY Tryz.f153 0) V6 x=PJ x:=by intro x;kernel_rfl
def e_q53:EV C_q53 acy Tryz.f153 [.v r5] [.v I6] IQ:=by intro xs;kernel_rfl
def ok_q53:CO RI:=con_ok (Ls:=[V6]) mixed (ei _ _) (fk_q78 _ nF) Tryz.func153 (loopsC (loopD_ok aoo) loopsL_nil) boxesL_none e_q53
def fk_q53 (fns:List (Nat×List Ab.Mode×(List Arg→Option Res))){dp:Bool}(h:eN Tryz.prog Gb ⟨bm,fns,dp,Gl⟩):eN Tryz.prog Gb ⟨bm,RI.entry::fns,dp,Gl⟩:=h.cons RI (by kernel_rfl) (zv (f:=IQ)) ok_q53
def Ob:j4:=⟨175,[.v I6],[.v I6],EC,zog EC⟩
def C_q141:Cx:=⟨bm,[],false,Gl⟩
def e_q141:EV C_q141 ia Tryz.f175 [.v I6] [.v I6] EC:=by intro xs;kernel_rfl
def akk:CO Ob:=con_ok (Ls:=[]) mixed (ei _ _) nF Tryz.func175 loopsL_nil boxesL_none e_q141
def aaH (fns:List (Nat×List Ab.Mode×(List Arg→Option Res))){dp:Bool}(h:eN Tryz.prog Gb ⟨bm,fns,dp,Gl⟩):eN Tryz.prog Gb ⟨bm,Ob.entry::fns,dp,Gl⟩:=h.cons Ob (by kernel_rfl) (zv (f:=EC)) akk
def Oc:j4:=⟨177,[.v I6,.v I6],[.v I6],Ee,zog Ee⟩
def C_q142:Cx:=⟨bm,[],false,Gl⟩
def e_q142:EV C_q142 ia Tryz.f177 [.v I6,.v I6] [.v I6] Ee:=by intro xs;kernel_rfl
def akl:CO Oc:=con_ok (Ls:=[]) mixed (ei _ _) nF Tryz.func177 loopsL_nil boxesL_none e_q142
def aaI (fns:List (Nat×List Ab.Mode×(List Arg→Option Res))){dp:Bool}(h:eN Tryz.prog Gb ⟨bm,fns,dp,Gl⟩):eN Tryz.prog Gb ⟨bm,Oc.entry::fns,dp,Gl⟩:=h.cons Oc (by kernel_rfl) (zv (f:=Ee)) akl
def R4:j4:=⟨161,[.v g7,.v I6],[.v I6],Gx,zog Gx⟩
def UO:Cx:=⟨bm,[Fh.entry,Oc.entry,Ob.entry],false,Gl⟩
def V4:bZ:=oP ⟨[(6,.leaf I6),(2,.aR z0 []),(5,.leaf I6),(1,.leaf I6)],[(z0,false,.var g7 (.leaf g7))]⟩ [((.exit 0),⟨[(2,.aR z0 []),(5,.leaf I6),(1,.leaf I6)],[(z0,false,.var g7 (.leaf g7))]⟩)] af2 IT
def V5:bZ:=oP ⟨[(8,.leaf I6),(2,.aR z0 []),(7,.leaf I6)],[(z0,false,.var g7 (.leaf g7))]⟩ [(.ret,⟨[(4,.leaf I6)],[]⟩),((.exit 2),⟨[(2,.aR z0 [])],[(z0,false,.var g7 (.leaf g7))]⟩)] af4 IU
def XN:LT:=[(3,V4),(8,V5)]
def aom:∀x,round UO XN (iY Tryz.f161 0) V4 x=IT x:=by intro x;kernel_rfl
def aon:∀x,round UO XN (iY Tryz.f161 1) V5 x=IU x:=by intro x;kernel_rfl
def e_q80:EV UO XN Tryz.f161 [.v g7,.v I6] [.v I6] Gx:=by intro xs;kernel_rfl
def ok_q80:CO R4:=con_ok (Ls:=[V4,V5]) mixed (ei _ _) (H6 _ (aaI _ (aaH _ nF))) Tryz.func161 (loopsC (loopD_ok aom) (loopsC (loopD_ok aon) loopsL_nil)) boxesL_none e_q80
def fk_q80 (fns:List (Nat×List Ab.Mode×(List Arg→Option Res))){dp:Bool}(h:eN Tryz.prog Gb ⟨bm,fns,dp,Gl⟩):eN Tryz.prog Gb ⟨bm,R4.entry::fns,dp,Gl⟩:=h.cons R4 (by kernel_rfl) (zv (f:=Gx)) ok_q80
def RH:j4:=⟨184,[.v I6],[.v (.own I6)],q52,zog q52⟩
def C_q52:Cx:=⟨bm,[],false,Gl⟩
def VU:bZ:=oP ⟨[(5,.leaf I6),(4,.leaf I6),(3,.whole z0 I6),(0,.leaf I6)],[(z0,false,.rows I6)]⟩ [((.exit 0),⟨[(4,.leaf I6),(3,.whole z0 I6)],[(z0,false,.rows I6)]⟩)] afs IP
def acw:LT:=[(4,VU)]
def aoc:∀x,round C_q52 acw (iY Tryz.f184 0) VU x=IP x:=by intro x;kernel_rfl
def e_q52:EV C_q52 acw Tryz.f184 [.v I6] [.v (.own I6)] q52:=by intro xs;kernel_rfl
def ok_q52:CO RH:=con_ok (Ls:=[VU]) mixed (ei _ _) nF Tryz.func184 (loopsC (loopD_ok aoc) loopsL_nil) boxesL_none e_q52
def fk_q52 (fns:List (Nat×List Ab.Mode×(List Arg→Option Res))){dp:Bool}(h:eN Tryz.prog Gb ⟨bm,fns,dp,Gl⟩):eN Tryz.prog Gb ⟨bm,RH.entry::fns,dp,Gl⟩:=h.cons RH (by kernel_rfl) (zv (f:=q52)) ok_q52
def R2:j4:=⟨176,[.v I6,.v I6],[.v I6],q79,zog q79⟩
def C_q79:Cx:=⟨bm,[RH.entry],false,Gl⟩
def VT:bZ:=oP ⟨[(6,.leaf I6),(5,.whole z0 I6),(1,.leaf I6),(0,.leaf I6)],[(z0,false,.rows I6)]⟩ [(.ret,⟨[(4,.leaf I6)],[]⟩),((.exit 0),⟨[(0,.leaf I6)],[]⟩)] af0 Kl
def acF:LT:=[(3,VT)]
def aob:∀x,round C_q79 acF (iY Tryz.f176 0) VT x=Kl x:=by intro x;kernel_rfl
def e_q79:EV C_q79 acF Tryz.f176 [.v I6,.v I6] [.v I6] q79:=by intro xs;kernel_rfl
def ok_q79:CO R2:=con_ok (Ls:=[VT]) mixed (ei _ _) (fk_q52 _ nF) Tryz.func176 (loopsC (loopD_ok aob) loopsL_nil) boxesL_none e_q79
def fk_q79 (fns:List (Nat×List Ab.Mode×(List Arg→Option Res))){dp:Bool}(h:eN Tryz.prog Gb ⟨bm,fns,dp,Gl⟩):eN Tryz.prog Gb ⟨bm,R2.entry::fns,dp,Gl⟩:=h.cons R2 (by kernel_rfl) (zv (f:=q79)) ok_q79
def QW:j4:=⟨178,[.v (.lst I6),.v I6],[.v (.own I6)],Iz,zog Iz⟩
def Y9:Cx:=⟨bm,[],false,Gl⟩
def VV:bZ:=oP ⟨[(5,.leaf I6),(0,.leaf (.lst I6)),(1,.leaf I6)],[]⟩ [((.exit 0),⟨[(5,.leaf I6),(0,.leaf (.lst I6)),(1,.leaf I6)],[]⟩)] aed IA
def abY:LT:=[(2,VV)]
def aod:∀x,round Y9 abY (iY Tryz.f178 0) VV x=IA x:=by intro x;kernel_rfl
def e_q140:EV Y9 abY Tryz.f178 [.v (.lst I6),.v I6] [.v (.own I6)] Iz:=by intro xs;kernel_rfl
def akj:CO QW:=con_ok (Ls:=[VV]) mixed (ei _ _) nF Tryz.func178 (loopsC (loopD_ok aod) loopsL_nil) boxesL_none e_q140
def aib (fns:List (Nat×List Ab.Mode×(List Arg→Option Res))){dp:Bool}(h:eN Tryz.prog Gb ⟨bm,fns,dp,Gl⟩):eN Tryz.prog Gb ⟨bm,QW.entry::fns,dp,Gl⟩:=h.cons QW (by kernel_rfl) (zv (f:=Iz)) akj
def Rd:j4:=⟨160,[.v I6,.v I6],[.v (.own I6)],Ka,zog Ka⟩
def UJ:Cx:=⟨bm,[QW.entry,R2.entry,Oc.entry,Ob.entry],false,Gl⟩
def VW:bZ:=oP ⟨[(8,.leaf I6),(7,.whole z0 I6),(5,.leaf I6),(6,.leaf I6),(0,.leaf I6)],[(z0,false,.rows I6)]⟩ [((.exit 0),⟨[(7,.whole z0 I6),(5,.leaf I6),(6,.leaf I6)],[(z0,false,.rows I6)]⟩)] aeV LL
def VX:bZ:=oP ⟨[(10,.leaf I6),(7,.whole z0 I6),(9,.whole z1 I6),(5,.leaf I6),(6,.leaf I6)],[(z0,false,.rows I6),(z1,false,.rows I6)]⟩ [((.exit 2),⟨[(9,.whole z0 I6)],[(z0,false,.rows I6)]⟩)] aeX Kb
def XI:LT:=[(5,VW),(10,VX)]
def aoe:∀x,round UJ XI (iY Tryz.f160 0) VW x=LL x:=by intro x;kernel_rfl
def aof:∀x,round UJ XI (iY Tryz.f160 1) VX x=Kb x:=by intro x;kernel_rfl
def e_q177:EV UJ XI Tryz.f160 [.v I6,.v I6] [.v (.own I6)] Ka:=by intro xs;kernel_rfl
def akU:CO Rd:=con_ok (Ls:=[VW,VX]) mixed (ei _ _) (aib _ (fk_q79 _ (aaI _ (aaH _ nF)))) Tryz.func160 (loopsC (loopD_ok aoe) (loopsC (loopD_ok aof) loopsL_nil)) boxesL_none e_q177
def aiu (fns:List (Nat×List Ab.Mode×(List Arg→Option Res))){dp:Bool}(h:eN Tryz.prog Gb ⟨bm,fns,dp,Gl⟩):eN Tryz.prog Gb ⟨bm,Rd.entry::fns,dp,Gl⟩:=h.cons Rd (by kernel_rfl) (zv (f:=Ka)) akU
def Oj:j4:=⟨142,[.v g7,.v I6],[.v (.own I6)],E8,zog E8⟩
def C_q181:Cx:=⟨bm,[Rd.entry,R4.entry,Fh.entry],false,Gl⟩
def e_q181:EV C_q181 ia Tryz.f142 [.v g7,.v I6] [.v (.own I6)] E8:=by intro xs;kernel_rfl
def akY:CO Oj:=con_ok (Ls:=[]) mixed (ei _ _) (aiu _ (fk_q80 _ (H6 _ nF))) Tryz.func142 loopsL_nil boxesL_none e_q181
def aaP (fns:List (Nat×List Ab.Mode×(List Arg→Option Res))){dp:Bool}(h:eN Tryz.prog Gb ⟨bm,fns,dp,Gl⟩):eN Tryz.prog Gb ⟨bm,Oj.entry::fns,dp,Gl⟩:=h.cons Oj (by kernel_rfl) (zv (f:=E8)) akY
def Oi:j4:=⟨181,[.v (.lst I6),.v (.lst I6)],[.v (.lst I6)],Hq,zog Hq⟩
def Zl:Cx:=⟨bm,[],false,Gl⟩
def VM:bZ:=oP ⟨[(6,.leaf I6),(0,.leaf (.lst I6)),(5,.whole z0 I6),(7,.leaf I6),(1,.leaf (.lst I6))],[(z0,false,.rows I6)]⟩ [((.exit 0),⟨[(5,.whole z0 I6)],[(z0,false,.rows I6)]⟩)] aeN FD
def acd:LT:=[(4,VM)]
def an5:∀x,round Zl acd (iY Tryz.f181 0) VM x=FD x:=by intro x;kernel_rfl
def e_q173:EV Zl acd Tryz.f181 [.v (.lst I6),.v (.lst I6)] [.v (.lst I6)] Hq:=by intro xs;kernel_rfl
def akQ:CO Oi:=con_ok (Ls:=[VM]) mixed (ei _ _) nF Tryz.func181 (loopsC (loopD_ok an5) loopsL_nil) boxesL_none e_q173
def aaO (fns:List (Nat×List Ab.Mode×(List Arg→Option Res))){dp:Bool}(h:eN Tryz.prog Gb ⟨bm,fns,dp,Gl⟩):eN Tryz.prog Gb ⟨bm,Oi.entry::fns,dp,Gl⟩:=h.cons Oi (by kernel_rfl) (zv (f:=Hq)) akQ
def Ml:j4:=⟨165,[.v .str,.v .str],[.v .str],Fw,zog Fw⟩
def YZ:Cx:=⟨bm,[],false,Gl⟩
def VK:bZ:=oP ⟨[(6,.leaf I6),(1,.leaf .str),(0,.leaf .str),(5,.whole z0 I8)],[(z0,false,.rows I8)]⟩ [((.exit 0),⟨[(5,.whole z0 I8)],[(z0,false,.rows I8)]⟩)] adO Lw
def abO:LT:=[(3,VK)]
def an3:∀x,round YZ abO (iY Tryz.f165 0) VK x=Lw x:=by intro x;kernel_rfl
def e_q114:EV YZ abO Tryz.f165 [.v .str,.v .str] [.v .str] Fw:=by intro xs;kernel_rfl
def ajU:CO Ml:=con_ok (Ls:=[VK]) mixed (ei _ _) nF Tryz.func165 (loopsC (loopD_ok an3) loopsL_nil) boxesL_none e_q114
def WQ (fns:List (Nat×List Ab.Mode×(List Arg→Option Res))){dp:Bool}(h:eN Tryz.prog Gb ⟨bm,fns,dp,Gl⟩):eN Tryz.prog Gb ⟨bm,Ml.entry::fns,dp,Gl⟩:=h.cons Ml (by kernel_rfl) (zv (f:=Fw)) ajU
def QV:j4:=⟨180,[.v fy,.v gT],[.v gT],JZ,zog JZ⟩
def Y8:Cx:=⟨bm,[Ml.entry,Oi.entry,Mu.entry],false,Gl⟩
def VR:bZ:=oP ⟨[(5,.leaf I6),(3,.aR z0 []),(2,.aR z1 []),(4,.aR z2 [])],[(z0,false,.var gT (.leaf gT)),(z1,false,.var fy (.leaf fy)),(z2,false,.var gT (.pair (.whole z3 I6) (.leaf (.pair .str .unit)))),(z3,false,.rows I6)]⟩ [((.exit 0),⟨[(4,.aR z0 []),(3,.aR z1 [])],[(z0,false,.var gT (.pair (.whole z2 I6) (.leaf (.pair .str .unit)))),(z1,false,.var gT (.leaf gT)),(z2,false,.rows I6)]⟩)] aeb J0
def abX:LT:=[(2,VR)]
def an_:∀x,round Y8 abX (iY Tryz.f180 0) VR x=J0 x:=by intro x;kernel_rfl
def e_q138:EV Y8 abX Tryz.f180 [.v fy,.v gT] [.v gT] JZ:=by intro xs;kernel_rfl
def akh:CO QV:=con_ok (Ls:=[VR]) mixed (ei _ _) (WQ _ (aaO _ (W3 _ nF))) Tryz.func180 (loopsC (loopD_ok an_) loopsL_nil) boxesL_none e_q138
def aia (fns:List (Nat×List Ab.Mode×(List Arg→Option Res))){dp:Bool}(h:eN Tryz.prog Gb ⟨bm,fns,dp,Gl⟩):eN Tryz.prog Gb ⟨bm,QV.entry::fns,dp,Gl⟩:=h.cons QV (by kernel_rfl) (zv (f:=JZ)) akh
def N8:j4:=⟨164,[.v .str,.v I6],[.v .str],JX,zog JX⟩
def Y6:Cx:=⟨bm,[],false,Gl⟩
def VD:bZ:=oP ⟨[(1,.leaf I6),(0,.leaf .str),(5,.leaf .str)],[]⟩ [((.exit 0),⟨[(5,.leaf .str)],[]⟩)] ad8 LA
def abV:LT:=[(2,VD)]
def anW:∀x,round Y6 abV (iY Tryz.f164 0) VD x=LA x:=by intro x;kernel_rfl
def e_q134:EV Y6 abV Tryz.f164 [.v .str,.v I6] [.v .str] JX:=by intro xs;kernel_rfl
def akd:CO N8:=con_ok (Ls:=[VD]) mixed (ei _ _) nF Tryz.func164 (loopsC (loopD_ok anW) loopsL_nil) boxesL_none e_q134
def aaD (fns:List (Nat×List Ab.Mode×(List Arg→Option Res))){dp:Bool}(h:eN Tryz.prog Gb ⟨bm,fns,dp,Gl⟩):eN Tryz.prog Gb ⟨bm,N8.entry::fns,dp,Gl⟩:=h.cons N8 (by kernel_rfl) (zv (f:=JX)) akd
def Oa:j4:=⟨166,[.v I6],[.v .str],Iy,zog Iy⟩
def C_q139:Cx:=⟨bm,[N8.entry],false,Gl⟩
def e_q139:EV C_q139 ia Tryz.f166 [.v I6] [.v .str] Iy:=by intro xs;kernel_rfl
def aki:CO Oa:=con_ok (Ls:=[]) mixed (ei _ _) (aaD _ nF) Tryz.func166 loopsL_nil boxesL_none e_q139
def aaG (fns:List (Nat×List Ab.Mode×(List Arg→Option Res))){dp:Bool}(h:eN Tryz.prog Gb ⟨bm,fns,dp,Gl⟩):eN Tryz.prog Gb ⟨bm,Oa.entry::fns,dp,Gl⟩:=h.cons Oa (by kernel_rfl) (zv (f:=Iy)) aki
def Rb:j4:=⟨173,[.v fy,.v (.lst I6),.v .str],[.v (.pair I6 (.pair I6 (.pair (.own gT) .unit))),.v I6],Gt,zog Gt⟩
def Zm:Cx:=⟨bm,[Ml.entry,Oi.entry,Mu.entry,Oa.entry,N_.entry,QV.entry],false,Gl⟩
def VN:bZ:=oP ⟨[(12,.leaf I6),(10,.aR z0 []),(8,.aR z1 []),(11,.leaf .bool),(9,.aR z2 []),(6,.aR z3 [])],[(z0,false,.var fy (.pair (.leaf I6) (.pair (.leaf I6) (.pair (.whole 500000004 gT) (.leaf .unit))))),(z1,false,.var gT (.leaf gT)),(z2,false,.var fy (.pair (.leaf I6) (.pair (.leaf I6) (.pair (.whole 500000005 gT) (.leaf .unit))))),(z3,false,.var fy (.pair (.leaf I6) (.pair (.leaf I6) (.pair (.whole 500000006 gT) (.leaf .unit))))),(500000004,false,.rows gT),(500000005,false,.rows gT),(500000006,false,.rows gT)]⟩ [((.exit 0),⟨[(6,.aR z0 []),(10,.aR z1 []),(8,.aR z2 []),(11,.leaf .bool)],[(z0,false,.var fy (.pair (.leaf I6) (.pair (.leaf I6) (.pair (.whole z3 gT) (.leaf .unit))))),(z1,false,.var fy (.pair (.leaf I6) (.pair (.leaf I6) (.pair (.whole 500000004 gT) (.leaf .unit))))),(z2,false,.var gT (.leaf gT)),(z3,false,.rows gT),(500000004,false,.rows gT)]⟩)] aeP FE
def ace:LT:=[(10,VN)]
def an6:∀x,round Zm ace (iY Tryz.f173 0) VN x=FE x:=by intro x;kernel_rfl
def e_q174:EV Zm ace Tryz.f173 [.v fy,.v (.lst I6),.v .str] [.v (.pair I6 (.pair I6 (.pair (.own gT) .unit))),.v I6] Gt:=by intro xs;kernel_rfl
def akR:CO Rb:=con_ok (Ls:=[VN]) mixed (ei _ _) (WQ _ (aaO _ (W3 _ (aaG _ (aaF _ (aia _ nF)))))) Tryz.func173 (loopsC (loopD_ok an6) loopsL_nil) boxesL_none e_q174
def ais (fns:List (Nat×List Ab.Mode×(List Arg→Option Res))){dp:Bool}(h:eN Tryz.prog Gb ⟨bm,fns,dp,Gl⟩):eN Tryz.prog Gb ⟨bm,Rb.entry::fns,dp,Gl⟩:=h.cons Rb (by kernel_rfl) (zv (f:=Gt)) akR
def QS:j4:=⟨154,[.v r5,.v I6,.v .str],[.v (.pair (.pair I6 (.pair I6 (.pair (.own I6) (.pair (.own I6) .unit)))) (.pair (.pair I6 (.pair I6 (.pair (.own gT) .unit))) .unit)),.v I6],Ly,zog Ly⟩
def C_q124:Cx:=⟨bm,[Rb.entry,Oj.entry,BE.entry,Od.entry,Ms.entry],false,Gl⟩
def e_q124:EV C_q124 ia Tryz.f154 [.v r5,.v I6,.v .str] [.v (.pair (.pair I6 (.pair I6 (.pair (.own I6) (.pair (.own I6) .unit)))) (.pair (.pair I6 (.pair I6 (.pair (.own gT) .unit))) .unit)),.v I6] Ly:=by intro xs;kernel_rfl
def aj4:CO QS:=con_ok (Ls:=[]) mixed (ei _ _) (ais _ (aaP _ (Cj _ (aaJ _ (WZ _ nF))))) Tryz.func154 loopsL_nil boxesL_none e_q124
def ah8 (fns:List (Nat×List Ab.Mode×(List Arg→Option Res))){dp:Bool}(h:eN Tryz.prog Gb ⟨bm,fns,dp,Gl⟩):eN Tryz.prog Gb ⟨bm,QS.entry::fns,dp,Gl⟩:=h.cons QS (by kernel_rfl) (zv (f:=Ly)) aj4
def NW:j4:=⟨98,[.v bn],[.v (.own eL)],JO,zog JO⟩
def C_q103:Cx:=⟨bm,[],false,Gl⟩
def e_q103:EV C_q103 ia Tryz.f98 [.v bn] [.v (.own eL)] JO:=by intro xs;kernel_rfl
def ajK:CO NW:=con_ok (Ls:=[]) mixed (ei _ _) nF Tryz.func98 loopsL_nil boxesL_none e_q103
def aas (fns:List (Nat×List Ab.Mode×(List Arg→Option Res))){dp:Bool}(h:eN Tryz.prog Gb ⟨bm,fns,dp,Gl⟩):eN Tryz.prog Gb ⟨bm,NW.entry::fns,dp,Gl⟩:=h.cons NW (by kernel_rfl) (zv (f:=JO)) ajK
def RD:j4:=⟨124,[.v bn,.v eL],[.v bn,.v (.own eL)],q47,zog q47⟩
def C_q47:Cx:=⟨bm,[NW.entry,Oq.entry,QS.entry,RI.entry,NX.entry],false,Gl⟩
def e_q47:EV C_q47 ia Tryz.f124 [.v bn,.v eL] [.v bn,.v (.own eL)] q47:=by intro xs;kernel_rfl
def ok_q47:CO RD:=con_ok (Ls:=[]) mixed (ei _ _) (aas _ (aaV _ (ah8 _ (fk_q53 _ (aat _ nF))))) Tryz.func124 loopsL_nil boxesL_none e_q47
def fk_q47 (fns:List (Nat×List Ab.Mode×(List Arg→Option Res))){dp:Bool}(h:eN Tryz.prog Gb ⟨bm,fns,dp,Gl⟩):eN Tryz.prog Gb ⟨bm,RD.entry::fns,dp,Gl⟩:=h.cons RD (by kernel_rfl) (zv (f:=q47)) ok_q47
def Rl:j4:=⟨97,[.v bn,.v eL],[.v bn,.v (.own eL)],q23,zog q23⟩
def C_q23:Cx:=⟨bm,[RD.entry,RC.entry,NX.entry,Jg.entry,KJ.entry,HN.entry],false,Gl⟩
def e_q23:EV C_q23 ia Tryz.f97 [.v bn,.v eL] [.v bn,.v (.own eL)] q23:=by intro xs;kernel_rfl
def ok_q23:CO Rl:=con_ok (Ls:=[]) mixed (ei _ _) (fk_q47 _ (fk_q46 _ (aat _ (OP _ (SB _ (ME _ nF)))))) Tryz.func97 loopsL_nil boxesL_none e_q23
def fk_q23 (fns:List (Nat×List Ab.Mode×(List Arg→Option Res))){dp:Bool}(h:eN Tryz.prog Gb ⟨bm,fns,dp,Gl⟩):eN Tryz.prog Gb ⟨bm,Rl.entry::fns,dp,Gl⟩:=h.cons Rl (by kernel_rfl) (zv (f:=q23)) ok_q23
def RQ:j4:=⟨84,[.k (.pair b7 (.pair (.own bn) (.pair (.own b9) (.pair (.own an) .unit)))),.v di],[.v (.pair b7 (.pair (.own bn) (.pair (.own b9) (.pair (.own an) .unit))))],q66,zog q66⟩
def C_q66:Cx:=⟨bm,[Rl.entry,Mk.entry,Rp.entry,RO.entry],false,Gl⟩
def Zx:bZ:=boxD ⟨[(4,.aR z0 []),(2,.aR z1 []),(5,.aR z2 []),(3,.aR z3 [])],[(z0,false,.var fN (.pair (.pair (.leaf .bool) (.pair (.leaf I6) (.pair (.leaf .str) (.pair (.pair (.leaf I6) (.pair (.whole 500000004 an) (.leaf .unit))) (.pair (.pair (.whole 500000005 cg) (.leaf (.pair I6 .unit))) (.pair (.whole 500000006 cw) (.pair (.whole 500000007 cp) (.leaf .unit)))))))) (.pair (.whole 500000008 bn) (.pair (.whole 500000009 b9) (.pair (.whole 500000010 an) (.leaf .unit)))))),(z1,false,.var fN (.pair (.leaf b7) (.pair (.whole 500000011 bn) (.pair (.whole 500000012 b9) (.pair (.whole 500000013 an) (.leaf .unit)))))),(z2,false,.var b9 (.leaf b9)),(z3,false,.var di (.leaf di)),(500000004,false,.rows an),(500000005,false,.rows cg),(500000006,false,.rows cw),(500000007,false,.rows cp),(500000008,false,.rows bn),(500000009,false,.rows b9),(500000010,false,.rows an),(500000011,false,.rows bn),(500000012,false,.rows b9),(500000013,false,.rows an)]⟩ [(.norm,⟨[(4,.aR z0 []),(2,.aR z1 []),(5,.aR z2 [])],[(z0,false,.var fN (.pair (.pair (.leaf .bool) (.pair (.leaf I6) (.pair (.leaf .str) (.pair (.pair (.leaf I6) (.pair (.whole z3 an) (.leaf .unit))) (.pair (.pair (.whole 500000004 cg) (.leaf (.pair I6 .unit))) (.pair (.whole 500000005 cw) (.pair (.whole 500000006 cp) (.leaf .unit)))))))) (.pair (.whole 500000007 bn) (.pair (.whole 500000008 b9) (.pair (.whole 500000009 an) (.leaf .unit)))))),(z1,false,.var fN (.pair (.leaf b7) (.pair (.whole 500000010 bn) (.pair (.whole 500000011 b9) (.pair (.whole 500000012 an) (.leaf .unit)))))),(z2,false,.var b9 (.leaf b9)),(z3,false,.rows an),(500000004,false,.rows cg),(500000005,false,.rows cw),(500000006,false,.rows cp),(500000007,false,.rows bn),(500000008,false,.rows b9),(500000009,false,.rows an),(500000010,false,.rows bn),(500000011,false,.rows b9),(500000012,false,.rows an)]⟩)] Nj q9'
def acB:LT:=[(2000002,Zx)]
def anw:∀x,boxR C_q66 acB (qD Tryz.f84 2) Zx x=Nj x:=by intro x;kernel_rfl
def e_q66:EV C_q66 acB Tryz.f84 [.k (.pair b7 (.pair (.own bn) (.pair (.own b9) (.pair (.own an) .unit)))),.v di] [.v (.pair b7 (.pair (.own bn) (.pair (.own b9) (.pair (.own an) .unit))))] q66:=by intro xs;kernel_rfl
def ok_q66:CO RQ:=con_ok (Ls:=[]) mixed (ei _ _) (fk_q23 _ (WO _ (fk_q28 _ (fk_q63 _ nF)))) Tryz.func84 loopsL_nil (boxes_of (ks:=[2]) (by kernel_rfl) (boxesL_cons (by kernel_rfl) anw q9_v boxesL_nil)) e_q66
def fk_q66 (fns:List (Nat×List Ab.Mode×(List Arg→Option Res))){dp:Bool}(h:eN Tryz.prog Gb ⟨bm,fns,dp,Gl⟩):eN Tryz.prog Gb ⟨bm,RQ.entry::fns,dp,Gl⟩:=h.cons RQ (by kernel_rfl) (zv (f:=q66)) ok_q66
def RT:j4:=⟨85,[.v b9,.v I6],[.v b9],q71,zog q71⟩
def C_q71:Cx:=⟨bm,[],false,Gl⟩
def e_q71:EV C_q71 ia Tryz.f85 [.v b9,.v I6] [.v b9] q71:=by intro xs;kernel_rfl
def ok_q71:CO RT:=con_ok (Ls:=[]) mixed (ei _ _) nF Tryz.func85 loopsL_nil boxesL_none e_q71
def fk_q71 (fns:List (Nat×List Ab.Mode×(List Arg→Option Res))){dp:Bool}(h:eN Tryz.prog Gb ⟨bm,fns,dp,Gl⟩):eN Tryz.prog Gb ⟨bm,RT.entry::fns,dp,Gl⟩:=h.cons RT (by kernel_rfl) (zv (f:=q71)) ok_q71
def RS:j4:=⟨77,[.k (.pair b7 (.pair (.own bn) (.pair (.own b9) (.pair (.own an) .unit)))),.v di],[.v (.pair b7 (.pair (.own bn) (.pair (.own b9) (.pair (.own an) .unit)))),.v .bool],q70,zog q70⟩
def C_q70:Cx:=⟨bm,[RT.entry,RQ.entry,BE.entry],false,Gl⟩
def e_q70:EV C_q70 ia Tryz.f77 [.k (.pair b7 (.pair (.own bn) (.pair (.own b9) (.pair (.own an) .unit)))),.v di] [.v (.pair b7 (.pair (.own bn) (.pair (.own b9) (.pair (.own an) .unit)))),.v .bool] q70:=by intro xs;kernel_rfl
def ok_q70:CO RS:=con_ok (Ls:=[]) mixed (ei _ _) (fk_q71 _ (fk_q66 _ (Cj _ nF))) Tryz.func77 loopsL_nil boxesL_none e_q70
def fk_q70 (fns:List (Nat×List Ab.Mode×(List Arg→Option Res))){dp:Bool}(h:eN Tryz.prog Gb ⟨bm,fns,dp,Gl⟩):eN Tryz.prog Gb ⟨bm,RS.entry::fns,dp,Gl⟩:=h.cons RS (by kernel_rfl) (zv (f:=q70)) ok_q70
def Mj:j4:=⟨24,[.v bn],[.v (.own eL)],JN,zog JN⟩
def C_q101:Cx:=⟨bm,[],false,Gl⟩
def e_q101:EV C_q101 ia Tryz.f24 [.v bn] [.v (.own eL)] JN:=by intro xs;kernel_rfl
def ajI:CO Mj:=con_ok (Ls:=[]) mixed (ei _ _) nF Tryz.func24 loopsL_nil boxesL_none e_q101
def WN (fns:List (Nat×List Ab.Mode×(List Arg→Option Res))){dp:Bool}(h:eN Tryz.prog Gb ⟨bm,fns,dp,Gl⟩):eN Tryz.prog Gb ⟨bm,Mj.entry::fns,dp,Gl⟩:=h.cons Mj (by kernel_rfl) (zv (f:=JN)) ajI
def Rm:j4:=⟨14,[.v bn,.v .str],[.v (.pair I6 (.pair I6 (.pair I6 (.pair .str (.pair I6 (.pair (.pair (.pair I6 (.pair I6 (.pair (.own I6) (.pair (.own I6) .unit)))) (.pair (.pair I6 (.pair I6 (.pair (.own gT) .unit))) .unit)) .unit)))))),.v (.own eL)],q24,zog q24⟩
def C_q24:Cx:=⟨bm,[Mj.entry,KJ.entry,KK.entry,HN.entry],false,Gl⟩
def e_q24:EV C_q24 ia Tryz.f14 [.v bn,.v .str] [.v (.pair I6 (.pair I6 (.pair I6 (.pair .str (.pair I6 (.pair (.pair (.pair I6 (.pair I6 (.pair (.own I6) (.pair (.own I6) .unit)))) (.pair (.pair I6 (.pair I6 (.pair (.own gT) .unit))) .unit)) .unit)))))),.v (.own eL)] q24:=by intro xs;kernel_rfl
def ok_q24:CO Rm:=con_ok (Ls:=[]) mixed (ei _ _) (WN _ (SB _ (SC _ (ME _ nF)))) Tryz.func14 loopsL_nil boxesL_none e_q24
def fk_q24 (fns:List (Nat×List Ab.Mode×(List Arg→Option Res))){dp:Bool}(h:eN Tryz.prog Gb ⟨bm,fns,dp,Gl⟩):eN Tryz.prog Gb ⟨bm,Rm.entry::fns,dp,Gl⟩:=h.cons Rm (by kernel_rfl) (zv (f:=q24)) ok_q24
def R3:j4:=⟨19,[.v bn],[.v (.pair I6 (.pair I6 (.pair I6 (.pair .str (.pair I6 (.pair (.pair (.pair I6 (.pair I6 (.pair (.own I6) (.pair (.own I6) .unit)))) (.pair (.pair I6 (.pair I6 (.pair (.own gT) .unit))) .unit)) .unit)))))),.v (.own eL)],LX,zog LX⟩
def C_q8:Cx:=⟨bm,[Mj.entry,KJ.entry,HN.entry],false,Gl⟩
def e_q8:EV C_q8 ia Tryz.f19 [.v bn] [.v (.pair I6 (.pair I6 (.pair I6 (.pair .str (.pair I6 (.pair (.pair (.pair I6 (.pair I6 (.pair (.own I6) (.pair (.own I6) .unit)))) (.pair (.pair I6 (.pair I6 (.pair (.own gT) .unit))) .unit)) .unit)))))),.v (.own eL)] LX:=by intro xs;kernel_rfl
def ok_q8:CO R3:=con_ok (Ls:=[]) mixed (ei _ _) (WN _ (SB _ (ME _ nF))) Tryz.func19 loopsL_nil boxesL_none e_q8
def fk_q8 (fns:List (Nat×List Ab.Mode×(List Arg→Option Res))){dp:Bool}(h:eN Tryz.prog Gb ⟨bm,fns,dp,Gl⟩):eN Tryz.prog Gb ⟨bm,R3.entry::fns,dp,Gl⟩:=h.cons R3 (by kernel_rfl) (zv (f:=LX)) ok_q8
def Rn:j4:=⟨86,[.v bn],[.v (.pair I6 (.pair I6 (.pair I6 (.pair .str (.pair I6 (.pair (.pair (.pair I6 (.pair I6 (.pair (.own I6) (.pair (.own I6) .unit)))) (.pair (.pair I6 (.pair I6 (.pair (.own gT) .unit))) .unit)) .unit)))))),.v (.own eL)],q25,zog q25⟩
def C_q25:Cx:=⟨bm,[NW.entry,HN.entry],false,Gl⟩
def e_q25:EV C_q25 ia Tryz.f86 [.v bn] [.v (.pair I6 (.pair I6 (.pair I6 (.pair .str (.pair I6 (.pair (.pair (.pair I6 (.pair I6 (.pair (.own I6) (.pair (.own I6) .unit)))) (.pair (.pair I6 (.pair I6 (.pair (.own gT) .unit))) .unit)) .unit)))))),.v (.own eL)] q25:=by intro xs;kernel_rfl
def ok_q25:CO Rn:=con_ok (Ls:=[]) mixed (ei _ _) (aas _ (ME _ nF)) Tryz.func86 loopsL_nil boxesL_none e_q25
def fk_q25 (fns:List (Nat×List Ab.Mode×(List Arg→Option Res))){dp:Bool}(h:eN Tryz.prog Gb ⟨bm,fns,dp,Gl⟩):eN Tryz.prog Gb ⟨bm,Rn.entry::fns,dp,Gl⟩:=h.cons Rn (by kernel_rfl) (zv (f:=q25)) ok_q25
def Ol:j4:=⟨9,[.v bn],[.v (.own eL)],FG,zog FG⟩
def C_q26:Cx:=⟨bm,[Mj.entry,HN.entry],false,Gl⟩
def e_q26:EV C_q26 ia Tryz.f9 [.v bn] [.v (.own eL)] FG:=by intro xs;kernel_rfl
def ok_q26:CO Ol:=con_ok (Ls:=[]) mixed (ei _ _) (WN _ (ME _ nF)) Tryz.func9 loopsL_nil boxesL_none e_q26
def aaR (fns:List (Nat×List Ab.Mode×(List Arg→Option Res))){dp:Bool}(h:eN Tryz.prog Gb ⟨bm,fns,dp,Gl⟩):eN Tryz.prog Gb ⟨bm,Ol.entry::fns,dp,Gl⟩:=h.cons Ol (by kernel_rfl) (zv (f:=FG)) ok_q26
def RE:j4:=⟨78,[.k (.pair b7 (.pair (.own bn) (.pair (.own b9) (.pair (.own an) .unit)))),.v di],[.v (.pair b7 (.pair (.own bn) (.pair (.own b9) (.pair (.own an) .unit)))),.v .bool],q48,zog q48⟩
def C_q48:Cx:=⟨bm,[Mk.entry,Ol.entry,Rn.entry,R3.entry,Rm.entry,BE.entry],false,Gl⟩
def Zy:bZ:=boxD ⟨[(4,.aR z0 []),(2,.aR z1 []),(3,.aR z2 []),(6,.aR z3 []),(8,.aR 500000004 [])],[(z0,false,.var fN (.pair (.pair (.leaf .bool) (.pair (.leaf I6) (.pair (.leaf .str) (.pair (.pair (.leaf I6) (.pair (.whole 500000005 an) (.leaf .unit))) (.pair (.pair (.whole 500000006 cg) (.leaf (.pair I6 .unit))) (.pair (.whole 500000007 cw) (.pair (.whole 500000008 cp) (.leaf .unit)))))))) (.pair (.whole 500000009 bn) (.pair (.whole 500000010 b9) (.pair (.whole 500000011 an) (.leaf .unit)))))),(z1,false,.var fN (.pair (.leaf b7) (.pair (.whole 500000012 bn) (.pair (.whole 500000013 b9) (.pair (.whole 500000014 an) (.leaf .unit)))))),(z2,false,.var di (.leaf di)),(z3,false,.var bn (.leaf bn)),(500000004,false,.var bn (.leaf bn)),(500000005,false,.rows an),(500000006,false,.rows cg),(500000007,false,.rows cw),(500000008,false,.rows cp),(500000009,false,.rows bn),(500000010,false,.rows b9),(500000011,false,.rows an),(500000012,false,.rows bn),(500000013,false,.rows b9),(500000014,false,.rows an)]⟩ [(.norm,⟨[(4,.aR z0 []),(7,.whole z1 eL),(2,.aR z2 []),(3,.aR z3 []),(6,.aR 500000004 []),(8,.aR 500000005 [])],[(z0,false,.var fN (.pair (.pair (.leaf .bool) (.pair (.leaf I6) (.pair (.leaf .str) (.pair (.pair (.leaf I6) (.pair (.whole 500000006 an) (.leaf .unit))) (.pair (.pair (.whole 500000007 cg) (.leaf (.pair I6 .unit))) (.pair (.whole 500000008 cw) (.pair (.whole 500000009 cp) (.leaf .unit)))))))) (.pair (.whole 500000010 bn) (.pair (.whole 500000011 b9) (.pair (.whole 500000012 an) (.leaf .unit)))))),(z1,false,.rows eL),(z2,false,.var fN (.pair (.leaf b7) (.pair (.whole 500000013 bn) (.pair (.whole 500000014 b9) (.pair (.whole 500000015 an) (.leaf .unit)))))),(z3,false,.var di (.leaf di)),(500000004,false,.var bn (.leaf bn)),(500000005,false,.var bn (.pair (.leaf I6) (.pair (.leaf I6) (.pair (.leaf I6) (.pair (.leaf .str) (.pair (.leaf I6) (.pair (.pair (.pair (.leaf I6) (.pair (.leaf I6) (.pair (.whole 500000016 I6) (.pair (.whole 500000017 I6) (.leaf .unit))))) (.pair (.pair (.leaf I6) (.pair (.leaf I6) (.pair (.whole 500000018 gT) (.leaf .unit)))) (.leaf .unit))) (.leaf .unit)))))))),(500000006,false,.rows an),(500000007,false,.rows cg),(500000008,false,.rows cw),(500000009,false,.rows cp),(500000010,false,.rows bn),(500000011,false,.rows b9),(500000012,false,.rows an),(500000013,false,.rows bn),(500000014,false,.rows b9),(500000015,false,.rows an),(500000016,false,.rows I6),(500000017,false,.rows I6),(500000018,false,.rows gT)]⟩),(.norm,⟨[(4,.aR z0 []),(7,.whole z1 eL),(2,.aR z2 []),(3,.aR z3 []),(6,.aR 500000004 []),(8,.aR 500000005 [])],[(z0,false,.var fN (.pair (.pair (.leaf .bool) (.pair (.leaf I6) (.pair (.leaf .str) (.pair (.pair (.leaf I6) (.pair (.whole 500000006 an) (.leaf .unit))) (.pair (.pair (.whole 500000007 cg) (.leaf (.pair I6 .unit))) (.pair (.whole 500000008 cw) (.pair (.whole 500000009 cp) (.leaf .unit)))))))) (.pair (.whole 500000010 bn) (.pair (.whole 500000011 b9) (.pair (.whole 500000012 an) (.leaf .unit)))))),(z1,false,.rows eL),(z2,false,.var fN (.pair (.leaf b7) (.pair (.whole 500000013 bn) (.pair (.whole 500000014 b9) (.pair (.whole 500000015 an) (.leaf .unit)))))),(z3,false,.var di (.leaf di)),(500000004,false,.var bn (.leaf bn)),(500000005,false,.var bn (.leaf bn)),(500000006,false,.rows an),(500000007,false,.rows cg),(500000008,false,.rows cw),(500000009,false,.rows cp),(500000010,false,.rows bn),(500000011,false,.rows b9),(500000012,false,.rows an),(500000013,false,.rows bn),(500000014,false,.rows b9),(500000015,false,.rows an)]⟩)] Wh.q6 q6'
def acv:LT:=[(2000006,Zy)]
def anx:∀x,boxR C_q48 acv (qD Tryz.f78 7) Zy x=Wh.q6 x:=by intro x;kernel_rfl
def e_q48:EV C_q48 acv Tryz.f78 [.k (.pair b7 (.pair (.own bn) (.pair (.own b9) (.pair (.own an) .unit)))),.v di] [.v (.pair b7 (.pair (.own bn) (.pair (.own b9) (.pair (.own an) .unit)))),.v .bool] q48:=by intro xs;kernel_rfl
def ok_q48:CO RE:=con_ok (Ls:=[]) mixed (ei _ _) (WO _ (aaR _ (fk_q25 _ (fk_q8 _ (fk_q24 _ (Cj _ nF)))))) Tryz.func78 loopsL_nil (boxes_of (ks:=[7]) (by kernel_rfl) (boxesL_cons (by kernel_rfl) anx q6_v boxesL_nil)) e_q48
def fk_q48 (fns:List (Nat×List Ab.Mode×(List Arg→Option Res))){dp:Bool}(h:eN Tryz.prog Gb ⟨bm,fns,dp,Gl⟩):eN Tryz.prog Gb ⟨bm,RE.entry::fns,dp,Gl⟩:=h.cons RE (by kernel_rfl) (zv (f:=q48)) ok_q48
def Q4:j4:=⟨158,[.v .str],[.v .bool],J5,zog J5⟩
def C_q162:Cx:=⟨bm,[Jh.entry],false,Gl⟩
def e_q162:EV C_q162 ia Tryz.f158 [.v .str] [.v .bool] J5:=by intro xs;kernel_rfl
def akF:CO Q4:=con_ok (Ls:=[]) mixed (ei _ _) (OQ _ nF) Tryz.func158 loopsL_nil boxesL_none e_q162
def aik (fns:List (Nat×List Ab.Mode×(List Arg→Option Res))){dp:Bool}(h:eN Tryz.prog Gb ⟨bm,fns,dp,Gl⟩):eN Tryz.prog Gb ⟨bm,Q4.entry::fns,dp,Gl⟩:=h.cons Q4 (by kernel_rfl) (zv (f:=J5)) akF
def N3:j4:=⟨138,[.v .str,.v .str],[.v .str,.v .bool],JW,zog JW⟩
def C_q126:Cx:=⟨bm,[Of.entry,BE.entry,Q4.entry,Jh.entry],false,Gl⟩
def e_q126:EV C_q126 ia Tryz.f138 [.v .str,.v .str] [.v .str,.v .bool] JW:=by intro xs;kernel_rfl
def aj6:CO N3:=con_ok (Ls:=[]) mixed (ei _ _) (aaL _ (Cj _ (aik _ (OQ _ nF)))) Tryz.func138 loopsL_nil boxesL_none e_q126
def aay (fns:List (Nat×List Ab.Mode×(List Arg→Option Res))){dp:Bool}(h:eN Tryz.prog Gb ⟨bm,fns,dp,Gl⟩):eN Tryz.prog Gb ⟨bm,N3.entry::fns,dp,Gl⟩:=h.cons N3 (by kernel_rfl) (zv (f:=JW)) aj6
def N7:j4:=⟨102,[.v b7,.v .str],[.v b7,.v I6],Fy,zog Fy⟩
def C_q133:Cx:=⟨bm,[Mp.entry,N3.entry],false,Gl⟩
def e_q133:EV C_q133 ia Tryz.f102 [.v b7,.v .str] [.v b7,.v I6] Fy:=by intro xs;kernel_rfl
def akc:CO N7:=con_ok (Ls:=[]) mixed (ei _ _) (WW _ (aay _ nF)) Tryz.func102 loopsL_nil boxesL_none e_q133
def aaC (fns:List (Nat×List Ab.Mode×(List Arg→Option Res))){dp:Bool}(h:eN Tryz.prog Gb ⟨bm,fns,dp,Gl⟩):eN Tryz.prog Gb ⟨bm,N7.entry::fns,dp,Gl⟩:=h.cons N7 (by kernel_rfl) (zv (f:=Fy)) akc
def Ry:j4:=⟨88,[.v b7,.v I6,.v .str,.v .str],[.v b7,.v I6],q41,zog q41⟩
def C_q41:Cx:=⟨bm,[N7.entry,KO.entry,N2.entry,HQ.entry,HO.entry],false,Gl⟩
def e_q41:EV C_q41 ia Tryz.f88 [.v b7,.v I6,.v .str,.v .str] [.v b7,.v I6] q41:=by intro xs;kernel_rfl
def ok_q41:CO Ry:=con_ok (Ls:=[]) mixed (ei _ _) (aaC _ (SG _ (aax _ (MI _ (MG _ nF))))) Tryz.func88 loopsL_nil boxesL_none e_q41
def fk_q41 (fns:List (Nat×List Ab.Mode×(List Arg→Option Res))){dp:Bool}(h:eN Tryz.prog Gb ⟨bm,fns,dp,Gl⟩):eN Tryz.prog Gb ⟨bm,Ry.entry::fns,dp,Gl⟩:=h.cons Ry (by kernel_rfl) (zv (f:=q41)) ok_q41
def QG:j4:=⟨89,[.k (.pair b7 (.pair (.own bn) (.pair (.own b9) (.pair (.own an) .unit))))],[.v (.pair b7 (.pair (.own bn) (.pair (.own b9) (.pair (.own an) .unit))))],JR,zog JR⟩
def YY:Cx:=⟨bm,[],false,Gl⟩
def Vu:bZ:=oP ⟨[(3,.leaf I6),(1,.aR z0 []),(2,.aR z1 [])],[(z0,false,.var fN (.pair (.leaf b7) (.pair (.whole z2 bn) (.pair (.whole z3 b9) (.pair (.whole 500000004 an) (.leaf .unit)))))),(z1,false,.var fN (.pair (.pair (.leaf .bool) (.pair (.leaf I6) (.pair (.leaf .str) (.pair (.pair (.leaf I6) (.pair (.whole 500000005 an) (.leaf .unit))) (.pair (.pair (.whole 500000006 cg) (.leaf (.pair I6 .unit))) (.pair (.whole 500000007 cw) (.pair (.whole 500000008 cp) (.leaf .unit)))))))) (.pair (.whole 500000009 bn) (.pair (.whole 500000010 b9) (.pair (.whole 500000011 an) (.leaf .unit)))))),(z2,false,.rows bn),(z3,false,.rows b9),(500000004,false,.rows an),(500000005,false,.rows an),(500000006,false,.rows cg),(500000007,false,.rows cw),(500000008,false,.rows cp),(500000009,false,.rows bn),(500000010,false,.rows b9),(500000011,false,.rows an)]⟩ [((.exit 0),⟨[(2,.aR z0 []),(1,.aR z1 [])],[(z0,false,.var fN (.pair (.pair (.leaf .bool) (.pair (.leaf I6) (.pair (.leaf .str) (.pair (.pair (.leaf I6) (.pair (.whole z2 an) (.leaf .unit))) (.pair (.pair (.whole z3 cg) (.leaf (.pair I6 .unit))) (.pair (.whole 500000004 cw) (.pair (.whole 500000005 cp) (.leaf .unit)))))))) (.pair (.whole 500000006 bn) (.pair (.whole 500000007 b9) (.pair (.whole 500000008 an) (.leaf .unit)))))),(z1,false,.var fN (.pair (.leaf b7) (.pair (.whole 500000009 bn) (.pair (.whole 500000010 b9) (.pair (.whole 500000011 an) (.leaf .unit)))))),(z2,false,.rows an),(z3,false,.rows cg),(500000004,false,.rows cw),(500000005,false,.rows cp),(500000006,false,.rows bn),(500000007,false,.rows b9),(500000008,false,.rows an),(500000009,false,.rows bn),(500000010,false,.rows b9),(500000011,false,.rows an)]⟩)] adB PE
def abN:LT:=[(2,Vu)]
def anD:∀x,round YY abN (iY Tryz.f89 0) Vu x=PE x:=by intro x;kernel_rfl
def e_q107:EV YY abN Tryz.f89 [.k (.pair b7 (.pair (.own bn) (.pair (.own b9) (.pair (.own an) .unit))))] [.v (.pair b7 (.pair (.own bn) (.pair (.own b9) (.pair (.own an) .unit))))] JR:=by intro xs;kernel_rfl
def ajO:CO QG:=con_ok (Ls:=[Vu]) mixed (ei _ _) nF Tryz.func89 (loopsC (loopD_ok anD) loopsL_nil) boxesL_none e_q107
def ahZ (fns:List (Nat×List Ab.Mode×(List Arg→Option Res))){dp:Bool}(h:eN Tryz.prog Gb ⟨bm,fns,dp,Gl⟩):eN Tryz.prog Gb ⟨bm,QG.entry::fns,dp,Gl⟩:=h.cons QG (by kernel_rfl) (zv (f:=JR)) ajO
def R9:j4:=⟨105,[.v je,.v I6],[.v (.pair (.own cg) (.pair I6 .unit))],q88,zog q88⟩
def C_q88:Cx:=⟨bm,[KQ.entry],false,Gl⟩
def Vg:bZ:=oP ⟨[(6,.leaf I6),(5,.aR z0 []),(1,.leaf I6),(4,.aR z1 [])],[(z0,false,.var je (.pair (.whole z2 cg) (.leaf (.pair I6 .unit)))),(z1,false,.var je (.pair (.whole z3 cg) (.leaf (.pair I6 .unit)))),(z2,false,.rows cg),(z3,false,.rows cg)]⟩ [((.exit 0),⟨[(4,.aR z0 []),(5,.aR z1 [])],[(z0,false,.var je (.pair (.whole z2 cg) (.leaf (.pair I6 .unit)))),(z1,false,.var je (.pair (.whole z3 cg) (.leaf (.pair I6 .unit)))),(z2,false,.rows cg),(z3,false,.rows cg)]⟩)] af8 LY
def acH:LT:=[(3,Vg)]
def ani:∀x,round C_q88 acH (iY Tryz.f105 0) Vg x=LY x:=by intro x;kernel_rfl
def e_q88:EV C_q88 acH Tryz.f105 [.v je,.v I6] [.v (.pair (.own cg) (.pair I6 .unit))] q88:=by intro xs;kernel_rfl
def ok_q88:CO R9:=con_ok (Ls:=[Vg]) mixed (ei _ _) (SJ _ nF) Tryz.func105 (loopsC (loopD_ok ani) loopsL_nil) boxesL_none e_q88
def fk_q88 (fns:List (Nat×List Ab.Mode×(List Arg→Option Res))){dp:Bool}(h:eN Tryz.prog Gb ⟨bm,fns,dp,Gl⟩):eN Tryz.prog Gb ⟨bm,R9.entry::fns,dp,Gl⟩:=h.cons R9 (by kernel_rfl) (zv (f:=q88)) ok_q88
def Rs:j4:=⟨90,[.v b7,.v I6,.v .str],[.v b7,.v I6],IM,zog IM⟩
def C_q30:Cx:=⟨bm,[R9.entry,N7.entry,KO.entry,N0.entry,HQ.entry,HO.entry],false,Gl⟩
def e_q30:EV C_q30 ia Tryz.f90 [.v b7,.v I6,.v .str] [.v b7,.v I6] IM:=by intro xs;kernel_rfl
def ok_q30:CO Rs:=con_ok (Ls:=[]) mixed (ei _ _) (fk_q88 _ (aaC _ (SG _ (aaw _ (MI _ (MG _ nF)))))) Tryz.func90 loopsL_nil boxesL_none e_q30
def fk_q30 (fns:List (Nat×List Ab.Mode×(List Arg→Option Res))){dp:Bool}(h:eN Tryz.prog Gb ⟨bm,fns,dp,Gl⟩):eN Tryz.prog Gb ⟨bm,Rs.entry::fns,dp,Gl⟩:=h.cons Rs (by kernel_rfl) (zv (f:=IM)) ok_q30
def Q7:j4:=⟨106,[.v cw,.v I6],[.v cw],Gs,zog Gs⟩
def C_q166:Cx:=⟨bm,[],false,Gl⟩
def e_q166:EV C_q166 ia Tryz.f106 [.v cw,.v I6] [.v cw] Gs:=by intro xs;kernel_rfl
def akJ:CO Q7:=con_ok (Ls:=[]) mixed (ei _ _) nF Tryz.func106 loopsL_nil boxesL_none e_q166
def ain (fns:List (Nat×List Ab.Mode×(List Arg→Option Res))){dp:Bool}(h:eN Tryz.prog Gb ⟨bm,fns,dp,Gl⟩):eN Tryz.prog Gb ⟨bm,Q7.entry::fns,dp,Gl⟩:=h.cons Q7 (by kernel_rfl) (zv (f:=Gs)) akJ
def N6:j4:=⟨141,[.v cp],[.v Bp],EB,zog EB⟩
def C_q132:Cx:=⟨bm,[],false,Gl⟩
def e_q132:EV C_q132 ia Tryz.f141 [.v cp] [.v Bp] EB:=by intro xs;kernel_rfl
def akb:CO N6:=con_ok (Ls:=[]) mixed (ei _ _) nF Tryz.func141 loopsL_nil boxesL_none e_q132
def aaB (fns:List (Nat×List Ab.Mode×(List Arg→Option Res))){dp:Bool}(h:eN Tryz.prog Gb ⟨bm,fns,dp,Gl⟩):eN Tryz.prog Gb ⟨bm,N6.entry::fns,dp,Gl⟩:=h.cons N6 (by kernel_rfl) (zv (f:=EB)) akb
def Ot:j4:=⟨108,[.v (.lst Bp),.v I6],[.v I6],q84,zog q84⟩
def C_q84:Cx:=⟨bm,[BE.entry],false,Gl⟩
def U3:bZ:=oP ⟨[(6,.leaf I6),(5,.leaf I6),(0,.leaf (.lst Bp)),(1,.leaf I6)],[]⟩ [(.ret,⟨[(4,.leaf I6)],[]⟩),((.exit 0),⟨[(5,.leaf I6)],[]⟩)] af6 Km
def acG:LT:=[(3,U3)]
def am4:∀x,round C_q84 acG (iY Tryz.f108 0) U3 x=Km x:=by intro x;kernel_rfl
def e_q84:EV C_q84 acG Tryz.f108 [.v (.lst Bp),.v I6] [.v I6] q84:=by intro xs;kernel_rfl
def ok_q84:CO Ot:=con_ok (Ls:=[U3]) mixed (ei _ _) (Cj _ nF) Tryz.func108 (loopsC (loopD_ok am4) loopsL_nil) boxesL_none e_q84
def aaW (fns:List (Nat×List Ab.Mode×(List Arg→Option Res))){dp:Bool}(h:eN Tryz.prog Gb ⟨bm,fns,dp,Gl⟩):eN Tryz.prog Gb ⟨bm,Ot.entry::fns,dp,Gl⟩:=h.cons Ot (by kernel_rfl) (zv (f:=q84)) ok_q84
def Sb:j4:=⟨140,[.v b7,.v I6],[.v .bool],Gy,zog Gy⟩
def C_q91:Cx:=⟨bm,[Ot.entry,N6.entry,HP.entry],false,Gl⟩
def Vl:bZ:=oP ⟨[(6,.leaf I6),(2,.aR z0 []),(5,.whole z1 Bp),(1,.leaf I6)],[(z0,false,.var b7 (.leaf b7)),(z1,false,.rows Bp)]⟩ [((.exit 0),⟨[(1,.leaf I6),(5,.whole z0 Bp),(2,.aR z1 [])],[(z0,false,.rows Bp),(z1,false,.var b7 (.leaf b7))]⟩)] agb Ko
def acJ:LT:=[(3,Vl)]
def ann:∀x,round C_q91 acJ (iY Tryz.f140 0) Vl x=Ko x:=by intro x;kernel_rfl
def e_q91:EV C_q91 acJ Tryz.f140 [.v b7,.v I6] [.v .bool] Gy:=by intro xs;kernel_rfl
def ok_q91:CO Sb:=con_ok (Ls:=[Vl]) mixed (ei _ _) (aaW _ (aaB _ (MH _ nF))) Tryz.func140 (loopsC (loopD_ok ann) loopsL_nil) boxesL_none e_q91
def fk_q91 (fns:List (Nat×List Ab.Mode×(List Arg→Option Res))){dp:Bool}(h:eN Tryz.prog Gb ⟨bm,fns,dp,Gl⟩):eN Tryz.prog Gb ⟨bm,Sb.entry::fns,dp,Gl⟩:=h.cons Sb (by kernel_rfl) (zv (f:=Gy)) ok_q91
def Sd:j4:=⟨107,[.v b7],[.v (.own Bp)],q95,zog q95⟩
def C_q95:Cx:=⟨bm,[N6.entry,HP.entry,Sb.entry,KM.entry,KP.entry],false,Gl⟩
def Vn:bZ:=oP ⟨[(4,.leaf I6),(3,.whole z0 Bp),(1,.aR z1 [])],[(z0,false,.rows Bp),(z1,false,.var b7 (.leaf b7))]⟩ [((.exit 0),⟨[(3,.whole z0 Bp)],[(z0,false,.rows Bp)]⟩)] agd Hx
def acL:LT:=[(3,Vn)]
def anq:∀x,round C_q95 acL (iY Tryz.f107 0) Vn x=Hx x:=by intro x;kernel_rfl
def e_q95:EV C_q95 acL Tryz.f107 [.v b7] [.v (.own Bp)] q95:=by intro xs;kernel_rfl
def ok_q95:CO Sd:=con_ok (Ls:=[Vn]) mixed (ei _ _) (aaB _ (MH _ (fk_q91 _ (SE _ (SH _ nF))))) Tryz.func107 (loopsC (loopD_ok anq) loopsL_nil) boxesL_none e_q95
def fk_q95 (fns:List (Nat×List Ab.Mode×(List Arg→Option Res))){dp:Bool}(h:eN Tryz.prog Gb ⟨bm,fns,dp,Gl⟩):eN Tryz.prog Gb ⟨bm,Sd.entry::fns,dp,Gl⟩:=h.cons Sd (by kernel_rfl) (zv (f:=q95)) ok_q95
def R_:j4:=⟨162,[.v je,.v I6,.v I6],[.v I6],q89,zog q89⟩
def C_q89:Cx:=⟨bm,[],false,Gl⟩
def Vh:bZ:=oP ⟨[(7,.leaf I6),(2,.leaf I6),(3,.aR z0 []),(1,.leaf I6)],[(z0,false,.var je (.leaf je))]⟩ [(.ret,⟨[(6,.leaf I6)],[]⟩),((.exit 0),⟨[],[]⟩)] af_ Kn
def acI:LT:=[(2,Vh)]
def anj:∀x,round C_q89 acI (iY Tryz.f162 0) Vh x=Kn x:=by intro x;kernel_rfl
def e_q89:EV C_q89 acI Tryz.f162 [.v je,.v I6,.v I6] [.v I6] q89:=by intro xs;kernel_rfl
def ok_q89:CO R_:=con_ok (Ls:=[Vh]) mixed (ei _ _) nF Tryz.func162 (loopsC (loopD_ok anj) loopsL_nil) boxesL_none e_q89
def fk_q89 (fns:List (Nat×List Ab.Mode×(List Arg→Option Res))){dp:Bool}(h:eN Tryz.prog Gb ⟨bm,fns,dp,Gl⟩):eN Tryz.prog Gb ⟨bm,R_.entry::fns,dp,Gl⟩:=h.cons R_ (by kernel_rfl) (zv (f:=q89)) ok_q89
def RA:j4:=⟨163,[.k (.pair (.own cg) (.pair I6 .unit)),.v I6],[.v (.pair (.own cg) (.pair I6 .unit)),.v I6],q44,zog q44⟩
def C_q44:Cx:=⟨bm,[Oh.entry],false,Gl⟩
def Vj:bZ:=oP ⟨[(7,.leaf I6),(2,.aR z0 []),(4,.aR z1 []),(1,.leaf I6),(6,.leaf .bool)],[(z0,false,.var je (.pair (.whole z2 cg) (.leaf (.pair I6 .unit)))),(z1,false,.var je (.pair (.whole z3 cg) (.leaf (.pair I6 .unit)))),(z2,false,.rows cg),(z3,false,.rows cg)]⟩ [(.ret,⟨[(4,.aR z0 []),(5,.leaf I6)],[(z0,false,.var je (.pair (.whole z1 cg) (.leaf (.pair I6 .unit)))),(z1,false,.rows cg)]⟩),((.exit 0),⟨[(4,.aR z0 []),(2,.aR z1 [])],[(z0,false,.var je (.pair (.whole z2 cg) (.leaf (.pair I6 .unit)))),(z1,false,.var je (.pair (.whole z3 cg) (.leaf (.pair I6 .unit)))),(z2,false,.rows cg),(z3,false,.rows cg)]⟩)] afo Kh
def acs:LT:=[(3,Vj)]
def anl:∀x,round C_q44 acs (iY Tryz.f163 0) Vj x=Kh x:=by intro x;kernel_rfl
def e_q44:EV C_q44 acs Tryz.f163 [.k (.pair (.own cg) (.pair I6 .unit)),.v I6] [.v (.pair (.own cg) (.pair I6 .unit)),.v I6] q44:=by intro xs;kernel_rfl
def ok_q44:CO RA:=con_ok (Ls:=[Vj]) mixed (ei _ _) (aaN _ nF) Tryz.func163 (loopsC (loopD_ok anl) loopsL_nil) boxesL_none e_q44
def fk_q44 (fns:List (Nat×List Ab.Mode×(List Arg→Option Res))){dp:Bool}(h:eN Tryz.prog Gb ⟨bm,fns,dp,Gl⟩):eN Tryz.prog Gb ⟨bm,RA.entry::fns,dp,Gl⟩:=h.cons RA (by kernel_rfl) (zv (f:=q44)) ok_q44
def Sa:j4:=⟨143,[.v je,.v I6,.v I6,.v I6],[.v (.pair (.own cg) (.pair I6 .unit)),.v I6,.v I6],Hw,zog Hw⟩
def C_q90:Cx:=⟨bm,[RA.entry,R_.entry,KQ.entry],false,Gl⟩
def e_q90:EV C_q90 ia Tryz.f143 [.v je,.v I6,.v I6,.v I6] [.v (.pair (.own cg) (.pair I6 .unit)),.v I6,.v I6] Hw:=by intro xs;kernel_rfl
def ok_q90:CO Sa:=con_ok (Ls:=[]) mixed (ei _ _) (fk_q44 _ (fk_q89 _ (SJ _ nF))) Tryz.func143 loopsL_nil boxesL_none e_q90
def fk_q90 (fns:List (Nat×List Ab.Mode×(List Arg→Option Res))){dp:Bool}(h:eN Tryz.prog Gb ⟨bm,fns,dp,Gl⟩):eN Tryz.prog Gb ⟨bm,Sa.entry::fns,dp,Gl⟩:=h.cons Sa (by kernel_rfl) (zv (f:=Hw)) ok_q90
def R8:j4:=⟨144,[.v je,.v I6],[.v (.pair (.own cg) (.pair I6 .unit)),.v .bool],q86,zog q86⟩
def C_q86:Cx:=⟨bm,[BE.entry,KQ.entry,N4.entry],false,Gl⟩
def e_q86:EV C_q86 ia Tryz.f144 [.v je,.v I6] [.v (.pair (.own cg) (.pair I6 .unit)),.v .bool] q86:=by intro xs;kernel_rfl
def ok_q86:CO R8:=con_ok (Ls:=[]) mixed (ei _ _) (Cj _ (SJ _ (aaz _ nF))) Tryz.func144 loopsL_nil boxesL_none e_q86
def fk_q86 (fns:List (Nat×List Ab.Mode×(List Arg→Option Res))){dp:Bool}(h:eN Tryz.prog Gb ⟨bm,fns,dp,Gl⟩):eN Tryz.prog Gb ⟨bm,R8.entry::fns,dp,Gl⟩:=h.cons R8 (by kernel_rfl) (zv (f:=q86)) ok_q86
def Re:j4:=⟨146,[.v g7,.v .str],[.v (.own .str)],Kc,zog Kc⟩
def Zp:Cx:=⟨bm,[Oa.entry,Fh.entry],false,Gl⟩
def VY:bZ:=oP ⟨[(7,.leaf I6),(2,.aR z0 []),(5,.leaf .str),(6,.whole z1 .str)],[(z0,false,.var g7 (.leaf g7)),(z1,false,.rows .str)]⟩ [((.exit 0),⟨[(6,.whole z0 .str)],[(z0,false,.rows .str)]⟩)] aeZ LM
def ach:LT:=[(4,VY)]
def aog:∀x,round Zp ach (iY Tryz.f146 0) VY x=LM x:=by intro x;kernel_rfl
def e_q178:EV Zp ach Tryz.f146 [.v g7,.v .str] [.v (.own .str)] Kc:=by intro xs;kernel_rfl
def akV:CO Re:=con_ok (Ls:=[VY]) mixed (ei _ _) (aaG _ (H6 _ nF)) Tryz.func146 (loopsC (loopD_ok aog) loopsL_nil) boxesL_none e_q178
def aiv (fns:List (Nat×List Ab.Mode×(List Arg→Option Res))){dp:Bool}(h:eN Tryz.prog Gb ⟨bm,fns,dp,Gl⟩):eN Tryz.prog Gb ⟨bm,Re.entry::fns,dp,Gl⟩:=h.cons Re (by kernel_rfl) (zv (f:=Kc)) akV
def Ra:j4:=⟨145,[.v (.lst .str),.v (.lst I6),.v I6],[.v .str],IJ,zog IJ⟩
def Zk:Cx:=⟨bm,[Ml.entry,N8.entry],false,Gl⟩
def VL:bZ:=oP ⟨[(8,.leaf I6),(1,.leaf (.lst I6)),(0,.leaf (.lst .str)),(7,.leaf .str)],[]⟩ [((.exit 0),⟨[(7,.leaf .str)],[]⟩)] aeL LI
def ab_:LT:=[(3,VL)]
def an4:∀x,round Zk ab_ (iY Tryz.f145 0) VL x=LI x:=by intro x;kernel_rfl
def e_q172:EV Zk ab_ Tryz.f145 [.v (.lst .str),.v (.lst I6),.v I6] [.v .str] IJ:=by intro xs;kernel_rfl
def akP:CO Ra:=con_ok (Ls:=[VL]) mixed (ei _ _) (WQ _ (aaD _ nF)) Tryz.func145 (loopsC (loopD_ok an4) loopsL_nil) boxesL_none e_q172
def air (fns:List (Nat×List Ab.Mode×(List Arg→Option Res))){dp:Bool}(h:eN Tryz.prog Gb ⟨bm,fns,dp,Gl⟩):eN Tryz.prog Gb ⟨bm,Ra.entry::fns,dp,Gl⟩:=h.cons Ra (by kernel_rfl) (zv (f:=IJ)) akP
def Si:j4:=⟨113,[.k (.pair .bool (.pair I6 (.pair .str (.pair (.pair I6 (.pair (.own an) .unit)) (.pair (.pair (.own cg) (.pair I6 .unit)) (.pair (.own cw) (.pair (.own cp) .unit))))))),.v I6,.v an],[.v (.pair .bool (.pair I6 (.pair .str (.pair (.pair I6 (.pair (.own an) .unit)) (.pair (.pair (.own cg) (.pair I6 .unit)) (.pair (.own cw) (.pair (.own cp) .unit))))))),.v (.own eL)],q99,zog q99⟩
def C_q99:Cx:=⟨bm,[Ra.entry,Re.entry,HP.entry,R8.entry,Sa.entry,Oj.entry,KM.entry],false,Gl⟩
def Vq:bZ:=oP ⟨[(11,.leaf I6),(3,.aR z0 []),(10,.whole z1 I6),(5,.aR z2 []),(6,.aR z3 []),(9,.aR 500000004 []),(8,.aR 500000005 []),(1,.leaf I6)],[(z0,false,.var b7 (.pair (.leaf .bool) (.pair (.leaf I6) (.pair (.leaf .str) (.pair (.pair (.leaf I6) (.pair (.whole 500000006 an) (.leaf .unit))) (.pair (.pair (.whole 500000007 cg) (.leaf (.pair I6 .unit))) (.pair (.whole 500000008 cw) (.pair (.whole 500000009 cp) (.leaf .unit))))))))),(z1,false,.rows I6),(z2,false,.var an (.leaf an)),(z3,false,.var b7 (.pair (.leaf .bool) (.pair (.leaf I6) (.pair (.leaf .str) (.pair (.pair (.leaf I6) (.pair (.whole 500000010 an) (.leaf .unit))) (.pair (.pair (.whole 500000011 cg) (.leaf (.pair I6 .unit))) (.pair (.whole 500000012 cw) (.pair (.whole 500000013 cp) (.leaf .unit))))))))),(500000004,false,.var g7 (.pair (.leaf I6) (.pair (.leaf I6) (.pair (.whole 500000014 I6) (.pair (.whole 500000015 I6) (.leaf .unit)))))),(500000005,false,.var cp (.leaf cp)),(500000006,false,.rows an),(500000007,false,.rows cg),(500000008,false,.rows cw),(500000009,false,.rows cp),(500000010,false,.rows an),(500000011,false,.rows cg),(500000012,false,.rows cw),(500000013,false,.rows cp),(500000014,false,.rows I6),(500000015,false,.rows I6)]⟩ [((.exit 0),⟨[(6,.aR z0 []),(9,.aR z1 []),(10,.whole z2 I6),(5,.aR z3 []),(8,.aR 500000004 []),(3,.aR 500000005 []),(1,.leaf I6)],[(z0,false,.var b7 (.pair (.leaf .bool) (.pair (.leaf I6) (.pair (.leaf .str) (.pair (.pair (.leaf I6) (.pair (.whole 500000006 an) (.leaf .unit))) (.pair (.pair (.whole 500000007 cg) (.leaf (.pair I6 .unit))) (.pair (.whole 500000008 cw) (.pair (.whole 500000009 cp) (.leaf .unit))))))))),(z1,false,.var g7 (.pair (.leaf I6) (.pair (.leaf I6) (.pair (.whole 500000010 I6) (.pair (.whole 500000011 I6) (.leaf .unit)))))),(z2,false,.rows I6),(z3,false,.var an (.leaf an)),(500000004,false,.var cp (.leaf cp)),(500000005,false,.var b7 (.pair (.leaf .bool) (.pair (.leaf I6) (.pair (.leaf .str) (.pair (.pair (.leaf I6) (.pair (.whole 500000012 an) (.leaf .unit))) (.pair (.pair (.whole 500000013 cg) (.leaf (.pair I6 .unit))) (.pair (.whole 500000014 cw) (.pair (.whole 500000015 cp) (.leaf .unit))))))))),(500000006,false,.rows an),(500000007,false,.rows cg),(500000008,false,.rows cw),(500000009,false,.rows cp),(500000010,false,.rows I6),(500000011,false,.rows I6),(500000012,false,.rows an),(500000013,false,.rows cg),(500000014,false,.rows cw),(500000015,false,.rows cp)]⟩)] agi Nk
def acN:LT:=[(5,Vq)]
def ant:∀x,round C_q99 acN (iY Tryz.f113 0) Vq x=Nk x:=by intro x;kernel_rfl
def e_q99:EV C_q99 acN Tryz.f113 [.k (.pair .bool (.pair I6 (.pair .str (.pair (.pair I6 (.pair (.own an) .unit)) (.pair (.pair (.own cg) (.pair I6 .unit)) (.pair (.own cw) (.pair (.own cp) .unit))))))),.v I6,.v an] [.v (.pair .bool (.pair I6 (.pair .str (.pair (.pair I6 (.pair (.own an) .unit)) (.pair (.pair (.own cg) (.pair I6 .unit)) (.pair (.own cw) (.pair (.own cp) .unit))))))),.v (.own eL)] q99:=by intro xs;kernel_rfl
def ok_q99:CO Si:=con_ok (Ls:=[Vq]) mixed (ei _ _) (air _ (aiv _ (MH _ (fk_q86 _ (fk_q90 _ (aaP _ (SE _ nF))))))) Tryz.func113 (loopsC (loopD_ok ant) loopsL_nil) boxesL_none e_q99
def fk_q99 (fns:List (Nat×List Ab.Mode×(List Arg→Option Res))){dp:Bool}(h:eN Tryz.prog Gb ⟨bm,fns,dp,Gl⟩):eN Tryz.prog Gb ⟨bm,Si.entry::fns,dp,Gl⟩:=h.cons Si (by kernel_rfl) (zv (f:=q99)) ok_q99
def Ru:j4:=⟨91,[.v b7],[.v b7,.v (.own eL)],q31,zog q31⟩
def C_q31:Cx:=⟨bm,[Si.entry,Ou.entry,KN.entry,KP.entry,Mt.entry,Ot.entry,Sd.entry,Q7.entry,HQ.entry,HO.entry],false,Gl⟩
def Vb:bZ:=oP ⟨[(5,.leaf I6),(4,.aR z0 []),(2,.aR z1 [])],[(z0,false,.var b7 (.pair (.leaf .bool) (.pair (.leaf I6) (.pair (.leaf .str) (.pair (.pair (.leaf I6) (.pair (.whole z2 an) (.leaf .unit))) (.pair (.pair (.whole z3 cg) (.leaf (.pair I6 .unit))) (.pair (.whole 500000004 cw) (.pair (.whole 500000005 cp) (.leaf .unit))))))))),(z1,false,.var b7 (.pair (.leaf .bool) (.pair (.leaf I6) (.pair (.leaf .str) (.pair (.pair (.leaf I6) (.pair (.whole 500000006 an) (.leaf .unit))) (.pair (.pair (.whole 500000007 cg) (.leaf (.pair I6 .unit))) (.pair (.whole 500000008 cw) (.pair (.whole 500000009 cp) (.leaf .unit))))))))),(z2,false,.rows an),(z3,false,.rows cg),(500000004,false,.rows cw),(500000005,false,.rows cp),(500000006,false,.rows an),(500000007,false,.rows cg),(500000008,false,.rows cw),(500000009,false,.rows cp)]⟩ [((.exit 0),⟨[(2,.aR z0 []),(4,.aR z1 [])],[(z0,false,.var b7 (.pair (.leaf .bool) (.pair (.leaf I6) (.pair (.leaf .str) (.pair (.pair (.leaf I6) (.pair (.whole z2 an) (.leaf .unit))) (.pair (.pair (.whole z3 cg) (.leaf (.pair I6 .unit))) (.pair (.whole 500000004 cw) (.pair (.whole 500000005 cp) (.leaf .unit))))))))),(z1,false,.var b7 (.pair (.leaf .bool) (.pair (.leaf I6) (.pair (.leaf .str) (.pair (.pair (.leaf I6) (.pair (.whole 500000006 an) (.leaf .unit))) (.pair (.pair (.whole 500000007 cg) (.leaf (.pair I6 .unit))) (.pair (.whole 500000008 cw) (.pair (.whole 500000009 cp) (.leaf .unit))))))))),(z2,false,.rows an),(z3,false,.rows cg),(500000004,false,.rows cw),(500000005,false,.rows cp),(500000006,false,.rows an),(500000007,false,.rows cg),(500000008,false,.rows cw),(500000009,false,.rows cp)]⟩)] afi Nf
def acp:LT:=[(8,Vb)]
def anc:∀x,round C_q31 acp (iY Tryz.f91 0) Vb x=Nf x:=by intro x;kernel_rfl
def e_q31:EV C_q31 acp Tryz.f91 [.v b7] [.v b7,.v (.own eL)] q31:=by intro xs;kernel_rfl
def ok_q31:CO Ru:=con_ok (Ls:=[Vb]) mixed (ei _ _) (fk_q99 _ (aaX _ (SF _ (SH _ (W0 _ (aaW _ (fk_q95 _ (ain _ (MI _ (MG _ nF)))))))))) Tryz.func91 (loopsC (loopD_ok anc) loopsL_nil) boxesL_none e_q31
def fk_q31 (fns:List (Nat×List Ab.Mode×(List Arg→Option Res))){dp:Bool}(h:eN Tryz.prog Gb ⟨bm,fns,dp,Gl⟩):eN Tryz.prog Gb ⟨bm,Ru.entry::fns,dp,Gl⟩:=h.cons Ru (by kernel_rfl) (zv (f:=q31)) ok_q31
def RF:j4:=⟨93,[.v di],[.v .str],q49,zog q49⟩
def C_q49:Cx:=⟨bm,[KO.entry],false,Gl⟩
def e_q49:EV C_q49 ia Tryz.f93 [.v di] [.v .str] q49:=by intro xs;kernel_rfl
def ok_q49:CO RF:=con_ok (Ls:=[]) mixed (ei _ _) (SG _ nF) Tryz.func93 loopsL_nil boxesL_none e_q49
def fk_q49 (fns:List (Nat×List Ab.Mode×(List Arg→Option Res))){dp:Bool}(h:eN Tryz.prog Gb ⟨bm,fns,dp,Gl⟩):eN Tryz.prog Gb ⟨bm,RF.entry::fns,dp,Gl⟩:=h.cons RF (by kernel_rfl) (zv (f:=q49)) ok_q49
def R7:j4:=⟨115,[.v .str,.v .str,.v I6],[.v .str],q85,zog q85⟩
def C_q85:Cx:=⟨bm,[N3.entry],false,Gl⟩
def e_q85:EV C_q85 ia Tryz.f115 [.v .str,.v .str,.v I6] [.v .str] q85:=by intro xs;kernel_rfl
def ok_q85:CO R7:=con_ok (Ls:=[]) mixed (ei _ _) (aay _ nF) Tryz.func115 loopsL_nil boxesL_none e_q85
def fk_q85 (fns:List (Nat×List Ab.Mode×(List Arg→Option Res))){dp:Bool}(h:eN Tryz.prog Gb ⟨bm,fns,dp,Gl⟩):eN Tryz.prog Gb ⟨bm,R7.entry::fns,dp,Gl⟩:=h.cons R7 (by kernel_rfl) (zv (f:=q85)) ok_q85
def Ro:j4:=⟨92,[.v b7,.v .str,.v I6],[.v b7],IL,zog IL⟩
def C_q27:Cx:=⟨bm,[R7.entry,Mp.entry,HO.entry],false,Gl⟩
def e_q27:EV C_q27 ia Tryz.f92 [.v b7,.v .str,.v I6] [.v b7] IL:=by intro xs;kernel_rfl
def ok_q27:CO Ro:=con_ok (Ls:=[]) mixed (ei _ _) (fk_q85 _ (WW _ (MG _ nF))) Tryz.func92 loopsL_nil boxesL_none e_q27
def fk_q27 (fns:List (Nat×List Ab.Mode×(List Arg→Option Res))){dp:Bool}(h:eN Tryz.prog Gb ⟨bm,fns,dp,Gl⟩):eN Tryz.prog Gb ⟨bm,Ro.entry::fns,dp,Gl⟩:=h.cons Ro (by kernel_rfl) (zv (f:=IL)) ok_q27
def Rq:j4:=⟨94,[.v b7],[.v b7],q29,zog q29⟩
def C_q29:Cx:=⟨bm,[Om.entry,N5.entry,Mq.entry,Jh.entry,HQ.entry,HO.entry],false,Gl⟩
def e_q29:EV C_q29 ia Tryz.f94 [.v b7] [.v b7] q29:=by intro xs;kernel_rfl
def ok_q29:CO Rq:=con_ok (Ls:=[]) mixed (ei _ _) (aaS _ (aaA _ (WX _ (OQ _ (MI _ (MG _ nF)))))) Tryz.func94 loopsL_nil boxesL_none e_q29
def fk_q29 (fns:List (Nat×List Ab.Mode×(List Arg→Option Res))){dp:Bool}(h:eN Tryz.prog Gb ⟨bm,fns,dp,Gl⟩):eN Tryz.prog Gb ⟨bm,Rq.entry::fns,dp,Gl⟩:=h.cons Rq (by kernel_rfl) (zv (f:=q29)) ok_q29
def RG:j4:=⟨79,[.k (.pair b7 (.pair (.own bn) (.pair (.own b9) (.pair (.own an) .unit)))),.v di],[.v (.pair b7 (.pair (.own bn) (.pair (.own b9) (.pair (.own an) .unit)))),.v .bool],q50,zog q50⟩
def C_q50:Cx:=⟨bm,[Rq.entry,Ro.entry,RF.entry,Mk.entry,Ru.entry,Rs.entry,QG.entry,Ry.entry],false,Gl⟩
def e_q50:EV C_q50 ia Tryz.f79 [.k (.pair b7 (.pair (.own bn) (.pair (.own b9) (.pair (.own an) .unit)))),.v di] [.v (.pair b7 (.pair (.own bn) (.pair (.own b9) (.pair (.own an) .unit)))),.v .bool] q50:=by intro xs;kernel_rfl
def ok_q50:CO RG:=con_ok (Ls:=[]) mixed (ei _ _) (fk_q29 _ (fk_q27 _ (fk_q49 _ (WO _ (fk_q31 _ (fk_q30 _ (ahZ _ (fk_q41 _ nF)))))))) Tryz.func79 loopsL_nil boxesL_none e_q50
def fk_q50 (fns:List (Nat×List Ab.Mode×(List Arg→Option Res))){dp:Bool}(h:eN Tryz.prog Gb ⟨bm,fns,dp,Gl⟩):eN Tryz.prog Gb ⟨bm,RG.entry::fns,dp,Gl⟩:=h.cons RG (by kernel_rfl) (zv (f:=q50)) ok_q50
def Q8:j4:=⟨70,[.k (.pair b7 (.pair (.own bn) (.pair (.own b9) (.pair (.own an) .unit)))),.v di],[.v fN,.v .bool],J8,zog J8⟩
def Qz:Cx:=⟨bm,[RG.entry,RE.entry,RS.entry],false,Gl⟩
def Zz:bZ:=boxD ⟨[(4,.aR z0 []),(3,.aR z1 []),(2,.aR z2 []),(7,.leaf I6)],[(z0,false,.var fN (.pair (.pair (.leaf .bool) (.pair (.leaf I6) (.pair (.leaf .str) (.pair (.pair (.leaf I6) (.pair (.whole z3 an) (.leaf .unit))) (.pair (.pair (.whole 500000004 cg) (.leaf (.pair I6 .unit))) (.pair (.whole 500000005 cw) (.pair (.whole 500000006 cp) (.leaf .unit)))))))) (.pair (.whole 500000007 bn) (.pair (.whole 500000008 b9) (.pair (.whole 500000009 an) (.leaf .unit)))))),(z1,false,.var di (.leaf di)),(z2,false,.var fN (.pair (.leaf b7) (.pair (.whole 500000010 bn) (.pair (.whole 500000011 b9) (.pair (.whole 500000012 an) (.leaf .unit)))))),(z3,false,.rows an),(500000004,false,.rows cg),(500000005,false,.rows cw),(500000006,false,.rows cp),(500000007,false,.rows bn),(500000008,false,.rows b9),(500000009,false,.rows an),(500000010,false,.rows bn),(500000011,false,.rows b9),(500000012,false,.rows an)]⟩ [(.norm,⟨[(8,.leaf .bool),(4,.aR z0 []),(3,.aR z1 []),(2,.aR z2 []),(7,.leaf I6)],[(z0,false,.var fN (.pair (.pair (.leaf .bool) (.pair (.leaf I6) (.pair (.leaf .str) (.pair (.pair (.leaf I6) (.pair (.whole z3 an) (.leaf .unit))) (.pair (.pair (.whole 500000004 cg) (.leaf (.pair I6 .unit))) (.pair (.whole 500000005 cw) (.pair (.whole 500000006 cp) (.leaf .unit)))))))) (.pair (.whole 500000007 bn) (.pair (.whole 500000008 b9) (.pair (.whole 500000009 an) (.leaf .unit)))))),(z1,false,.var di (.leaf di)),(z2,false,.var fN (.pair (.leaf b7) (.pair (.whole 500000010 bn) (.pair (.whole 500000011 b9) (.pair (.whole 500000012 an) (.leaf .unit)))))),(z3,false,.rows an),(500000004,false,.rows cg),(500000005,false,.rows cw),(500000006,false,.rows cp),(500000007,false,.rows bn),(500000008,false,.rows b9),(500000009,false,.rows an),(500000010,false,.rows bn),(500000011,false,.rows b9),(500000012,false,.rows an)]⟩)] q67 TS
def ZA:bZ:=boxD ⟨[(4,.aR z0 []),(3,.aR z1 []),(2,.aR z2 []),(7,.leaf I6)],[(z0,false,.var fN (.pair (.pair (.leaf .bool) (.pair (.leaf I6) (.pair (.leaf .str) (.pair (.pair (.leaf I6) (.pair (.whole z3 an) (.leaf .unit))) (.pair (.pair (.whole 500000004 cg) (.leaf (.pair I6 .unit))) (.pair (.whole 500000005 cw) (.pair (.whole 500000006 cp) (.leaf .unit)))))))) (.pair (.whole 500000007 bn) (.pair (.whole 500000008 b9) (.pair (.whole 500000009 an) (.leaf .unit)))))),(z1,false,.var di (.leaf di)),(z2,false,.var fN (.pair (.leaf b7) (.pair (.whole 500000010 bn) (.pair (.whole 500000011 b9) (.pair (.whole 500000012 an) (.leaf .unit)))))),(z3,false,.rows an),(500000004,false,.rows cg),(500000005,false,.rows cw),(500000006,false,.rows cp),(500000007,false,.rows bn),(500000008,false,.rows b9),(500000009,false,.rows an),(500000010,false,.rows bn),(500000011,false,.rows b9),(500000012,false,.rows an)]⟩ [(.norm,⟨[(17,.leaf .bool),(4,.aR z0 []),(3,.aR z1 []),(2,.aR z2 []),(7,.leaf I6)],[(z0,false,.var fN (.pair (.pair (.leaf .bool) (.pair (.leaf I6) (.pair (.leaf .str) (.pair (.pair (.leaf I6) (.pair (.whole z3 an) (.leaf .unit))) (.pair (.pair (.whole 500000004 cg) (.leaf (.pair I6 .unit))) (.pair (.whole 500000005 cw) (.pair (.whole 500000006 cp) (.leaf .unit)))))))) (.pair (.whole 500000007 bn) (.pair (.whole 500000008 b9) (.pair (.whole 500000009 an) (.leaf .unit)))))),(z1,false,.var di (.leaf di)),(z2,false,.var fN (.pair (.leaf b7) (.pair (.whole 500000010 bn) (.pair (.whole 500000011 b9) (.pair (.whole 500000012 an) (.leaf .unit)))))),(z3,false,.rows an),(500000004,false,.rows cg),(500000005,false,.rows cw),(500000006,false,.rows cp),(500000007,false,.rows bn),(500000008,false,.rows b9),(500000009,false,.rows an),(500000010,false,.rows bn),(500000011,false,.rows b9),(500000012,false,.rows an)]⟩)] q68 TT
def ZB:bZ:=boxD ⟨[(4,.aR z0 []),(3,.aR z1 []),(2,.aR z2 []),(7,.leaf I6)],[(z0,false,.var fN (.pair (.pair (.leaf .bool) (.pair (.leaf I6) (.pair (.leaf .str) (.pair (.pair (.leaf I6) (.pair (.whole z3 an) (.leaf .unit))) (.pair (.pair (.whole 500000004 cg) (.leaf (.pair I6 .unit))) (.pair (.whole 500000005 cw) (.pair (.whole 500000006 cp) (.leaf .unit)))))))) (.pair (.whole 500000007 bn) (.pair (.whole 500000008 b9) (.pair (.whole 500000009 an) (.leaf .unit)))))),(z1,false,.var di (.leaf di)),(z2,false,.var fN (.pair (.leaf b7) (.pair (.whole 500000010 bn) (.pair (.whole 500000011 b9) (.pair (.whole 500000012 an) (.leaf .unit)))))),(z3,false,.rows an),(500000004,false,.rows cg),(500000005,false,.rows cw),(500000006,false,.rows cp),(500000007,false,.rows bn),(500000008,false,.rows b9),(500000009,false,.rows an),(500000010,false,.rows bn),(500000011,false,.rows b9),(500000012,false,.rows an)]⟩ [(.norm,⟨[(27,.leaf .bool),(4,.aR z0 []),(3,.aR z1 []),(2,.aR z2 [])],[(z0,false,.var fN (.pair (.pair (.leaf .bool) (.pair (.leaf I6) (.pair (.leaf .str) (.pair (.pair (.leaf I6) (.pair (.whole z3 an) (.leaf .unit))) (.pair (.pair (.whole 500000004 cg) (.leaf (.pair I6 .unit))) (.pair (.whole 500000005 cw) (.pair (.whole 500000006 cp) (.leaf .unit)))))))) (.pair (.whole 500000007 bn) (.pair (.whole 500000008 b9) (.pair (.whole 500000009 an) (.leaf .unit)))))),(z1,false,.var di (.leaf di)),(z2,false,.var fN (.pair (.leaf b7) (.pair (.whole 500000010 bn) (.pair (.whole 500000011 b9) (.pair (.whole 500000012 an) (.leaf .unit)))))),(z3,false,.rows an),(500000004,false,.rows cg),(500000005,false,.rows cw),(500000006,false,.rows cp),(500000007,false,.rows bn),(500000008,false,.rows b9),(500000009,false,.rows an),(500000010,false,.rows bn),(500000011,false,.rows b9),(500000012,false,.rows an)]⟩)] q69 TU
def Ti:LT:=[(2000002,Zz),(2000006,ZA),(2000011,ZB)]
def anA:∀x,boxR Qz Ti (qD Tryz.f70 3) Zz x=q67 x:=by intro x;kernel_rfl
def anB:∀x,boxR Qz Ti (qD Tryz.f70 7) ZA x=q68 x:=by intro x;kernel_rfl
def anC:∀x,boxR Qz Ti (qD Tryz.f70 12) ZB x=q69 x:=by intro x;kernel_rfl
def e_q168:EV Qz Ti Tryz.f70 [.k (.pair b7 (.pair (.own bn) (.pair (.own b9) (.pair (.own an) .unit)))),.v di] [.v fN,.v .bool] J8:=by intro xs;kernel_rfl
def akL:CO Q8:=con_ok (Ls:=[]) mixed (ei _ _) (fk_q50 _ (fk_q48 _ (fk_q70 _ nF))) Tryz.func70 loopsL_nil (boxes_of (ks:=[3,7,12]) (by kernel_rfl) (boxesL_cons (by kernel_rfl) anA q67_v (boxesL_cons (by kernel_rfl) anB q68_v (boxesL_cons (by kernel_rfl) anC q69_v boxesL_nil)))) e_q168
def aio (fns:List (Nat×List Ab.Mode×(List Arg→Option Res))){dp:Bool}(h:eN Tryz.prog Gb ⟨bm,fns,dp,Gl⟩):eN Tryz.prog Gb ⟨bm,Q8.entry::fns,dp,Gl⟩:=h.cons Q8 (by kernel_rfl) (zv (f:=J8)) akL
def RW:j4:=⟨66,[.p dz,.v I6],[.v (.own di),.v (.pair b7 (.pair (.own bn) (.pair (.own b9) (.pair (.own an) .unit))))],q73,zog q73⟩
def C_q73:Cx:=⟨bm,[Q8.entry,NY.entry,RU.entry,GL.entry,RP.entry],false,Gl⟩
def Vx:bZ:=oP ⟨[(8,.leaf I6),(6,.aR z0 []),(7,.whole z1 di),(0,.aR 900 []),(5,.aR z2 [])],[(900,false,.var dz (.leaf dz)),(z0,false,.var fN (.leaf fN)),(z1,false,.rows di),(z2,false,.var fN (.pair (.pair (.leaf .bool) (.pair (.leaf I6) (.pair (.leaf .str) (.pair (.pair (.leaf I6) (.pair (.whole z3 an) (.leaf .unit))) (.pair (.pair (.whole 500000004 cg) (.leaf (.pair I6 .unit))) (.pair (.whole 500000005 cw) (.pair (.whole 500000006 cp) (.leaf .unit)))))))) (.pair (.whole 500000007 bn) (.pair (.whole 500000008 b9) (.pair (.whole 500000009 an) (.leaf .unit)))))),(z3,false,.rows an),(500000004,false,.rows cg),(500000005,false,.rows cw),(500000006,false,.rows cp),(500000007,false,.rows bn),(500000008,false,.rows b9),(500000009,false,.rows an)]⟩ [((.exit 0),⟨[(5,.aR z0 []),(6,.aR z1 []),(7,.whole z2 di)],[(900,false,.var dz (.leaf dz)),(z0,false,.var fN (.pair (.pair (.leaf .bool) (.pair (.leaf I6) (.pair (.leaf .str) (.pair (.pair (.leaf I6) (.pair (.whole z3 an) (.leaf .unit))) (.pair (.pair (.whole 500000004 cg) (.leaf (.pair I6 .unit))) (.pair (.whole 500000005 cw) (.pair (.whole 500000006 cp) (.leaf .unit)))))))) (.pair (.whole 500000007 bn) (.pair (.whole 500000008 b9) (.pair (.whole 500000009 an) (.leaf .unit)))))),(z1,false,.var fN (.leaf fN)),(z2,false,.rows di),(z3,false,.rows an),(500000004,false,.rows cg),(500000005,false,.rows cw),(500000006,false,.rows cp),(500000007,false,.rows bn),(500000008,false,.rows b9),(500000009,false,.rows an)]⟩)] afQ PL
def acC:LT:=[(4,Vx)]
def anQ:∀x,round C_q73 acC (iY Tryz.f66 0) Vx x=PL x:=by intro x;kernel_rfl
def e_q73:EV C_q73 acC Tryz.f66 [.p dz,.v I6] [.v (.own di),.v (.pair b7 (.pair (.own bn) (.pair (.own b9) (.pair (.own an) .unit))))] q73:=by intro xs;kernel_rfl
def ok_q73:CO RW:=con_ok (Ls:=[Vx]) mixed (ei _ _) (aio _ (aau _ (fk_q72 _ (KX _ (fk_q64 _ nF))))) Tryz.func66 (loopsC (loopD_ok anQ) loopsL_nil) boxesL_none e_q73
def fk_q73 (fns:List (Nat×List Ab.Mode×(List Arg→Option Res))){dp:Bool}(h:eN Tryz.prog Gb ⟨bm,fns,dp,Gl⟩):eN Tryz.prog Gb ⟨bm,RW.entry::fns,dp,Gl⟩:=h.cons RW (by kernel_rfl) (zv (f:=q73)) ok_q73
def RY:j4:=⟨55,[.p dz],[.v (.pair b7 (.pair (.own bn) (.pair (.own b9) (.pair (.own an) .unit))))],q75,zog q75⟩
def C_q75:Cx:=⟨bm,[RW.entry],false,Gl⟩
def e_q75:EV C_q75 ia Tryz.f55 [.p dz] [.v (.pair b7 (.pair (.own bn) (.pair (.own b9) (.pair (.own an) .unit))))] q75:=by intro xs;kernel_rfl
def ok_q75:CO RY:=con_ok (Ls:=[]) mixed (ei _ _) (fk_q73 _ nF) Tryz.func55 loopsL_nil boxesL_none e_q75
def fk_q75 (fns:List (Nat×List Ab.Mode×(List Arg→Option Res))){dp:Bool}(h:eN Tryz.prog Gb ⟨bm,fns,dp,Gl⟩):eN Tryz.prog Gb ⟨bm,RY.entry::fns,dp,Gl⟩:=h.cons RY (by kernel_rfl) (zv (f:=q75)) ok_q75
def Rr:j4:=⟨56,[.p dz,.v fN],[.v (.pair b7 (.pair (.lst bn) (.pair (.own b9) (.pair (.own an) .unit))))],Wh.q3,zog Wh.q3⟩
def C_q3:Cx:=⟨bm,[GL.entry,NY.entry],false,Gl⟩
def e_q3:EV C_q3 ia Tryz.f56 [.p dz,.v fN] [.v (.pair b7 (.pair (.lst bn) (.pair (.own b9) (.pair (.own an) .unit))))] Wh.q3:=by intro xs;kernel_rfl
def ok_q3:CO Rr:=con_ok (Ls:=[]) mixed (ei _ _) (KX _ (aau _ nF)) Tryz.func56 loopsL_nil boxesL_none e_q3
def fk_q3 (fns:List (Nat×List Ab.Mode×(List Arg→Option Res))){dp:Bool}(h:eN Tryz.prog Gb ⟨bm,fns,dp,Gl⟩):eN Tryz.prog Gb ⟨bm,Rr.entry::fns,dp,Gl⟩:=h.cons Rr (by kernel_rfl) (zv (f:=Wh.q3)) ok_q3
def QD:j4:=⟨42,[.p dz],[.v (.pair b7 (.pair (.lst bn) (.pair (.own b9) (.pair (.own an) .unit))))],q10,zog q10⟩
def C_q10:Cx:=⟨bm,[Rr.entry,GL.entry,RY.entry],false,Gl⟩
def e_q10:EV C_q10 ia Tryz.f42 [.p dz] [.v (.pair b7 (.pair (.lst bn) (.pair (.own b9) (.pair (.own an) .unit))))] q10:=by intro xs;kernel_rfl
def ok_q10:CO QD:=con_ok (Ls:=[]) mixed (ei _ _) (fk_q3 _ (KX _ (fk_q75 _ nF))) Tryz.func42 loopsL_nil boxesL_none e_q10
def fk_q10 (fns:List (Nat×List Ab.Mode×(List Arg→Option Res))){dp:Bool}(h:eN Tryz.prog Gb ⟨bm,fns,dp,Gl⟩):eN Tryz.prog Gb ⟨bm,QD.entry::fns,dp,Gl⟩:=h.cons QD (by kernel_rfl) (zv (f:=q10)) ok_q10
def RR:j4:=⟨20,[.p dz],[.v bn],Wh.q7,zog Wh.q7⟩
def C_q7:Cx:=⟨bm,[GL.entry,QD.entry],false,Gl⟩
def e_q7:EV C_q7 ia Tryz.f20 [.p dz] [.v bn] Wh.q7:=by intro xs;kernel_rfl
def ok_q7:CO RR:=con_ok (Ls:=[]) mixed (ei _ _) (KX _ (fk_q10 _ nF)) Tryz.func20 loopsL_nil boxesL_none e_q7
def fk_q7 (fns:List (Nat×List Ab.Mode×(List Arg→Option Res))){dp:Bool}(h:eN Tryz.prog Gb ⟨bm,fns,dp,Gl⟩):eN Tryz.prog Gb ⟨bm,RR.entry::fns,dp,Gl⟩:=h.cons RR (by kernel_rfl) (zv (f:=Wh.q7)) ok_q7
def QC:j4:=⟨6,[.v (.lst I8)],[.v bn],Wh.q1,zog Wh.q1⟩
def C_q1:Cx:=⟨bm,[RR.entry,QU.entry],false,Gl⟩
def e_q1:EV C_q1 ia Tryz.f6 [.v (.lst I8)] [.v bn] Wh.q1:=by intro xs;kernel_rfl
def ok_q1:CO QC:=con_ok (Ls:=[]) mixed (ei _ _) (fk_q7 _ (ah_ _ nF)) Tryz.func6 loopsL_nil boxesL_none e_q1
def fk_q1 (fns:List (Nat×List Ab.Mode×(List Arg→Option Res))){dp:Bool}(h:eN Tryz.prog Gb ⟨bm,fns,dp,Gl⟩):eN Tryz.prog Gb ⟨bm,QC.entry::fns,dp,Gl⟩:=h.cons QC (by kernel_rfl) (zv (f:=Wh.q1)) ok_q1
def HL:j4:=⟨26,[.v I6,.v I6,.v I6],[.v .bool],A0,zog A0⟩
def C_q120:Cx:=⟨bm,[],false,Gl⟩
def e_q120:EV C_q120 ia Tryz.f26 [.v I6,.v I6,.v I6] [.v .bool] A0:=by intro xs;kernel_rfl
def aj0:CO HL:=con_ok (Ls:=[]) mixed (ei _ _) nF Tryz.func26 loopsL_nil boxesL_none e_q120
def MC (fns:List (Nat×List Ab.Mode×(List Arg→Option Res))){dp:Bool}(h:eN Tryz.prog Gb ⟨bm,fns,dp,Gl⟩):eN Tryz.prog Gb ⟨bm,HL.entry::fns,dp,Gl⟩:=h.cons HL (by kernel_rfl) (zv (f:=A0)) aj0
def RK:j4:=⟨25,[.v I6],[.v .bool],IS,zog IS⟩
def C_q57:Cx:=⟨bm,[HL.entry],false,Gl⟩
def e_q57:EV C_q57 ia Tryz.f25 [.v I6] [.v .bool] IS:=by intro xs;kernel_rfl
def ok_q57:CO RK:=con_ok (Ls:=[]) mixed (ei _ _) (MC _ nF) Tryz.func25 loopsL_nil boxesL_none e_q57
def fk_q57 (fns:List (Nat×List Ab.Mode×(List Arg→Option Res))){dp:Bool}(h:eN Tryz.prog Gb ⟨bm,fns,dp,Gl⟩):eN Tryz.prog Gb ⟨bm,RK.entry::fns,dp,Gl⟩:=h.cons RK (by kernel_rfl) (zv (f:=IS)) ok_q57
def Q3:j4:=⟨27,[.v r5],[.v .bool],J2,zog J2⟩
def C_q158:Cx:=⟨bm,[],false,Gl⟩
def e_q158:EV C_q158 ia Tryz.f27 [.v r5] [.v .bool] J2:=by intro xs;kernel_rfl
def akB:CO Q3:=con_ok (Ls:=[]) mixed (ei _ _) nF Tryz.func27 loopsL_nil boxesL_none e_q158
def aij (fns:List (Nat×List Ab.Mode×(List Arg→Option Res))){dp:Bool}(h:eN Tryz.prog Gb ⟨bm,fns,dp,Gl⟩):eN Tryz.prog Gb ⟨bm,Q3.entry::fns,dp,Gl⟩:=h.cons Q3 (by kernel_rfl) (zv (f:=J2)) akB
def Ok:j4:=⟨45,[.v g7],[.v I6],ED,zog ED⟩
def C_q21:Cx:=⟨bm,[],false,Gl⟩
def e_q21:EV C_q21 ia Tryz.f45 [.v g7] [.v I6] ED:=by intro xs;kernel_rfl
def ok_q21:CO Ok:=con_ok (Ls:=[]) mixed (ei _ _) nF Tryz.func45 loopsL_nil boxesL_none e_q21
def aaQ (fns:List (Nat×List Ab.Mode×(List Arg→Option Res))){dp:Bool}(h:eN Tryz.prog Gb ⟨bm,fns,dp,Gl⟩):eN Tryz.prog Gb ⟨bm,Ok.entry::fns,dp,Gl⟩:=h.cons Ok (by kernel_rfl) (zv (f:=ED)) ok_q21
def QN:j4:=⟨43,[.v g7],[.v .bool],Ec,zog Ec⟩
def Y2:Cx:=⟨bm,[Ok.entry,HL.entry],false,Gl⟩
def UQ:bZ:=oP ⟨[(50,.leaf I6),(1,.aR z0 []),(48,.leaf (.lst I6)),(49,.leaf I6)],[(z0,false,.var g7 (.leaf g7))]⟩ [(.ret,⟨[(2,.leaf .bool)],[]⟩),((.exit 0),⟨[],[]⟩)] adU Gn
def abR:LT:=[(6,UQ)]
def amS:∀x,round Y2 abR (iY Tryz.f43 0) UQ x=Gn x:=by intro x;kernel_rfl
def e_q119:EV Y2 abR Tryz.f43 [.v g7] [.v .bool] Ec:=by intro xs;kernel_rfl
def ajZ:CO QN:=con_ok (Ls:=[UQ]) mixed (ei _ _) (aaQ _ (MC _ nF)) Tryz.func43 (loopsC (loopD_ok amS) loopsL_nil) boxesL_none e_q119
def ah6 (fns:List (Nat×List Ab.Mode×(List Arg→Option Res))){dp:Bool}(h:eN Tryz.prog Gb ⟨bm,fns,dp,Gl⟩):eN Tryz.prog Gb ⟨bm,QN.entry::fns,dp,Gl⟩:=h.cons QN (by kernel_rfl) (zv (f:=Ec)) ajZ
def Q2:j4:=⟨57,[.v (.lst I6),.v I6],[.v .bool],Hj,zog Hj⟩
def Ze:Cx:=⟨bm,[HL.entry],false,Gl⟩
def UR:bZ:=oP ⟨[(9,.leaf I6),(0,.leaf (.lst I6)),(1,.leaf I6),(7,.leaf (.lst I6)),(8,.leaf I6)],[]⟩ [(.ret,⟨[(4,.leaf .bool)],[]⟩),((.exit 0),⟨[(1,.leaf I6)],[]⟩)] aep IE
def ab4:LT:=[(2,UR)]
def amT:∀x,round Ze ab4 (iY Tryz.f57 0) UR x=IE x:=by intro x;kernel_rfl
def e_q157:EV Ze ab4 Tryz.f57 [.v (.lst I6),.v I6] [.v .bool] Hj:=by intro xs;kernel_rfl
def akA:CO Q2:=con_ok (Ls:=[UR]) mixed (ei _ _) (MC _ nF) Tryz.func57 (loopsC (loopD_ok amT) loopsL_nil) boxesL_none e_q157
def aii (fns:List (Nat×List Ab.Mode×(List Arg→Option Res))){dp:Bool}(h:eN Tryz.prog Gb ⟨bm,fns,dp,Gl⟩):eN Tryz.prog Gb ⟨bm,Q2.entry::fns,dp,Gl⟩:=h.cons Q2 (by kernel_rfl) (zv (f:=Hj)) akA
def Rh:j4:=⟨58,[.v (.lst I6)],[.v I3],IK,zog IK⟩
def Zu:Cx:=⟨bm,[],false,Gl⟩
def UX:bZ:=oP ⟨[(8,.leaf I6),(3,.leaf I3),(6,.leaf (.lst I6)),(7,.leaf I6)],[]⟩ [((.exit 0),⟨[(3,.leaf I3)],[]⟩)] afa Nd
def acm:LT:=[(3,UX)]
def amY:∀x,round Zu acm (iY Tryz.f58 0) UX x=Nd x:=by intro x;kernel_rfl
def e_q184:EV Zu acm Tryz.f58 [.v (.lst I6)] [.v I3] IK:=by intro xs;kernel_rfl
def ak1:CO Rh:=con_ok (Ls:=[UX]) mixed (ei _ _) nF Tryz.func58 (loopsC (loopD_ok amY) loopsL_nil) boxesL_none e_q184
def aiy (fns:List (Nat×List Ab.Mode×(List Arg→Option Res))){dp:Bool}(h:eN Tryz.prog Gb ⟨bm,fns,dp,Gl⟩):eN Tryz.prog Gb ⟨bm,Rh.entry::fns,dp,Gl⟩:=h.cons Rh (by kernel_rfl) (zv (f:=IK)) ak1
def RJ:j4:=⟨44,[.v fy],[.v .bool],FI,zog FI⟩
def UL:Cx:=⟨bm,[Rh.entry,Q2.entry,HL.entry],false,Gl⟩
def US:bZ:=oP ⟨[(21,.leaf I6),(3,.leaf I3),(1,.aR z0 []),(19,.leaf (.lst gT)),(20,.leaf I6)],[(z0,false,.var fy (.leaf fy))]⟩ [(.ret,⟨[(2,.leaf .bool)],[]⟩),((.exit 0),⟨[(3,.leaf I3),(1,.aR z0 [])],[(z0,false,.var fy (.leaf fy))]⟩)] afy Ht
def UT:bZ:=oP ⟨[(77,.leaf I6),(3,.leaf I3),(75,.leaf (.lst gT)),(76,.leaf I6)],[]⟩ [(.ret,⟨[(2,.leaf .bool)],[]⟩),((.exit 2),⟨[],[]⟩)] afA LS
def XK:LT:=[(5,US),(12,UT)]
def amU:∀x,round UL XK (iY Tryz.f44 0) US x=Ht x:=by intro x;kernel_rfl
def amV:∀x,round UL XK (iY Tryz.f44 1) UT x=LS x:=by intro x;kernel_rfl
def e_q56:EV UL XK Tryz.f44 [.v fy] [.v .bool] FI:=by intro xs;kernel_rfl
def ok_q56:CO RJ:=con_ok (Ls:=[US,UT]) mixed (ei _ _) (aiy _ (aii _ (MC _ nF))) Tryz.func44 (loopsC (loopD_ok amU) (loopsC (loopD_ok amV) loopsL_nil)) boxesL_none e_q56
def fk_q56 (fns:List (Nat×List Ab.Mode×(List Arg→Option Res))){dp:Bool}(h:eN Tryz.prog Gb ⟨bm,fns,dp,Gl⟩):eN Tryz.prog Gb ⟨bm,RJ.entry::fns,dp,Gl⟩:=h.cons RJ (by kernel_rfl) (zv (f:=FI)) ok_q56
def Q1:j4:=⟨28,[.v r5],[.v .bool],ID,zog ID⟩
def C_q156:Cx:=⟨bm,[Ok.entry,RJ.entry,QN.entry],false,Gl⟩
def e_q156:EV C_q156 ia Tryz.f28 [.v r5] [.v .bool] ID:=by intro xs;kernel_rfl
def akz:CO Q1:=con_ok (Ls:=[]) mixed (ei _ _) (aaQ _ (fk_q56 _ (ah6 _ nF))) Tryz.func28 loopsL_nil boxesL_none e_q156
def aih (fns:List (Nat×List Ab.Mode×(List Arg→Option Res))){dp:Bool}(h:eN Tryz.prog Gb ⟨bm,fns,dp,Gl⟩):eN Tryz.prog Gb ⟨bm,Q1.entry::fns,dp,Gl⟩:=h.cons Q1 (by kernel_rfl) (zv (f:=ID)) akz
def QM:j4:=⟨29,[.v .str],[.v .bool],Iu,zog Iu⟩
def Y1:Cx:=⟨bm,[HL.entry],false,Gl⟩
def UP:bZ:=oP ⟨[(6,.leaf I6),(0,.leaf .str),(5,.leaf I6)],[]⟩ [(.ret,⟨[(2,.leaf .bool)],[]⟩),((.exit 0),⟨[(0,.leaf .str)],[]⟩)] adS JV
def abQ:LT:=[(2,UP)]
def amR:∀x,round Y1 abQ (iY Tryz.f29 0) UP x=JV x:=by intro x;kernel_rfl
def e_q118:EV Y1 abQ Tryz.f29 [.v .str] [.v .bool] Iu:=by intro xs;kernel_rfl
def ajY:CO QM:=con_ok (Ls:=[UP]) mixed (ei _ _) (MC _ nF) Tryz.func29 (loopsC (loopD_ok amR) loopsL_nil) boxesL_none e_q118
def ah5 (fns:List (Nat×List Ab.Mode×(List Arg→Option Res))){dp:Bool}(h:eN Tryz.prog Gb ⟨bm,fns,dp,Gl⟩):eN Tryz.prog Gb ⟨bm,QM.entry::fns,dp,Gl⟩:=h.cons QM (by kernel_rfl) (zv (f:=Iu)) ajY
def Rk:j4:=⟨54,[.v fy,.v I6],[.v .str,.v .bool],q22,zog q22⟩
def C_q22:Cx:=⟨bm,[],false,Gl⟩
def UU:bZ:=oP ⟨[(11,.leaf I6),(1,.leaf I6),(9,.leaf (.lst gT)),(10,.leaf I6)],[]⟩ [(.ret,⟨[(4,.leaf .str),(5,.leaf .bool)],[]⟩),((.exit 0),⟨[],[]⟩)] afe LP
def aco:LT:=[(2,UU)]
def amW:∀x,round C_q22 aco (iY Tryz.f54 0) UU x=LP x:=by intro x;kernel_rfl
def e_q22:EV C_q22 aco Tryz.f54 [.v fy,.v I6] [.v .str,.v .bool] q22:=by intro xs;kernel_rfl
def ok_q22:CO Rk:=con_ok (Ls:=[UU]) mixed (ei _ _) nF Tryz.func54 (loopsC (loopD_ok amW) loopsL_nil) boxesL_none e_q22
def fk_q22 (fns:List (Nat×List Ab.Mode×(List Arg→Option Res))){dp:Bool}(h:eN Tryz.prog Gb ⟨bm,fns,dp,Gl⟩):eN Tryz.prog Gb ⟨bm,Rk.entry::fns,dp,Gl⟩:=h.cons Rk (by kernel_rfl) (zv (f:=q22)) ok_q22
def Ri:j4:=⟨46,[.v fy],[.v I6],Wh.q2,zog Wh.q2⟩
def C_q2:Cx:=⟨bm,[Rk.entry],false,Gl⟩
def UW:bZ:=oP ⟨[(3,.leaf I6),(1,.aR z0 [])],[(z0,false,.var fy (.leaf fy))]⟩ [((.exit 0),⟨[(3,.leaf I6)],[]⟩)] afg LQ
def lt_q2:LT:=[(2,UW)]
def amX:∀x,round C_q2 lt_q2 (iY Tryz.f46 0) UW x=LQ x:=by intro x;kernel_rfl
def e_q2:EV C_q2 lt_q2 Tryz.f46 [.v fy] [.v I6] Wh.q2:=by intro xs;kernel_rfl
def ok_q2:CO Ri:=con_ok (Ls:=[UW]) mixed (ei _ _) (fk_q22 _ nF) Tryz.func46 (loopsC (loopD_ok amX) loopsL_nil) boxesL_none e_q2
def fk_q2 (fns:List (Nat×List Ab.Mode×(List Arg→Option Res))){dp:Bool}(h:eN Tryz.prog Gb ⟨bm,fns,dp,Gl⟩):eN Tryz.prog Gb ⟨bm,Ri.entry::fns,dp,Gl⟩:=h.cons Ri (by kernel_rfl) (zv (f:=Wh.q2)) ok_q2
def Rw:j4:=⟨30,[.v r5],[.v .bool],Wh.q4,zog Wh.q4⟩
def C_q4:Cx:=⟨bm,[Ri.entry],false,Gl⟩
def e_q4:EV C_q4 ia Tryz.f30 [.v r5] [.v .bool] Wh.q4:=by intro xs;kernel_rfl
def ok_q4:CO Rw:=con_ok (Ls:=[]) mixed (ei _ _) (fk_q2 _ nF) Tryz.func30 loopsL_nil boxesL_none e_q4
def fk_q4 (fns:List (Nat×List Ab.Mode×(List Arg→Option Res))){dp:Bool}(h:eN Tryz.prog Gb ⟨bm,fns,dp,Gl⟩):eN Tryz.prog Gb ⟨bm,Rw.entry::fns,dp,Gl⟩:=h.cons Rw (by kernel_rfl) (zv (f:=Wh.q4)) ok_q4
def Oo:j4:=⟨10,[.v bn],[.v .bool],Gw,zog Gw⟩
def C_q55:Cx:=⟨bm,[Rw.entry,QM.entry,Q1.entry,Q3.entry,HL.entry,RK.entry],false,Gl⟩
def e_q55:EV C_q55 ia Tryz.f10 [.v bn] [.v .bool] Gw:=by intro xs;kernel_rfl
def ok_q55:CO Oo:=con_ok (Ls:=[]) mixed (ei _ _) (fk_q4 _ (ah5 _ (aih _ (aij _ (MC _ (fk_q57 _ nF)))))) Tryz.func10 loopsL_nil boxesL_none e_q55
def aaU (fns:List (Nat×List Ab.Mode×(List Arg→Option Res))){dp:Bool}(h:eN Tryz.prog Gb ⟨bm,fns,dp,Gl⟩):eN Tryz.prog Gb ⟨bm,Oo.entry::fns,dp,Gl⟩:=h.cons Oo (by kernel_rfl) (zv (f:=Gw)) ok_q55
def QB:j4:=⟨22,[.v bn],[.v (.own eL)],Wh.q0,zog Wh.q0⟩
def C_q0:Cx:=⟨bm,[],false,Gl⟩
def e_q0:EV C_q0 ia Tryz.f22 [.v bn] [.v (.own eL)] Wh.q0:=by intro xs;kernel_rfl
def ok_q0:CO QB:=con_ok (Ls:=[]) mixed (ei _ _) nF Tryz.func22 loopsL_nil boxesL_none e_q0
def fk_q0 (fns:List (Nat×List Ab.Mode×(List Arg→Option Res))){dp:Bool}(h:eN Tryz.prog Gb ⟨bm,fns,dp,Gl⟩):eN Tryz.prog Gb ⟨bm,QB.entry::fns,dp,Gl⟩:=h.cons QB (by kernel_rfl) (zv (f:=Wh.q0)) ok_q0
def Rj:j4:=⟨7,[.v bn],[.v (.own eL)],q20,zog q20⟩
def C_q20:Cx:=⟨bm,[QB.entry,Oo.entry],false,Gl⟩
def e_q20:EV C_q20 ia Tryz.f7 [.v bn] [.v (.own eL)] q20:=by intro xs;kernel_rfl
def ok_q20:CO Rj:=con_ok (Ls:=[]) mixed (ei _ _) (fk_q0 _ (aaU _ nF)) Tryz.func7 loopsL_nil boxesL_none e_q20
def fk_q20 (fns:List (Nat×List Ab.Mode×(List Arg→Option Res))){dp:Bool}(h:eN Tryz.prog Gb ⟨bm,fns,dp,Gl⟩):eN Tryz.prog Gb ⟨bm,Rj.entry::fns,dp,Gl⟩:=h.cons Rj (by kernel_rfl) (zv (f:=q20)) ok_q20
def QO:j4:=⟨8,[.v (.lst eL),.v (.lst eL)],[.v .bool],Gp,zog Gp⟩
def Y3:Cx:=⟨bm,[Jg.entry],false,Gl⟩
def UY:bZ:=oP ⟨[(5,.leaf I6),(0,.leaf (.lst eL)),(1,.leaf (.lst eL))],[]⟩ [(.ret,⟨[(4,.leaf .bool)],[]⟩),((.exit 0),⟨[],[]⟩)] adW M_
def abS:LT:=[(4,UY)]
def amZ:∀x,round Y3 abS (iY Tryz.f8 0) UY x=M_ x:=by intro x;kernel_rfl
def e_q121:EV Y3 abS Tryz.f8 [.v (.lst eL),.v (.lst eL)] [.v .bool] Gp:=by intro xs;kernel_rfl
def aj1:CO QO:=con_ok (Ls:=[UY]) mixed (ei _ _) (OP _ nF) Tryz.func8 (loopsC (loopD_ok amZ) loopsL_nil) boxesL_none e_q121
def ah7 (fns:List (Nat×List Ab.Mode×(List Arg→Option Res))){dp:Bool}(h:eN Tryz.prog Gb ⟨bm,fns,dp,Gl⟩):eN Tryz.prog Gb ⟨bm,QO.entry::fns,dp,Gl⟩:=h.cons QO (by kernel_rfl) (zv (f:=Gp)) aj1
def K_q5:j4:=⟨3,[.v (.lst I8)],[.v .bool],Wh.q5,zog Wh.q5⟩
def C_q5:Cx:=⟨bm,[HN.entry,Oo.entry,QO.entry,Ol.entry,Rj.entry,QC.entry],false,Gl⟩
def e_q5:EV C_q5 ia Tryz.f3 [.v (.lst I8)] [.v .bool] Wh.q5:=by intro xs;kernel_rfl
def ok_q5:CO K_q5:=con_ok (Ls:=[]) mixed (ei _ _) (ME _ (aaU _ (ah7 _ (aaR _ (fk_q20 _ (fk_q1 _ nF)))))) Tryz.func3 loopsL_nil boxesL_none e_q5
end
end Go.Proofs.Walk
