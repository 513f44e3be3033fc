import Derived.Test.YthanhdmbelbfcaaGreatX10
import Derived.Test.YthanhdmbelbfcaaGreatProg
import Derived.KernelRfl
set_option linter.defProp false
namespace Wh
end Wh
open Wh
open Go Go.Ab
namespace Go.Proofs.Walk
noncomputable section
def bm:List (Nat×TI):=[(2,⟨(.int .i64),0⟩),(3,⟨(.int .i64),0⟩),(4,⟨.bool,0⟩),(5,⟨(.int .u8),0⟩),(6,⟨(.int .u8),0⟩),(7,⟨YJ,1⟩),(8,⟨YJ,1⟩),(9,⟨.str,0⟩),(10,⟨.str,0⟩),(11,⟨.str,0⟩),(12,⟨(.int .u64),0⟩),(13,⟨YK,0⟩),(14,⟨YK,0⟩),(21,⟨(.int .i32),0⟩),(247,⟨(.int .i32),0⟩),(246,⟨(.int .i32),0⟩),(245,⟨(.ref (.int .u8)),0⟩),(243,⟨(.int .u8),0⟩),(242,⟨(.int .u8),0⟩),(91,⟨(.int .u32),0⟩),(22,⟨(.lst (.int .u8)),0⟩),(23,⟨(.lst (.int .i64)),0⟩),(24,⟨gT,0⟩),(25,⟨gT,0⟩),(92,⟨gv,0⟩),(93,⟨gv,0⟩),(26,⟨(.lst gv),0⟩),(27,⟨fk,0⟩),(28,⟨fk,0⟩),(29,⟨r5,0⟩),(30,⟨r5,0⟩),(31,⟨bn,0⟩),(32,⟨bn,0⟩),(38,⟨eL,1⟩),(39,⟨eL,1⟩),(34,⟨(.lst eL),0⟩),(79,⟨dz,0⟩),(80,⟨dz,0⟩),(49,⟨(.ref dz),0⟩),(60,⟨(.lst .str),0⟩),(103,⟨an,1⟩),(104,⟨an,1⟩),(64,⟨(.lst an),0⟩),(65,⟨gh,0⟩),(66,⟨gh,0⟩),(174,⟨cg,1⟩),(175,⟨cg,1⟩),(67,⟨(.lst cg),0⟩),(68,⟨iL,0⟩),(69,⟨iL,0⟩),(132,⟨cw,1⟩),(133,⟨cw,1⟩),(70,⟨(.lst cw),0⟩),(155,⟨cp,1⟩),(156,⟨cp,1⟩),(71,⟨(.lst cp),0⟩),(72,⟨b7,0⟩),(73,⟨b7,0⟩),(74,⟨(.lst bn),0⟩),(105,⟨b9,1⟩),(106,⟨b9,1⟩),(75,⟨(.lst b9),0⟩),(76,⟨fy,0⟩),(77,⟨fy,0⟩),(108,⟨di,1⟩),(109,⟨di,1⟩),(99,⟨(.lst di),0⟩),(152,⟨Br,1⟩),(153,⟨Br,1⟩),(148,⟨(.lst Br),0⟩),(229,⟨(.lst (.int .u32)),0⟩),(232,⟨(.int .u64),0⟩)]
def Gl:List (Nat×DV):=[]
abbrev Gb:jN:=jN.none
def gl_ok:∀g d,find Gl g=some d→∀w I,Gb.ok w I→af w I (.ref d.t) d.x [.pointer (some ⟨g,0,none⟩)]:=fun _ _ h=>by simp[Gl,find] at h
def tab_ok:cH (fun x=>(dw Tryz.prog x.2.t).1 x.1&&(!(Nat.beq x.2.e 1) || eqB Tryz.prog x.1)) bm=true:=by kernel_rfl
def ei (fns:List (Nat×List Ab.Mode×(List Arg→Option Res)))(dp:Bool):bR Tryz.prog ⟨bm,fns,dp,Gl⟩:=cxOk_of tab_ok
def mixed:Tryz.prog.follows .mixedOrders=true:=by kernel_rfl
abbrev FT:Type:=List (Nat×List Ab.Mode×(List Arg→Option Res))
abbrev FK (c:j4):Prop:=∀(fns:FT) {dp:Bool},eN Tryz.prog Gb ⟨bm,fns,dp,Gl⟩→eN Tryz.prog Gb ⟨bm,c.entry::fns,dp,Gl⟩
abbrev EV (C:Cx)(lt:List (Nat×bZ))(f:Func)(ps:List PT)(ws:List Want)(g:jf ps→Option (kY ws×jW ps)):Prop:=∀xs,evT C lt f ps ws xs=g xs
abbrev CO (c:j4):Prop:=ConOk Tryz.prog Gb c
abbrev LT:Type:=List (Nat×bZ)
def g9:LT:=[]
abbrev z0:Nat:=500000000
abbrev z1:Nat:=500000001
abbrev z2:Nat:=500000002
abbrev z3:Nat:=500000003
abbrev I6:Ty:=.int .i64
abbrev I8:Ty:=.int .u8
abbrev I3:Ty:=.int .u32
def nF:eN Tryz.prog Gb ⟨bm,[],false,Gl⟩:=eN.nil bm false gl_ok
def zx {α β:Type}[Inhabited β](f:α→Option β):∀x y,f x=some y→zog f x=y:=zv
def wl {c:j4}{F:FT}{b:Bool}{fn:Func}{Ls:List bZ}{lt:LT}(hv:∀x y,c.fn x=some y→c.val x=y)(hF:eN Tryz.prog Gb ⟨bm,F,b,Gl⟩)(hf:Tryz.prog.funcs[c.id]?=some fn)(hlo:lD ⟨bm,F,b,Gl⟩ lt fn 0 Ls)(hbx:∀b'∈h_ (jh fn),mj ⟨bm,F,b,Gl⟩ lt b')(jk:∀xs,evT ⟨bm,F,b,Gl⟩ lt fn c.ps c.ws xs=c.fn xs:=by intro xs;kernel_rfl)(he:fnB Tryz.prog c.id=true:=by kernel_rfl):FK c:=fun _ _ h=>h.cons c he hv (con_ok mixed (ei _ _) hF hf hlo hbx jk)
def QV:j4:=⟨21,[.v (.lst I8)],[.p dz],JY,zog JY⟩
def C_q137:Cx:=⟨bm,[],false,Gl⟩
def e_q137:EV C_q137 g9 Tryz.f21 [.v (.lst I8)] [.p dz] JY:=by intro xs;kernel_rfl
def akm:CO QV:=con_ok (Ls:=[]) mixed (ei _ _) nF Tryz.func21 loopsL_nil boxesL_none e_q137
def aii (fns:List (Nat×List Ab.Mode×(List Arg→Option Res))){dp:Bool}(h:eN Tryz.prog Gb ⟨bm,fns,dp,Gl⟩):eN Tryz.prog Gb ⟨bm,QV.entry::fns,dp,Gl⟩:=h.cons QV (by kernel_rfl) (zv (f:=JY)) akm
def N5:j4:=⟨82,[],[.v (.pair (.own cg) (.pair I6 .unit))],He,zog He⟩
def C_q133:Cx:=⟨bm,[],false,Gl⟩
def e_q133:EV C_q133 g9 Tryz.f82 [] [.v (.pair (.own cg) (.pair I6 .unit))] He:=by intro xs;kernel_rfl
def aki:CO N5:=con_ok (Ls:=[]) mixed (ei _ _) nF Tryz.func82 loopsL_nil boxesL_none e_q133
def aaG (fns:List (Nat×List Ab.Mode×(List Arg→Option Res))){dp:Bool}(h:eN Tryz.prog Gb ⟨bm,fns,dp,Gl⟩):eN Tryz.prog Gb ⟨bm,N5.entry::fns,dp,Gl⟩:=h.cons N5 (by kernel_rfl) (zv (f:=He)) aki
def Om:j4:=⟨83,[.v I6],[.v (.own cw)],Hr,zog Hr⟩
def C_q32:Cx:=⟨bm,[],false,Gl⟩
def Vo:bZ:=oP ⟨[(4,.leaf I6),(0,.leaf I6),(3,.whole z0 cw)],[(z0,false,.rows cw)]⟩ [((.exit 0),⟨[(3,.whole z0 cw)],[(z0,false,.rows cw)]⟩)] afs LS
def acz:LT:=[(3,Vo)]
def anz:∀x,round C_q32 acz (iY Tryz.f83 0) Vo x=LS x:=by intro x;kernel_rfl
def e_q32:EV C_q32 acz Tryz.f83 [.v I6] [.v (.own cw)] Hr:=by intro xs;kernel_rfl
def ok_q32:CO Om:=con_ok (Ls:=[Vo]) mixed (ei _ _) nF Tryz.func83 (loopsC (loopD_ok anz) loopsL_nil) boxesL_none e_q32
def aaY (fns:List (Nat×List Ab.Mode×(List Arg→Option Res))){dp:Bool}(h:eN Tryz.prog Gb ⟨bm,fns,dp,Gl⟩):eN Tryz.prog Gb ⟨bm,Om.entry::fns,dp,Gl⟩:=h.cons Om (by kernel_rfl) (zv (f:=Hr)) ok_q32
def Ry:j4:=⟨72,[],[.v (.pair .bool (.pair I6 (.pair .str (.pair (.pair I6 (.pair (.own an) .unit)) (.pair (.pair (.own cg) (.pair I6 .unit)) (.pair (.own cw) (.pair (.own cp) .unit)))))))],q40,zog q40⟩
def C_q40:Cx:=⟨bm,[Om.entry,N5.entry],false,Gl⟩
def e_q40:EV C_q40 g9 Tryz.f72 [] [.v (.pair .bool (.pair I6 (.pair .str (.pair (.pair I6 (.pair (.own an) .unit)) (.pair (.pair (.own cg) (.pair I6 .unit)) (.pair (.own cw) (.pair (.own cp) .unit)))))))] q40:=by intro xs;kernel_rfl
def ok_q40:CO Ry:=con_ok (Ls:=[]) mixed (ei _ _) (aaY _ (aaG _ nF)) Tryz.func72 loopsL_nil boxesL_none e_q40
def fk_q40 (fns:List (Nat×List Ab.Mode×(List Arg→Option Res))){dp:Bool}(h:eN Tryz.prog Gb ⟨bm,fns,dp,Gl⟩):eN Tryz.prog Gb ⟨bm,Ry.entry::fns,dp,Gl⟩:=h.cons Ry (by kernel_rfl) (zv (f:=q40)) ok_q40
def BG:j4:=⟨31,[.v I6,.v I6,.v I6],[.v .bool],g7,zog g7⟩
def C_q187:Cx:=⟨bm,[],false,Gl⟩
def e_q187:EV C_q187 g9 Tryz.f31 [.v I6,.v I6,.v I6] [.v .bool] g7:=by intro xs;kernel_rfl
def ak_:CO BG:=con_ok (Ls:=[]) mixed (ei _ _) nF Tryz.func31 loopsL_nil boxesL_none e_q187
def Ck (fns:List (Nat×List Ab.Mode×(List Arg→Option Res))){dp:Bool}(h:eN Tryz.prog Gb ⟨bm,fns,dp,Gl⟩):eN Tryz.prog Gb ⟨bm,BG.entry::fns,dp,Gl⟩:=h.cons BG (by kernel_rfl) (zv (f:=g7)) ak_
def Rw:j4:=⟨73,[.v I6],[.v (.pair I6 (.pair I6 (.pair I6 (.pair .str (.pair I6 (.pair (.pair (.pair I6 (.pair I6 (.pair (.own I6) (.pair (.own I6) .unit)))) (.pair (.pair I6 (.pair I6 (.pair (.own gv) .unit))) .unit)) .unit))))))],q38,zog q38⟩
def C_q38:Cx:=⟨bm,[BG.entry],false,Gl⟩
def e_q38:EV C_q38 g9 Tryz.f73 [.v I6] [.v (.pair I6 (.pair I6 (.pair I6 (.pair .str (.pair I6 (.pair (.pair (.pair I6 (.pair I6 (.pair (.own I6) (.pair (.own I6) .unit)))) (.pair (.pair I6 (.pair I6 (.pair (.own gv) .unit))) .unit)) .unit))))))] q38:=by intro xs;kernel_rfl
def ok_q38:CO Rw:=con_ok (Ls:=[]) mixed (ei _ _) (Ck _ nF) Tryz.func73 loopsL_nil boxesL_none e_q38
def fk_q38 (fns:List (Nat×List Ab.Mode×(List Arg→Option Res))){dp:Bool}(h:eN Tryz.prog Gb ⟨bm,fns,dp,Gl⟩):eN Tryz.prog Gb ⟨bm,Rw.entry::fns,dp,Gl⟩:=h.cons Rw (by kernel_rfl) (zv (f:=q38)) ok_q38
def RQ:j4:=⟨68,[],[.v fy],q64,zog q64⟩
def C_q64:Cx:=⟨bm,[Rw.entry,Ry.entry],false,Gl⟩
def Vh:bZ:=oP ⟨[(2,.leaf I6),(1,.aR z0 []),(0,.aR z1 [])],[(z0,false,.var fy (.pair (.pair (.leaf .bool) (.pair (.leaf I6) (.pair (.leaf .str) (.pair (.pair (.leaf I6) (.pair (.whole z2 an) (.leaf .unit))) (.pair (.pair (.whole z3 cg) (.leaf (.pair I6 .unit))) (.pair (.whole 500000004 cw) (.pair (.whole 500000005 cp) (.leaf .unit)))))))) (.pair (.whole 500000006 bn) (.pair (.whole 500000007 b9) (.pair (.whole 500000008 an) (.leaf .unit)))))),(z1,false,.var fy (.pair (.pair (.leaf .bool) (.pair (.leaf I6) (.pair (.leaf .str) (.pair (.pair (.leaf I6) (.pair (.whole 500000009 an) (.leaf .unit))) (.pair (.pair (.whole 500000010 cg) (.leaf (.pair I6 .unit))) (.pair (.whole 500000011 cw) (.pair (.whole 500000012 cp) (.leaf .unit)))))))) (.pair (.whole 500000013 bn) (.pair (.whole 500000014 b9) (.pair (.whole 500000015 an) (.leaf .unit)))))),(z2,false,.rows an),(z3,false,.rows cg),(500000004,false,.rows cw),(500000005,false,.rows cp),(500000006,false,.rows bn),(500000007,false,.rows b9),(500000008,false,.rows an),(500000009,false,.rows an),(500000010,false,.rows cg),(500000011,false,.rows cw),(500000012,false,.rows cp),(500000013,false,.rows bn),(500000014,false,.rows b9),(500000015,false,.rows an)]⟩ [((.exit 0),⟨[(0,.aR z0 []),(1,.aR z1 [])],[(z0,false,.var fy (.pair (.pair (.leaf .bool) (.pair (.leaf I6) (.pair (.leaf .str) (.pair (.pair (.leaf I6) (.pair (.whole z2 an) (.leaf .unit))) (.pair (.pair (.whole z3 cg) (.leaf (.pair I6 .unit))) (.pair (.whole 500000004 cw) (.pair (.whole 500000005 cp) (.leaf .unit)))))))) (.pair (.whole 500000006 bn) (.pair (.whole 500000007 b9) (.pair (.whole 500000008 an) (.leaf .unit)))))),(z1,false,.var fy (.pair (.pair (.leaf .bool) (.pair (.leaf I6) (.pair (.leaf .str) (.pair (.pair (.leaf I6) (.pair (.whole 500000009 an) (.leaf .unit))) (.pair (.pair (.whole 500000010 cg) (.leaf (.pair I6 .unit))) (.pair (.whole 500000011 cw) (.pair (.whole 500000012 cp) (.leaf .unit)))))))) (.pair (.whole 500000013 bn) (.pair (.whole 500000014 b9) (.pair (.whole 500000015 an) (.leaf .unit)))))),(z2,false,.rows an),(z3,false,.rows cg),(500000004,false,.rows cw),(500000005,false,.rows cp),(500000006,false,.rows bn),(500000007,false,.rows b9),(500000008,false,.rows an),(500000009,false,.rows an),(500000010,false,.rows cg),(500000011,false,.rows cw),(500000012,false,.rows cp),(500000013,false,.rows bn),(500000014,false,.rows b9),(500000015,false,.rows an)]⟩)] afU PK
def acH:LT:=[(3,Vh)]
def anr:∀x,round C_q64 acH (iY Tryz.f68 0) Vh x=PK x:=by intro x;kernel_rfl
def e_q64:EV C_q64 acH Tryz.f68 [] [.v fy] q64:=by intro xs;kernel_rfl
def ok_q64:CO RQ:=con_ok (Ls:=[Vh]) mixed (ei _ _) (fk_q38 _ (fk_q40 _ nF)) Tryz.func68 (loopsC (loopD_ok anr) loopsL_nil) boxesL_none e_q64
def fk_q64 (fns:List (Nat×List Ab.Mode×(List Arg→Option Res))){dp:Bool}(h:eN Tryz.prog Gb ⟨bm,fns,dp,Gl⟩):eN Tryz.prog Gb ⟨bm,RQ.entry::fns,dp,Gl⟩:=h.cons RQ (by kernel_rfl) (zv (f:=q64)) ok_q64
def GM:j4:=⟨36,[.p dz,.v I6],[.v I6],m6,zog m6⟩
def C_q51:Cx:=⟨bm,[],false,Gl⟩
def e_q51:EV C_q51 g9 Tryz.f36 [.p dz,.v I6] [.v I6] m6:=by intro xs;kernel_rfl
def ok_q51:CO GM:=con_ok (Ls:=[]) mixed (ei _ _) nF Tryz.func36 loopsL_nil boxesL_none e_q51
def KX (fns:List (Nat×List Ab.Mode×(List Arg→Option Res))){dp:Bool}(h:eN Tryz.prog Gb ⟨bm,fns,dp,Gl⟩):eN Tryz.prog Gb ⟨bm,GM.entry::fns,dp,Gl⟩:=h.cons GM (by kernel_rfl) (zv (f:=m6)) ok_q51
def QK:j4:=⟨37,[.p dz,.v (.lst .str)],[.v .str],Lv,zog Lv⟩
def C_q113:Cx:=⟨bm,[GM.entry],false,Gl⟩
def e_q113:EV C_q113 g9 Tryz.f37 [.p dz,.v (.lst .str)] [.v .str] Lv:=by intro xs;kernel_rfl
def aj0:CO QK:=con_ok (Ls:=[]) mixed (ei _ _) (KX _ nF) Tryz.func37 loopsL_nil boxesL_none e_q113
def ah_ (fns:List (Nat×List Ab.Mode×(List Arg→Option Res))){dp:Bool}(h:eN Tryz.prog Gb ⟨bm,fns,dp,Gl⟩):eN Tryz.prog Gb ⟨bm,QK.entry::fns,dp,Gl⟩:=h.cons QK (by kernel_rfl) (zv (f:=Lv)) aj0
def HP:j4:=⟨74,[.v I6],[.v I6],BY,zog BY⟩
def C_q65:Cx:=⟨bm,[],false,Gl⟩
def e_q65:EV C_q65 g9 Tryz.f74 [.v I6] [.v I6] BY:=by intro xs;kernel_rfl
def ok_q65:CO HP:=con_ok (Ls:=[]) mixed (ei _ _) nF Tryz.func74 loopsL_nil boxesL_none e_q65
def MI (fns:List (Nat×List Ab.Mode×(List Arg→Option Res))){dp:Bool}(h:eN Tryz.prog Gb ⟨bm,fns,dp,Gl⟩):eN Tryz.prog Gb ⟨bm,HP.entry::fns,dp,Gl⟩:=h.cons HP (by kernel_rfl) (zv (f:=BY)) ok_q65
def QI:j4:=⟨75,[.v .bool],[.v I6],JS,zog JS⟩
def C_q110:Cx:=⟨bm,[],false,Gl⟩
def e_q110:EV C_q110 g9 Tryz.f75 [.v .bool] [.v I6] JS:=by intro xs;kernel_rfl
def ajY:CO QI:=con_ok (Ls:=[]) mixed (ei _ _) nF Tryz.func75 loopsL_nil boxesL_none e_q110
def ah8 (fns:List (Nat×List Ab.Mode×(List Arg→Option Res))){dp:Bool}(h:eN Tryz.prog Gb ⟨bm,fns,dp,Gl⟩):eN Tryz.prog Gb ⟨bm,QI.entry::fns,dp,Gl⟩:=h.cons QI (by kernel_rfl) (zv (f:=JS)) ajY
def RY:j4:=⟨76,[.p dz,.v I6],[.v .str],Hu,zog Hu⟩
def C_q74:Cx:=⟨bm,[GM.entry],false,Gl⟩
def VA:bZ:=oP ⟨[(6,.leaf I6),(0,.aR 900 []),(5,.whole z0 I8),(1,.leaf I6)],[(900,false,.var dz (.leaf dz)),(z0,false,.rows I8)]⟩ [((.exit 0),⟨[(5,.whole z0 I8)],[(900,false,.var dz (.leaf dz)),(z0,false,.rows I8)]⟩)] af0 PM
def acK:LT:=[(3,VA)]
def an1:∀x,round C_q74 acK (iY Tryz.f76 0) VA x=PM x:=by intro x;kernel_rfl
def e_q74:EV C_q74 acK Tryz.f76 [.p dz,.v I6] [.v .str] Hu:=by intro xs;kernel_rfl
def ok_q74:CO RY:=con_ok (Ls:=[VA]) mixed (ei _ _) (KX _ nF) Tryz.func76 (loopsC (loopD_ok an1) loopsL_nil) boxesL_none e_q74
def fk_q74 (fns:List (Nat×List Ab.Mode×(List Arg→Option Res))){dp:Bool}(h:eN Tryz.prog Gb ⟨bm,fns,dp,Gl⟩):eN Tryz.prog Gb ⟨bm,RY.entry::fns,dp,Gl⟩:=h.cons RY (by kernel_rfl) (zv (f:=Hu)) ok_q74
def RW:j4:=⟨69,[.p dz,.v fy],[.v di],q72,zog q72⟩
def F0:Cx:=⟨bm,[RY.entry,QI.entry,HP.entry,QK.entry,GM.entry],false,Gl⟩
def ZJ:bZ:=boxD ⟨[(0,.aR 900 []),(3,.aR z0 []),(4,.aR z1 []),(5,.leaf I6)],[(900,false,.var dz (.leaf dz)),(z0,false,.var fy (.leaf fy)),(z1,false,.var di (.leaf di))]⟩ [(.norm,⟨[(0,.aR 900 []),(3,.aR z0 []),(4,.aR z1 []),(5,.leaf I6)],[(900,false,.var dz (.leaf dz)),(z0,false,.var fy (.leaf fy)),(z1,false,.var di (.leaf di))]⟩)] q11 TE
def ZK:bZ:=boxD ⟨[(0,.aR 900 []),(7,.leaf I6),(3,.aR z0 []),(4,.aR z1 []),(6,.leaf .str),(5,.leaf I6)],[(900,false,.var dz (.leaf dz)),(z0,false,.var fy (.leaf fy)),(z1,false,.var di (.leaf di))]⟩ [(.norm,⟨[(4,.aR z0 []),(0,.aR 900 []),(7,.leaf I6),(6,.leaf .str),(5,.leaf I6),(3,.aR z1 [])],[(900,false,.var dz (.leaf dz)),(z0,false,.var di (.leaf di)),(z1,false,.var fy (.leaf fy))]⟩)] q12 TH
def Vy:bZ:=oP ⟨[(8,.leaf I6),(0,.aR 900 []),(7,.leaf I6),(3,.aR z0 []),(4,.aR z1 []),(6,.leaf .str),(5,.leaf I6)],[(900,false,.var dz (.leaf dz)),(z0,false,.var fy (.leaf fy)),(z1,false,.var di (.leaf di))]⟩ [((.exit 0),⟨[(4,.aR z0 []),(0,.aR 900 []),(7,.leaf I6),(6,.leaf .str),(5,.leaf I6),(3,.aR z1 [])],[(900,false,.var dz (.leaf dz)),(z0,false,.var di (.leaf di)),(z1,false,.var fy (.leaf fy))]⟩)] afW Ni
def ZL:bZ:=boxD ⟨[(4,.aR z0 []),(0,.aR 900 []),(7,.leaf I6),(6,.leaf .str),(5,.leaf I6),(3,.aR z1 [])],[(900,false,.var dz (.leaf dz)),(z0,false,.var di (.leaf di)),(z1,false,.var fy (.leaf fy))]⟩ [(.ret,⟨[(4,.aR z0 [])],[(900,false,.var dz (.leaf dz)),(z0,false,.var di (.leaf di))]⟩),(.norm,⟨[(4,.aR z0 []),(0,.aR 900 []),(6,.leaf .str),(7,.leaf I6),(5,.leaf I6)],[(900,false,.var dz (.leaf dz)),(z0,false,.var di (.leaf di))]⟩)] q13 TJ
def ZM:bZ:=boxD ⟨[(4,.aR z0 []),(0,.aR 900 []),(6,.leaf .str),(7,.leaf I6),(5,.leaf I6),(100,.leaf I6)],[(900,false,.var dz (.leaf dz)),(z0,false,.var di (.leaf di))]⟩ [(.norm,⟨[(101,.leaf .bool),(4,.aR z0 []),(0,.aR 900 []),(6,.leaf .str),(7,.leaf I6),(5,.leaf I6),(100,.leaf I6)],[(900,false,.var dz (.leaf dz)),(z0,false,.var di (.leaf di))]⟩)] q14 TK
def ZN:bZ:=boxD ⟨[(4,.aR z0 []),(6,.leaf .str),(7,.leaf I6),(0,.aR 900 []),(5,.leaf I6),(100,.leaf I6)],[(900,false,.var dz (.leaf dz)),(z0,false,.var di (.leaf di))]⟩ [(.norm,⟨[(131,.leaf .bool),(4,.aR z0 []),(6,.leaf .str),(7,.leaf I6),(0,.aR 900 []),(5,.leaf I6),(100,.leaf I6)],[(900,false,.var dz (.leaf dz)),(z0,false,.var di (.leaf di))]⟩)] q15 TL
def ZO:bZ:=boxD ⟨[(4,.aR z0 []),(0,.aR 900 []),(5,.leaf I6),(6,.leaf .str),(100,.leaf I6)],[(900,false,.var dz (.leaf dz)),(z0,false,.var di (.leaf di))]⟩ [(.norm,⟨[(148,.leaf .bool),(4,.aR z0 []),(0,.aR 900 []),(5,.leaf I6),(6,.leaf .str),(100,.leaf I6)],[(900,false,.var dz (.leaf dz)),(z0,false,.var di (.leaf di))]⟩)] q16 TM
def ZP:bZ:=boxD ⟨[(4,.aR z0 []),(0,.aR 900 []),(5,.leaf I6),(6,.leaf .str),(100,.leaf I6)],[(900,false,.var dz (.leaf dz)),(z0,false,.var di (.leaf di))]⟩ [(.norm,⟨[(158,.leaf .bool),(4,.aR z0 []),(0,.aR 900 []),(5,.leaf I6),(6,.leaf .str),(100,.leaf I6)],[(900,false,.var dz (.leaf dz)),(z0,false,.var di (.leaf di))]⟩)] q17 TN
def ZQ:bZ:=boxD ⟨[(4,.aR z0 []),(5,.leaf I6),(100,.leaf I6)],[(900,false,.var dz (.leaf dz)),(z0,false,.var di (.leaf di))]⟩ [(.norm,⟨[(201,.leaf .bool),(4,.aR z0 []),(5,.leaf I6),(100,.leaf I6)],[(900,false,.var dz (.leaf dz)),(z0,false,.var di (.leaf di))]⟩)] q18 TQ
def ZR:bZ:=boxD ⟨[(4,.aR z0 []),(5,.leaf I6),(100,.leaf I6)],[(900,false,.var dz (.leaf dz)),(z0,false,.var di (.leaf di))]⟩ [(.norm,⟨[(205,.leaf .bool),(4,.aR z0 []),(5,.leaf I6)],[(900,false,.var dz (.leaf dz)),(z0,false,.var di (.leaf di))]⟩)] q19 TR
def Gf:LT:=[(2000002,ZJ),(2000006,ZK),(8,Vy),(2000013,ZL),(2000017,ZM),(2000023,ZN),(2000031,ZO),(2000040,ZP),(2000052,ZQ),(2000055,ZR)]
def anS:∀x,round F0 Gf (iY Tryz.f69 0) Vy x=Ni x:=by intro x;kernel_rfl
def anQ:∀x,boxR F0 Gf (qD Tryz.f69 2) ZJ x=q11 x:=by intro x;kernel_rfl
def anR:∀x,boxR F0 Gf (qD Tryz.f69 6) ZK x=q12 x:=by intro x;kernel_rfl
def anT:∀x,boxR F0 Gf (qD Tryz.f69 14) ZL x=q13 x:=by intro x;kernel_rfl
def anU:∀x,boxR F0 Gf (qD Tryz.f69 20) ZM x=q14 x:=by intro x;kernel_rfl
def anV:∀x,boxR F0 Gf (qD Tryz.f69 26) ZN x=q15 x:=by intro x;kernel_rfl
def anW:∀x,boxR F0 Gf (qD Tryz.f69 34) ZO x=q16 x:=by intro x;kernel_rfl
def anX:∀x,boxR F0 Gf (qD Tryz.f69 43) ZP x=q17 x:=by intro x;kernel_rfl
def anY:∀x,boxR F0 Gf (qD Tryz.f69 55) ZQ x=q18 x:=by intro x;kernel_rfl
def anZ:∀x,boxR F0 Gf (qD Tryz.f69 58) ZR x=q19 x:=by intro x;kernel_rfl
def e_q72:EV F0 Gf Tryz.f69 [.p dz,.v fy] [.v di] q72:=by intro xs;kernel_rfl
def ok_q72:CO RW:=con_ok (Ls:=[Vy]) mixed (ei _ _) (fk_q74 _ (ah8 _ (MI _ (ah_ _ (KX _ nF))))) Tryz.func69 (loopsC (loopD_ok anS) loopsL_nil) (boxes_of (ks:=[2,6,14,20,26,34,43,55,58]) (by kernel_rfl) (boxesL_cons (by kernel_rfl) anQ q11_v (boxesL_cons (by kernel_rfl) anR q12_v (boxesL_cons (by kernel_rfl) anT q13_v (boxesL_cons (by kernel_rfl) anU q14_v (boxesL_cons (by kernel_rfl) anV q15_v (boxesL_cons (by kernel_rfl) anW q16_v (boxesL_cons (by kernel_rfl) anX q17_v (boxesL_cons (by kernel_rfl) anY q18_v (boxesL_cons (by kernel_rfl) anZ q19_v boxesL_nil)))))))))) e_q72
def fk_q72 (fns:List (Nat×List Ab.Mode×(List Arg→Option Res))){dp:Bool}(h:eN Tryz.prog Gb ⟨bm,fns,dp,Gl⟩):eN Tryz.prog Gb ⟨bm,RW.entry::fns,dp,Gl⟩:=h.cons RW (by kernel_rfl) (zv (f:=q72)) ok_q72
def Mp:j4:=⟨80,[.v gh],[.v (.pair I6 (.pair (.own an) .unit))],Gs,zog Gs⟩
def C_q154:Cx:=⟨bm,[],false,Gl⟩
def e_q154:EV C_q154 g9 Tryz.f80 [.v gh] [.v (.pair I6 (.pair (.own an) .unit))] Gs:=by intro xs;kernel_rfl
def akD:CO Mp:=con_ok (Ls:=[]) mixed (ei _ _) nF Tryz.func80 loopsL_nil boxesL_none e_q154
def WX (fns:List (Nat×List Ab.Mode×(List Arg→Option Res))){dp:Bool}(h:eN Tryz.prog Gb ⟨bm,fns,dp,Gl⟩):eN Tryz.prog Gb ⟨bm,Mp.entry::fns,dp,Gl⟩:=h.cons Mp (by kernel_rfl) (zv (f:=Gs)) akD
def KQ:j4:=⟨81,[.v iL],[.v (.pair (.own cg) (.pair I6 .unit))],FO,zog FO⟩
def C_q88:Cx:=⟨bm,[],false,Gl⟩
def e_q88:EV C_q88 g9 Tryz.f81 [.v iL] [.v (.pair (.own cg) (.pair I6 .unit))] FO:=by intro xs;kernel_rfl
def ok_q88:CO KQ:=con_ok (Ls:=[]) mixed (ei _ _) nF Tryz.func81 loopsL_nil boxesL_none e_q88
def SJ (fns:List (Nat×List Ab.Mode×(List Arg→Option Res))){dp:Bool}(h:eN Tryz.prog Gb ⟨bm,fns,dp,Gl⟩):eN Tryz.prog Gb ⟨bm,KQ.entry::fns,dp,Gl⟩:=h.cons KQ (by kernel_rfl) (zv (f:=FO)) ok_q88
def HQ:j4:=⟨71,[.v b7],[.v (.pair .bool (.pair I6 (.pair .str (.pair (.pair I6 (.pair (.own an) .unit)) (.pair (.pair (.own cg) (.pair I6 .unit)) (.pair (.own cw) (.pair (.own cp) .unit)))))))],E_,zog E_⟩
def C_q93:Cx:=⟨bm,[KQ.entry,Mp.entry],false,Gl⟩
def e_q93:EV C_q93 g9 Tryz.f71 [.v b7] [.v (.pair .bool (.pair I6 (.pair .str (.pair (.pair I6 (.pair (.own an) .unit)) (.pair (.pair (.own cg) (.pair I6 .unit)) (.pair (.own cw) (.pair (.own cp) .unit)))))))] E_:=by intro xs;kernel_rfl
def ok_q93:CO HQ:=con_ok (Ls:=[]) mixed (ei _ _) (SJ _ (WX _ nF)) Tryz.func71 loopsL_nil boxesL_none e_q93
def MJ (fns:List (Nat×List Ab.Mode×(List Arg→Option Res))){dp:Bool}(h:eN Tryz.prog Gb ⟨bm,fns,dp,Gl⟩):eN Tryz.prog Gb ⟨bm,HQ.entry::fns,dp,Gl⟩:=h.cons HQ (by kernel_rfl) (zv (f:=E_)) ok_q93
def Oe:j4:=⟨63,[.v gT],[.v (.pair I6 (.pair I6 (.pair (.own I6) (.pair (.own I6) .unit))))],Hh,zog Hh⟩
def C_q149:Cx:=⟨bm,[],false,Gl⟩
def e_q149:EV C_q149 g9 Tryz.f63 [.v gT] [.v (.pair I6 (.pair I6 (.pair (.own I6) (.pair (.own I6) .unit))))] Hh:=by intro xs;kernel_rfl
def aky:CO Oe:=con_ok (Ls:=[]) mixed (ei _ _) nF Tryz.func63 loopsL_nil boxesL_none e_q149
def aaQ (fns:List (Nat×List Ab.Mode×(List Arg→Option Res))){dp:Bool}(h:eN Tryz.prog Gb ⟨bm,fns,dp,Gl⟩):eN Tryz.prog Gb ⟨bm,Oe.entry::fns,dp,Gl⟩:=h.cons Oe (by kernel_rfl) (zv (f:=Hh)) aky
def N_:j4:=⟨64,[.v fk],[.v (.pair I6 (.pair I6 (.pair (.own gv) .unit)))],Ix,zog Ix⟩
def Zc:Cx:=⟨bm,[],false,Gl⟩
def VQ:bZ:=oP ⟨[(4,.leaf I6),(3,.aR z0 []),(1,.aR z1 []),(2,.aR z2 [])],[(z0,false,.var fk (.pair (.leaf I6) (.pair (.leaf I6) (.pair (.whole z3 gv) (.leaf .unit))))),(z1,false,.var fk (.leaf fk)),(z2,false,.var fk (.pair (.leaf I6) (.pair (.leaf I6) (.pair (.whole 500000004 gv) (.leaf .unit))))),(z3,false,.rows gv),(500000004,false,.rows gv)]⟩ [((.exit 0),⟨[(2,.aR z0 []),(3,.aR z1 [])],[(z0,false,.var fk (.pair (.leaf I6) (.pair (.leaf I6) (.pair (.whole z2 gv) (.leaf .unit))))),(z1,false,.var fk (.pair (.leaf I6) (.pair (.leaf I6) (.pair (.whole z3 gv) (.leaf .unit))))),(z2,false,.rows gv),(z3,false,.rows gv)]⟩)] aeh LC
def ab3:LT:=[(3,VQ)]
def aog:∀x,round Zc ab3 (iY Tryz.f64 0) VQ x=LC x:=by intro x;kernel_rfl
def e_q139:EV Zc ab3 Tryz.f64 [.v fk] [.v (.pair I6 (.pair I6 (.pair (.own gv) .unit)))] Ix:=by intro xs;kernel_rfl
def ako:CO N_:=con_ok (Ls:=[VQ]) mixed (ei _ _) nF Tryz.func64 (loopsC (loopD_ok aog) loopsL_nil) boxesL_none e_q139
def aaL (fns:List (Nat×List Ab.Mode×(List Arg→Option Res))){dp:Bool}(h:eN Tryz.prog Gb ⟨bm,fns,dp,Gl⟩):eN Tryz.prog Gb ⟨bm,N_.entry::fns,dp,Gl⟩:=h.cons N_ (by kernel_rfl) (zv (f:=Ix)) ako
def Od:j4:=⟨51,[.v r5],[.v (.pair (.pair I6 (.pair I6 (.pair (.own I6) (.pair (.own I6) .unit)))) (.pair (.pair I6 (.pair I6 (.pair (.own gv) .unit))) .unit))],J1,zog J1⟩
def C_q148:Cx:=⟨bm,[N_.entry,Oe.entry],false,Gl⟩
def e_q148:EV C_q148 g9 Tryz.f51 [.v r5] [.v (.pair (.pair I6 (.pair I6 (.pair (.own I6) (.pair (.own I6) .unit)))) (.pair (.pair I6 (.pair I6 (.pair (.own gv) .unit))) .unit))] J1:=by intro xs;kernel_rfl
def akx:CO Od:=con_ok (Ls:=[]) mixed (ei _ _) (aaL _ (aaQ _ nF)) Tryz.func51 loopsL_nil boxesL_none e_q148
def aaP (fns:List (Nat×List Ab.Mode×(List Arg→Option Res))){dp:Bool}(h:eN Tryz.prog Gb ⟨bm,fns,dp,Gl⟩):eN Tryz.prog Gb ⟨bm,Od.entry::fns,dp,Gl⟩:=h.cons Od (by kernel_rfl) (zv (f:=J1)) akx
def KJ:j4:=⟨39,[.v bn],[.v (.pair I6 (.pair I6 (.pair I6 (.pair .str (.pair I6 (.pair (.pair (.pair I6 (.pair I6 (.pair (.own I6) (.pair (.own I6) .unit)))) (.pair (.pair I6 (.pair I6 (.pair (.own gv) .unit))) .unit)) .unit))))))],Gm,zog Gm⟩
def C_q103:Cx:=⟨bm,[Od.entry],false,Gl⟩
def e_q103:EV C_q103 g9 Tryz.f39 [.v bn] [.v (.pair I6 (.pair I6 (.pair I6 (.pair .str (.pair I6 (.pair (.pair (.pair I6 (.pair I6 (.pair (.own I6) (.pair (.own I6) .unit)))) (.pair (.pair I6 (.pair I6 (.pair (.own gv) .unit))) .unit)) .unit))))))] Gm:=by intro xs;kernel_rfl
def ajR:CO KJ:=con_ok (Ls:=[]) mixed (ei _ _) (aaP _ nF) Tryz.func39 loopsL_nil boxesL_none e_q103
def SB (fns:List (Nat×List Ab.Mode×(List Arg→Option Res))){dp:Bool}(h:eN Tryz.prog Gb ⟨bm,fns,dp,Gl⟩):eN Tryz.prog Gb ⟨bm,KJ.entry::fns,dp,Gl⟩:=h.cons KJ (by kernel_rfl) (zv (f:=Gm)) ajR
def NY:j4:=⟨67,[.v fy],[.v (.pair b7 (.pair (.own bn) (.pair (.own b9) (.pair (.own an) .unit))))],G9,zog G9⟩
def Y3:Cx:=⟨bm,[KJ.entry,HQ.entry],false,Gl⟩
def Vv:bZ:=oP ⟨[(4,.leaf I6),(3,.aR z0 []),(1,.aR z1 []),(2,.aR z2 [])],[(z0,false,.var fy (.pair (.pair (.leaf .bool) (.pair (.leaf I6) (.pair (.leaf .str) (.pair (.pair (.leaf I6) (.pair (.whole z3 an) (.leaf .unit))) (.pair (.pair (.whole 500000004 cg) (.leaf (.pair I6 .unit))) (.pair (.whole 500000005 cw) (.pair (.whole 500000006 cp) (.leaf .unit)))))))) (.pair (.whole 500000007 bn) (.pair (.whole 500000008 b9) (.pair (.whole 500000009 an) (.leaf .unit)))))),(z1,false,.var fy (.leaf fy)),(z2,false,.var fy (.pair (.pair (.leaf .bool) (.pair (.leaf I6) (.pair (.leaf .str) (.pair (.pair (.leaf I6) (.pair (.whole 500000010 an) (.leaf .unit))) (.pair (.pair (.whole 500000011 cg) (.leaf (.pair I6 .unit))) (.pair (.whole 500000012 cw) (.pair (.whole 500000013 cp) (.leaf .unit)))))))) (.pair (.whole 500000014 bn) (.pair (.whole 500000015 b9) (.pair (.whole 500000016 an) (.leaf .unit)))))),(z3,false,.rows an),(500000004,false,.rows cg),(500000005,false,.rows cw),(500000006,false,.rows cp),(500000007,false,.rows bn),(500000008,false,.rows b9),(500000009,false,.rows an),(500000010,false,.rows an),(500000011,false,.rows cg),(500000012,false,.rows cw),(500000013,false,.rows cp),(500000014,false,.rows bn),(500000015,false,.rows b9),(500000016,false,.rows an)]⟩ [((.exit 0),⟨[(2,.aR z0 []),(3,.aR z1 [])],[(z0,false,.var fy (.pair (.pair (.leaf .bool) (.pair (.leaf I6) (.pair (.leaf .str) (.pair (.pair (.leaf I6) (.pair (.whole z2 an) (.leaf .unit))) (.pair (.pair (.whole z3 cg) (.leaf (.pair I6 .unit))) (.pair (.whole 500000004 cw) (.pair (.whole 500000005 cp) (.leaf .unit)))))))) (.pair (.whole 500000006 bn) (.pair (.whole 500000007 b9) (.pair (.whole 500000008 an) (.leaf .unit)))))),(z1,false,.var fy (.pair (.pair (.leaf .bool) (.pair (.leaf I6) (.pair (.leaf .str) (.pair (.pair (.leaf I6) (.pair (.whole 500000009 an) (.leaf .unit))) (.pair (.pair (.whole 500000010 cg) (.leaf (.pair I6 .unit))) (.pair (.whole 500000011 cw) (.pair (.whole 500000012 cp) (.leaf .unit)))))))) (.pair (.whole 500000013 bn) (.pair (.whole 500000014 b9) (.pair (.whole 500000015 an) (.leaf .unit)))))),(z2,false,.rows an),(z3,false,.rows cg),(500000004,false,.rows cw),(500000005,false,.rows cp),(500000006,false,.rows bn),(500000007,false,.rows b9),(500000008,false,.rows an),(500000009,false,.rows an),(500000010,false,.rows cg),(500000011,false,.rows cw),(500000012,false,.rows cp),(500000013,false,.rows bn),(500000014,false,.rows b9),(500000015,false,.rows an)]⟩)] adH PD
def abT:LT:=[(3,Vv)]
def anJ:∀x,round Y3 abT (iY Tryz.f67 0) Vv x=PD x:=by intro x;kernel_rfl
def e_q107:EV Y3 abT Tryz.f67 [.v fy] [.v (.pair b7 (.pair (.own bn) (.pair (.own b9) (.pair (.own an) .unit))))] G9:=by intro xs;kernel_rfl
def ajV:CO NY:=con_ok (Ls:=[Vv]) mixed (ei _ _) (SB _ (MJ _ nF)) Tryz.func67 (loopsC (loopD_ok anJ) loopsL_nil) boxesL_none e_q107
def aaA (fns:List (Nat×List Ab.Mode×(List Arg→Option Res))){dp:Bool}(h:eN Tryz.prog Gb ⟨bm,fns,dp,Gl⟩):eN Tryz.prog Gb ⟨bm,NY.entry::fns,dp,Gl⟩:=h.cons NY (by kernel_rfl) (zv (f:=G9)) ajV
def Mo:j4:=⟨118,[.v .str,.v I6,.v I8],[.v I6],Co,zog Co⟩
def Zi:Cx:=⟨bm,[],false,Gl⟩
def V9:bZ:=oP ⟨[(7,.leaf I6),(2,.leaf I8),(0,.leaf .str)],[]⟩ [(.ret,⟨[(6,.leaf I6)],[]⟩),((.exit 0),⟨[],[]⟩)] aet FA
def ab9:LT:=[(2,V9)]
def aoz:∀x,round Zi ab9 (iY Tryz.f118 0) V9 x=FA x:=by intro x;kernel_rfl
def e_q150:EV Zi ab9 Tryz.f118 [.v .str,.v I6,.v I8] [.v I6] Co:=by intro xs;kernel_rfl
def akz:CO Mo:=con_ok (Ls:=[V9]) mixed (ei _ _) nF Tryz.func118 (loopsC (loopD_ok aoz) loopsL_nil) boxesL_none e_q150
def WW (fns:List (Nat×List Ab.Mode×(List Arg→Option Res))){dp:Bool}(h:eN Tryz.prog Gb ⟨bm,fns,dp,Gl⟩):eN Tryz.prog Gb ⟨bm,Mo.entry::fns,dp,Gl⟩:=h.cons Mo (by kernel_rfl) (zv (f:=Co)) akz
def KL:j4:=⟨119,[.v .str,.v I8],[.v (.own .str)],Dt,zog Dt⟩
def Zf:Cx:=⟨bm,[],false,Gl⟩
def V1:bZ:=oP ⟨[(7,.leaf I6),(6,.leaf I6),(0,.leaf .str),(5,.whole z0 .str),(1,.leaf I8)],[(z0,false,.rows .str)]⟩ [((.exit 0),⟨[(6,.leaf I6),(0,.leaf .str),(5,.whole z0 .str)],[(z0,false,.rows .str)]⟩)] aen Du
def ab6:LT:=[(4,V1)]
def aor:∀x,round Zf ab6 (iY Tryz.f119 0) V1 x=Du x:=by intro x;kernel_rfl
def e_q145:EV Zf ab6 Tryz.f119 [.v .str,.v I8] [.v (.own .str)] Dt:=by intro xs;kernel_rfl
def aku:CO KL:=con_ok (Ls:=[V1]) mixed (ei _ _) nF Tryz.func119 (loopsC (loopD_ok aor) loopsL_nil) boxesL_none e_q145
def SD (fns:List (Nat×List Ab.Mode×(List Arg→Option Res))){dp:Bool}(h:eN Tryz.prog Gb ⟨bm,fns,dp,Gl⟩):eN Tryz.prog Gb ⟨bm,KL.entry::fns,dp,Gl⟩:=h.cons KL (by kernel_rfl) (zv (f:=Dt)) aku
def Ji:j4:=⟨120,[.v .str],[.v I6],As,zog As⟩
def Zy:Cx:=⟨bm,[BG.entry],false,Gl⟩
def V4:bZ:=oP ⟨[(4,.leaf I6),(0,.leaf .str),(3,.leaf I6)],[]⟩ [(.ret,⟨[(2,.leaf I6)],[]⟩),((.exit 0),⟨[(3,.leaf I6)],[]⟩)] afa LO
def acr:LT:=[(5,V4)]
def aou:∀x,round Zy acr (iY Tryz.f120 0) V4 x=LO x:=by intro x;kernel_rfl
def e_q182:EV Zy acr Tryz.f120 [.v .str] [.v I6] As:=by intro xs;kernel_rfl
def ak5:CO Ji:=con_ok (Ls:=[V4]) mixed (ei _ _) (Ck _ nF) Tryz.func120 (loopsC (loopD_ok aou) loopsL_nil) boxesL_none e_q182
def OR (fns:List (Nat×List Ab.Mode×(List Arg→Option Res))){dp:Bool}(h:eN Tryz.prog Gb ⟨bm,fns,dp,Gl⟩):eN Tryz.prog Gb ⟨bm,Ji.entry::fns,dp,Gl⟩:=h.cons Ji (by kernel_rfl) (zv (f:=As)) ak5
def KK:j4:=⟨34,[.v .str],[.v .bool],DJ,zog DJ⟩
def Y_:Cx:=⟨bm,[BG.entry],false,Gl⟩
def U6:bZ:=oP ⟨[(3,.leaf I6),(0,.leaf .str)],[]⟩ [(.ret,⟨[(2,.leaf .bool)],[]⟩),((.exit 0),⟨[(0,.leaf .str)],[]⟩)] ad6 E4
def ab0:LT:=[(2,U6)]
def anf:∀x,round Y_ ab0 (iY Tryz.f34 0) U6 x=E4 x:=by intro x;kernel_rfl
def e_q129:EV Y_ ab0 Tryz.f34 [.v .str] [.v .bool] DJ:=by intro xs;kernel_rfl
def ake:CO KK:=con_ok (Ls:=[U6]) mixed (ei _ _) (Ck _ nF) Tryz.func34 (loopsC (loopD_ok anf) loopsL_nil) boxesL_none e_q129
def SC (fns:List (Nat×List Ab.Mode×(List Arg→Option Res))){dp:Bool}(h:eN Tryz.prog Gb ⟨bm,fns,dp,Gl⟩):eN Tryz.prog Gb ⟨bm,KK.entry::fns,dp,Gl⟩:=h.cons KK (by kernel_rfl) (zv (f:=DJ)) ake
def Jg:j4:=⟨23,[.v eL],[.v .bool],Eg,zog Eg⟩
def C_q132:Cx:=⟨bm,[KK.entry,BG.entry],false,Gl⟩
def e_q132:EV C_q132 g9 Tryz.f23 [.v eL] [.v .bool] Eg:=by intro xs;kernel_rfl
def akh:CO Jg:=con_ok (Ls:=[]) mixed (ei _ _) (SC _ (Ck _ nF)) Tryz.func23 loopsL_nil boxesL_none e_q132
def OP (fns:List (Nat×List Ab.Mode×(List Arg→Option Res))){dp:Bool}(h:eN Tryz.prog Gb ⟨bm,fns,dp,Gl⟩):eN Tryz.prog Gb ⟨bm,Jg.entry::fns,dp,Gl⟩:=h.cons Jg (by kernel_rfl) (zv (f:=Eg)) akh
def HM:j4:=⟨139,[.v I6],[.v .str],Ar,zog Ar⟩
def NV (g:((Int))→Option (((List UInt8))×(Unit)))(g':((Int))→((List UInt8))×(Unit)):j4:=⟨139,[.v I6],[.v .str],g,g'⟩
def C_q171 (g:((Int))→Option (((List UInt8))×(Unit)))(g':((Int))→((List UInt8))×(Unit)):Cx:=⟨bm,[(NV g g').entry],false,Gl⟩
def e_q171 (g:((Int))→Option (((List UInt8))×(Unit)))(g':((Int))→((List UInt8))×(Unit)):∀xs,evT (C_q171 g g') g9 Tryz.f139 [.v I6] [.v .str] xs=q36 g g' xs:=by intro xs;kernel_rfl
def s_q171 (g:((Int))→Option (((List UInt8))×(Unit)))(g':((Int))→((List UInt8))×(Unit))(hv:∀x y,g x=some y→g' x=y)(h:CO (NV g g')):CO (NV (q36 g g') (fun x=>match q36 g g' x with | some y=>y|none=>default)):=con_ok (Ls:=[]) mixed (ei _ _) (eN.cons nF (NV g g') (by kernel_rfl) hv h) Tryz.func139 loopsL_nil boxesL_none (e_q171 g g')
def n_q171 (n:Nat):CO (NV (E3 n) (fun x=>match E3 n x with | some y=>y|none=>default)):=by
 induction n with
 |zero=>intro xs y h;exact absurd (show none=some y from h) (by simp)
 |succ n ih=>
  rw[Yk n]
  exact s_q171 _ _ (fun x y h=>by simp only[h]) ih
def akU:CO HM:=n_q171 20
def ME (fns:List (Nat×List Ab.Mode×(List Arg→Option Res))){dp:Bool}(h:eN Tryz.prog Gb ⟨bm,fns,dp,Gl⟩):eN Tryz.prog Gb ⟨bm,HM.entry::fns,dp,Gl⟩:=h.cons HM (by kernel_rfl) (zv (f:=Ar)) akU
def QM:j4:=⟨125,[.v eL],[.v .str],Ly,zog Ly⟩
def C_q117:Cx:=⟨bm,[HM.entry],false,Gl⟩
def e_q117:EV C_q117 g9 Tryz.f125 [.v eL] [.v .str] Ly:=by intro xs;kernel_rfl
def aj4:CO QM:=con_ok (Ls:=[]) mixed (ei _ _) (ME _ nF) Tryz.func125 loopsL_nil boxesL_none e_q117
def aib (fns:List (Nat×List Ab.Mode×(List Arg→Option Res))){dp:Bool}(h:eN Tryz.prog Gb ⟨bm,fns,dp,Gl⟩):eN Tryz.prog Gb ⟨bm,QM.entry::fns,dp,Gl⟩:=h.cons QM (by kernel_rfl) (zv (f:=Ly)) aj4
def Rg:j4:=⟨126,[.v .str],[.v .str],Kd,zog Kd⟩
def UM:Cx:=⟨bm,[HM.entry],false,Gl⟩
def V_:bZ:=oP ⟨[(4,.leaf I6),(0,.leaf .str),(3,.leaf I6)],[]⟩ [((.exit 0),⟨[(3,.leaf I6)],[]⟩)] afc PG
def Wa:bZ:=oP ⟨[(5,.leaf .str)],[]⟩ [((.exit 2),⟨[(5,.leaf .str)],[]⟩)] afe Nd
def XL:LT:=[(3,V_),(7,Wa)]
def aoA:∀x,round UM XL (iY Tryz.f126 0) V_ x=PG x:=by intro x;kernel_rfl
def aoB:∀x,round UM XL (iY Tryz.f126 1) Wa x=Nd x:=by intro x;kernel_rfl
def e_q184:EV UM XL Tryz.f126 [.v .str] [.v .str] Kd:=by intro xs;kernel_rfl
def ak7:CO Rg:=con_ok (Ls:=[V_,Wa]) mixed (ei _ _) (ME _ nF) Tryz.func126 (loopsC (loopD_ok aoA) (loopsC (loopD_ok aoB) loopsL_nil)) boxesL_none e_q184
def aiE (fns:List (Nat×List Ab.Mode×(List Arg→Option Res))){dp:Bool}(h:eN Tryz.prog Gb ⟨bm,fns,dp,Gl⟩):eN Tryz.prog Gb ⟨bm,Rg.entry::fns,dp,Gl⟩:=h.cons Rg (by kernel_rfl) (zv (f:=Kd)) ak7
def On:j4:=⟨99,[.v eL],[.v .str],Hs,zog Hs⟩
def C_q43:Cx:=⟨bm,[Rg.entry,QM.entry,Jg.entry],false,Gl⟩
def e_q43:EV C_q43 g9 Tryz.f99 [.v eL] [.v .str] Hs:=by intro xs;kernel_rfl
def ok_q43:CO On:=con_ok (Ls:=[]) mixed (ei _ _) (aiE _ (aib _ (OP _ nF))) Tryz.func99 loopsL_nil boxesL_none e_q43
def aaZ (fns:List (Nat×List Ab.Mode×(List Arg→Option Res))){dp:Bool}(h:eN Tryz.prog Gb ⟨bm,fns,dp,Gl⟩):eN Tryz.prog Gb ⟨bm,On.entry::fns,dp,Gl⟩:=h.cons On (by kernel_rfl) (zv (f:=Hs)) ok_q43
def RP:j4:=⟨95,[.v .str],[.v eL,.v .bool],q63,zog q63⟩
def C_q63:Cx:=⟨bm,[On.entry,Jg.entry,Ji.entry,KL.entry,Mo.entry],false,Gl⟩
def e_q63:EV C_q63 g9 Tryz.f95 [.v .str] [.v eL,.v .bool] q63:=by intro xs;kernel_rfl
def ok_q63:CO RP:=con_ok (Ls:=[]) mixed (ei _ _) (aaZ _ (OP _ (OR _ (SD _ (WW _ nF))))) Tryz.func95 loopsL_nil boxesL_none e_q63
def fk_q63 (fns:List (Nat×List Ab.Mode×(List Arg→Option Res))){dp:Bool}(h:eN Tryz.prog Gb ⟨bm,fns,dp,Gl⟩):eN Tryz.prog Gb ⟨bm,RP.entry::fns,dp,Gl⟩:=h.cons RP (by kernel_rfl) (zv (f:=q63)) ok_q63
def R1:j4:=⟨185,[.v .str],[.v (.own I8)],q77,zog q77⟩
def UP:Cx:=⟨bm,[],false,Gl⟩
def VG:bZ:=oP ⟨[(3,.whole z0 I8),(0,.leaf .str)],[(z0,false,.rows I8)]⟩ [((.exit 0),⟨[(3,.whole z0 I8),(0,.leaf .str)],[(z0,false,.rows I8)]⟩)] af2 LX
def VH:bZ:=oP ⟨[(5,.leaf I6),(4,.leaf I6),(3,.whole z0 I8)],[(z0,false,.rows I8)]⟩ [((.exit 2),⟨[(3,.whole z0 I8)],[(z0,false,.rows I8)]⟩)] af4 Nj
def XO:LT:=[(2,VG),(6,VH)]
def an7:∀x,round UP XO (iY Tryz.f185 0) VG x=LX x:=by intro x;kernel_rfl
def an8:∀x,round UP XO (iY Tryz.f185 1) VH x=Nj x:=by intro x;kernel_rfl
def e_q77:EV UP XO Tryz.f185 [.v .str] [.v (.own I8)] q77:=by intro xs;kernel_rfl
def ok_q77:CO R1:=con_ok (Ls:=[VG,VH]) mixed (ei _ _) nF Tryz.func185 (loopsC (loopD_ok an7) (loopsC (loopD_ok an8) loopsL_nil)) boxesL_none e_q77
def fk_q77 (fns:List (Nat×List Ab.Mode×(List Arg→Option Res))){dp:Bool}(h:eN Tryz.prog Gb ⟨bm,fns,dp,Gl⟩):eN Tryz.prog Gb ⟨bm,R1.entry::fns,dp,Gl⟩:=h.cons R1 (by kernel_rfl) (zv (f:=q77)) ok_q77
def N9:j4:=⟨189,[.v I3,.v I6],[.v I3],wv,zog wv⟩
def C_q138:Cx:=⟨bm,[],false,Gl⟩
def e_q138:EV C_q138 g9 Tryz.f189 [.v I3,.v I6] [.v I3] wv:=by intro xs;kernel_rfl
def akn:CO N9:=con_ok (Ls:=[]) mixed (ei _ _) nF Tryz.func189 loopsL_nil boxesL_none e_q138
def aaK (fns:List (Nat×List Ab.Mode×(List Arg→Option Res))){dp:Bool}(h:eN Tryz.prog Gb ⟨bm,fns,dp,Gl⟩):eN Tryz.prog Gb ⟨bm,N9.entry::fns,dp,Gl⟩:=h.cons N9 (by kernel_rfl) (zv (f:=wv)) akn
def QL:j4:=⟨187,[.v (.lst I8)],[.v (.own I3)],Lw,zog Lw⟩
def UJ:Cx:=⟨bm,[N9.entry],false,Gl⟩
def VK:bZ:=oP ⟨[(4,.leaf I6),(0,.leaf (.lst I8)),(3,.whole z0 I3)],[(z0,false,.rows I3)]⟩ [((.exit 0),⟨[(3,.whole z0 I3)],[(z0,false,.rows I3)]⟩)] adS M9
def VL:bZ:=oP ⟨[(5,.leaf I6),(3,.whole z0 I3)],[(z0,false,.rows I3)]⟩ [((.exit 2),⟨[(3,.whole z0 I3)],[(z0,false,.rows I3)]⟩)] adU M_
def XI:LT:=[(3,VK),(7,VL)]
def aoa:∀x,round UJ XI (iY Tryz.f187 0) VK x=M9 x:=by intro x;kernel_rfl
def aob:∀x,round UJ XI (iY Tryz.f187 1) VL x=M_ x:=by intro x;kernel_rfl
def e_q114:EV UJ XI Tryz.f187 [.v (.lst I8)] [.v (.own I3)] Lw:=by intro xs;kernel_rfl
def aj1:CO QL:=con_ok (Ls:=[VK,VL]) mixed (ei _ _) (aaK _ nF) Tryz.func187 (loopsC (loopD_ok aoa) (loopsC (loopD_ok aob) loopsL_nil)) boxesL_none e_q114
def aia (fns:List (Nat×List Ab.Mode×(List Arg→Option Res))){dp:Bool}(h:eN Tryz.prog Gb ⟨bm,fns,dp,Gl⟩):eN Tryz.prog Gb ⟨bm,QL.entry::fns,dp,Gl⟩:=h.cons QL (by kernel_rfl) (zv (f:=Lw)) aj1
def R0:j4:=⟨188,[],[.v (.own I3)],q76,zog q76⟩
def C_q76:Cx:=⟨bm,[],false,Gl⟩
def e_q76:EV C_q76 g9 Tryz.f188 [] [.v (.own I3)] q76:=by intro xs;kernel_rfl
def ok_q76:CO R0:=con_ok (Ls:=[]) mixed (ei _ _) nF Tryz.func188 loopsL_nil boxesL_none e_q76
def fk_q76 (fns:List (Nat×List Ab.Mode×(List Arg→Option Res))){dp:Bool}(h:eN Tryz.prog Gb ⟨bm,fns,dp,Gl⟩):eN Tryz.prog Gb ⟨bm,R0.entry::fns,dp,Gl⟩:=h.cons R0 (by kernel_rfl) (zv (f:=q76)) ok_q76
def QJ:j4:=⟨186,[.v (.lst I3),.v (.lst I8)],[.v (.own I3)],JT,zog JT⟩
def Qw:Cx:=⟨bm,[N9.entry,R0.entry,QL.entry],false,Gl⟩
def VB:bZ:=oP ⟨[(7,.whole z0 I3),(8,.leaf I6),(5,.whole z1 I3),(6,.whole z2 I3),(0,.leaf (.lst I3))],[(z0,false,.rows I3),(z1,false,.rows I3),(z2,false,.rows I3)]⟩ [((.exit 0),⟨[(7,.whole z0 I3),(0,.leaf (.lst I3))],[(z0,false,.rows I3)]⟩)] adN M8
def VC:bZ:=oP ⟨[(14,.leaf I6),(7,.whole z0 I3),(5,.whole z1 I3),(6,.whole z2 I3),(0,.leaf (.lst I3)),(8,.leaf I6),(13,.leaf I3),(12,.leaf I3),(11,.leaf I3)],[(z0,false,.rows I3),(z1,false,.rows I3),(z2,false,.rows I3)]⟩ [((.exit 2),⟨[(7,.whole z0 I3),(5,.whole z1 I3),(6,.whole z2 I3),(0,.leaf (.lst I3)),(8,.leaf I6),(13,.leaf I3),(12,.leaf I3),(11,.leaf I3)],[(z0,false,.rows I3),(z1,false,.rows I3),(z2,false,.rows I3)]⟩)] Yj TF
def VD:bZ:=oP ⟨[(16,.leaf I6),(7,.whole z0 I3),(0,.leaf (.lst I3)),(15,.whole z1 I3)],[(z0,false,.rows I3),(z1,false,.rows I3)]⟩ [((.exit 4),⟨[(15,.whole z0 I3)],[(z0,false,.rows I3)]⟩)] adQ TG
def Tg:LT:=[(5,VB),(13,VC),(20,VD)]
def an2:∀x,round Qw Tg (iY Tryz.f186 0) VB x=M8 x:=by intro x;kernel_rfl
def an3:∀x,round Qw Tg (iY Tryz.f186 1) VC x=TF x:=by intro x;kernel_rfl
def an4:∀x,round Qw Tg (iY Tryz.f186 2) VD x=TG x:=by intro x;kernel_rfl
def e_q111:EV Qw Tg Tryz.f186 [.v (.lst I3),.v (.lst I8)] [.v (.own I3)] JT:=by intro xs;kernel_rfl
def ajZ:CO QJ:=con_ok (Ls:=[VB,VC,VD]) mixed (ei _ _) (aaK _ (fk_q76 _ (aia _ nF))) Tryz.func186 (loopsC (loopD_ok an2) (loopsC (loopD_ok an3) (loopsC (loopD_ok an4) loopsL_nil))) boxesL_none e_q111
def ah9 (fns:List (Nat×List Ab.Mode×(List Arg→Option Res))){dp:Bool}(h:eN Tryz.prog Gb ⟨bm,fns,dp,Gl⟩):eN Tryz.prog Gb ⟨bm,QJ.entry::fns,dp,Gl⟩:=h.cons QJ (by kernel_rfl) (zv (f:=JT)) ajZ
def Ra:j4:=⟨183,[.v .str],[.v .str],J9,zog J9⟩
def UK:Cx:=⟨bm,[QJ.entry,R1.entry],false,Gl⟩
def VI:bZ:=oP ⟨[(5,.leaf I6),(4,.whole z0 I8),(3,.whole z1 I3)],[(z0,false,.rows I8),(z1,false,.rows I3)]⟩ [((.exit 0),⟨[(3,.whole z0 I3)],[(z0,false,.rows I3)]⟩)] aeP LI
def VJ:bZ:=oP ⟨[(7,.leaf I6),(3,.whole z0 I3),(6,.whole z1 I8)],[(z0,false,.rows I3),(z1,false,.rows I8)]⟩ [((.exit 2),⟨[(6,.whole z0 I8)],[(z0,false,.rows I8)]⟩)] aeR TP
def XJ:LT:=[(4,VI),(9,VJ)]
def an9:∀x,round UK XJ (iY Tryz.f183 0) VI x=LI x:=by intro x;kernel_rfl
def an_:∀x,round UK XJ (iY Tryz.f183 1) VJ x=TP x:=by intro x;kernel_rfl
def e_q173:EV UK XJ Tryz.f183 [.v .str] [.v .str] J9:=by intro xs;kernel_rfl
def akW:CO Ra:=con_ok (Ls:=[VI,VJ]) mixed (ei _ _) (ah9 _ (fk_q77 _ nF)) Tryz.func183 (loopsC (loopD_ok an9) (loopsC (loopD_ok an_) loopsL_nil)) boxesL_none e_q173
def aiy (fns:List (Nat×List Ab.Mode×(List Arg→Option Res))){dp:Bool}(h:eN Tryz.prog Gb ⟨bm,fns,dp,Gl⟩):eN Tryz.prog Gb ⟨bm,Ra.entry::fns,dp,Gl⟩:=h.cons Ra (by kernel_rfl) (zv (f:=J9)) akW
def Q_:j4:=⟨182,[.v .str],[.v .str],Hp,zog Hp⟩
def Zp:Cx:=⟨bm,[],false,Gl⟩
def VE:bZ:=oP ⟨[(4,.leaf I6),(0,.leaf .str),(3,.whole z0 I8)],[(z0,false,.rows I8)]⟩ [((.exit 0),⟨[(3,.whole z0 I8)],[(z0,false,.rows I8)]⟩)] aeN LH
def aci:LT:=[(3,VE)]
def an5:∀x,round Zp aci (iY Tryz.f182 0) VE x=LH x:=by intro x;kernel_rfl
def e_q172:EV Zp aci Tryz.f182 [.v .str] [.v .str] Hp:=by intro xs;kernel_rfl
def akV:CO Q_:=con_ok (Ls:=[VE]) mixed (ei _ _) nF Tryz.func182 (loopsC (loopD_ok an5) loopsL_nil) boxesL_none e_q172
def aix (fns:List (Nat×List Ab.Mode×(List Arg→Option Res))){dp:Bool}(h:eN Tryz.prog Gb ⟨bm,fns,dp,Gl⟩):eN Tryz.prog Gb ⟨bm,Q_.entry::fns,dp,Gl⟩:=h.cons Q_ (by kernel_rfl) (zv (f:=Hp)) akV
def R7:j4:=⟨174,[.v .str],[.v .str],q84,zog q84⟩
def C_q84:Cx:=⟨bm,[Q_.entry,Ra.entry],false,Gl⟩
def e_q84:EV C_q84 g9 Tryz.f174 [.v .str] [.v .str] q84:=by intro xs;kernel_rfl
def ok_q84:CO R7:=con_ok (Ls:=[]) mixed (ei _ _) (aix _ (aiy _ nF)) Tryz.func174 loopsL_nil boxesL_none e_q84
def fk_q84 (fns:List (Nat×List Ab.Mode×(List Arg→Option Res))){dp:Bool}(h:eN Tryz.prog Gb ⟨bm,fns,dp,Gl⟩):eN Tryz.prog Gb ⟨bm,R7.entry::fns,dp,Gl⟩:=h.cons R7 (by kernel_rfl) (zv (f:=q84)) ok_q84
def Of:j4:=⟨159,[.v I6,.v .str],[.v .str],Hi,zog Hi⟩
def C_q151:Cx:=⟨bm,[R7.entry,HM.entry],false,Gl⟩
def e_q151:EV C_q151 g9 Tryz.f159 [.v I6,.v .str] [.v .str] Hi:=by intro xs;kernel_rfl
def akA:CO Of:=con_ok (Ls:=[]) mixed (ei _ _) (fk_q84 _ (ME _ nF)) Tryz.func159 loopsL_nil boxesL_none e_q151
def aaR (fns:List (Nat×List Ab.Mode×(List Arg→Option Res))){dp:Bool}(h:eN Tryz.prog Gb ⟨bm,fns,dp,Gl⟩):eN Tryz.prog Gb ⟨bm,Of.entry::fns,dp,Gl⟩:=h.cons Of (by kernel_rfl) (zv (f:=Hi)) akA
def Q0:j4:=⟨148,[.v .str,.v I6,.v I6],[.v .str,.v I6],IB,zog IB⟩
def C_q152:Cx:=⟨bm,[Of.entry,BG.entry,Ji.entry,Mo.entry],false,Gl⟩
def e_q152:EV C_q152 g9 Tryz.f148 [.v .str,.v I6,.v I6] [.v .str,.v I6] IB:=by intro xs;kernel_rfl
def akB:CO Q0:=con_ok (Ls:=[]) mixed (ei _ _) (aaR _ (Ck _ (OR _ (WW _ nF)))) Tryz.func148 loopsL_nil boxesL_none e_q152
def ain (fns:List (Nat×List Ab.Mode×(List Arg→Option Res))){dp:Bool}(h:eN Tryz.prog Gb ⟨bm,fns,dp,Gl⟩):eN Tryz.prog Gb ⟨bm,Q0.entry::fns,dp,Gl⟩:=h.cons Q0 (by kernel_rfl) (zv (f:=IB)) akB
def Jh:j4:=⟨116,[.v .str],[.v (.own .str),.v I6],E6,zog E6⟩
def Zj:Cx:=⟨bm,[Q0.entry],false,Gl⟩
def Wb:bZ:=oP ⟨[(5,.leaf I6),(4,.whole z0 .str),(0,.leaf .str)],[(z0,false,.rows .str)]⟩ [(.ret,⟨[(2,.whole z0 .str),(3,.leaf I6)],[(z0,false,.rows .str)]⟩)] aev LD
def ab_:LT:=[(3,Wb)]
def aoC:∀x,round Zj ab_ (iY Tryz.f116 0) Wb x=LD x:=by intro x;kernel_rfl
def e_q153:EV Zj ab_ Tryz.f116 [.v .str] [.v (.own .str),.v I6] E6:=by intro xs;kernel_rfl
def akC:CO Jh:=con_ok (Ls:=[Wb]) mixed (ei _ _) (ain _ nF) Tryz.func116 (loopsC (loopD_ok aoC) loopsL_nil) boxesL_none e_q153
def OQ (fns:List (Nat×List Ab.Mode×(List Arg→Option Res))){dp:Bool}(h:eN Tryz.prog Gb ⟨bm,fns,dp,Gl⟩):eN Tryz.prog Gb ⟨bm,Jh.entry::fns,dp,Gl⟩:=h.cons Jh (by kernel_rfl) (zv (f:=E6)) akC
def Mx:j4:=⟨134,[.v an],[.v .bool],Gv,zog Gv⟩
def C_q189:Cx:=⟨bm,[KK.entry,BG.entry],false,Gl⟩
def e_q189:EV C_q189 g9 Tryz.f134 [.v an] [.v .bool] Gv:=by intro xs;kernel_rfl
def alb:CO Mx:=con_ok (Ls:=[]) mixed (ei _ _) (SC _ (Ck _ nF)) Tryz.func134 loopsL_nil boxesL_none e_q189
def W7 (fns:List (Nat×List Ab.Mode×(List Arg→Option Res))){dp:Bool}(h:eN Tryz.prog Gb ⟨bm,fns,dp,Gl⟩):eN Tryz.prog Gb ⟨bm,Mx.entry::fns,dp,Gl⟩:=h.cons Mx (by kernel_rfl) (zv (f:=Gv)) alb
def KO:j4:=⟨103,[.v I6,.v .str,.v .str],[.v .str],EH,zog EH⟩
def C_q37:Cx:=⟨bm,[HM.entry,Mx.entry],false,Gl⟩
def e_q37:EV C_q37 g9 Tryz.f103 [.v I6,.v .str,.v .str] [.v .str] EH:=by intro xs;kernel_rfl
def ok_q37:CO KO:=con_ok (Ls:=[]) mixed (ei _ _) (ME _ (W7 _ nF)) Tryz.func103 loopsL_nil boxesL_none e_q37
def SG (fns:List (Nat×List Ab.Mode×(List Arg→Option Res))){dp:Bool}(h:eN Tryz.prog Gb ⟨bm,fns,dp,Gl⟩):eN Tryz.prog Gb ⟨bm,KO.entry::fns,dp,Gl⟩:=h.cons KO (by kernel_rfl) (zv (f:=EH)) ok_q37
def Og:j4:=⟨157,[.v an,.v I6,.v .str],[.v .bool],IC,zog IC⟩
def C_q156:Cx:=⟨bm,[],false,Gl⟩
def e_q156:EV C_q156 g9 Tryz.f157 [.v an,.v I6,.v .str] [.v .bool] IC:=by intro xs;kernel_rfl
def akF:CO Og:=con_ok (Ls:=[]) mixed (ei _ _) nF Tryz.func157 loopsL_nil boxesL_none e_q156
def aaS (fns:List (Nat×List Ab.Mode×(List Arg→Option Res))){dp:Bool}(h:eN Tryz.prog Gb ⟨bm,fns,dp,Gl⟩):eN Tryz.prog Gb ⟨bm,Og.entry::fns,dp,Gl⟩:=h.cons Og (by kernel_rfl) (zv (f:=IC)) akF
def NZ:j4:=⟨136,[.v (.lst an),.v I6],[.v I6],Is,zog Is⟩
def Y6:Cx:=⟨bm,[],false,Gl⟩
def Wd:bZ:=oP ⟨[(6,.leaf I6),(0,.leaf (.lst an)),(5,.leaf I6),(1,.leaf I6)],[]⟩ [((.exit 0),⟨[(5,.leaf I6)],[]⟩)] adY JU
def abW:LT:=[(3,Wd)]
def aoE:∀x,round Y6 abW (iY Tryz.f136 0) Wd x=JU x:=by intro x;kernel_rfl
def e_q118:EV Y6 abW Tryz.f136 [.v (.lst an),.v I6] [.v I6] Is:=by intro xs;kernel_rfl
def aj5:CO NZ:=con_ok (Ls:=[Wd]) mixed (ei _ _) nF Tryz.func136 (loopsC (loopD_ok aoE) loopsL_nil) boxesL_none e_q118
def aaB (fns:List (Nat×List Ab.Mode×(List Arg→Option Res))){dp:Bool}(h:eN Tryz.prog Gb ⟨bm,fns,dp,Gl⟩):eN Tryz.prog Gb ⟨bm,NZ.entry::fns,dp,Gl⟩:=h.cons NZ (by kernel_rfl) (zv (f:=Is)) aj5
def Ms:j4:=⟨133,[.v gh],[.v .bool],Hl,zog Hl⟩
def Qy:Cx:=⟨bm,[NZ.entry,Og.entry,Mx.entry,BG.entry],false,Gl⟩
def U2:bZ:=oP ⟨[(1,.aR z0 []),(3,.leaf I6)],[(z0,false,.var gh (.leaf gh))]⟩ [(.ret,⟨[(2,.leaf .bool)],[]⟩),((.exit 0),⟨[(1,.aR z0 [])],[(z0,false,.var gh (.leaf gh))]⟩)] aeB J4
def U3:bZ:=oP ⟨[(5,.leaf I6),(4,.aR z0 []),(1,.aR z1 []),(3,.leaf I6)],[(z0,false,.var an (.leaf an)),(z1,false,.var gh (.leaf gh))]⟩ [(.ret,⟨[(2,.leaf .bool)],[]⟩),((.exit 2),⟨[(1,.aR z0 []),(3,.leaf I6)],[(z0,false,.var gh (.leaf gh))]⟩)] aeD LG
def U4:bZ:=oP ⟨[(6,.leaf I6),(1,.aR z0 [])],[(z0,false,.var gh (.leaf gh))]⟩ [(.ret,⟨[(2,.leaf .bool)],[]⟩),((.exit 4),⟨[],[]⟩)] aeF Nc
def Ti:LT:=[(4,U2),(10,U3),(15,U4)]
def ana:∀x,round Qy Ti (iY Tryz.f133 0) U2 x=J4 x:=by intro x;kernel_rfl
def anb:∀x,round Qy Ti (iY Tryz.f133 1) U3 x=LG x:=by intro x;kernel_rfl
def anc:∀x,round Qy Ti (iY Tryz.f133 2) U4 x=Nc x:=by intro x;kernel_rfl
def e_q162:EV Qy Ti Tryz.f133 [.v gh] [.v .bool] Hl:=by intro xs;kernel_rfl
def akL:CO Ms:=con_ok (Ls:=[U2,U3,U4]) mixed (ei _ _) (aaB _ (aaS _ (W7 _ (Ck _ nF)))) Tryz.func133 (loopsC (loopD_ok ana) (loopsC (loopD_ok anb) (loopsC (loopD_ok anc) loopsL_nil))) boxesL_none e_q162
def W0 (fns:List (Nat×List Ab.Mode×(List Arg→Option Res))){dp:Bool}(h:eN Tryz.prog Gb ⟨bm,fns,dp,Gl⟩):eN Tryz.prog Gb ⟨bm,Ms.entry::fns,dp,Gl⟩:=h.cons Ms (by kernel_rfl) (zv (f:=Hl)) akL
def Mw:j4:=⟨135,[.v gh,.v I6,.v .str],[.v I6],FG,zog FG⟩
def ZB:Cx:=⟨bm,[],false,Gl⟩
def Wc:bZ:=oP ⟨[(7,.leaf I6),(2,.leaf .str),(3,.aR z0 []),(1,.leaf I6)],[(z0,false,.var gh (.leaf gh))]⟩ [(.ret,⟨[(6,.leaf I6)],[]⟩),((.exit 0),⟨[],[]⟩)] afk Kf
def acv:LT:=[(2,Wc)]
def aoD:∀x,round ZB acv (iY Tryz.f135 0) Wc x=Kf x:=by intro x;kernel_rfl
def e_q188:EV ZB acv Tryz.f135 [.v gh,.v I6,.v .str] [.v I6] FG:=by intro xs;kernel_rfl
def ala:CO Mw:=con_ok (Ls:=[Wc]) mixed (ei _ _) nF Tryz.func135 (loopsC (loopD_ok aoD) loopsL_nil) boxesL_none e_q188
def W6 (fns:List (Nat×List Ab.Mode×(List Arg→Option Res))){dp:Bool}(h:eN Tryz.prog Gb ⟨bm,fns,dp,Gl⟩):eN Tryz.prog Gb ⟨bm,Mw.entry::fns,dp,Gl⟩:=h.cons Mw (by kernel_rfl) (zv (f:=FG)) ala
def Q1:j4:=⟨167,[.v gh,.v I6],[.v (.pair I6 (.pair (.own an) .unit))],LF,zog LF⟩
def C_q157:Cx:=⟨bm,[],false,Gl⟩
def e_q157:EV C_q157 g9 Tryz.f167 [.v gh,.v I6] [.v (.pair I6 (.pair (.own an) .unit))] LF:=by intro xs;kernel_rfl
def akG:CO Q1:=con_ok (Ls:=[]) mixed (ei _ _) nF Tryz.func167 loopsL_nil boxesL_none e_q157
def aio (fns:List (Nat×List Ab.Mode×(List Arg→Option Res))){dp:Bool}(h:eN Tryz.prog Gb ⟨bm,fns,dp,Gl⟩):eN Tryz.prog Gb ⟨bm,Q1.entry::fns,dp,Gl⟩:=h.cons Q1 (by kernel_rfl) (zv (f:=LF)) akG
def R6:j4:=⟨147,[.v gh,.v I6,.v .str],[.v (.pair I6 (.pair (.own an) .unit)),.v I6],Hv,zog Hv⟩
def C_q82:Cx:=⟨bm,[Q1.entry,Mp.entry,Mw.entry,Ms.entry],false,Gl⟩
def e_q82:EV C_q82 g9 Tryz.f147 [.v gh,.v I6,.v .str] [.v (.pair I6 (.pair (.own an) .unit)),.v I6] Hv:=by intro xs;kernel_rfl
def ok_q82:CO R6:=con_ok (Ls:=[]) mixed (ei _ _) (aio _ (WX _ (W6 _ (W0 _ nF)))) Tryz.func147 loopsL_nil boxesL_none e_q82
def fk_q82 (fns:List (Nat×List Ab.Mode×(List Arg→Option Res))){dp:Bool}(h:eN Tryz.prog Gb ⟨bm,fns,dp,Gl⟩):eN Tryz.prog Gb ⟨bm,R6.entry::fns,dp,Gl⟩:=h.cons R6 (by kernel_rfl) (zv (f:=Hv)) ok_q82
def Rh:j4:=⟨137,[.v gh,.v an],[.v (.pair I6 (.pair (.own an) .unit))],LP,zog LP⟩
def Zz:Cx:=⟨bm,[Og.entry],false,Gl⟩
def Wf:bZ:=oP ⟨[(5,.leaf I6),(4,.aR z0 []),(2,.aR z1 []),(3,.aR z2 [])],[(z0,false,.var gh (.pair (.leaf I6) (.pair (.whole z3 an) (.leaf .unit)))),(z1,false,.var gh (.leaf gh)),(z2,false,.var an (.leaf an)),(z3,false,.rows an)]⟩ [((.exit 0),⟨[(4,.aR z0 []),(5,.leaf I6),(2,.aR z1 []),(3,.aR z2 [])],[(z0,false,.var gh (.pair (.leaf I6) (.pair (.whole z3 an) (.leaf .unit)))),(z1,false,.var gh (.leaf gh)),(z2,false,.var an (.leaf an)),(z3,false,.rows an)]⟩)] afg Ke
def acs:LT:=[(2,Wf)]
def aoG:∀x,round Zz acs (iY Tryz.f137 0) Wf x=Ke x:=by intro x;kernel_rfl
def e_q185:EV Zz acs Tryz.f137 [.v gh,.v an] [.v (.pair I6 (.pair (.own an) .unit))] LP:=by intro xs;kernel_rfl
def ak8:CO Rh:=con_ok (Ls:=[Wf]) mixed (ei _ _) (aaS _ nF) Tryz.func137 (loopsC (loopD_ok aoG) loopsL_nil) boxesL_none e_q185
def aiF (fns:List (Nat×List Ab.Mode×(List Arg→Option Res))){dp:Bool}(h:eN Tryz.prog Gb ⟨bm,fns,dp,Gl⟩):eN Tryz.prog Gb ⟨bm,Rh.entry::fns,dp,Gl⟩:=h.cons Rh (by kernel_rfl) (zv (f:=LP)) ak8
def N2:j4:=⟨101,[.v gh,.v I6,.v .str,.v .str],[.v (.pair I6 (.pair (.own an) .unit)),.v I6],Fy,zog Fy⟩
def C_q125:Cx:=⟨bm,[Rh.entry,NZ.entry,Mw.entry,Mp.entry,Mx.entry,Ms.entry],false,Gl⟩
def e_q125:EV C_q125 g9 Tryz.f101 [.v gh,.v I6,.v .str,.v .str] [.v (.pair I6 (.pair (.own an) .unit)),.v I6] Fy:=by intro xs;kernel_rfl
def aka:CO N2:=con_ok (Ls:=[]) mixed (ei _ _) (aiF _ (aaB _ (W6 _ (WX _ (W7 _ (W0 _ nF)))))) Tryz.func101 loopsL_nil boxesL_none e_q125
def aaD (fns:List (Nat×List Ab.Mode×(List Arg→Option Res))){dp:Bool}(h:eN Tryz.prog Gb ⟨bm,fns,dp,Gl⟩):eN Tryz.prog Gb ⟨bm,N2.entry::fns,dp,Gl⟩:=h.cons N2 (by kernel_rfl) (zv (f:=Fy)) aka
def Mq:j4:=⟨114,[.v gh,.v .str],[.v (.pair I6 (.pair (.own an) .unit)),.v .bool],FB,zog FB⟩
def C_q155:Cx:=⟨bm,[N2.entry,R6.entry,KO.entry,Ji.entry,KL.entry,Mo.entry],false,Gl⟩
def e_q155:EV C_q155 g9 Tryz.f114 [.v gh,.v .str] [.v (.pair I6 (.pair (.own an) .unit)),.v .bool] FB:=by intro xs;kernel_rfl
def akE:CO Mq:=con_ok (Ls:=[]) mixed (ei _ _) (aaD _ (fk_q82 _ (SG _ (OR _ (SD _ (WW _ nF)))))) Tryz.func114 loopsL_nil boxesL_none e_q155
def WY (fns:List (Nat×List Ab.Mode×(List Arg→Option Res))){dp:Bool}(h:eN Tryz.prog Gb ⟨bm,fns,dp,Gl⟩):eN Tryz.prog Gb ⟨bm,Mq.entry::fns,dp,Gl⟩:=h.cons Mq (by kernel_rfl) (zv (f:=FB)) akE
def Mr:j4:=⟨117,[.v (.lst .str)],[.v (.pair I6 (.pair (.own an) .unit)),.v .bool],IF,zog IF⟩
def Zl:Cx:=⟨bm,[Mq.entry],false,Gl⟩
def U1:bZ:=oP ⟨[(2,.aR z0 []),(5,.leaf I6),(4,.aR z1 []),(0,.leaf (.lst .str))],[(z0,false,.var gh (.pair (.leaf I6) (.pair (.whole z2 an) (.leaf .unit)))),(z1,false,.var gh (.pair (.leaf I6) (.pair (.whole z3 an) (.leaf .unit)))),(z2,false,.rows an),(z3,false,.rows an)]⟩ [(.ret,⟨[(2,.aR z0 []),(3,.leaf .bool)],[(z0,false,.var gh (.pair (.leaf I6) (.pair (.whole z1 an) (.leaf .unit)))),(z1,false,.rows an)]⟩),((.exit 0),⟨[(2,.aR z0 []),(4,.aR z1 [])],[(z0,false,.var gh (.pair (.leaf I6) (.pair (.whole z2 an) (.leaf .unit)))),(z1,false,.var gh (.pair (.leaf I6) (.pair (.whole z3 an) (.leaf .unit)))),(z2,false,.rows an),(z3,false,.rows an)]⟩)] aez J3
def ace:LT:=[(3,U1)]
def am_:∀x,round Zl ace (iY Tryz.f117 0) U1 x=J3 x:=by intro x;kernel_rfl
def e_q161:EV Zl ace Tryz.f117 [.v (.lst .str)] [.v (.pair I6 (.pair (.own an) .unit)),.v .bool] IF:=by intro xs;kernel_rfl
def akK:CO Mr:=con_ok (Ls:=[U1]) mixed (ei _ _) (WY _ nF) Tryz.func117 (loopsC (loopD_ok am_) loopsL_nil) boxesL_none e_q161
def WZ (fns:List (Nat×List Ab.Mode×(List Arg→Option Res))){dp:Bool}(h:eN Tryz.prog Gb ⟨bm,fns,dp,Gl⟩):eN Tryz.prog Gb ⟨bm,Mr.entry::fns,dp,Gl⟩:=h.cons Mr (by kernel_rfl) (zv (f:=IF)) akK
def Si:j4:=⟨127,[.v b7],[.v .bool],q99,zog q99⟩
def C_q99:Cx:=⟨bm,[Mr.entry,Jh.entry],false,Gl⟩
def e_q99:EV C_q99 g9 Tryz.f127 [.v b7] [.v .bool] q99:=by intro xs;kernel_rfl
def ok_q99:CO Si:=con_ok (Ls:=[]) mixed (ei _ _) (WZ _ (OQ _ nF)) Tryz.func127 loopsL_nil boxesL_none e_q99
def fk_q99 (fns:List (Nat×List Ab.Mode×(List Arg→Option Res))){dp:Bool}(h:eN Tryz.prog Gb ⟨bm,fns,dp,Gl⟩):eN Tryz.prog Gb ⟨bm,Si.entry::fns,dp,Gl⟩:=h.cons Si (by kernel_rfl) (zv (f:=q99)) ok_q99
def Sg:j4:=⟨128,[.v gh,.v gh],[.v .bool],Hy,zog Hy⟩
def C_q98:Cx:=⟨bm,[],false,Gl⟩
def Vq:bZ:=oP ⟨[(5,.leaf I6),(3,.aR z0 []),(2,.aR z1 [])],[(z0,false,.var gh (.leaf gh)),(z1,false,.var gh (.leaf gh))]⟩ [(.ret,⟨[(4,.leaf .bool)],[]⟩),((.exit 0),⟨[],[]⟩)] agp Kp
def acT:LT:=[(4,Vq)]
def anC:∀x,round C_q98 acT (iY Tryz.f128 0) Vq x=Kp x:=by intro x;kernel_rfl
def e_q98:EV C_q98 acT Tryz.f128 [.v gh,.v gh] [.v .bool] Hy:=by intro xs;kernel_rfl
def ok_q98:CO Sg:=con_ok (Ls:=[Vq]) mixed (ei _ _) nF Tryz.func128 (loopsC (loopD_ok anC) loopsL_nil) boxesL_none e_q98
def fk_q98 (fns:List (Nat×List Ab.Mode×(List Arg→Option Res))){dp:Bool}(h:eN Tryz.prog Gb ⟨bm,fns,dp,Gl⟩):eN Tryz.prog Gb ⟨bm,Sg.entry::fns,dp,Gl⟩:=h.cons Sg (by kernel_rfl) (zv (f:=Hy)) ok_q98
def Q7:j4:=⟨155,[.v cg],[.v .bool],II,zog II⟩
def C_q167:Cx:=⟨bm,[BG.entry],false,Gl⟩
def e_q167:EV C_q167 g9 Tryz.f155 [.v cg] [.v .bool] II:=by intro xs;kernel_rfl
def akQ:CO Q7:=con_ok (Ls:=[]) mixed (ei _ _) (Ck _ nF) Tryz.func155 loopsL_nil boxesL_none e_q167
def aiu (fns:List (Nat×List Ab.Mode×(List Arg→Option Res))){dp:Bool}(h:eN Tryz.prog Gb ⟨bm,fns,dp,Gl⟩):eN Tryz.prog Gb ⟨bm,Q7.entry::fns,dp,Gl⟩:=h.cons Q7 (by kernel_rfl) (zv (f:=II)) akQ
def Oh:j4:=⟨156,[.v iL,.v I6],[.v I6],J6,zog J6⟩
def Zn:Cx:=⟨bm,[],false,Gl⟩
def Vk:bZ:=oP ⟨[(6,.leaf I6),(5,.leaf I6),(1,.leaf I6),(2,.aR z0 [])],[(z0,false,.var iL (.leaf iL))]⟩ [((.exit 0),⟨[(5,.leaf I6)],[]⟩)] aeJ J7
def acg:LT:=[(3,Vk)]
def anu:∀x,round Zn acg (iY Tryz.f156 0) Vk x=J7 x:=by intro x;kernel_rfl
def e_q166:EV Zn acg Tryz.f156 [.v iL,.v I6] [.v I6] J6:=by intro xs;kernel_rfl
def akP:CO Oh:=con_ok (Ls:=[Vk]) mixed (ei _ _) nF Tryz.func156 (loopsC (loopD_ok anu) loopsL_nil) boxesL_none e_q166
def aaT (fns:List (Nat×List Ab.Mode×(List Arg→Option Res))){dp:Bool}(h:eN Tryz.prog Gb ⟨bm,fns,dp,Gl⟩):eN Tryz.prog Gb ⟨bm,Oh.entry::fns,dp,Gl⟩:=h.cons Oh (by kernel_rfl) (zv (f:=J6)) akP
def N4:j4:=⟨129,[.v iL],[.v .bool],G_,zog G_⟩
def Qx:Cx:=⟨bm,[Oh.entry,Q7.entry,BG.entry],false,Gl⟩
def U8:bZ:=oP ⟨[(1,.aR z0 []),(3,.leaf I6)],[(z0,false,.var iL (.leaf iL))]⟩ [(.ret,⟨[(2,.leaf .bool)],[]⟩),((.exit 0),⟨[(1,.aR z0 [])],[(z0,false,.var iL (.leaf iL))]⟩)] ad_ Iv
def U9:bZ:=oP ⟨[(4,.leaf I6),(1,.aR z0 []),(3,.leaf I6)],[(z0,false,.var iL (.leaf iL))]⟩ [(.ret,⟨[(2,.leaf .bool)],[]⟩),((.exit 2),⟨[(1,.aR z0 []),(3,.leaf I6)],[(z0,false,.var iL (.leaf iL))]⟩)] aeb E5
def U_:bZ:=oP ⟨[(5,.leaf I6),(1,.aR z0 [])],[(z0,false,.var iL (.leaf iL))]⟩ [(.ret,⟨[(2,.leaf .bool)],[]⟩),((.exit 4),⟨[],[]⟩)] aed Iw
def Th:LT:=[(4,U8),(9,U9),(14,U_)]
def anh:∀x,round Qx Th (iY Tryz.f129 0) U8 x=Iv x:=by intro x;kernel_rfl
def ani:∀x,round Qx Th (iY Tryz.f129 1) U9 x=E5 x:=by intro x;kernel_rfl
def anj:∀x,round Qx Th (iY Tryz.f129 2) U_ x=Iw x:=by intro x;kernel_rfl
def e_q131:EV Qx Th Tryz.f129 [.v iL] [.v .bool] G_:=by intro xs;kernel_rfl
def akg:CO N4:=con_ok (Ls:=[U8,U9,U_]) mixed (ei _ _) (aaT _ (aiu _ (Ck _ nF))) Tryz.func129 (loopsC (loopD_ok anh) (loopsC (loopD_ok ani) (loopsC (loopD_ok anj) loopsL_nil))) boxesL_none e_q131
def aaF (fns:List (Nat×List Ab.Mode×(List Arg→Option Res))){dp:Bool}(h:eN Tryz.prog Gb ⟨bm,fns,dp,Gl⟩):eN Tryz.prog Gb ⟨bm,N4.entry::fns,dp,Gl⟩:=h.cons N4 (by kernel_rfl) (zv (f:=G_)) akg
def KP:j4:=⟨110,[.v gh,.v I6],[.v an,.v .bool],FI,zog FI⟩
def C_q54:Cx:=⟨bm,[],false,Gl⟩
def We:bZ:=oP ⟨[(4,.aR z0 []),(6,.leaf I6),(2,.aR z1 []),(1,.leaf I6)],[(z0,false,.var an (.leaf an)),(z1,false,.var gh (.leaf gh))]⟩ [(.ret,⟨[(4,.aR z0 []),(5,.leaf .bool)],[(z0,false,.var an (.leaf an))]⟩),((.exit 0),⟨[(4,.aR z0 [])],[(z0,false,.var an (.leaf an))]⟩)] afE Ki
def acG:LT:=[(2,We)]
def aoF:∀x,round C_q54 acG (iY Tryz.f110 0) We x=Ki x:=by intro x;kernel_rfl
def e_q54:EV C_q54 acG Tryz.f110 [.v gh,.v I6] [.v an,.v .bool] FI:=by intro xs;kernel_rfl
def ok_q54:CO KP:=con_ok (Ls:=[We]) mixed (ei _ _) nF Tryz.func110 (loopsC (loopD_ok aoF) loopsL_nil) boxesL_none e_q54
def SH (fns:List (Nat×List Ab.Mode×(List Arg→Option Res))){dp:Bool}(h:eN Tryz.prog Gb ⟨bm,fns,dp,Gl⟩):eN Tryz.prog Gb ⟨bm,KP.entry::fns,dp,Gl⟩:=h.cons KP (by kernel_rfl) (zv (f:=FI)) ok_q54
def RC:j4:=⟨130,[.v b7],[.v .bool],q45,zog q45⟩
def C_q45:Cx:=⟨bm,[HP.entry,KP.entry,BG.entry],false,Gl⟩
def Vr:bZ:=oP ⟨[(3,.leaf I6),(1,.aR z0 [])],[(z0,false,.var b7 (.leaf b7))]⟩ [(.ret,⟨[(2,.leaf .bool)],[]⟩),((.exit 0),⟨[],[]⟩)] afy IN
def acC:LT:=[(2,Vr)]
def anD:∀x,round C_q45 acC (iY Tryz.f130 0) Vr x=IN x:=by intro x;kernel_rfl
def e_q45:EV C_q45 acC Tryz.f130 [.v b7] [.v .bool] q45:=by intro xs;kernel_rfl
def ok_q45:CO RC:=con_ok (Ls:=[Vr]) mixed (ei _ _) (MI _ (SH _ (Ck _ nF))) Tryz.func130 (loopsC (loopD_ok anD) loopsL_nil) boxesL_none e_q45
def fk_q45 (fns:List (Nat×List Ab.Mode×(List Arg→Option Res))){dp:Bool}(h:eN Tryz.prog Gb ⟨bm,fns,dp,Gl⟩):eN Tryz.prog Gb ⟨bm,RC.entry::fns,dp,Gl⟩:=h.cons RC (by kernel_rfl) (zv (f:=q45)) ok_q45
def Fi:j4:=⟨49,[.v gT],[.v I6],Bd,zog Bd⟩
def C_q116:Cx:=⟨bm,[],false,Gl⟩
def e_q116:EV C_q116 g9 Tryz.f49 [.v gT] [.v I6] Bd:=by intro xs;kernel_rfl
def aj3:CO Fi:=con_ok (Ls:=[]) mixed (ei _ _) nF Tryz.func49 loopsL_nil boxesL_none e_q116
def H6 (fns:List (Nat×List Ab.Mode×(List Arg→Option Res))){dp:Bool}(h:eN Tryz.prog Gb ⟨bm,fns,dp,Gl⟩):eN Tryz.prog Gb ⟨bm,Fi.entry::fns,dp,Gl⟩:=h.cons Fi (by kernel_rfl) (zv (f:=Bd)) aj3
def KM:j4:=⟨131,[.v I6],[.v (.pair I6 (.pair I6 (.pair (.own I6) (.pair (.own I6) .unit))))],BX,zog BX⟩
def Zx:Cx:=⟨bm,[Fi.entry],false,Gl⟩
def V2:bZ:=oP ⟨[(3,.aR z0 []),(2,.aR z1 [])],[(z0,false,.var gT (.pair (.leaf I6) (.pair (.leaf I6) (.pair (.whole z2 I6) (.pair (.whole z3 I6) (.leaf .unit)))))),(z1,false,.var gT (.pair (.leaf I6) (.pair (.leaf I6) (.pair (.whole 500000004 I6) (.pair (.whole 500000005 I6) (.leaf .unit)))))),(z2,false,.rows I6),(z3,false,.rows I6),(500000004,false,.rows I6),(500000005,false,.rows I6)]⟩ [((.exit 0),⟨[(2,.aR z0 []),(3,.aR z1 [])],[(z0,false,.var gT (.pair (.leaf I6) (.pair (.leaf I6) (.pair (.whole z2 I6) (.pair (.whole z3 I6) (.leaf .unit)))))),(z1,false,.var gT (.pair (.leaf I6) (.pair (.leaf I6) (.pair (.whole 500000004 I6) (.pair (.whole 500000005 I6) (.leaf .unit)))))),(z2,false,.rows I6),(z3,false,.rows I6),(500000004,false,.rows I6),(500000005,false,.rows I6)]⟩)] ae9 E8
def acq:LT:=[(2,V2)]
def aos:∀x,round Zx acq (iY Tryz.f131 0) V2 x=E8 x:=by intro x;kernel_rfl
def e_q181:EV Zx acq Tryz.f131 [.v I6] [.v (.pair I6 (.pair I6 (.pair (.own I6) (.pair (.own I6) .unit))))] BX:=by intro xs;kernel_rfl
def ak4:CO KM:=con_ok (Ls:=[V2]) mixed (ei _ _) (H6 _ nF) Tryz.func131 (loopsC (loopD_ok aos) loopsL_nil) boxesL_none e_q181
def SE (fns:List (Nat×List Ab.Mode×(List Arg→Option Res))){dp:Bool}(h:eN Tryz.prog Gb ⟨bm,fns,dp,Gl⟩):eN Tryz.prog Gb ⟨bm,KM.entry::fns,dp,Gl⟩:=h.cons KM (by kernel_rfl) (zv (f:=BX)) ak4
def RM:j4:=⟨132,[.v cw],[.v .bool],q58,zog q58⟩
def C_q58:Cx:=⟨bm,[BG.entry],false,Gl⟩
def e_q58:EV C_q58 g9 Tryz.f132 [.v cw] [.v .bool] q58:=by intro xs;kernel_rfl
def ok_q58:CO RM:=con_ok (Ls:=[]) mixed (ei _ _) (Ck _ nF) Tryz.func132 loopsL_nil boxesL_none e_q58
def fk_q58 (fns:List (Nat×List Ab.Mode×(List Arg→Option Res))){dp:Bool}(h:eN Tryz.prog Gb ⟨bm,fns,dp,Gl⟩):eN Tryz.prog Gb ⟨bm,RM.entry::fns,dp,Gl⟩:=h.cons RM (by kernel_rfl) (zv (f:=q58)) ok_q58
def HO:j4:=⟨100,[.v b7],[.v .bool],FL,zog FL⟩
def UO:Cx:=⟨bm,[RM.entry,Fi.entry,KM.entry,KP.entry,RC.entry,N4.entry,Sg.entry,Mr.entry,Jh.entry,Si.entry,BG.entry],false,Gl⟩
def Vb:bZ:=oP ⟨[(7,.leaf I6),(1,.aR z0 [])],[(z0,false,.var b7 (.leaf b7))]⟩ [(.ret,⟨[(2,.leaf .bool)],[]⟩),((.exit 0),⟨[(1,.aR z0 [])],[(z0,false,.var b7 (.leaf b7))]⟩)] afK FM
def Vc:bZ:=oP ⟨[(10,.leaf I6),(1,.aR z0 [])],[(z0,false,.var b7 (.leaf b7))]⟩ [(.ret,⟨[(2,.leaf .bool)],[]⟩),((.exit 2),⟨[],[]⟩)] afM Kj
def XN:LT:=[(10,Vb),(16,Vc)]
def anl:∀x,round UO XN (iY Tryz.f100 0) Vb x=FM x:=by intro x;kernel_rfl
def anm:∀x,round UO XN (iY Tryz.f100 1) Vc x=Kj x:=by intro x;kernel_rfl
def e_q61:EV UO XN Tryz.f100 [.v b7] [.v .bool] FL:=by intro xs;kernel_rfl
def ok_q61:CO HO:=con_ok (Ls:=[Vb,Vc]) mixed (ei _ _) (fk_q58 _ (H6 _ (SE _ (SH _ (fk_q45 _ (aaF _ (fk_q98 _ (WZ _ (OQ _ (fk_q99 _ (Ck _ nF))))))))))) Tryz.func100 (loopsC (loopD_ok anl) (loopsC (loopD_ok anm) loopsL_nil)) boxesL_none e_q61
def MH (fns:List (Nat×List Ab.Mode×(List Arg→Option Res))){dp:Bool}(h:eN Tryz.prog Gb ⟨bm,fns,dp,Gl⟩):eN Tryz.prog Gb ⟨bm,HO.entry::fns,dp,Gl⟩:=h.cons HO (by kernel_rfl) (zv (f:=FL)) ok_q61
def Mu:j4:=⟨109,[.v b7,.v I6],[.v I6],FD,zog FD⟩
def Zo:Cx:=⟨bm,[],false,Gl⟩
def Vm:bZ:=oP ⟨[(5,.leaf I6),(1,.leaf I6),(2,.aR z0 [])],[(z0,false,.var b7 (.leaf b7))]⟩ [(.ret,⟨[(4,.leaf I6)],[]⟩),((.exit 0),⟨[],[]⟩)] aeL E7
def ach:LT:=[(2,Vm)]
def anw:∀x,round Zo ach (iY Tryz.f109 0) Vm x=E7 x:=by intro x;kernel_rfl
def e_q169:EV Zo ach Tryz.f109 [.v b7,.v I6] [.v I6] FD:=by intro xs;kernel_rfl
def akS:CO Mu:=con_ok (Ls:=[Vm]) mixed (ei _ _) nF Tryz.func109 (loopsC (loopD_ok anw) loopsL_nil) boxesL_none e_q169
def W4 (fns:List (Nat×List Ab.Mode×(List Arg→Option Res))){dp:Bool}(h:eN Tryz.prog Gb ⟨bm,fns,dp,Gl⟩):eN Tryz.prog Gb ⟨bm,Mu.entry::fns,dp,Gl⟩:=h.cons Mu (by kernel_rfl) (zv (f:=FD)) akS
def N0:j4:=⟨104,[.v gh,.v I6,.v .str],[.v an,.v .bool],DX,zog DX⟩
def C_q124:Cx:=⟨bm,[Ms.entry,Mw.entry],false,Gl⟩
def e_q124:EV C_q124 g9 Tryz.f104 [.v gh,.v I6,.v .str] [.v an,.v .bool] DX:=by intro xs;kernel_rfl
def aj_:CO N0:=con_ok (Ls:=[]) mixed (ei _ _) (W0 _ (W6 _ nF)) Tryz.func104 loopsL_nil boxesL_none e_q124
def aaC (fns:List (Nat×List Ab.Mode×(List Arg→Option Res))){dp:Bool}(h:eN Tryz.prog Gb ⟨bm,fns,dp,Gl⟩):eN Tryz.prog Gb ⟨bm,N0.entry::fns,dp,Gl⟩:=h.cons N0 (by kernel_rfl) (zv (f:=DX)) aj_
def KN:j4:=⟨111,[.v b7,.v I6],[.v (.pair .bool (.pair I6 (.pair .str (.pair gh (.pair iL (.pair (.lst cw) (.pair (.own cp) .unit)))))))],Gw,zog Gw⟩
def C_q34:Cx:=⟨bm,[],false,Gl⟩
def Vu:bZ:=oP ⟨[(6,.leaf I6),(2,.aR z0 []),(5,.whole z1 cp),(1,.leaf I6),(4,.aR z2 [])],[(z0,false,.var b7 (.leaf b7)),(z1,false,.rows cp),(z2,false,.var b7 (.pair (.leaf .bool) (.pair (.leaf I6) (.pair (.leaf .str) (.pair (.pair (.leaf I6) (.pair (.whole z3 an) (.leaf .unit))) (.pair (.pair (.whole 500000004 cg) (.leaf (.pair I6 .unit))) (.pair (.whole 500000005 cw) (.pair (.whole 500000006 cp) (.leaf .unit))))))))),(z3,false,.rows an),(500000004,false,.rows cg),(500000005,false,.rows cw),(500000006,false,.rows cp)]⟩ [((.exit 0),⟨[(4,.aR z0 []),(2,.aR z1 []),(5,.whole z2 cp)],[(z0,false,.var b7 (.pair (.leaf .bool) (.pair (.leaf I6) (.pair (.leaf .str) (.pair (.pair (.leaf I6) (.pair (.whole z3 an) (.leaf .unit))) (.pair (.pair (.whole 500000004 cg) (.leaf (.pair I6 .unit))) (.pair (.whole 500000005 cw) (.pair (.whole 500000006 cp) (.leaf .unit))))))))),(z1,false,.var b7 (.leaf b7)),(z2,false,.rows cp),(z3,false,.rows an),(500000004,false,.rows cg),(500000005,false,.rows cw),(500000006,false,.rows cp)]⟩)] afu Kg
def acA:LT:=[(3,Vu)]
def anG:∀x,round C_q34 acA (iY Tryz.f111 0) Vu x=Kg x:=by intro x;kernel_rfl
def e_q34:EV C_q34 acA Tryz.f111 [.v b7,.v I6] [.v (.pair .bool (.pair I6 (.pair .str (.pair gh (.pair iL (.pair (.lst cw) (.pair (.own cp) .unit)))))))] Gw:=by intro xs;kernel_rfl
def ok_q34:CO KN:=con_ok (Ls:=[Vu]) mixed (ei _ _) nF Tryz.func111 (loopsC (loopD_ok anG) loopsL_nil) boxesL_none e_q34
def SF (fns:List (Nat×List Ab.Mode×(List Arg→Option Res))){dp:Bool}(h:eN Tryz.prog Gb ⟨bm,fns,dp,Gl⟩):eN Tryz.prog Gb ⟨bm,KN.entry::fns,dp,Gl⟩:=h.cons KN (by kernel_rfl) (zv (f:=Gw)) ok_q34
def Ou:j4:=⟨112,[.v I6,.v I6,.v I6],[.v (.own eL)],IV,zog IV⟩
def C_q94:Cx:=⟨bm,[],false,Gl⟩
def e_q94:EV C_q94 g9 Tryz.f112 [.v I6,.v I6,.v I6] [.v (.own eL)] IV:=by intro xs;kernel_rfl
def ok_q94:CO Ou:=con_ok (Ls:=[]) mixed (ei _ _) nF Tryz.func112 loopsL_nil boxesL_none e_q94
def aa3 (fns:List (Nat×List Ab.Mode×(List Arg→Option Res))){dp:Bool}(h:eN Tryz.prog Gb ⟨bm,fns,dp,Gl⟩):eN Tryz.prog Gb ⟨bm,Ou.entry::fns,dp,Gl⟩:=h.cons Ou (by kernel_rfl) (zv (f:=IV)) ok_q94
def QF:j4:=⟨168,[.v b7,.v cp],[.v (.pair .bool (.pair I6 (.pair .str (.pair gh (.pair iL (.pair (.lst cw) (.pair (.own cp) .unit)))))))],Lt,zog Lt⟩
def Y2:Cx:=⟨bm,[KN.entry],false,Gl⟩
def Vt:bZ:=oP ⟨[(5,.leaf I6),(4,.aR z0 []),(2,.aR z1 []),(3,.aR z2 [])],[(z0,false,.var b7 (.pair (.leaf .bool) (.pair (.leaf I6) (.pair (.leaf .str) (.pair (.pair (.leaf I6) (.pair (.whole z3 an) (.leaf .unit))) (.pair (.pair (.whole 500000004 cg) (.leaf (.pair I6 .unit))) (.pair (.whole 500000005 cw) (.pair (.whole 500000006 cp) (.leaf .unit))))))))),(z1,false,.var b7 (.pair (.leaf .bool) (.pair (.leaf I6) (.pair (.leaf .str) (.pair (.leaf gh) (.pair (.leaf iL) (.pair (.leaf (.lst cw)) (.pair (.whole 500000007 cp) (.leaf .unit))))))))),(z2,false,.var cp (.leaf cp)),(z3,false,.rows an),(500000004,false,.rows cg),(500000005,false,.rows cw),(500000006,false,.rows cp),(500000007,false,.rows cp)]⟩ [((.exit 0),⟨[(4,.aR z0 []),(2,.aR z1 []),(5,.leaf I6),(3,.aR z2 [])],[(z0,false,.var b7 (.pair (.leaf .bool) (.pair (.leaf I6) (.pair (.leaf .str) (.pair (.pair (.leaf I6) (.pair (.whole z3 an) (.leaf .unit))) (.pair (.pair (.whole 500000004 cg) (.leaf (.pair I6 .unit))) (.pair (.whole 500000005 cw) (.pair (.whole 500000006 cp) (.leaf .unit))))))))),(z1,false,.var b7 (.pair (.leaf .bool) (.pair (.leaf I6) (.pair (.leaf .str) (.pair (.leaf gh) (.pair (.leaf iL) (.pair (.leaf (.lst cw)) (.pair (.whole 500000007 cp) (.leaf .unit))))))))),(z2,false,.var cp (.leaf cp)),(z3,false,.rows an),(500000004,false,.rows cg),(500000005,false,.rows cw),(500000006,false,.rows cp),(500000007,false,.rows cp)]⟩)] adF JM
def abS:LT:=[(3,Vt)]
def anF:∀x,round Y2 abS (iY Tryz.f168 0) Vt x=JM x:=by intro x;kernel_rfl
def e_q101:EV Y2 abS Tryz.f168 [.v b7,.v cp] [.v (.pair .bool (.pair I6 (.pair .str (.pair gh (.pair iL (.pair (.lst cw) (.pair (.own cp) .unit)))))))] Lt:=by intro xs;kernel_rfl
def ajP:CO QF:=con_ok (Ls:=[Vt]) mixed (ei _ _) (SF _ nF) Tryz.func168 (loopsC (loopD_ok anF) loopsL_nil) boxesL_none e_q101
def ah5 (fns:List (Nat×List Ab.Mode×(List Arg→Option Res))){dp:Bool}(h:eN Tryz.prog Gb ⟨bm,fns,dp,Gl⟩):eN Tryz.prog Gb ⟨bm,QF.entry::fns,dp,Gl⟩:=h.cons QF (by kernel_rfl) (zv (f:=Lt)) ajP
def Mn:j4:=⟨47,[.v gT],[.v .bool],DY,zog DY⟩
def Za:Cx:=⟨bm,[Fi.entry,BG.entry],false,Gl⟩
def U7:bZ:=oP ⟨[(3,.leaf I6),(1,.aR z0 [])],[(z0,false,.var gT (.leaf gT))]⟩ [(.ret,⟨[(2,.leaf .bool)],[]⟩),((.exit 0),⟨[(1,.aR z0 [])],[(z0,false,.var gT (.leaf gT))]⟩)] ad8 Gr
def ab1:LT:=[(4,U7)]
def ang:∀x,round Za ab1 (iY Tryz.f47 0) U7 x=Gr x:=by intro x;kernel_rfl
def e_q130:EV Za ab1 Tryz.f47 [.v gT] [.v .bool] DY:=by intro xs;kernel_rfl
def akf:CO Mn:=con_ok (Ls:=[U7]) mixed (ei _ _) (H6 _ (Ck _ nF)) Tryz.func47 (loopsC (loopD_ok ang) loopsL_nil) boxesL_none e_q130
def WV (fns:List (Nat×List Ab.Mode×(List Arg→Option Res))){dp:Bool}(h:eN Tryz.prog Gb ⟨bm,fns,dp,Gl⟩):eN Tryz.prog Gb ⟨bm,Mn.entry::fns,dp,Gl⟩:=h.cons Mn (by kernel_rfl) (zv (f:=DY)) akf
def QY:j4:=⟨171,[.v (.lst I6)],[.v .str],Hf,zog Hf⟩
def Zg:Cx:=⟨bm,[HM.entry],false,Gl⟩
def V3:bZ:=oP ⟨[(4,.leaf I6),(0,.leaf (.lst I6)),(3,.leaf .str)],[]⟩ [((.exit 0),⟨[(3,.leaf .str)],[]⟩)] aep PF
def ab7:LT:=[(3,V3)]
def aot:∀x,round Zg ab7 (iY Tryz.f171 0) V3 x=PF x:=by intro x;kernel_rfl
def e_q146:EV Zg ab7 Tryz.f171 [.v (.lst I6)] [.v .str] Hf:=by intro xs;kernel_rfl
def akv:CO QY:=con_ok (Ls:=[V3]) mixed (ei _ _) (ME _ nF) Tryz.func171 (loopsC (loopD_ok aot) loopsL_nil) boxesL_none e_q146
def ail (fns:List (Nat×List Ab.Mode×(List Arg→Option Res))){dp:Bool}(h:eN Tryz.prog Gb ⟨bm,fns,dp,Gl⟩):eN Tryz.prog Gb ⟨bm,QY.entry::fns,dp,Gl⟩:=h.cons QY (by kernel_rfl) (zv (f:=Hf)) akv
def My:j4:=⟨152,[.v gT],[.v .str],EI,zog EI⟩
def C_q39:Cx:=⟨bm,[QY.entry,HM.entry,Mn.entry],false,Gl⟩
def e_q39:EV C_q39 g9 Tryz.f152 [.v gT] [.v .str] EI:=by intro xs;kernel_rfl
def ok_q39:CO My:=con_ok (Ls:=[]) mixed (ei _ _) (ail _ (ME _ (WV _ nF))) Tryz.func152 loopsL_nil boxesL_none e_q39
def W8 (fns:List (Nat×List Ab.Mode×(List Arg→Option Res))){dp:Bool}(h:eN Tryz.prog Gb ⟨bm,fns,dp,Gl⟩):eN Tryz.prog Gb ⟨bm,My.entry::fns,dp,Gl⟩:=h.cons My (by kernel_rfl) (zv (f:=EI)) ok_q39
def Sf:j4:=⟨149,[.k (.pair .bool (.pair I6 (.pair .str (.pair (.pair I6 (.pair (.own an) .unit)) (.pair (.pair (.own cg) (.pair I6 .unit)) (.pair (.own cw) (.pair (.own cp) .unit))))))),.v eL],[.v (.pair .bool (.pair I6 (.pair .str (.pair gh (.pair iL (.pair (.lst cw) (.pair (.own cp) .unit))))))),.v (.own eL)],q97,zog q97⟩
def C_q97:Cx:=⟨bm,[My.entry,KM.entry,QF.entry,Ou.entry,KN.entry,N0.entry,HP.entry,Mu.entry],false,Gl⟩
def e_q97:EV C_q97 g9 Tryz.f149 [.k (.pair .bool (.pair I6 (.pair .str (.pair (.pair I6 (.pair (.own an) .unit)) (.pair (.pair (.own cg) (.pair I6 .unit)) (.pair (.own cw) (.pair (.own cp) .unit))))))),.v eL] [.v (.pair .bool (.pair I6 (.pair .str (.pair gh (.pair iL (.pair (.lst cw) (.pair (.own cp) .unit))))))),.v (.own eL)] q97:=by intro xs;kernel_rfl
def ok_q97:CO Sf:=con_ok (Ls:=[]) mixed (ei _ _) (W8 _ (SE _ (ah5 _ (aa3 _ (SF _ (aaC _ (MI _ (W4 _ nF)))))))) Tryz.func149 loopsL_nil boxesL_none e_q97
def fk_q97 (fns:List (Nat×List Ab.Mode×(List Arg→Option Res))){dp:Bool}(h:eN Tryz.prog Gb ⟨bm,fns,dp,Gl⟩):eN Tryz.prog Gb ⟨bm,Sf.entry::fns,dp,Gl⟩:=h.cons Sf (by kernel_rfl) (zv (f:=q97)) ok_q97
def Sd:j4:=⟨121,[.k (.pair .bool (.pair I6 (.pair .str (.pair (.pair I6 (.pair (.own an) .unit)) (.pair (.pair (.own cg) (.pair I6 .unit)) (.pair (.own cw) (.pair (.own cp) .unit))))))),.v eL],[.v (.pair .bool (.pair I6 (.pair .str (.pair gh (.pair iL (.pair (.lst cw) (.pair (.own cp) .unit))))))),.v (.own eL)],q95,zog q95⟩
def C_q95:Cx:=⟨bm,[KN.entry,Mu.entry,Sf.entry],false,Gl⟩
def ZC:bZ:=boxD ⟨[(4,.aR z0 []),(2,.aR z1 []),(3,.aR z2 []),(6,.leaf I6)],[(z0,false,.var b7 (.pair (.leaf .bool) (.pair (.leaf I6) (.pair (.leaf .str) (.pair (.pair (.leaf I6) (.pair (.whole z3 an) (.leaf .unit))) (.pair (.pair (.whole 500000004 cg) (.leaf (.pair I6 .unit))) (.pair (.whole 500000005 cw) (.pair (.whole 500000006 cp) (.leaf .unit))))))))),(z1,false,.var b7 (.pair (.leaf .bool) (.pair (.leaf I6) (.pair (.leaf .str) (.pair (.pair (.leaf I6) (.pair (.whole 500000007 an) (.leaf .unit))) (.pair (.pair (.whole 500000008 cg) (.leaf (.pair I6 .unit))) (.pair (.whole 500000009 cw) (.pair (.whole 500000010 cp) (.leaf .unit))))))))),(z2,false,.var eL (.leaf eL)),(z3,false,.rows an),(500000004,false,.rows cg),(500000005,false,.rows cw),(500000006,false,.rows cp),(500000007,false,.rows an),(500000008,false,.rows cg),(500000009,false,.rows cw),(500000010,false,.rows cp)]⟩ [(.norm,⟨[(4,.aR z0 []),(2,.aR z1 [])],[(z0,false,.var b7 (.pair (.leaf .bool) (.pair (.leaf I6) (.pair (.leaf .str) (.pair (.pair (.leaf I6) (.pair (.whole z2 an) (.leaf .unit))) (.pair (.pair (.whole z3 cg) (.leaf (.pair I6 .unit))) (.pair (.whole 500000004 cw) (.pair (.whole 500000005 cp) (.leaf .unit))))))))),(z1,false,.var b7 (.pair (.leaf .bool) (.pair (.leaf I6) (.pair (.leaf .str) (.pair (.leaf gh) (.pair (.leaf iL) (.pair (.leaf (.lst cw)) (.pair (.whole 500000006 cp) (.leaf .unit))))))))),(z2,false,.rows an),(z3,false,.rows cg),(500000004,false,.rows cw),(500000005,false,.rows cp),(500000006,false,.rows cp)]⟩),(.norm,⟨[(4,.aR z0 []),(2,.aR z1 [])],[(z0,false,.var b7 (.pair (.leaf .bool) (.pair (.leaf I6) (.pair (.leaf .str) (.pair (.pair (.leaf I6) (.pair (.whole z2 an) (.leaf .unit))) (.pair (.pair (.whole z3 cg) (.leaf (.pair I6 .unit))) (.pair (.whole 500000004 cw) (.pair (.whole 500000005 cp) (.leaf .unit))))))))),(z1,false,.var b7 (.pair (.leaf .bool) (.pair (.leaf I6) (.pair (.leaf .str) (.pair (.pair (.leaf I6) (.pair (.whole 500000006 an) (.leaf .unit))) (.pair (.pair (.whole 500000007 cg) (.leaf (.pair I6 .unit))) (.pair (.whole 500000008 cw) (.pair (.whole 500000009 cp) (.leaf .unit))))))))),(z2,false,.rows an),(z3,false,.rows cg),(500000004,false,.rows cw),(500000005,false,.rows cp),(500000006,false,.rows an),(500000007,false,.rows cg),(500000008,false,.rows cw),(500000009,false,.rows cp)]⟩)] q33 TS
def acR:LT:=[(1000006,ZC)]
def anA:∀x,boxR C_q95 acR (qD Tryz.f121 8) ZC x=q33 x:=by intro x;kernel_rfl
def e_q95:EV C_q95 acR Tryz.f121 [.k (.pair .bool (.pair I6 (.pair .str (.pair (.pair I6 (.pair (.own an) .unit)) (.pair (.pair (.own cg) (.pair I6 .unit)) (.pair (.own cw) (.pair (.own cp) .unit))))))),.v eL] [.v (.pair .bool (.pair I6 (.pair .str (.pair gh (.pair iL (.pair (.lst cw) (.pair (.own cp) .unit))))))),.v (.own eL)] q95:=by intro xs;kernel_rfl
def ok_q95:CO Sd:=con_ok (Ls:=[]) mixed (ei _ _) (SF _ (W4 _ (fk_q97 _ nF))) Tryz.func121 loopsL_nil (boxes_of (ks:=[8]) (by kernel_rfl) (boxesL_cons (by kernel_rfl) anA q33_v boxesL_nil)) e_q95
def fk_q95 (fns:List (Nat×List Ab.Mode×(List Arg→Option Res))){dp:Bool}(h:eN Tryz.prog Gb ⟨bm,fns,dp,Gl⟩):eN Tryz.prog Gb ⟨bm,Sd.entry::fns,dp,Gl⟩:=h.cons Sd (by kernel_rfl) (zv (f:=q95)) ok_q95
def Rq:j4:=⟨96,[.v b7,.v eL],[.v b7,.v (.own eL)],q28,zog q28⟩
def C_q28:Cx:=⟨bm,[Sd.entry,Jg.entry,HQ.entry,HO.entry],false,Gl⟩
def e_q28:EV C_q28 g9 Tryz.f96 [.v b7,.v eL] [.v b7,.v (.own eL)] q28:=by intro xs;kernel_rfl
def ok_q28:CO Rq:=con_ok (Ls:=[]) mixed (ei _ _) (fk_q95 _ (OP _ (MJ _ (MH _ nF)))) Tryz.func96 loopsL_nil boxesL_none e_q28
def fk_q28 (fns:List (Nat×List Ab.Mode×(List Arg→Option Res))){dp:Bool}(h:eN Tryz.prog Gb ⟨bm,fns,dp,Gl⟩):eN Tryz.prog Gb ⟨bm,Rq.entry::fns,dp,Gl⟩:=h.cons Rq (by kernel_rfl) (zv (f:=q28)) ok_q28
def Ml:j4:=⟨87,[.k (.pair b7 (.pair (.own bn) (.pair (.own b9) (.pair (.own an) .unit)))),.v I6,.v (.lst eL)],[.v (.pair b7 (.pair (.own bn) (.pair (.own b9) (.pair (.own an) .unit))))],Gn,zog Gn⟩
def UI:Cx:=⟨bm,[On.entry],false,Gl⟩
def Vx:bZ:=oP ⟨[(7,.leaf I6),(3,.aR z0 []),(2,.leaf (.lst eL)),(1,.leaf I6),(6,.aR z1 [])],[(z0,false,.var fy (.pair (.leaf b7) (.pair (.whole z2 bn) (.pair (.whole z3 b9) (.pair (.whole 500000004 an) (.leaf .unit)))))),(z1,false,.var fy (.pair (.pair (.leaf .bool) (.pair (.leaf I6) (.pair (.leaf .str) (.pair (.pair (.leaf I6) (.pair (.whole 500000005 an) (.leaf .unit))) (.pair (.pair (.whole 500000006 cg) (.leaf (.pair I6 .unit))) (.pair (.whole 500000007 cw) (.pair (.whole 500000008 cp) (.leaf .unit)))))))) (.pair (.whole 500000009 bn) (.pair (.whole 500000010 b9) (.pair (.whole 500000011 an) (.leaf .unit)))))),(z2,false,.rows bn),(z3,false,.rows b9),(500000004,false,.rows an),(500000005,false,.rows an),(500000006,false,.rows cg),(500000007,false,.rows cw),(500000008,false,.rows cp),(500000009,false,.rows bn),(500000010,false,.rows b9),(500000011,false,.rows an)]⟩ [((.exit 0),⟨[(6,.aR z0 []),(3,.aR z1 [])],[(z0,false,.var fy (.pair (.pair (.leaf .bool) (.pair (.leaf I6) (.pair (.leaf .str) (.pair (.pair (.leaf I6) (.pair (.whole z2 an) (.leaf .unit))) (.pair (.pair (.whole z3 cg) (.leaf (.pair I6 .unit))) (.pair (.whole 500000004 cw) (.pair (.whole 500000005 cp) (.leaf .unit)))))))) (.pair (.whole 500000006 bn) (.pair (.whole 500000007 b9) (.pair (.whole 500000008 an) (.leaf .unit)))))),(z1,false,.var fy (.pair (.leaf b7) (.pair (.whole 500000009 bn) (.pair (.whole 500000010 b9) (.pair (.whole 500000011 an) (.leaf .unit)))))),(z2,false,.rows an),(z3,false,.rows cg),(500000004,false,.rows cw),(500000005,false,.rows cp),(500000006,false,.rows bn),(500000007,false,.rows b9),(500000008,false,.rows an),(500000009,false,.rows bn),(500000010,false,.rows b9),(500000011,false,.rows an)]⟩)] adL Lu
def ZI:bZ:=boxD ⟨[(3,.aR z0 []),(2,.leaf (.lst eL)),(1,.leaf I6),(6,.aR z1 []),(7,.leaf I6),(8,.leaf I6)],[(z0,false,.var fy (.pair (.leaf b7) (.pair (.whole z2 bn) (.pair (.whole z3 b9) (.pair (.whole 500000004 an) (.leaf .unit)))))),(z1,false,.var fy (.pair (.pair (.leaf .bool) (.pair (.leaf I6) (.pair (.leaf .str) (.pair (.pair (.leaf I6) (.pair (.whole 500000005 an) (.leaf .unit))) (.pair (.pair (.whole 500000006 cg) (.leaf (.pair I6 .unit))) (.pair (.whole 500000007 cw) (.pair (.whole 500000008 cp) (.leaf .unit)))))))) (.pair (.whole 500000009 bn) (.pair (.whole 500000010 b9) (.pair (.whole 500000011 an) (.leaf .unit)))))),(z2,false,.rows bn),(z3,false,.rows b9),(500000004,false,.rows an),(500000005,false,.rows an),(500000006,false,.rows cg),(500000007,false,.rows cw),(500000008,false,.rows cp),(500000009,false,.rows bn),(500000010,false,.rows b9),(500000011,false,.rows an)]⟩ [(.norm,⟨[(3,.aR z0 []),(2,.leaf (.lst eL)),(1,.leaf I6),(6,.aR z1 []),(7,.leaf I6),(8,.leaf I6)],[(z0,false,.var fy (.pair (.leaf b7) (.pair (.whole z2 bn) (.pair (.whole z3 b9) (.pair (.whole 500000004 an) (.leaf .unit)))))),(z1,false,.var fy (.pair (.pair (.leaf .bool) (.pair (.leaf I6) (.pair (.leaf .str) (.pair (.pair (.leaf I6) (.pair (.whole 500000005 an) (.leaf .unit))) (.pair (.pair (.whole 500000006 cg) (.leaf (.pair I6 .unit))) (.pair (.whole 500000007 cw) (.pair (.whole 500000008 cp) (.leaf .unit)))))))) (.pair (.whole 500000009 bn) (.pair (.whole 500000010 b9) (.pair (.whole 500000011 an) (.leaf .unit)))))),(z2,false,.rows bn),(z3,false,.rows b9),(500000004,false,.rows an),(500000005,false,.rows an),(500000006,false,.rows cg),(500000007,false,.rows cw),(500000008,false,.rows cp),(500000009,false,.rows bn),(500000010,false,.rows b9),(500000011,false,.rows an)]⟩)] q35 Nh
def XH:LT:=[(2,Vx),(2000005,ZI)]
def anO:∀x,round UI XH (iY Tryz.f87 0) Vx x=Lu x:=by intro x;kernel_rfl
def anP:∀x,boxR UI XH (qD Tryz.f87 7) ZI x=q35 x:=by intro x;kernel_rfl
def e_q109:EV UI XH Tryz.f87 [.k (.pair b7 (.pair (.own bn) (.pair (.own b9) (.pair (.own an) .unit)))),.v I6,.v (.lst eL)] [.v (.pair b7 (.pair (.own bn) (.pair (.own b9) (.pair (.own an) .unit))))] Gn:=by intro xs;kernel_rfl
def ajX:CO Ml:=con_ok (Ls:=[Vx]) mixed (ei _ _) (aaZ _ nF) Tryz.func87 (loopsC (loopD_ok anO) loopsL_nil) (boxes_of (ks:=[7]) (by kernel_rfl) (boxesL_cons (by kernel_rfl) anP q35_v boxesL_nil)) e_q109
def WT (fns:List (Nat×List Ab.Mode×(List Arg→Option Res))){dp:Bool}(h:eN Tryz.prog Gb ⟨bm,fns,dp,Gl⟩):eN Tryz.prog Gb ⟨bm,Ml.entry::fns,dp,Gl⟩:=h.cons Ml (by kernel_rfl) (zv (f:=Gn)) ajX
def QG:j4:=⟨32,[.v bn],[.v .bool],JQ,zog JQ⟩
def C_q106:Cx:=⟨bm,[],false,Gl⟩
def e_q106:EV C_q106 g9 Tryz.f32 [.v bn] [.v .bool] JQ:=by intro xs;kernel_rfl
def ajU:CO QG:=con_ok (Ls:=[]) mixed (ei _ _) nF Tryz.func32 loopsL_nil boxesL_none e_q106
def ah6 (fns:List (Nat×List Ab.Mode×(List Arg→Option Res))){dp:Bool}(h:eN Tryz.prog Gb ⟨bm,fns,dp,Gl⟩):eN Tryz.prog Gb ⟨bm,QG.entry::fns,dp,Gl⟩:=h.cons QG (by kernel_rfl) (zv (f:=JQ)) ajU
def Q6:j4:=⟨59,[.v (.lst I6),.v I6],[.v .bool],Ho,zog Ho⟩
def Zm:Cx:=⟨bm,[BG.entry],false,Gl⟩
def Va:bZ:=oP ⟨[(5,.leaf I6),(0,.leaf (.lst I6)),(1,.leaf I6)],[]⟩ [(.ret,⟨[(4,.leaf .bool)],[]⟩),((.exit 0),⟨[(1,.leaf I6)],[]⟩)] aeH IG
def acf:LT:=[(2,Va)]
def ank:∀x,round Zm acf (iY Tryz.f59 0) Va x=IG x:=by intro x;kernel_rfl
def e_q165:EV Zm acf Tryz.f59 [.v (.lst I6),.v I6] [.v .bool] Ho:=by intro xs;kernel_rfl
def akO:CO Q6:=con_ok (Ls:=[Va]) mixed (ei _ _) (Ck _ nF) Tryz.func59 (loopsC (loopD_ok ank) loopsL_nil) boxesL_none e_q165
def ait (fns:List (Nat×List Ab.Mode×(List Arg→Option Res))){dp:Bool}(h:eN Tryz.prog Gb ⟨bm,fns,dp,Gl⟩):eN Tryz.prog Gb ⟨bm,Q6.entry::fns,dp,Gl⟩:=h.cons Q6 (by kernel_rfl) (zv (f:=Ho)) akO
def Mv:j4:=⟨60,[.v (.lst I6),.v I6],[.v .bool],Ei,zog Ei⟩
def Zv:Cx:=⟨bm,[],false,Gl⟩
def VS:bZ:=oP ⟨[(5,.leaf I6),(1,.leaf I6),(0,.leaf (.lst I6))],[]⟩ [(.ret,⟨[(4,.leaf .bool)],[]⟩),((.exit 0),⟨[],[]⟩)] ae1 LL
def aco:LT:=[(2,VS)]
def aoi:∀x,round Zv aco (iY Tryz.f60 0) VS x=LL x:=by intro x;kernel_rfl
def e_q178:EV Zv aco Tryz.f60 [.v (.lst I6),.v I6] [.v .bool] Ei:=by intro xs;kernel_rfl
def ak1:CO Mv:=con_ok (Ls:=[VS]) mixed (ei _ _) nF Tryz.func60 (loopsC (loopD_ok aoi) loopsL_nil) boxesL_none e_q178
def W5 (fns:List (Nat×List Ab.Mode×(List Arg→Option Res))){dp:Bool}(h:eN Tryz.prog Gb ⟨bm,fns,dp,Gl⟩):eN Tryz.prog Gb ⟨bm,Mv.entry::fns,dp,Gl⟩:=h.cons Mv (by kernel_rfl) (zv (f:=Ei)) ak1
def RO:j4:=⟨48,[.v fk],[.v .bool],FN,zog FN⟩
def QA:Cx:=⟨bm,[Mv.entry,Q6.entry,BG.entry],false,Gl⟩
def Ve:bZ:=oP ⟨[(3,.leaf I6),(1,.aR z0 [])],[(z0,false,.var fk (.leaf fk))]⟩ [(.ret,⟨[(2,.leaf .bool)],[]⟩),((.exit 0),⟨[(1,.aR z0 [])],[(z0,false,.var fk (.leaf fk))]⟩)] afO Kk
def Vf:bZ:=oP ⟨[(5,.leaf I6),(1,.aR z0 [])],[(z0,false,.var fk (.leaf fk))]⟩ [(.ret,⟨[(2,.leaf .bool)],[]⟩),((.exit 2),⟨[],[]⟩)] afQ LV
def Vg:bZ:=oP ⟨[(6,.leaf I6),(5,.leaf I6),(1,.aR z0 [])],[(z0,false,.var fk (.leaf fk))]⟩ [(.ret,⟨[(2,.leaf .bool)],[]⟩),((.exit 4),⟨[(1,.aR z0 []),(5,.leaf I6)],[(z0,false,.var fk (.leaf fk))]⟩)] afS LW
def Tk:LT:=[(4,Ve),(10,Vf),(13,Vg)]
def ano:∀x,round QA Tk (iY Tryz.f48 0) Ve x=Kk x:=by intro x;kernel_rfl
def anp:∀x,round QA Tk (iY Tryz.f48 1) Vf x=LV x:=by intro x;kernel_rfl
def anq:∀x,round QA Tk (iY Tryz.f48 2) Vg x=LW x:=by intro x;kernel_rfl
def e_q62:EV QA Tk Tryz.f48 [.v fk] [.v .bool] FN:=by intro xs;kernel_rfl
def ok_q62:CO RO:=con_ok (Ls:=[Ve,Vf,Vg]) mixed (ei _ _) (W5 _ (ait _ (Ck _ nF))) Tryz.func48 (loopsC (loopD_ok ano) (loopsC (loopD_ok anp) (loopsC (loopD_ok anq) loopsL_nil))) boxesL_none e_q62
def fk_q62 (fns:List (Nat×List Ab.Mode×(List Arg→Option Res))){dp:Bool}(h:eN Tryz.prog Gb ⟨bm,fns,dp,Gl⟩):eN Tryz.prog Gb ⟨bm,RO.entry::fns,dp,Gl⟩:=h.cons RO (by kernel_rfl) (zv (f:=FN)) ok_q62
def Mt:j4:=⟨33,[.v r5],[.v .bool],FC,zog FC⟩
def C_q163:Cx:=⟨bm,[Fi.entry,RO.entry,Mn.entry],false,Gl⟩
def e_q163:EV C_q163 g9 Tryz.f33 [.v r5] [.v .bool] FC:=by intro xs;kernel_rfl
def akM:CO Mt:=con_ok (Ls:=[]) mixed (ei _ _) (H6 _ (fk_q62 _ (WV _ nF))) Tryz.func33 loopsL_nil boxesL_none e_q163
def W3 (fns:List (Nat×List Ab.Mode×(List Arg→Option Res))){dp:Bool}(h:eN Tryz.prog Gb ⟨bm,fns,dp,Gl⟩):eN Tryz.prog Gb ⟨bm,Mt.entry::fns,dp,Gl⟩:=h.cons Mt (by kernel_rfl) (zv (f:=FC)) akM
def Oq:j4:=⟨35,[.v r5],[.v .bool],EJ,zog EJ⟩
def C_q83:Cx:=⟨bm,[Fi.entry,Mt.entry],false,Gl⟩
def e_q83:EV C_q83 g9 Tryz.f35 [.v r5] [.v .bool] EJ:=by intro xs;kernel_rfl
def ok_q83:CO Oq:=con_ok (Ls:=[]) mixed (ei _ _) (H6 _ (W3 _ nF)) Tryz.func35 loopsL_nil boxesL_none e_q83
def aa1 (fns:List (Nat×List Ab.Mode×(List Arg→Option Res))){dp:Bool}(h:eN Tryz.prog Gb ⟨bm,fns,dp,Gl⟩):eN Tryz.prog Gb ⟨bm,Oq.entry::fns,dp,Gl⟩:=h.cons Oq (by kernel_rfl) (zv (f:=EJ)) ok_q83
def HN:j4:=⟨11,[.v bn],[.v .bool],DK,zog DK⟩
def C_q59:Cx:=⟨bm,[Oq.entry,KK.entry,Mt.entry,QG.entry,BG.entry],false,Gl⟩
def e_q59:EV C_q59 g9 Tryz.f11 [.v bn] [.v .bool] DK:=by intro xs;kernel_rfl
def ok_q59:CO HN:=con_ok (Ls:=[]) mixed (ei _ _) (aa1 _ (SC _ (W3 _ (ah6 _ (Ck _ nF))))) Tryz.func11 loopsL_nil boxesL_none e_q59
def MG (fns:List (Nat×List Ab.Mode×(List Arg→Option Res))){dp:Bool}(h:eN Tryz.prog Gb ⟨bm,fns,dp,Gl⟩):eN Tryz.prog Gb ⟨bm,HN.entry::fns,dp,Gl⟩:=h.cons HN (by kernel_rfl) (zv (f:=DK)) ok_q59
def NX:j4:=⟨122,[.v eL],[.v (.own eL)],JP,zog JP⟩
def C_q105:Cx:=⟨bm,[],false,Gl⟩
def e_q105:EV C_q105 g9 Tryz.f122 [.v eL] [.v (.own eL)] JP:=by intro xs;kernel_rfl
def ajT:CO NX:=con_ok (Ls:=[]) mixed (ei _ _) nF Tryz.func122 loopsL_nil boxesL_none e_q105
def aaz (fns:List (Nat×List Ab.Mode×(List Arg→Option Res))){dp:Bool}(h:eN Tryz.prog Gb ⟨bm,fns,dp,Gl⟩):eN Tryz.prog Gb ⟨bm,NX.entry::fns,dp,Gl⟩:=h.cons NX (by kernel_rfl) (zv (f:=JP)) ajT
def QZ:j4:=⟨169,[.v .str],[.v (.own I6)],Hg,zog Hg⟩
def Zh:Cx:=⟨bm,[Ji.entry,KL.entry],false,Gl⟩
def V5:bZ:=oP ⟨[(5,.leaf I6),(4,.whole z0 .str),(3,.whole z1 I6)],[(z0,false,.rows .str),(z1,false,.rows I6)]⟩ [((.exit 0),⟨[(3,.whole z0 I6)],[(z0,false,.rows I6)]⟩)] aer Nb
def ab8:LT:=[(4,V5)]
def aov:∀x,round Zh ab8 (iY Tryz.f169 0) V5 x=Nb x:=by intro x;kernel_rfl
def e_q147:EV Zh ab8 Tryz.f169 [.v .str] [.v (.own I6)] Hg:=by intro xs;kernel_rfl
def akw:CO QZ:=con_ok (Ls:=[V5]) mixed (ei _ _) (OR _ (SD _ nF)) Tryz.func169 (loopsC (loopD_ok aov) loopsL_nil) boxesL_none e_q147
def aim (fns:List (Nat×List Ab.Mode×(List Arg→Option Res))){dp:Bool}(h:eN Tryz.prog Gb ⟨bm,fns,dp,Gl⟩):eN Tryz.prog Gb ⟨bm,QZ.entry::fns,dp,Gl⟩:=h.cons QZ (by kernel_rfl) (zv (f:=Hg)) akw
def RN:j4:=⟨150,[.v .str],[.v (.pair I6 (.pair I6 (.pair (.own I6) (.pair (.own I6) .unit)))),.v .bool],q60,zog q60⟩
def C_q60:Cx:=⟨bm,[My.entry,QZ.entry,Ji.entry,KL.entry],false,Gl⟩
def e_q60:EV C_q60 g9 Tryz.f150 [.v .str] [.v (.pair I6 (.pair I6 (.pair (.own I6) (.pair (.own I6) .unit)))),.v .bool] q60:=by intro xs;kernel_rfl
def ok_q60:CO RN:=con_ok (Ls:=[]) mixed (ei _ _) (W8 _ (aim _ (OR _ (SD _ nF)))) Tryz.func150 loopsL_nil boxesL_none e_q60
def fk_q60 (fns:List (Nat×List Ab.Mode×(List Arg→Option Res))){dp:Bool}(h:eN Tryz.prog Gb ⟨bm,fns,dp,Gl⟩):eN Tryz.prog Gb ⟨bm,RN.entry::fns,dp,Gl⟩:=h.cons RN (by kernel_rfl) (zv (f:=q60)) ok_q60
def RA:j4:=⟨170,[.v I6,.v I6],[.v (.pair I6 (.pair I6 (.pair (.own gv) .unit)))],q42,zog q42⟩
def C_q42:Cx:=⟨bm,[BG.entry],false,Gl⟩
def e_q42:EV C_q42 g9 Tryz.f170 [.v I6,.v I6] [.v (.pair I6 (.pair I6 (.pair (.own gv) .unit)))] q42:=by intro xs;kernel_rfl
def ok_q42:CO RA:=con_ok (Ls:=[]) mixed (ei _ _) (Ck _ nF) Tryz.func170 loopsL_nil boxesL_none e_q42
def fk_q42 (fns:List (Nat×List Ab.Mode×(List Arg→Option Res))){dp:Bool}(h:eN Tryz.prog Gb ⟨bm,fns,dp,Gl⟩):eN Tryz.prog Gb ⟨bm,RA.entry::fns,dp,Gl⟩:=h.cons RA (by kernel_rfl) (zv (f:=q42)) ok_q42
def QU:j4:=⟨151,[.v gT],[.v (.pair (.pair I6 (.pair I6 (.pair (.own I6) (.pair (.own I6) .unit)))) (.pair (.pair I6 (.pair I6 (.pair (.own gv) .unit))) .unit))],LA,zog LA⟩
def C_q127:Cx:=⟨bm,[RA.entry,Fi.entry,Oe.entry,Mn.entry],false,Gl⟩
def e_q127:EV C_q127 g9 Tryz.f151 [.v gT] [.v (.pair (.pair I6 (.pair I6 (.pair (.own I6) (.pair (.own I6) .unit)))) (.pair (.pair I6 (.pair I6 (.pair (.own gv) .unit))) .unit))] LA:=by intro xs;kernel_rfl
def akc:CO QU:=con_ok (Ls:=[]) mixed (ei _ _) (fk_q42 _ (H6 _ (aaQ _ (WV _ nF)))) Tryz.func151 loopsL_nil boxesL_none e_q127
def aih (fns:List (Nat×List Ab.Mode×(List Arg→Option Res))){dp:Bool}(h:eN Tryz.prog Gb ⟨bm,fns,dp,Gl⟩):eN Tryz.prog Gb ⟨bm,QU.entry::fns,dp,Gl⟩:=h.cons QU (by kernel_rfl) (zv (f:=LA)) akc
def RD:j4:=⟨123,[.v bn,.v eL],[.v bn],q46,zog q46⟩
def C_q46:Cx:=⟨bm,[My.entry,QU.entry,RN.entry],false,Gl⟩
def e_q46:EV C_q46 g9 Tryz.f123 [.v bn,.v eL] [.v bn] q46:=by intro xs;kernel_rfl
def ok_q46:CO RD:=con_ok (Ls:=[]) mixed (ei _ _) (W8 _ (aih _ (fk_q60 _ nF))) Tryz.func123 loopsL_nil boxesL_none e_q46
def fk_q46 (fns:List (Nat×List Ab.Mode×(List Arg→Option Res))){dp:Bool}(h:eN Tryz.prog Gb ⟨bm,fns,dp,Gl⟩):eN Tryz.prog Gb ⟨bm,RD.entry::fns,dp,Gl⟩:=h.cons RD (by kernel_rfl) (zv (f:=q46)) ok_q46
def Rd:j4:=⟨179,[.v fk,.v I6],[.v .str,.v .bool],J_,zog J_⟩
def Zu:Cx:=⟨bm,[],false,Gl⟩
def VR:bZ:=oP ⟨[(6,.leaf I6),(2,.aR z0 []),(1,.leaf I6)],[(z0,false,.var fk (.leaf fk))]⟩ [(.ret,⟨[(4,.leaf .str),(5,.leaf .bool)],[]⟩),((.exit 0),⟨[],[]⟩)] aeZ LK
def acn:LT:=[(2,VR)]
def aoh:∀x,round Zu acn (iY Tryz.f179 0) VR x=LK x:=by intro x;kernel_rfl
def e_q177:EV Zu acn Tryz.f179 [.v fk,.v I6] [.v .str,.v .bool] J_:=by intro xs;kernel_rfl
def ak0:CO Rd:=con_ok (Ls:=[VR]) mixed (ei _ _) nF Tryz.func179 (loopsC (loopD_ok aoh) loopsL_nil) boxesL_none e_q177
def aiB (fns:List (Nat×List Ab.Mode×(List Arg→Option Res))){dp:Bool}(h:eN Tryz.prog Gb ⟨bm,fns,dp,Gl⟩):eN Tryz.prog Gb ⟨bm,Rd.entry::fns,dp,Gl⟩:=h.cons Rd (by kernel_rfl) (zv (f:=J_)) ak0
def R2:j4:=⟨172,[.v fk],[.v I6],q78,zog q78⟩
def C_q78:Cx:=⟨bm,[Rd.entry],false,Gl⟩
def VU:bZ:=oP ⟨[(3,.leaf I6),(1,.aR z0 [])],[(z0,false,.var fk (.leaf fk))]⟩ [(.ret,⟨[(2,.leaf I6)],[]⟩)] af6 PN
def acL:LT:=[(2,VU)]
def aok:∀x,round C_q78 acL (iY Tryz.f172 0) VU x=PN x:=by intro x;kernel_rfl
def e_q78:EV C_q78 acL Tryz.f172 [.v fk] [.v I6] q78:=by intro xs;kernel_rfl
def ok_q78:CO R2:=con_ok (Ls:=[VU]) mixed (ei _ _) (aiB _ nF) Tryz.func172 (loopsC (loopD_ok aok) loopsL_nil) boxesL_none e_q78
def fk_q78 (fns:List (Nat×List Ab.Mode×(List Arg→Option Res))){dp:Bool}(h:eN Tryz.prog Gb ⟨bm,fns,dp,Gl⟩):eN Tryz.prog Gb ⟨bm,R2.entry::fns,dp,Gl⟩:=h.cons R2 (by kernel_rfl) (zv (f:=q78)) ok_q78
def RJ:j4:=⟨153,[.v r5],[.v I6],IQ,zog IQ⟩
def C_q53:Cx:=⟨bm,[R2.entry],false,Gl⟩
def V8:bZ:=oP ⟨[(3,.leaf I6),(4,.leaf I6),(1,.aR z0 [])],[(z0,false,.var r5 (.leaf r5))]⟩ [((.exit 0),⟨[(3,.leaf I6)],[]⟩)] afC PJ
def acF:LT:=[(3,V8)]
def aoy:∀x,round C_q53 acF (iY Tryz.f153 0) V8 x=PJ x:=by intro x;kernel_rfl
def e_q53:EV C_q53 acF Tryz.f153 [.v r5] [.v I6] IQ:=by intro xs;kernel_rfl
def ok_q53:CO RJ:=con_ok (Ls:=[V8]) mixed (ei _ _) (fk_q78 _ nF) Tryz.func153 (loopsC (loopD_ok aoy) loopsL_nil) boxesL_none e_q53
def fk_q53 (fns:List (Nat×List Ab.Mode×(List Arg→Option Res))){dp:Bool}(h:eN Tryz.prog Gb ⟨bm,fns,dp,Gl⟩):eN Tryz.prog Gb ⟨bm,RJ.entry::fns,dp,Gl⟩:=h.cons RJ (by kernel_rfl) (zv (f:=IQ)) ok_q53
def Ob:j4:=⟨175,[.v I6],[.v I6],EG,zog EG⟩
def C_q143:Cx:=⟨bm,[],false,Gl⟩
def e_q143:EV C_q143 g9 Tryz.f175 [.v I6] [.v I6] EG:=by intro xs;kernel_rfl
def aks:CO Ob:=con_ok (Ls:=[]) mixed (ei _ _) nF Tryz.func175 loopsL_nil boxesL_none e_q143
def aaN (fns:List (Nat×List Ab.Mode×(List Arg→Option Res))){dp:Bool}(h:eN Tryz.prog Gb ⟨bm,fns,dp,Gl⟩):eN Tryz.prog Gb ⟨bm,Ob.entry::fns,dp,Gl⟩:=h.cons Ob (by kernel_rfl) (zv (f:=EG)) aks
def Oc:j4:=⟨177,[.v I6,.v I6],[.v I6],Eh,zog Eh⟩
def C_q144:Cx:=⟨bm,[],false,Gl⟩
def e_q144:EV C_q144 g9 Tryz.f177 [.v I6,.v I6] [.v I6] Eh:=by intro xs;kernel_rfl
def akt:CO Oc:=con_ok (Ls:=[]) mixed (ei _ _) nF Tryz.func177 loopsL_nil boxesL_none e_q144
def aaO (fns:List (Nat×List Ab.Mode×(List Arg→Option Res))){dp:Bool}(h:eN Tryz.prog Gb ⟨bm,fns,dp,Gl⟩):eN Tryz.prog Gb ⟨bm,Oc.entry::fns,dp,Gl⟩:=h.cons Oc (by kernel_rfl) (zv (f:=Eh)) akt
def R5:j4:=⟨161,[.v gT,.v I6],[.v I6],Gy,zog Gy⟩
def UQ:Cx:=⟨bm,[Fi.entry,Oc.entry,Ob.entry],false,Gl⟩
def V6:bZ:=oP ⟨[(6,.leaf I6),(2,.aR z0 []),(5,.leaf I6),(1,.leaf I6)],[(z0,false,.var gT (.leaf gT))]⟩ [((.exit 0),⟨[(2,.aR z0 []),(5,.leaf I6),(1,.leaf I6)],[(z0,false,.var gT (.leaf gT))]⟩)] af_ IT
def V7:bZ:=oP ⟨[(8,.leaf I6),(2,.aR z0 []),(7,.leaf I6)],[(z0,false,.var gT (.leaf gT))]⟩ [(.ret,⟨[(4,.leaf I6)],[]⟩),((.exit 2),⟨[(2,.aR z0 [])],[(z0,false,.var gT (.leaf gT))]⟩)] agb IU
def XP:LT:=[(3,V6),(8,V7)]
def aow:∀x,round UQ XP (iY Tryz.f161 0) V6 x=IT x:=by intro x;kernel_rfl
def aox:∀x,round UQ XP (iY Tryz.f161 1) V7 x=IU x:=by intro x;kernel_rfl
def e_q80:EV UQ XP Tryz.f161 [.v gT,.v I6] [.v I6] Gy:=by intro xs;kernel_rfl
def ok_q80:CO R5:=con_ok (Ls:=[V6,V7]) mixed (ei _ _) (H6 _ (aaO _ (aaN _ nF))) Tryz.func161 (loopsC (loopD_ok aow) (loopsC (loopD_ok aox) loopsL_nil)) boxesL_none e_q80
def fk_q80 (fns:List (Nat×List Ab.Mode×(List Arg→Option Res))){dp:Bool}(h:eN Tryz.prog Gb ⟨bm,fns,dp,Gl⟩):eN Tryz.prog Gb ⟨bm,R5.entry::fns,dp,Gl⟩:=h.cons R5 (by kernel_rfl) (zv (f:=Gy)) ok_q80
def RI:j4:=⟨184,[.v I6],[.v (.own I6)],q52,zog q52⟩
def C_q52:Cx:=⟨bm,[],false,Gl⟩
def VW:bZ:=oP ⟨[(5,.leaf I6),(4,.leaf I6),(3,.whole z0 I6),(0,.leaf I6)],[(z0,false,.rows I6)]⟩ [((.exit 0),⟨[(4,.leaf I6),(3,.whole z0 I6)],[(z0,false,.rows I6)]⟩)] afA IP
def acE:LT:=[(4,VW)]
def aom:∀x,round C_q52 acE (iY Tryz.f184 0) VW x=IP x:=by intro x;kernel_rfl
def e_q52:EV C_q52 acE Tryz.f184 [.v I6] [.v (.own I6)] q52:=by intro xs;kernel_rfl
def ok_q52:CO RI:=con_ok (Ls:=[VW]) mixed (ei _ _) nF Tryz.func184 (loopsC (loopD_ok aom) loopsL_nil) boxesL_none e_q52
def fk_q52 (fns:List (Nat×List Ab.Mode×(List Arg→Option Res))){dp:Bool}(h:eN Tryz.prog Gb ⟨bm,fns,dp,Gl⟩):eN Tryz.prog Gb ⟨bm,RI.entry::fns,dp,Gl⟩:=h.cons RI (by kernel_rfl) (zv (f:=q52)) ok_q52
def R3:j4:=⟨176,[.v I6,.v I6],[.v I6],q79,zog q79⟩
def C_q79:Cx:=⟨bm,[RI.entry],false,Gl⟩
def VV:bZ:=oP ⟨[(6,.leaf I6),(5,.whole z0 I6),(1,.leaf I6),(0,.leaf I6)],[(z0,false,.rows I6)]⟩ [(.ret,⟨[(4,.leaf I6)],[]⟩),((.exit 0),⟨[(0,.leaf I6)],[]⟩)] af8 Kl
def acM:LT:=[(3,VV)]
def aol:∀x,round C_q79 acM (iY Tryz.f176 0) VV x=Kl x:=by intro x;kernel_rfl
def e_q79:EV C_q79 acM Tryz.f176 [.v I6,.v I6] [.v I6] q79:=by intro xs;kernel_rfl
def ok_q79:CO R3:=con_ok (Ls:=[VV]) mixed (ei _ _) (fk_q52 _ nF) Tryz.func176 (loopsC (loopD_ok aol) loopsL_nil) boxesL_none e_q79
def fk_q79 (fns:List (Nat×List Ab.Mode×(List Arg→Option Res))){dp:Bool}(h:eN Tryz.prog Gb ⟨bm,fns,dp,Gl⟩):eN Tryz.prog Gb ⟨bm,R3.entry::fns,dp,Gl⟩:=h.cons R3 (by kernel_rfl) (zv (f:=q79)) ok_q79
def QX:j4:=⟨178,[.v (.lst I6),.v I6],[.v (.own I6)],Iz,zog Iz⟩
def Ze:Cx:=⟨bm,[],false,Gl⟩
def VX:bZ:=oP ⟨[(5,.leaf I6),(0,.leaf (.lst I6)),(1,.leaf I6)],[]⟩ [((.exit 0),⟨[(5,.leaf I6),(0,.leaf (.lst I6)),(1,.leaf I6)],[]⟩)] ael IA
def ab5:LT:=[(2,VX)]
def aon:∀x,round Ze ab5 (iY Tryz.f178 0) VX x=IA x:=by intro x;kernel_rfl
def e_q142:EV Ze ab5 Tryz.f178 [.v (.lst I6),.v I6] [.v (.own I6)] Iz:=by intro xs;kernel_rfl
def akr:CO QX:=con_ok (Ls:=[VX]) mixed (ei _ _) nF Tryz.func178 (loopsC (loopD_ok aon) loopsL_nil) boxesL_none e_q142
def aik (fns:List (Nat×List Ab.Mode×(List Arg→Option Res))){dp:Bool}(h:eN Tryz.prog Gb ⟨bm,fns,dp,Gl⟩):eN Tryz.prog Gb ⟨bm,QX.entry::fns,dp,Gl⟩:=h.cons QX (by kernel_rfl) (zv (f:=Iz)) akr
def Re:j4:=⟨160,[.v I6,.v I6],[.v (.own I6)],Ka,zog Ka⟩
def UL:Cx:=⟨bm,[QX.entry,R3.entry,Oc.entry,Ob.entry],false,Gl⟩
def VY:bZ:=oP ⟨[(8,.leaf I6),(7,.whole z0 I6),(5,.leaf I6),(6,.leaf I6),(0,.leaf I6)],[(z0,false,.rows I6)]⟩ [((.exit 0),⟨[(7,.whole z0 I6),(5,.leaf I6),(6,.leaf I6)],[(z0,false,.rows I6)]⟩)] ae3 LM
def VZ:bZ:=oP ⟨[(10,.leaf I6),(7,.whole z0 I6),(9,.whole z1 I6),(5,.leaf I6),(6,.leaf I6)],[(z0,false,.rows I6),(z1,false,.rows I6)]⟩ [((.exit 2),⟨[(9,.whole z0 I6)],[(z0,false,.rows I6)]⟩)] ae5 Kb
def XK:LT:=[(5,VY),(10,VZ)]
def aoo:∀x,round UL XK (iY Tryz.f160 0) VY x=LM x:=by intro x;kernel_rfl
def aop:∀x,round UL XK (iY Tryz.f160 1) VZ x=Kb x:=by intro x;kernel_rfl
def e_q179:EV UL XK Tryz.f160 [.v I6,.v I6] [.v (.own I6)] Ka:=by intro xs;kernel_rfl
def ak2:CO Re:=con_ok (Ls:=[VY,VZ]) mixed (ei _ _) (aik _ (fk_q79 _ (aaO _ (aaN _ nF)))) Tryz.func160 (loopsC (loopD_ok aoo) (loopsC (loopD_ok aop) loopsL_nil)) boxesL_none e_q179
def aiC (fns:List (Nat×List Ab.Mode×(List Arg→Option Res))){dp:Bool}(h:eN Tryz.prog Gb ⟨bm,fns,dp,Gl⟩):eN Tryz.prog Gb ⟨bm,Re.entry::fns,dp,Gl⟩:=h.cons Re (by kernel_rfl) (zv (f:=Ka)) ak2
def Oj:j4:=⟨142,[.v gT,.v I6],[.v (.own I6)],E9,zog E9⟩
def C_q183:Cx:=⟨bm,[Re.entry,R5.entry,Fi.entry],false,Gl⟩
def e_q183:EV C_q183 g9 Tryz.f142 [.v gT,.v I6] [.v (.own I6)] E9:=by intro xs;kernel_rfl
def ak6:CO Oj:=con_ok (Ls:=[]) mixed (ei _ _) (aiC _ (fk_q80 _ (H6 _ nF))) Tryz.func142 loopsL_nil boxesL_none e_q183
def aaV (fns:List (Nat×List Ab.Mode×(List Arg→Option Res))){dp:Bool}(h:eN Tryz.prog Gb ⟨bm,fns,dp,Gl⟩):eN Tryz.prog Gb ⟨bm,Oj.entry::fns,dp,Gl⟩:=h.cons Oj (by kernel_rfl) (zv (f:=E9)) ak6
def Oi:j4:=⟨181,[.v (.lst I6),.v (.lst I6)],[.v (.lst I6)],Hq,zog Hq⟩
def Zr:Cx:=⟨bm,[],false,Gl⟩
def VO:bZ:=oP ⟨[(6,.leaf I6),(0,.leaf (.lst I6)),(5,.whole z0 I6),(7,.leaf I6),(1,.leaf (.lst I6))],[(z0,false,.rows I6)]⟩ [((.exit 0),⟨[(5,.whole z0 I6)],[(z0,false,.rows I6)]⟩)] aeV FE
def ack:LT:=[(4,VO)]
def aoe:∀x,round Zr ack (iY Tryz.f181 0) VO x=FE x:=by intro x;kernel_rfl
def e_q175:EV Zr ack Tryz.f181 [.v (.lst I6),.v (.lst I6)] [.v (.lst I6)] Hq:=by intro xs;kernel_rfl
def akY:CO Oi:=con_ok (Ls:=[VO]) mixed (ei _ _) nF Tryz.func181 (loopsC (loopD_ok aoe) loopsL_nil) boxesL_none e_q175
def aaU (fns:List (Nat×List Ab.Mode×(List Arg→Option Res))){dp:Bool}(h:eN Tryz.prog Gb ⟨bm,fns,dp,Gl⟩):eN Tryz.prog Gb ⟨bm,Oi.entry::fns,dp,Gl⟩:=h.cons Oi (by kernel_rfl) (zv (f:=Hq)) akY
def Mm:j4:=⟨165,[.v .str,.v .str],[.v .str],Fx,zog Fx⟩
def Y5:Cx:=⟨bm,[],false,Gl⟩
def VM:bZ:=oP ⟨[(6,.leaf I6),(1,.leaf .str),(0,.leaf .str),(5,.whole z0 I8)],[(z0,false,.rows I8)]⟩ [((.exit 0),⟨[(5,.whole z0 I8)],[(z0,false,.rows I8)]⟩)] adW Lx
def abV:LT:=[(3,VM)]
def aoc:∀x,round Y5 abV (iY Tryz.f165 0) VM x=Lx x:=by intro x;kernel_rfl
def e_q115:EV Y5 abV Tryz.f165 [.v .str,.v .str] [.v .str] Fx:=by intro xs;kernel_rfl
def aj2:CO Mm:=con_ok (Ls:=[VM]) mixed (ei _ _) nF Tryz.func165 (loopsC (loopD_ok aoc) loopsL_nil) boxesL_none e_q115
def WU (fns:List (Nat×List Ab.Mode×(List Arg→Option Res))){dp:Bool}(h:eN Tryz.prog Gb ⟨bm,fns,dp,Gl⟩):eN Tryz.prog Gb ⟨bm,Mm.entry::fns,dp,Gl⟩:=h.cons Mm (by kernel_rfl) (zv (f:=Fx)) aj2
def QW:j4:=⟨180,[.v fk,.v gv],[.v gv],JZ,zog JZ⟩
def Zd:Cx:=⟨bm,[Mm.entry,Oi.entry,Mv.entry],false,Gl⟩
def VT:bZ:=oP ⟨[(5,.leaf I6),(3,.aR z0 []),(2,.aR z1 []),(4,.aR z2 [])],[(z0,false,.var gv (.leaf gv)),(z1,false,.var fk (.leaf fk)),(z2,false,.var gv (.pair (.whole z3 I6) (.leaf (.pair .str .unit)))),(z3,false,.rows I6)]⟩ [((.exit 0),⟨[(4,.aR z0 []),(3,.aR z1 [])],[(z0,false,.var gv (.pair (.whole z2 I6) (.leaf (.pair .str .unit)))),(z1,false,.var gv (.leaf gv)),(z2,false,.rows I6)]⟩)] aej J0
def ab4:LT:=[(2,VT)]
def aoj:∀x,round Zd ab4 (iY Tryz.f180 0) VT x=J0 x:=by intro x;kernel_rfl
def e_q140:EV Zd ab4 Tryz.f180 [.v fk,.v gv] [.v gv] JZ:=by intro xs;kernel_rfl
def akp:CO QW:=con_ok (Ls:=[VT]) mixed (ei _ _) (WU _ (aaU _ (W5 _ nF))) Tryz.func180 (loopsC (loopD_ok aoj) loopsL_nil) boxesL_none e_q140
def aij (fns:List (Nat×List Ab.Mode×(List Arg→Option Res))){dp:Bool}(h:eN Tryz.prog Gb ⟨bm,fns,dp,Gl⟩):eN Tryz.prog Gb ⟨bm,QW.entry::fns,dp,Gl⟩:=h.cons QW (by kernel_rfl) (zv (f:=JZ)) akp
def N8:j4:=⟨164,[.v .str,.v I6],[.v .str],JX,zog JX⟩
def Zb:Cx:=⟨bm,[],false,Gl⟩
def VF:bZ:=oP ⟨[(1,.leaf I6),(0,.leaf .str),(5,.leaf .str)],[]⟩ [((.exit 0),⟨[(5,.leaf .str)],[]⟩)] aef LB
def ab2:LT:=[(2,VF)]
def an6:∀x,round Zb ab2 (iY Tryz.f164 0) VF x=LB x:=by intro x;kernel_rfl
def e_q136:EV Zb ab2 Tryz.f164 [.v .str,.v I6] [.v .str] JX:=by intro xs;kernel_rfl
def akl:CO N8:=con_ok (Ls:=[VF]) mixed (ei _ _) nF Tryz.func164 (loopsC (loopD_ok an6) loopsL_nil) boxesL_none e_q136
def aaJ (fns:List (Nat×List Ab.Mode×(List Arg→Option Res))){dp:Bool}(h:eN Tryz.prog Gb ⟨bm,fns,dp,Gl⟩):eN Tryz.prog Gb ⟨bm,N8.entry::fns,dp,Gl⟩:=h.cons N8 (by kernel_rfl) (zv (f:=JX)) akl
def Oa:j4:=⟨166,[.v I6],[.v .str],Iy,zog Iy⟩
def C_q141:Cx:=⟨bm,[N8.entry],false,Gl⟩
def e_q141:EV C_q141 g9 Tryz.f166 [.v I6] [.v .str] Iy:=by intro xs;kernel_rfl
def akq:CO Oa:=con_ok (Ls:=[]) mixed (ei _ _) (aaJ _ nF) Tryz.func166 loopsL_nil boxesL_none e_q141
def aaM (fns:List (Nat×List Ab.Mode×(List Arg→Option Res))){dp:Bool}(h:eN Tryz.prog Gb ⟨bm,fns,dp,Gl⟩):eN Tryz.prog Gb ⟨bm,Oa.entry::fns,dp,Gl⟩:=h.cons Oa (by kernel_rfl) (zv (f:=Iy)) akq
def Rc:j4:=⟨173,[.v fk,.v (.lst I6),.v .str],[.v (.pair I6 (.pair I6 (.pair (.own gv) .unit))),.v I6],Gu,zog Gu⟩
def Zt:Cx:=⟨bm,[Mm.entry,Oi.entry,Mv.entry,Oa.entry,N_.entry,QW.entry],false,Gl⟩
def VP:bZ:=oP ⟨[(12,.leaf I6),(10,.aR z0 []),(8,.aR z1 []),(11,.leaf .bool),(9,.aR z2 []),(6,.aR z3 [])],[(z0,false,.var fk (.pair (.leaf I6) (.pair (.leaf I6) (.pair (.whole 500000004 gv) (.leaf .unit))))),(z1,false,.var gv (.leaf gv)),(z2,false,.var fk (.pair (.leaf I6) (.pair (.leaf I6) (.pair (.whole 500000005 gv) (.leaf .unit))))),(z3,false,.var fk (.pair (.leaf I6) (.pair (.leaf I6) (.pair (.whole 500000006 gv) (.leaf .unit))))),(500000004,false,.rows gv),(500000005,false,.rows gv),(500000006,false,.rows gv)]⟩ [((.exit 0),⟨[(6,.aR z0 []),(10,.aR z1 []),(8,.aR z2 []),(11,.leaf .bool)],[(z0,false,.var fk (.pair (.leaf I6) (.pair (.leaf I6) (.pair (.whole z3 gv) (.leaf .unit))))),(z1,false,.var fk (.pair (.leaf I6) (.pair (.leaf I6) (.pair (.whole 500000004 gv) (.leaf .unit))))),(z2,false,.var gv (.leaf gv)),(z3,false,.rows gv),(500000004,false,.rows gv)]⟩)] aeX FF
def acm:LT:=[(10,VP)]
def aof:∀x,round Zt acm (iY Tryz.f173 0) VP x=FF x:=by intro x;kernel_rfl
def e_q176:EV Zt acm Tryz.f173 [.v fk,.v (.lst I6),.v .str] [.v (.pair I6 (.pair I6 (.pair (.own gv) .unit))),.v I6] Gu:=by intro xs;kernel_rfl
def akZ:CO Rc:=con_ok (Ls:=[VP]) mixed (ei _ _) (WU _ (aaU _ (W5 _ (aaM _ (aaL _ (aij _ nF)))))) Tryz.func173 (loopsC (loopD_ok aof) loopsL_nil) boxesL_none e_q176
def aiA (fns:List (Nat×List Ab.Mode×(List Arg→Option Res))){dp:Bool}(h:eN Tryz.prog Gb ⟨bm,fns,dp,Gl⟩):eN Tryz.prog Gb ⟨bm,Rc.entry::fns,dp,Gl⟩:=h.cons Rc (by kernel_rfl) (zv (f:=Gu)) akZ
def QT:j4:=⟨154,[.v r5,.v I6,.v .str],[.v (.pair (.pair I6 (.pair I6 (.pair (.own I6) (.pair (.own I6) .unit)))) (.pair (.pair I6 (.pair I6 (.pair (.own gv) .unit))) .unit)),.v I6],Lz,zog Lz⟩
def C_q126:Cx:=⟨bm,[Rc.entry,Oj.entry,BG.entry,Od.entry,Mt.entry],false,Gl⟩
def e_q126:EV C_q126 g9 Tryz.f154 [.v r5,.v I6,.v .str] [.v (.pair (.pair I6 (.pair I6 (.pair (.own I6) (.pair (.own I6) .unit)))) (.pair (.pair I6 (.pair I6 (.pair (.own gv) .unit))) .unit)),.v I6] Lz:=by intro xs;kernel_rfl
def akb:CO QT:=con_ok (Ls:=[]) mixed (ei _ _) (aiA _ (aaV _ (Ck _ (aaP _ (W3 _ nF))))) Tryz.func154 loopsL_nil boxesL_none e_q126
def aif (fns:List (Nat×List Ab.Mode×(List Arg→Option Res))){dp:Bool}(h:eN Tryz.prog Gb ⟨bm,fns,dp,Gl⟩):eN Tryz.prog Gb ⟨bm,QT.entry::fns,dp,Gl⟩:=h.cons QT (by kernel_rfl) (zv (f:=Lz)) akb
def NW:j4:=⟨98,[.v bn],[.v (.own eL)],JO,zog JO⟩
def C_q104:Cx:=⟨bm,[],false,Gl⟩
def e_q104:EV C_q104 g9 Tryz.f98 [.v bn] [.v (.own eL)] JO:=by intro xs;kernel_rfl
def ajS:CO NW:=con_ok (Ls:=[]) mixed (ei _ _) nF Tryz.func98 loopsL_nil boxesL_none e_q104
def aay (fns:List (Nat×List Ab.Mode×(List Arg→Option Res))){dp:Bool}(h:eN Tryz.prog Gb ⟨bm,fns,dp,Gl⟩):eN Tryz.prog Gb ⟨bm,NW.entry::fns,dp,Gl⟩:=h.cons NW (by kernel_rfl) (zv (f:=JO)) ajS
def RE:j4:=⟨124,[.v bn,.v eL],[.v bn,.v (.own eL)],q47,zog q47⟩
def C_q47:Cx:=⟨bm,[NW.entry,Oq.entry,QT.entry,RJ.entry,NX.entry],false,Gl⟩
def e_q47:EV C_q47 g9 Tryz.f124 [.v bn,.v eL] [.v bn,.v (.own eL)] q47:=by intro xs;kernel_rfl
def ok_q47:CO RE:=con_ok (Ls:=[]) mixed (ei _ _) (aay _ (aa1 _ (aif _ (fk_q53 _ (aaz _ nF))))) Tryz.func124 loopsL_nil boxesL_none e_q47
def fk_q47 (fns:List (Nat×List Ab.Mode×(List Arg→Option Res))){dp:Bool}(h:eN Tryz.prog Gb ⟨bm,fns,dp,Gl⟩):eN Tryz.prog Gb ⟨bm,RE.entry::fns,dp,Gl⟩:=h.cons RE (by kernel_rfl) (zv (f:=q47)) ok_q47
def Rm:j4:=⟨97,[.v bn,.v eL],[.v bn,.v (.own eL)],q23,zog q23⟩
def C_q23:Cx:=⟨bm,[RE.entry,RD.entry,NX.entry,Jg.entry,KJ.entry,HN.entry],false,Gl⟩
def e_q23:EV C_q23 g9 Tryz.f97 [.v bn,.v eL] [.v bn,.v (.own eL)] q23:=by intro xs;kernel_rfl
def ok_q23:CO Rm:=con_ok (Ls:=[]) mixed (ei _ _) (fk_q47 _ (fk_q46 _ (aaz _ (OP _ (SB _ (MG _ nF)))))) Tryz.func97 loopsL_nil boxesL_none e_q23
def fk_q23 (fns:List (Nat×List Ab.Mode×(List Arg→Option Res))){dp:Bool}(h:eN Tryz.prog Gb ⟨bm,fns,dp,Gl⟩):eN Tryz.prog Gb ⟨bm,Rm.entry::fns,dp,Gl⟩:=h.cons Rm (by kernel_rfl) (zv (f:=q23)) ok_q23
def RR:j4:=⟨84,[.k (.pair b7 (.pair (.own bn) (.pair (.own b9) (.pair (.own an) .unit)))),.v di],[.v (.pair b7 (.pair (.own bn) (.pair (.own b9) (.pair (.own an) .unit))))],q66,zog q66⟩
def C_q66:Cx:=⟨bm,[Rm.entry,Ml.entry,Rq.entry,RP.entry],false,Gl⟩
def ZD:bZ:=boxD ⟨[(4,.aR z0 []),(2,.aR z1 []),(5,.aR z2 []),(3,.aR z3 [])],[(z0,false,.var fy (.pair (.pair (.leaf .bool) (.pair (.leaf I6) (.pair (.leaf .str) (.pair (.pair (.leaf I6) (.pair (.whole 500000004 an) (.leaf .unit))) (.pair (.pair (.whole 500000005 cg) (.leaf (.pair I6 .unit))) (.pair (.whole 500000006 cw) (.pair (.whole 500000007 cp) (.leaf .unit)))))))) (.pair (.whole 500000008 bn) (.pair (.whole 500000009 b9) (.pair (.whole 500000010 an) (.leaf .unit)))))),(z1,false,.var fy (.pair (.leaf b7) (.pair (.whole 500000011 bn) (.pair (.whole 500000012 b9) (.pair (.whole 500000013 an) (.leaf .unit)))))),(z2,false,.var b9 (.leaf b9)),(z3,false,.var di (.leaf di)),(500000004,false,.rows an),(500000005,false,.rows cg),(500000006,false,.rows cw),(500000007,false,.rows cp),(500000008,false,.rows bn),(500000009,false,.rows b9),(500000010,false,.rows an),(500000011,false,.rows bn),(500000012,false,.rows b9),(500000013,false,.rows an)]⟩ [(.norm,⟨[(4,.aR z0 []),(2,.aR z1 []),(5,.aR z2 [])],[(z0,false,.var fy (.pair (.pair (.leaf .bool) (.pair (.leaf I6) (.pair (.leaf .str) (.pair (.pair (.leaf I6) (.pair (.whole z3 an) (.leaf .unit))) (.pair (.pair (.whole 500000004 cg) (.leaf (.pair I6 .unit))) (.pair (.whole 500000005 cw) (.pair (.whole 500000006 cp) (.leaf .unit)))))))) (.pair (.whole 500000007 bn) (.pair (.whole 500000008 b9) (.pair (.whole 500000009 an) (.leaf .unit)))))),(z1,false,.var fy (.pair (.leaf b7) (.pair (.whole 500000010 bn) (.pair (.whole 500000011 b9) (.pair (.whole 500000012 an) (.leaf .unit)))))),(z2,false,.var b9 (.leaf b9)),(z3,false,.rows an),(500000004,false,.rows cg),(500000005,false,.rows cw),(500000006,false,.rows cp),(500000007,false,.rows bn),(500000008,false,.rows b9),(500000009,false,.rows an),(500000010,false,.rows bn),(500000011,false,.rows b9),(500000012,false,.rows an)]⟩)] Nk q9'
def acI:LT:=[(2000002,ZD)]
def anH:∀x,boxR C_q66 acI (qD Tryz.f84 2) ZD x=Nk x:=by intro x;kernel_rfl
def e_q66:EV C_q66 acI Tryz.f84 [.k (.pair b7 (.pair (.own bn) (.pair (.own b9) (.pair (.own an) .unit)))),.v di] [.v (.pair b7 (.pair (.own bn) (.pair (.own b9) (.pair (.own an) .unit))))] q66:=by intro xs;kernel_rfl
def ok_q66:CO RR:=con_ok (Ls:=[]) mixed (ei _ _) (fk_q23 _ (WT _ (fk_q28 _ (fk_q63 _ nF)))) Tryz.func84 loopsL_nil (boxes_of (ks:=[2]) (by kernel_rfl) (boxesL_cons (by kernel_rfl) anH q9_v boxesL_nil)) e_q66
def fk_q66 (fns:List (Nat×List Ab.Mode×(List Arg→Option Res))){dp:Bool}(h:eN Tryz.prog Gb ⟨bm,fns,dp,Gl⟩):eN Tryz.prog Gb ⟨bm,RR.entry::fns,dp,Gl⟩:=h.cons RR (by kernel_rfl) (zv (f:=q66)) ok_q66
def RU:j4:=⟨85,[.v b9,.v I6],[.v b9],q71,zog q71⟩
def C_q71:Cx:=⟨bm,[],false,Gl⟩
def e_q71:EV C_q71 g9 Tryz.f85 [.v b9,.v I6] [.v b9] q71:=by intro xs;kernel_rfl
def ok_q71:CO RU:=con_ok (Ls:=[]) mixed (ei _ _) nF Tryz.func85 loopsL_nil boxesL_none e_q71
def fk_q71 (fns:List (Nat×List Ab.Mode×(List Arg→Option Res))){dp:Bool}(h:eN Tryz.prog Gb ⟨bm,fns,dp,Gl⟩):eN Tryz.prog Gb ⟨bm,RU.entry::fns,dp,Gl⟩:=h.cons RU (by kernel_rfl) (zv (f:=q71)) ok_q71
def RT:j4:=⟨77,[.k (.pair b7 (.pair (.own bn) (.pair (.own b9) (.pair (.own an) .unit)))),.v di],[.v (.pair b7 (.pair (.own bn) (.pair (.own b9) (.pair (.own an) .unit)))),.v .bool],q70,zog q70⟩
def C_q70:Cx:=⟨bm,[RU.entry,RR.entry,BG.entry],false,Gl⟩
def e_q70:EV C_q70 g9 Tryz.f77 [.k (.pair b7 (.pair (.own bn) (.pair (.own b9) (.pair (.own an) .unit)))),.v di] [.v (.pair b7 (.pair (.own bn) (.pair (.own b9) (.pair (.own an) .unit)))),.v .bool] q70:=by intro xs;kernel_rfl
def ok_q70:CO RT:=con_ok (Ls:=[]) mixed (ei _ _) (fk_q71 _ (fk_q66 _ (Ck _ nF))) Tryz.func77 loopsL_nil boxesL_none e_q70
def fk_q70 (fns:List (Nat×List Ab.Mode×(List Arg→Option Res))){dp:Bool}(h:eN Tryz.prog Gb ⟨bm,fns,dp,Gl⟩):eN Tryz.prog Gb ⟨bm,RT.entry::fns,dp,Gl⟩:=h.cons RT (by kernel_rfl) (zv (f:=q70)) ok_q70
def Mk:j4:=⟨24,[.v bn],[.v (.own eL)],JN,zog JN⟩
def C_q102:Cx:=⟨bm,[],false,Gl⟩
def e_q102:EV C_q102 g9 Tryz.f24 [.v bn] [.v (.own eL)] JN:=by intro xs;kernel_rfl
def ajQ:CO Mk:=con_ok (Ls:=[]) mixed (ei _ _) nF Tryz.func24 loopsL_nil boxesL_none e_q102
def WQ (fns:List (Nat×List Ab.Mode×(List Arg→Option Res))){dp:Bool}(h:eN Tryz.prog Gb ⟨bm,fns,dp,Gl⟩):eN Tryz.prog Gb ⟨bm,Mk.entry::fns,dp,Gl⟩:=h.cons Mk (by kernel_rfl) (zv (f:=JN)) ajQ
def Rn:j4:=⟨14,[.v bn,.v .str],[.v (.pair I6 (.pair I6 (.pair I6 (.pair .str (.pair I6 (.pair (.pair (.pair I6 (.pair I6 (.pair (.own I6) (.pair (.own I6) .unit)))) (.pair (.pair I6 (.pair I6 (.pair (.own gv) .unit))) .unit)) .unit)))))),.v (.own eL)],q24,zog q24⟩
def C_q24:Cx:=⟨bm,[Mk.entry,KJ.entry,KK.entry,HN.entry],false,Gl⟩
def e_q24:EV C_q24 g9 Tryz.f14 [.v bn,.v .str] [.v (.pair I6 (.pair I6 (.pair I6 (.pair .str (.pair I6 (.pair (.pair (.pair I6 (.pair I6 (.pair (.own I6) (.pair (.own I6) .unit)))) (.pair (.pair I6 (.pair I6 (.pair (.own gv) .unit))) .unit)) .unit)))))),.v (.own eL)] q24:=by intro xs;kernel_rfl
def ok_q24:CO Rn:=con_ok (Ls:=[]) mixed (ei _ _) (WQ _ (SB _ (SC _ (MG _ nF)))) Tryz.func14 loopsL_nil boxesL_none e_q24
def fk_q24 (fns:List (Nat×List Ab.Mode×(List Arg→Option Res))){dp:Bool}(h:eN Tryz.prog Gb ⟨bm,fns,dp,Gl⟩):eN Tryz.prog Gb ⟨bm,Rn.entry::fns,dp,Gl⟩:=h.cons Rn (by kernel_rfl) (zv (f:=q24)) ok_q24
def R4:j4:=⟨19,[.v bn],[.v (.pair I6 (.pair I6 (.pair I6 (.pair .str (.pair I6 (.pair (.pair (.pair I6 (.pair I6 (.pair (.own I6) (.pair (.own I6) .unit)))) (.pair (.pair I6 (.pair I6 (.pair (.own gv) .unit))) .unit)) .unit)))))),.v (.own eL)],LY,zog LY⟩
def C_q8:Cx:=⟨bm,[Mk.entry,KJ.entry,HN.entry],false,Gl⟩
def e_q8:EV C_q8 g9 Tryz.f19 [.v bn] [.v (.pair I6 (.pair I6 (.pair I6 (.pair .str (.pair I6 (.pair (.pair (.pair I6 (.pair I6 (.pair (.own I6) (.pair (.own I6) .unit)))) (.pair (.pair I6 (.pair I6 (.pair (.own gv) .unit))) .unit)) .unit)))))),.v (.own eL)] LY:=by intro xs;kernel_rfl
def ok_q8:CO R4:=con_ok (Ls:=[]) mixed (ei _ _) (WQ _ (SB _ (MG _ nF))) Tryz.func19 loopsL_nil boxesL_none e_q8
def fk_q8 (fns:List (Nat×List Ab.Mode×(List Arg→Option Res))){dp:Bool}(h:eN Tryz.prog Gb ⟨bm,fns,dp,Gl⟩):eN Tryz.prog Gb ⟨bm,R4.entry::fns,dp,Gl⟩:=h.cons R4 (by kernel_rfl) (zv (f:=LY)) ok_q8
def Ro:j4:=⟨86,[.v bn],[.v (.pair I6 (.pair I6 (.pair I6 (.pair .str (.pair I6 (.pair (.pair (.pair I6 (.pair I6 (.pair (.own I6) (.pair (.own I6) .unit)))) (.pair (.pair I6 (.pair I6 (.pair (.own gv) .unit))) .unit)) .unit)))))),.v (.own eL)],q25,zog q25⟩
def C_q25:Cx:=⟨bm,[NW.entry,HN.entry],false,Gl⟩
def e_q25:EV C_q25 g9 Tryz.f86 [.v bn] [.v (.pair I6 (.pair I6 (.pair I6 (.pair .str (.pair I6 (.pair (.pair (.pair I6 (.pair I6 (.pair (.own I6) (.pair (.own I6) .unit)))) (.pair (.pair I6 (.pair I6 (.pair (.own gv) .unit))) .unit)) .unit)))))),.v (.own eL)] q25:=by intro xs;kernel_rfl
def ok_q25:CO Ro:=con_ok (Ls:=[]) mixed (ei _ _) (aay _ (MG _ nF)) Tryz.func86 loopsL_nil boxesL_none e_q25
def fk_q25 (fns:List (Nat×List Ab.Mode×(List Arg→Option Res))){dp:Bool}(h:eN Tryz.prog Gb ⟨bm,fns,dp,Gl⟩):eN Tryz.prog Gb ⟨bm,Ro.entry::fns,dp,Gl⟩:=h.cons Ro (by kernel_rfl) (zv (f:=q25)) ok_q25
def Ol:j4:=⟨9,[.v bn],[.v (.own eL)],FH,zog FH⟩
def C_q26:Cx:=⟨bm,[Mk.entry,HN.entry],false,Gl⟩
def e_q26:EV C_q26 g9 Tryz.f9 [.v bn] [.v (.own eL)] FH:=by intro xs;kernel_rfl
def ok_q26:CO Ol:=con_ok (Ls:=[]) mixed (ei _ _) (WQ _ (MG _ nF)) Tryz.func9 loopsL_nil boxesL_none e_q26
def aaX (fns:List (Nat×List Ab.Mode×(List Arg→Option Res))){dp:Bool}(h:eN Tryz.prog Gb ⟨bm,fns,dp,Gl⟩):eN Tryz.prog Gb ⟨bm,Ol.entry::fns,dp,Gl⟩:=h.cons Ol (by kernel_rfl) (zv (f:=FH)) ok_q26
def RF:j4:=⟨78,[.k (.pair b7 (.pair (.own bn) (.pair (.own b9) (.pair (.own an) .unit)))),.v di],[.v (.pair b7 (.pair (.own bn) (.pair (.own b9) (.pair (.own an) .unit)))),.v .bool],q48,zog q48⟩
def C_q48:Cx:=⟨bm,[Ml.entry,Ol.entry,Ro.entry,R4.entry,Rn.entry,BG.entry],false,Gl⟩
def ZE:bZ:=boxD ⟨[(4,.aR z0 []),(2,.aR z1 []),(3,.aR z2 []),(6,.aR z3 []),(8,.aR 500000004 [])],[(z0,false,.var fy (.pair (.pair (.leaf .bool) (.pair (.leaf I6) (.pair (.leaf .str) (.pair (.pair (.leaf I6) (.pair (.whole 500000005 an) (.leaf .unit))) (.pair (.pair (.whole 500000006 cg) (.leaf (.pair I6 .unit))) (.pair (.whole 500000007 cw) (.pair (.whole 500000008 cp) (.leaf .unit)))))))) (.pair (.whole 500000009 bn) (.pair (.whole 500000010 b9) (.pair (.whole 500000011 an) (.leaf .unit)))))),(z1,false,.var fy (.pair (.leaf b7) (.pair (.whole 500000012 bn) (.pair (.whole 500000013 b9) (.pair (.whole 500000014 an) (.leaf .unit)))))),(z2,false,.var di (.leaf di)),(z3,false,.var bn (.leaf bn)),(500000004,false,.var bn (.leaf bn)),(500000005,false,.rows an),(500000006,false,.rows cg),(500000007,false,.rows cw),(500000008,false,.rows cp),(500000009,false,.rows bn),(500000010,false,.rows b9),(500000011,false,.rows an),(500000012,false,.rows bn),(500000013,false,.rows b9),(500000014,false,.rows an)]⟩ [(.norm,⟨[(4,.aR z0 []),(7,.whole z1 eL),(2,.aR z2 []),(3,.aR z3 []),(6,.aR 500000004 []),(8,.aR 500000005 [])],[(z0,false,.var fy (.pair (.pair (.leaf .bool) (.pair (.leaf I6) (.pair (.leaf .str) (.pair (.pair (.leaf I6) (.pair (.whole 500000006 an) (.leaf .unit))) (.pair (.pair (.whole 500000007 cg) (.leaf (.pair I6 .unit))) (.pair (.whole 500000008 cw) (.pair (.whole 500000009 cp) (.leaf .unit)))))))) (.pair (.whole 500000010 bn) (.pair (.whole 500000011 b9) (.pair (.whole 500000012 an) (.leaf .unit)))))),(z1,false,.rows eL),(z2,false,.var fy (.pair (.leaf b7) (.pair (.whole 500000013 bn) (.pair (.whole 500000014 b9) (.pair (.whole 500000015 an) (.leaf .unit)))))),(z3,false,.var di (.leaf di)),(500000004,false,.var bn (.leaf bn)),(500000005,false,.var bn (.pair (.leaf I6) (.pair (.leaf I6) (.pair (.leaf I6) (.pair (.leaf .str) (.pair (.leaf I6) (.pair (.pair (.pair (.leaf I6) (.pair (.leaf I6) (.pair (.whole 500000016 I6) (.pair (.whole 500000017 I6) (.leaf .unit))))) (.pair (.pair (.leaf I6) (.pair (.leaf I6) (.pair (.whole 500000018 gv) (.leaf .unit)))) (.leaf .unit))) (.leaf .unit)))))))),(500000006,false,.rows an),(500000007,false,.rows cg),(500000008,false,.rows cw),(500000009,false,.rows cp),(500000010,false,.rows bn),(500000011,false,.rows b9),(500000012,false,.rows an),(500000013,false,.rows bn),(500000014,false,.rows b9),(500000015,false,.rows an),(500000016,false,.rows I6),(500000017,false,.rows I6),(500000018,false,.rows gv)]⟩),(.norm,⟨[(4,.aR z0 []),(7,.whole z1 eL),(2,.aR z2 []),(3,.aR z3 []),(6,.aR 500000004 []),(8,.aR 500000005 [])],[(z0,false,.var fy (.pair (.pair (.leaf .bool) (.pair (.leaf I6) (.pair (.leaf .str) (.pair (.pair (.leaf I6) (.pair (.whole 500000006 an) (.leaf .unit))) (.pair (.pair (.whole 500000007 cg) (.leaf (.pair I6 .unit))) (.pair (.whole 500000008 cw) (.pair (.whole 500000009 cp) (.leaf .unit)))))))) (.pair (.whole 500000010 bn) (.pair (.whole 500000011 b9) (.pair (.whole 500000012 an) (.leaf .unit)))))),(z1,false,.rows eL),(z2,false,.var fy (.pair (.leaf b7) (.pair (.whole 500000013 bn) (.pair (.whole 500000014 b9) (.pair (.whole 500000015 an) (.leaf .unit)))))),(z3,false,.var di (.leaf di)),(500000004,false,.var bn (.leaf bn)),(500000005,false,.var bn (.leaf bn)),(500000006,false,.rows an),(500000007,false,.rows cg),(500000008,false,.rows cw),(500000009,false,.rows cp),(500000010,false,.rows bn),(500000011,false,.rows b9),(500000012,false,.rows an),(500000013,false,.rows bn),(500000014,false,.rows b9),(500000015,false,.rows an)]⟩)] Wh.q6 q6'
def acD:LT:=[(2000006,ZE)]
def anI:∀x,boxR C_q48 acD (qD Tryz.f78 7) ZE x=Wh.q6 x:=by intro x;kernel_rfl
def e_q48:EV C_q48 acD Tryz.f78 [.k (.pair b7 (.pair (.own bn) (.pair (.own b9) (.pair (.own an) .unit)))),.v di] [.v (.pair b7 (.pair (.own bn) (.pair (.own b9) (.pair (.own an) .unit)))),.v .bool] q48:=by intro xs;kernel_rfl
def ok_q48:CO RF:=con_ok (Ls:=[]) mixed (ei _ _) (WT _ (aaX _ (fk_q25 _ (fk_q8 _ (fk_q24 _ (Ck _ nF)))))) Tryz.func78 loopsL_nil (boxes_of (ks:=[7]) (by kernel_rfl) (boxesL_cons (by kernel_rfl) anI q6_v boxesL_nil)) e_q48
def fk_q48 (fns:List (Nat×List Ab.Mode×(List Arg→Option Res))){dp:Bool}(h:eN Tryz.prog Gb ⟨bm,fns,dp,Gl⟩):eN Tryz.prog Gb ⟨bm,RF.entry::fns,dp,Gl⟩:=h.cons RF (by kernel_rfl) (zv (f:=q48)) ok_q48
def Q5:j4:=⟨158,[.v .str],[.v .bool],J5,zog J5⟩
def C_q164:Cx:=⟨bm,[Jh.entry],false,Gl⟩
def e_q164:EV C_q164 g9 Tryz.f158 [.v .str] [.v .bool] J5:=by intro xs;kernel_rfl
def akN:CO Q5:=con_ok (Ls:=[]) mixed (ei _ _) (OQ _ nF) Tryz.func158 loopsL_nil boxesL_none e_q164
def ais (fns:List (Nat×List Ab.Mode×(List Arg→Option Res))){dp:Bool}(h:eN Tryz.prog Gb ⟨bm,fns,dp,Gl⟩):eN Tryz.prog Gb ⟨bm,Q5.entry::fns,dp,Gl⟩:=h.cons Q5 (by kernel_rfl) (zv (f:=J5)) akN
def N3:j4:=⟨138,[.v .str,.v .str],[.v .str,.v .bool],JW,zog JW⟩
def C_q128:Cx:=⟨bm,[Of.entry,BG.entry,Q5.entry,Jh.entry],false,Gl⟩
def e_q128:EV C_q128 g9 Tryz.f138 [.v .str,.v .str] [.v .str,.v .bool] JW:=by intro xs;kernel_rfl
def akd:CO N3:=con_ok (Ls:=[]) mixed (ei _ _) (aaR _ (Ck _ (ais _ (OQ _ nF)))) Tryz.func138 loopsL_nil boxesL_none e_q128
def aaE (fns:List (Nat×List Ab.Mode×(List Arg→Option Res))){dp:Bool}(h:eN Tryz.prog Gb ⟨bm,fns,dp,Gl⟩):eN Tryz.prog Gb ⟨bm,N3.entry::fns,dp,Gl⟩:=h.cons N3 (by kernel_rfl) (zv (f:=JW)) akd
def N7:j4:=⟨102,[.v b7,.v .str],[.v b7,.v I6],Fz,zog Fz⟩
def C_q135:Cx:=⟨bm,[Mq.entry,N3.entry],false,Gl⟩
def e_q135:EV C_q135 g9 Tryz.f102 [.v b7,.v .str] [.v b7,.v I6] Fz:=by intro xs;kernel_rfl
def akk:CO N7:=con_ok (Ls:=[]) mixed (ei _ _) (WY _ (aaE _ nF)) Tryz.func102 loopsL_nil boxesL_none e_q135
def aaI (fns:List (Nat×List Ab.Mode×(List Arg→Option Res))){dp:Bool}(h:eN Tryz.prog Gb ⟨bm,fns,dp,Gl⟩):eN Tryz.prog Gb ⟨bm,N7.entry::fns,dp,Gl⟩:=h.cons N7 (by kernel_rfl) (zv (f:=Fz)) akk
def Rz:j4:=⟨88,[.v b7,.v I6,.v .str,.v .str],[.v b7,.v I6],q41,zog q41⟩
def C_q41:Cx:=⟨bm,[N7.entry,KO.entry,N2.entry,HQ.entry,HO.entry],false,Gl⟩
def e_q41:EV C_q41 g9 Tryz.f88 [.v b7,.v I6,.v .str,.v .str] [.v b7,.v I6] q41:=by intro xs;kernel_rfl
def ok_q41:CO Rz:=con_ok (Ls:=[]) mixed (ei _ _) (aaI _ (SG _ (aaD _ (MJ _ (MH _ nF))))) Tryz.func88 loopsL_nil boxesL_none e_q41
def fk_q41 (fns:List (Nat×List Ab.Mode×(List Arg→Option Res))){dp:Bool}(h:eN Tryz.prog Gb ⟨bm,fns,dp,Gl⟩):eN Tryz.prog Gb ⟨bm,Rz.entry::fns,dp,Gl⟩:=h.cons Rz (by kernel_rfl) (zv (f:=q41)) ok_q41
def QH:j4:=⟨89,[.k (.pair b7 (.pair (.own bn) (.pair (.own b9) (.pair (.own an) .unit))))],[.v (.pair b7 (.pair (.own bn) (.pair (.own b9) (.pair (.own an) .unit))))],JR,zog JR⟩
def Y4:Cx:=⟨bm,[],false,Gl⟩
def Vw:bZ:=oP ⟨[(3,.leaf I6),(1,.aR z0 []),(2,.aR z1 [])],[(z0,false,.var fy (.pair (.leaf b7) (.pair (.whole z2 bn) (.pair (.whole z3 b9) (.pair (.whole 500000004 an) (.leaf .unit)))))),(z1,false,.var fy (.pair (.pair (.leaf .bool) (.pair (.leaf I6) (.pair (.leaf .str) (.pair (.pair (.leaf I6) (.pair (.whole 500000005 an) (.leaf .unit))) (.pair (.pair (.whole 500000006 cg) (.leaf (.pair I6 .unit))) (.pair (.whole 500000007 cw) (.pair (.whole 500000008 cp) (.leaf .unit)))))))) (.pair (.whole 500000009 bn) (.pair (.whole 500000010 b9) (.pair (.whole 500000011 an) (.leaf .unit)))))),(z2,false,.rows bn),(z3,false,.rows b9),(500000004,false,.rows an),(500000005,false,.rows an),(500000006,false,.rows cg),(500000007,false,.rows cw),(500000008,false,.rows cp),(500000009,false,.rows bn),(500000010,false,.rows b9),(500000011,false,.rows an)]⟩ [((.exit 0),⟨[(2,.aR z0 []),(1,.aR z1 [])],[(z0,false,.var fy (.pair (.pair (.leaf .bool) (.pair (.leaf I6) (.pair (.leaf .str) (.pair (.pair (.leaf I6) (.pair (.whole z2 an) (.leaf .unit))) (.pair (.pair (.whole z3 cg) (.leaf (.pair I6 .unit))) (.pair (.whole 500000004 cw) (.pair (.whole 500000005 cp) (.leaf .unit)))))))) (.pair (.whole 500000006 bn) (.pair (.whole 500000007 b9) (.pair (.whole 500000008 an) (.leaf .unit)))))),(z1,false,.var fy (.pair (.leaf b7) (.pair (.whole 500000009 bn) (.pair (.whole 500000010 b9) (.pair (.whole 500000011 an) (.leaf .unit)))))),(z2,false,.rows an),(z3,false,.rows cg),(500000004,false,.rows cw),(500000005,false,.rows cp),(500000006,false,.rows bn),(500000007,false,.rows b9),(500000008,false,.rows an),(500000009,false,.rows bn),(500000010,false,.rows b9),(500000011,false,.rows an)]⟩)] adJ PE
def abU:LT:=[(2,Vw)]
def anN:∀x,round Y4 abU (iY Tryz.f89 0) Vw x=PE x:=by intro x;kernel_rfl
def e_q108:EV Y4 abU Tryz.f89 [.k (.pair b7 (.pair (.own bn) (.pair (.own b9) (.pair (.own an) .unit))))] [.v (.pair b7 (.pair (.own bn) (.pair (.own b9) (.pair (.own an) .unit))))] JR:=by intro xs;kernel_rfl
def ajW:CO QH:=con_ok (Ls:=[Vw]) mixed (ei _ _) nF Tryz.func89 (loopsC (loopD_ok anN) loopsL_nil) boxesL_none e_q108
def ah7 (fns:List (Nat×List Ab.Mode×(List Arg→Option Res))){dp:Bool}(h:eN Tryz.prog Gb ⟨bm,fns,dp,Gl⟩):eN Tryz.prog Gb ⟨bm,QH.entry::fns,dp,Gl⟩:=h.cons QH (by kernel_rfl) (zv (f:=JR)) ajW
def R_:j4:=⟨105,[.v iL,.v I6],[.v (.pair (.own cg) (.pair I6 .unit))],q89,zog q89⟩
def C_q89:Cx:=⟨bm,[KQ.entry],false,Gl⟩
def Vi:bZ:=oP ⟨[(6,.leaf I6),(5,.aR z0 []),(1,.leaf I6),(4,.aR z1 [])],[(z0,false,.var iL (.pair (.whole z2 cg) (.leaf (.pair I6 .unit)))),(z1,false,.var iL (.pair (.whole z3 cg) (.leaf (.pair I6 .unit)))),(z2,false,.rows cg),(z3,false,.rows cg)]⟩ [((.exit 0),⟨[(4,.aR z0 []),(5,.aR z1 [])],[(z0,false,.var iL (.pair (.whole z2 cg) (.leaf (.pair I6 .unit)))),(z1,false,.var iL (.pair (.whole z3 cg) (.leaf (.pair I6 .unit)))),(z2,false,.rows cg),(z3,false,.rows cg)]⟩)] agh LZ
def acO:LT:=[(3,Vi)]
def ans:∀x,round C_q89 acO (iY Tryz.f105 0) Vi x=LZ x:=by intro x;kernel_rfl
def e_q89:EV C_q89 acO Tryz.f105 [.v iL,.v I6] [.v (.pair (.own cg) (.pair I6 .unit))] q89:=by intro xs;kernel_rfl
def ok_q89:CO R_:=con_ok (Ls:=[Vi]) mixed (ei _ _) (SJ _ nF) Tryz.func105 (loopsC (loopD_ok ans) loopsL_nil) boxesL_none e_q89
def fk_q89 (fns:List (Nat×List Ab.Mode×(List Arg→Option Res))){dp:Bool}(h:eN Tryz.prog Gb ⟨bm,fns,dp,Gl⟩):eN Tryz.prog Gb ⟨bm,R_.entry::fns,dp,Gl⟩:=h.cons R_ (by kernel_rfl) (zv (f:=q89)) ok_q89
def Ru:j4:=⟨90,[.v b7,.v I6,.v .str],[.v b7,.v I6],IM,zog IM⟩
def C_q30:Cx:=⟨bm,[R_.entry,N7.entry,KO.entry,N0.entry,HQ.entry,HO.entry],false,Gl⟩
def e_q30:EV C_q30 g9 Tryz.f90 [.v b7,.v I6,.v .str] [.v b7,.v I6] IM:=by intro xs;kernel_rfl
def ok_q30:CO Ru:=con_ok (Ls:=[]) mixed (ei _ _) (fk_q89 _ (aaI _ (SG _ (aaC _ (MJ _ (MH _ nF)))))) Tryz.func90 loopsL_nil boxesL_none e_q30
def fk_q30 (fns:List (Nat×List Ab.Mode×(List Arg→Option Res))){dp:Bool}(h:eN Tryz.prog Gb ⟨bm,fns,dp,Gl⟩):eN Tryz.prog Gb ⟨bm,Ru.entry::fns,dp,Gl⟩:=h.cons Ru (by kernel_rfl) (zv (f:=IM)) ok_q30
def Q8:j4:=⟨106,[.v cw,.v I6],[.v cw],Gt,zog Gt⟩
def C_q168:Cx:=⟨bm,[],false,Gl⟩
def e_q168:EV C_q168 g9 Tryz.f106 [.v cw,.v I6] [.v cw] Gt:=by intro xs;kernel_rfl
def akR:CO Q8:=con_ok (Ls:=[]) mixed (ei _ _) nF Tryz.func106 loopsL_nil boxesL_none e_q168
def aiv (fns:List (Nat×List Ab.Mode×(List Arg→Option Res))){dp:Bool}(h:eN Tryz.prog Gb ⟨bm,fns,dp,Gl⟩):eN Tryz.prog Gb ⟨bm,Q8.entry::fns,dp,Gl⟩:=h.cons Q8 (by kernel_rfl) (zv (f:=Gt)) akR
def N6:j4:=⟨141,[.v cp],[.v Br],EE,zog EE⟩
def C_q134:Cx:=⟨bm,[],false,Gl⟩
def e_q134:EV C_q134 g9 Tryz.f141 [.v cp] [.v Br] EE:=by intro xs;kernel_rfl
def akj:CO N6:=con_ok (Ls:=[]) mixed (ei _ _) nF Tryz.func141 loopsL_nil boxesL_none e_q134
def aaH (fns:List (Nat×List Ab.Mode×(List Arg→Option Res))){dp:Bool}(h:eN Tryz.prog Gb ⟨bm,fns,dp,Gl⟩):eN Tryz.prog Gb ⟨bm,N6.entry::fns,dp,Gl⟩:=h.cons N6 (by kernel_rfl) (zv (f:=EE)) akj
def Ot:j4:=⟨108,[.v (.lst Br),.v I6],[.v I6],q85,zog q85⟩
def C_q85:Cx:=⟨bm,[BG.entry],false,Gl⟩
def U5:bZ:=oP ⟨[(6,.leaf I6),(5,.leaf I6),(0,.leaf (.lst Br)),(1,.leaf I6)],[]⟩ [(.ret,⟨[(4,.leaf I6)],[]⟩),((.exit 0),⟨[(5,.leaf I6)],[]⟩)] age Km
def acN:LT:=[(3,U5)]
def ane:∀x,round C_q85 acN (iY Tryz.f108 0) U5 x=Km x:=by intro x;kernel_rfl
def e_q85:EV C_q85 acN Tryz.f108 [.v (.lst Br),.v I6] [.v I6] q85:=by intro xs;kernel_rfl
def ok_q85:CO Ot:=con_ok (Ls:=[U5]) mixed (ei _ _) (Ck _ nF) Tryz.func108 (loopsC (loopD_ok ane) loopsL_nil) boxesL_none e_q85
def aa2 (fns:List (Nat×List Ab.Mode×(List Arg→Option Res))){dp:Bool}(h:eN Tryz.prog Gb ⟨bm,fns,dp,Gl⟩):eN Tryz.prog Gb ⟨bm,Ot.entry::fns,dp,Gl⟩:=h.cons Ot (by kernel_rfl) (zv (f:=q85)) ok_q85
def Sc:j4:=⟨140,[.v b7,.v I6],[.v .bool],Gz,zog Gz⟩
def C_q92:Cx:=⟨bm,[Ot.entry,N6.entry,HP.entry],false,Gl⟩
def Vn:bZ:=oP ⟨[(6,.leaf I6),(2,.aR z0 []),(5,.whole z1 Br),(1,.leaf I6)],[(z0,false,.var b7 (.leaf b7)),(z1,false,.rows Br)]⟩ [((.exit 0),⟨[(1,.leaf I6),(5,.whole z0 Br),(2,.aR z1 [])],[(z0,false,.rows Br),(z1,false,.var b7 (.leaf b7))]⟩)] agl Ko
def acQ:LT:=[(3,Vn)]
def anx:∀x,round C_q92 acQ (iY Tryz.f140 0) Vn x=Ko x:=by intro x;kernel_rfl
def e_q92:EV C_q92 acQ Tryz.f140 [.v b7,.v I6] [.v .bool] Gz:=by intro xs;kernel_rfl
def ok_q92:CO Sc:=con_ok (Ls:=[Vn]) mixed (ei _ _) (aa2 _ (aaH _ (MI _ nF))) Tryz.func140 (loopsC (loopD_ok anx) loopsL_nil) boxesL_none e_q92
def fk_q92 (fns:List (Nat×List Ab.Mode×(List Arg→Option Res))){dp:Bool}(h:eN Tryz.prog Gb ⟨bm,fns,dp,Gl⟩):eN Tryz.prog Gb ⟨bm,Sc.entry::fns,dp,Gl⟩:=h.cons Sc (by kernel_rfl) (zv (f:=Gz)) ok_q92
def Se:j4:=⟨107,[.v b7],[.v (.own Br)],q96,zog q96⟩
def C_q96:Cx:=⟨bm,[N6.entry,HP.entry,Sc.entry,KM.entry,KP.entry],false,Gl⟩
def Vp:bZ:=oP ⟨[(4,.leaf I6),(3,.whole z0 Br),(1,.aR z1 [])],[(z0,false,.rows Br),(z1,false,.var b7 (.leaf b7))]⟩ [((.exit 0),⟨[(3,.whole z0 Br)],[(z0,false,.rows Br)]⟩)] agn Hx
def acS:LT:=[(3,Vp)]
def anB:∀x,round C_q96 acS (iY Tryz.f107 0) Vp x=Hx x:=by intro x;kernel_rfl
def e_q96:EV C_q96 acS Tryz.f107 [.v b7] [.v (.own Br)] q96:=by intro xs;kernel_rfl
def ok_q96:CO Se:=con_ok (Ls:=[Vp]) mixed (ei _ _) (aaH _ (MI _ (fk_q92 _ (SE _ (SH _ nF))))) Tryz.func107 (loopsC (loopD_ok anB) loopsL_nil) boxesL_none e_q96
def fk_q96 (fns:List (Nat×List Ab.Mode×(List Arg→Option Res))){dp:Bool}(h:eN Tryz.prog Gb ⟨bm,fns,dp,Gl⟩):eN Tryz.prog Gb ⟨bm,Se.entry::fns,dp,Gl⟩:=h.cons Se (by kernel_rfl) (zv (f:=q96)) ok_q96
def Sa:j4:=⟨162,[.v iL,.v I6,.v I6],[.v I6],q90,zog q90⟩
def C_q90:Cx:=⟨bm,[],false,Gl⟩
def Vj:bZ:=oP ⟨[(7,.leaf I6),(2,.leaf I6),(3,.aR z0 []),(1,.leaf I6)],[(z0,false,.var iL (.leaf iL))]⟩ [(.ret,⟨[(6,.leaf I6)],[]⟩),((.exit 0),⟨[],[]⟩)] agj Kn
def acP:LT:=[(2,Vj)]
def ant:∀x,round C_q90 acP (iY Tryz.f162 0) Vj x=Kn x:=by intro x;kernel_rfl
def e_q90:EV C_q90 acP Tryz.f162 [.v iL,.v I6,.v I6] [.v I6] q90:=by intro xs;kernel_rfl
def ok_q90:CO Sa:=con_ok (Ls:=[Vj]) mixed (ei _ _) nF Tryz.func162 (loopsC (loopD_ok ant) loopsL_nil) boxesL_none e_q90
def fk_q90 (fns:List (Nat×List Ab.Mode×(List Arg→Option Res))){dp:Bool}(h:eN Tryz.prog Gb ⟨bm,fns,dp,Gl⟩):eN Tryz.prog Gb ⟨bm,Sa.entry::fns,dp,Gl⟩:=h.cons Sa (by kernel_rfl) (zv (f:=q90)) ok_q90
def RB:j4:=⟨163,[.k (.pair (.own cg) (.pair I6 .unit)),.v I6],[.v (.pair (.own cg) (.pair I6 .unit)),.v I6],q44,zog q44⟩
def C_q44:Cx:=⟨bm,[Oh.entry],false,Gl⟩
def Vl:bZ:=oP ⟨[(7,.leaf I6),(2,.aR z0 []),(4,.aR z1 []),(1,.leaf I6),(6,.leaf .bool)],[(z0,false,.var iL (.pair (.whole z2 cg) (.leaf (.pair I6 .unit)))),(z1,false,.var iL (.pair (.whole z3 cg) (.leaf (.pair I6 .unit)))),(z2,false,.rows cg),(z3,false,.rows cg)]⟩ [(.ret,⟨[(4,.aR z0 []),(5,.leaf I6)],[(z0,false,.var iL (.pair (.whole z1 cg) (.leaf (.pair I6 .unit)))),(z1,false,.rows cg)]⟩),((.exit 0),⟨[(4,.aR z0 []),(2,.aR z1 [])],[(z0,false,.var iL (.pair (.whole z2 cg) (.leaf (.pair I6 .unit)))),(z1,false,.var iL (.pair (.whole z3 cg) (.leaf (.pair I6 .unit)))),(z2,false,.rows cg),(z3,false,.rows cg)]⟩)] afw Kh
def acB:LT:=[(3,Vl)]
def anv:∀x,round C_q44 acB (iY Tryz.f163 0) Vl x=Kh x:=by intro x;kernel_rfl
def e_q44:EV C_q44 acB Tryz.f163 [.k (.pair (.own cg) (.pair I6 .unit)),.v I6] [.v (.pair (.own cg) (.pair I6 .unit)),.v I6] q44:=by intro xs;kernel_rfl
def ok_q44:CO RB:=con_ok (Ls:=[Vl]) mixed (ei _ _) (aaT _ nF) Tryz.func163 (loopsC (loopD_ok anv) loopsL_nil) boxesL_none e_q44
def fk_q44 (fns:List (Nat×List Ab.Mode×(List Arg→Option Res))){dp:Bool}(h:eN Tryz.prog Gb ⟨bm,fns,dp,Gl⟩):eN Tryz.prog Gb ⟨bm,RB.entry::fns,dp,Gl⟩:=h.cons RB (by kernel_rfl) (zv (f:=q44)) ok_q44
def Sb:j4:=⟨143,[.v iL,.v I6,.v I6,.v I6],[.v (.pair (.own cg) (.pair I6 .unit)),.v I6,.v I6],Hw,zog Hw⟩
def C_q91:Cx:=⟨bm,[RB.entry,Sa.entry,KQ.entry],false,Gl⟩
def e_q91:EV C_q91 g9 Tryz.f143 [.v iL,.v I6,.v I6,.v I6] [.v (.pair (.own cg) (.pair I6 .unit)),.v I6,.v I6] Hw:=by intro xs;kernel_rfl
def ok_q91:CO Sb:=con_ok (Ls:=[]) mixed (ei _ _) (fk_q44 _ (fk_q90 _ (SJ _ nF))) Tryz.func143 loopsL_nil boxesL_none e_q91
def fk_q91 (fns:List (Nat×List Ab.Mode×(List Arg→Option Res))){dp:Bool}(h:eN Tryz.prog Gb ⟨bm,fns,dp,Gl⟩):eN Tryz.prog Gb ⟨bm,Sb.entry::fns,dp,Gl⟩:=h.cons Sb (by kernel_rfl) (zv (f:=Hw)) ok_q91
def R9:j4:=⟨144,[.v iL,.v I6],[.v (.pair (.own cg) (.pair I6 .unit)),.v .bool],q87,zog q87⟩
def C_q87:Cx:=⟨bm,[BG.entry,KQ.entry,N4.entry],false,Gl⟩
def e_q87:EV C_q87 g9 Tryz.f144 [.v iL,.v I6] [.v (.pair (.own cg) (.pair I6 .unit)),.v .bool] q87:=by intro xs;kernel_rfl
def ok_q87:CO R9:=con_ok (Ls:=[]) mixed (ei _ _) (Ck _ (SJ _ (aaF _ nF))) Tryz.func144 loopsL_nil boxesL_none e_q87
def fk_q87 (fns:List (Nat×List Ab.Mode×(List Arg→Option Res))){dp:Bool}(h:eN Tryz.prog Gb ⟨bm,fns,dp,Gl⟩):eN Tryz.prog Gb ⟨bm,R9.entry::fns,dp,Gl⟩:=h.cons R9 (by kernel_rfl) (zv (f:=q87)) ok_q87
def Rf:j4:=⟨146,[.v gT,.v .str],[.v (.own .str)],Kc,zog Kc⟩
def Zw:Cx:=⟨bm,[Oa.entry,Fi.entry],false,Gl⟩
def V0:bZ:=oP ⟨[(7,.leaf I6),(2,.aR z0 []),(5,.leaf .str),(6,.whole z1 .str)],[(z0,false,.var gT (.leaf gT)),(z1,false,.rows .str)]⟩ [((.exit 0),⟨[(6,.whole z0 .str)],[(z0,false,.rows .str)]⟩)] ae7 LN
def acp:LT:=[(4,V0)]
def aoq:∀x,round Zw acp (iY Tryz.f146 0) V0 x=LN x:=by intro x;kernel_rfl
def e_q180:EV Zw acp Tryz.f146 [.v gT,.v .str] [.v (.own .str)] Kc:=by intro xs;kernel_rfl
def ak3:CO Rf:=con_ok (Ls:=[V0]) mixed (ei _ _) (aaM _ (H6 _ nF)) Tryz.func146 (loopsC (loopD_ok aoq) loopsL_nil) boxesL_none e_q180
def aiD (fns:List (Nat×List Ab.Mode×(List Arg→Option Res))){dp:Bool}(h:eN Tryz.prog Gb ⟨bm,fns,dp,Gl⟩):eN Tryz.prog Gb ⟨bm,Rf.entry::fns,dp,Gl⟩:=h.cons Rf (by kernel_rfl) (zv (f:=Kc)) ak3
def Rb:j4:=⟨145,[.v (.lst .str),.v (.lst I6),.v I6],[.v .str],IJ,zog IJ⟩
def Zq:Cx:=⟨bm,[Mm.entry,N8.entry],false,Gl⟩
def VN:bZ:=oP ⟨[(8,.leaf I6),(1,.leaf (.lst I6)),(0,.leaf (.lst .str)),(7,.leaf .str)],[]⟩ [((.exit 0),⟨[(7,.leaf .str)],[]⟩)] aeT LJ
def acj:LT:=[(3,VN)]
def aod:∀x,round Zq acj (iY Tryz.f145 0) VN x=LJ x:=by intro x;kernel_rfl
def e_q174:EV Zq acj Tryz.f145 [.v (.lst .str),.v (.lst I6),.v I6] [.v .str] IJ:=by intro xs;kernel_rfl
def akX:CO Rb:=con_ok (Ls:=[VN]) mixed (ei _ _) (WU _ (aaJ _ nF)) Tryz.func145 (loopsC (loopD_ok aod) loopsL_nil) boxesL_none e_q174
def aiz (fns:List (Nat×List Ab.Mode×(List Arg→Option Res))){dp:Bool}(h:eN Tryz.prog Gb ⟨bm,fns,dp,Gl⟩):eN Tryz.prog Gb ⟨bm,Rb.entry::fns,dp,Gl⟩:=h.cons Rb (by kernel_rfl) (zv (f:=IJ)) akX
def QE:j4:=⟨113,[.k (.pair .bool (.pair I6 (.pair .str (.pair (.pair I6 (.pair (.own an) .unit)) (.pair (.pair (.own cg) (.pair I6 .unit)) (.pair (.own cw) (.pair (.own cp) .unit))))))),.v I6,.v an],[.v (.pair .bool (.pair I6 (.pair .str (.pair (.pair I6 (.pair (.own an) .unit)) (.pair (.pair (.own cg) (.pair I6 .unit)) (.pair (.own cw) (.pair (.own cp) .unit))))))),.v (.own eL)],Lr,zog Lr⟩
def Y1:Cx:=⟨bm,[Rb.entry,Rf.entry,HP.entry,R9.entry,Sb.entry,Oj.entry,KM.entry],false,Gl⟩
def Vs:bZ:=oP ⟨[(11,.leaf I6),(3,.aR z0 []),(10,.whole z1 I6),(5,.aR z2 []),(6,.aR z3 []),(9,.aR 500000004 []),(8,.aR 500000005 []),(1,.leaf I6)],[(z0,false,.var b7 (.pair (.leaf .bool) (.pair (.leaf I6) (.pair (.leaf .str) (.pair (.pair (.leaf I6) (.pair (.whole 500000006 an) (.leaf .unit))) (.pair (.pair (.whole 500000007 cg) (.leaf (.pair I6 .unit))) (.pair (.whole 500000008 cw) (.pair (.whole 500000009 cp) (.leaf .unit))))))))),(z1,false,.rows I6),(z2,false,.var an (.leaf an)),(z3,false,.var b7 (.pair (.leaf .bool) (.pair (.leaf I6) (.pair (.leaf .str) (.pair (.pair (.leaf I6) (.pair (.whole 500000010 an) (.leaf .unit))) (.pair (.pair (.whole 500000011 cg) (.leaf (.pair I6 .unit))) (.pair (.whole 500000012 cw) (.pair (.whole 500000013 cp) (.leaf .unit))))))))),(500000004,false,.var gT (.pair (.leaf I6) (.pair (.leaf I6) (.pair (.whole 500000014 I6) (.pair (.whole 500000015 I6) (.leaf .unit)))))),(500000005,false,.var cp (.leaf cp)),(500000006,false,.rows an),(500000007,false,.rows cg),(500000008,false,.rows cw),(500000009,false,.rows cp),(500000010,false,.rows an),(500000011,false,.rows cg),(500000012,false,.rows cw),(500000013,false,.rows cp),(500000014,false,.rows I6),(500000015,false,.rows I6)]⟩ [((.exit 0),⟨[(6,.aR z0 []),(9,.aR z1 []),(10,.whole z2 I6),(5,.aR z3 []),(8,.aR 500000004 []),(3,.aR 500000005 []),(1,.leaf I6)],[(z0,false,.var b7 (.pair (.leaf .bool) (.pair (.leaf I6) (.pair (.leaf .str) (.pair (.pair (.leaf I6) (.pair (.whole 500000006 an) (.leaf .unit))) (.pair (.pair (.whole 500000007 cg) (.leaf (.pair I6 .unit))) (.pair (.whole 500000008 cw) (.pair (.whole 500000009 cp) (.leaf .unit))))))))),(z1,false,.var gT (.pair (.leaf I6) (.pair (.leaf I6) (.pair (.whole 500000010 I6) (.pair (.whole 500000011 I6) (.leaf .unit)))))),(z2,false,.rows I6),(z3,false,.var an (.leaf an)),(500000004,false,.var cp (.leaf cp)),(500000005,false,.var b7 (.pair (.leaf .bool) (.pair (.leaf I6) (.pair (.leaf .str) (.pair (.pair (.leaf I6) (.pair (.whole 500000012 an) (.leaf .unit))) (.pair (.pair (.whole 500000013 cg) (.leaf (.pair I6 .unit))) (.pair (.whole 500000014 cw) (.pair (.whole 500000015 cp) (.leaf .unit))))))))),(500000006,false,.rows an),(500000007,false,.rows cg),(500000008,false,.rows cw),(500000009,false,.rows cp),(500000010,false,.rows I6),(500000011,false,.rows I6),(500000012,false,.rows an),(500000013,false,.rows cg),(500000014,false,.rows cw),(500000015,false,.rows cp)]⟩)] adD M7
def abR:LT:=[(5,Vs)]
def anE:∀x,round Y1 abR (iY Tryz.f113 0) Vs x=M7 x:=by intro x;kernel_rfl
def e_q100:EV Y1 abR Tryz.f113 [.k (.pair .bool (.pair I6 (.pair .str (.pair (.pair I6 (.pair (.own an) .unit)) (.pair (.pair (.own cg) (.pair I6 .unit)) (.pair (.own cw) (.pair (.own cp) .unit))))))),.v I6,.v an] [.v (.pair .bool (.pair I6 (.pair .str (.pair (.pair I6 (.pair (.own an) .unit)) (.pair (.pair (.own cg) (.pair I6 .unit)) (.pair (.own cw) (.pair (.own cp) .unit))))))),.v (.own eL)] Lr:=by intro xs;kernel_rfl
def ajO:CO QE:=con_ok (Ls:=[Vs]) mixed (ei _ _) (aiz _ (aiD _ (MI _ (fk_q87 _ (fk_q91 _ (aaV _ (SE _ nF))))))) Tryz.func113 (loopsC (loopD_ok anE) loopsL_nil) boxesL_none e_q100
def ah4 (fns:List (Nat×List Ab.Mode×(List Arg→Option Res))){dp:Bool}(h:eN Tryz.prog Gb ⟨bm,fns,dp,Gl⟩):eN Tryz.prog Gb ⟨bm,QE.entry::fns,dp,Gl⟩:=h.cons QE (by kernel_rfl) (zv (f:=Lr)) ajO
def Rv:j4:=⟨91,[.v b7],[.v b7,.v (.own eL)],q31,zog q31⟩
def C_q31:Cx:=⟨bm,[QE.entry,Ou.entry,KN.entry,KP.entry,Mu.entry,Ot.entry,Se.entry,Q8.entry,HQ.entry,HO.entry],false,Gl⟩
def Vd:bZ:=oP ⟨[(5,.leaf I6),(4,.aR z0 []),(2,.aR z1 [])],[(z0,false,.var b7 (.pair (.leaf .bool) (.pair (.leaf I6) (.pair (.leaf .str) (.pair (.pair (.leaf I6) (.pair (.whole z2 an) (.leaf .unit))) (.pair (.pair (.whole z3 cg) (.leaf (.pair I6 .unit))) (.pair (.whole 500000004 cw) (.pair (.whole 500000005 cp) (.leaf .unit))))))))),(z1,false,.var b7 (.pair (.leaf .bool) (.pair (.leaf I6) (.pair (.leaf .str) (.pair (.pair (.leaf I6) (.pair (.whole 500000006 an) (.leaf .unit))) (.pair (.pair (.whole 500000007 cg) (.leaf (.pair I6 .unit))) (.pair (.whole 500000008 cw) (.pair (.whole 500000009 cp) (.leaf .unit))))))))),(z2,false,.rows an),(z3,false,.rows cg),(500000004,false,.rows cw),(500000005,false,.rows cp),(500000006,false,.rows an),(500000007,false,.rows cg),(500000008,false,.rows cw),(500000009,false,.rows cp)]⟩ [((.exit 0),⟨[(2,.aR z0 []),(4,.aR z1 [])],[(z0,false,.var b7 (.pair (.leaf .bool) (.pair (.leaf I6) (.pair (.leaf .str) (.pair (.pair (.leaf I6) (.pair (.whole z2 an) (.leaf .unit))) (.pair (.pair (.whole z3 cg) (.leaf (.pair I6 .unit))) (.pair (.whole 500000004 cw) (.pair (.whole 500000005 cp) (.leaf .unit))))))))),(z1,false,.var b7 (.pair (.leaf .bool) (.pair (.leaf I6) (.pair (.leaf .str) (.pair (.pair (.leaf I6) (.pair (.whole 500000006 an) (.leaf .unit))) (.pair (.pair (.whole 500000007 cg) (.leaf (.pair I6 .unit))) (.pair (.whole 500000008 cw) (.pair (.whole 500000009 cp) (.leaf .unit))))))))),(z2,false,.rows an),(z3,false,.rows cg),(500000004,false,.rows cw),(500000005,false,.rows cp),(500000006,false,.rows an),(500000007,false,.rows cg),(500000008,false,.rows cw),(500000009,false,.rows cp)]⟩)] afq Ng
def acy:LT:=[(8,Vd)]
def ann:∀x,round C_q31 acy (iY Tryz.f91 0) Vd x=Ng x:=by intro x;kernel_rfl
def e_q31:EV C_q31 acy Tryz.f91 [.v b7] [.v b7,.v (.own eL)] q31:=by intro xs;kernel_rfl
def ok_q31:CO Rv:=con_ok (Ls:=[Vd]) mixed (ei _ _) (ah4 _ (aa3 _ (SF _ (SH _ (W4 _ (aa2 _ (fk_q96 _ (aiv _ (MJ _ (MH _ nF)))))))))) Tryz.func91 (loopsC (loopD_ok ann) loopsL_nil) boxesL_none e_q31
def fk_q31 (fns:List (Nat×List Ab.Mode×(List Arg→Option Res))){dp:Bool}(h:eN Tryz.prog Gb ⟨bm,fns,dp,Gl⟩):eN Tryz.prog Gb ⟨bm,Rv.entry::fns,dp,Gl⟩:=h.cons Rv (by kernel_rfl) (zv (f:=q31)) ok_q31
def RG:j4:=⟨93,[.v di],[.v .str],q49,zog q49⟩
def C_q49:Cx:=⟨bm,[KO.entry],false,Gl⟩
def e_q49:EV C_q49 g9 Tryz.f93 [.v di] [.v .str] q49:=by intro xs;kernel_rfl
def ok_q49:CO RG:=con_ok (Ls:=[]) mixed (ei _ _) (SG _ nF) Tryz.func93 loopsL_nil boxesL_none e_q49
def fk_q49 (fns:List (Nat×List Ab.Mode×(List Arg→Option Res))){dp:Bool}(h:eN Tryz.prog Gb ⟨bm,fns,dp,Gl⟩):eN Tryz.prog Gb ⟨bm,RG.entry::fns,dp,Gl⟩:=h.cons RG (by kernel_rfl) (zv (f:=q49)) ok_q49
def R8:j4:=⟨115,[.v .str,.v .str,.v I6],[.v .str],q86,zog q86⟩
def C_q86:Cx:=⟨bm,[N3.entry],false,Gl⟩
def e_q86:EV C_q86 g9 Tryz.f115 [.v .str,.v .str,.v I6] [.v .str] q86:=by intro xs;kernel_rfl
def ok_q86:CO R8:=con_ok (Ls:=[]) mixed (ei _ _) (aaE _ nF) Tryz.func115 loopsL_nil boxesL_none e_q86
def fk_q86 (fns:List (Nat×List Ab.Mode×(List Arg→Option Res))){dp:Bool}(h:eN Tryz.prog Gb ⟨bm,fns,dp,Gl⟩):eN Tryz.prog Gb ⟨bm,R8.entry::fns,dp,Gl⟩:=h.cons R8 (by kernel_rfl) (zv (f:=q86)) ok_q86
def Rp:j4:=⟨92,[.v b7,.v .str,.v I6],[.v b7],IL,zog IL⟩
def C_q27:Cx:=⟨bm,[R8.entry,Mq.entry,HO.entry],false,Gl⟩
def e_q27:EV C_q27 g9 Tryz.f92 [.v b7,.v .str,.v I6] [.v b7] IL:=by intro xs;kernel_rfl
def ok_q27:CO Rp:=con_ok (Ls:=[]) mixed (ei _ _) (fk_q86 _ (WY _ (MH _ nF))) Tryz.func92 loopsL_nil boxesL_none e_q27
def fk_q27 (fns:List (Nat×List Ab.Mode×(List Arg→Option Res))){dp:Bool}(h:eN Tryz.prog Gb ⟨bm,fns,dp,Gl⟩):eN Tryz.prog Gb ⟨bm,Rp.entry::fns,dp,Gl⟩:=h.cons Rp (by kernel_rfl) (zv (f:=IL)) ok_q27
def Rr:j4:=⟨94,[.v b7],[.v b7],q29,zog q29⟩
def C_q29:Cx:=⟨bm,[Om.entry,N5.entry,Mr.entry,Jh.entry,HQ.entry,HO.entry],false,Gl⟩
def e_q29:EV C_q29 g9 Tryz.f94 [.v b7] [.v b7] q29:=by intro xs;kernel_rfl
def ok_q29:CO Rr:=con_ok (Ls:=[]) mixed (ei _ _) (aaY _ (aaG _ (WZ _ (OQ _ (MJ _ (MH _ nF)))))) Tryz.func94 loopsL_nil boxesL_none e_q29
def fk_q29 (fns:List (Nat×List Ab.Mode×(List Arg→Option Res))){dp:Bool}(h:eN Tryz.prog Gb ⟨bm,fns,dp,Gl⟩):eN Tryz.prog Gb ⟨bm,Rr.entry::fns,dp,Gl⟩:=h.cons Rr (by kernel_rfl) (zv (f:=q29)) ok_q29
def RH:j4:=⟨79,[.k (.pair b7 (.pair (.own bn) (.pair (.own b9) (.pair (.own an) .unit)))),.v di],[.v (.pair b7 (.pair (.own bn) (.pair (.own b9) (.pair (.own an) .unit)))),.v .bool],q50,zog q50⟩
def C_q50:Cx:=⟨bm,[Rr.entry,Rp.entry,RG.entry,Ml.entry,Rv.entry,Ru.entry,QH.entry,Rz.entry],false,Gl⟩
def e_q50:EV C_q50 g9 Tryz.f79 [.k (.pair b7 (.pair (.own bn) (.pair (.own b9) (.pair (.own an) .unit)))),.v di] [.v (.pair b7 (.pair (.own bn) (.pair (.own b9) (.pair (.own an) .unit)))),.v .bool] q50:=by intro xs;kernel_rfl
def ok_q50:CO RH:=con_ok (Ls:=[]) mixed (ei _ _) (fk_q29 _ (fk_q27 _ (fk_q49 _ (WT _ (fk_q31 _ (fk_q30 _ (ah7 _ (fk_q41 _ nF)))))))) Tryz.func79 loopsL_nil boxesL_none e_q50
def fk_q50 (fns:List (Nat×List Ab.Mode×(List Arg→Option Res))){dp:Bool}(h:eN Tryz.prog Gb ⟨bm,fns,dp,Gl⟩):eN Tryz.prog Gb ⟨bm,RH.entry::fns,dp,Gl⟩:=h.cons RH (by kernel_rfl) (zv (f:=q50)) ok_q50
def Q9:j4:=⟨70,[.k (.pair b7 (.pair (.own bn) (.pair (.own b9) (.pair (.own an) .unit)))),.v di],[.v fy,.v .bool],J8,zog J8⟩
def Qz:Cx:=⟨bm,[RH.entry,RF.entry,RT.entry],false,Gl⟩
def ZF:bZ:=boxD ⟨[(4,.aR z0 []),(3,.aR z1 []),(2,.aR z2 []),(7,.leaf I6)],[(z0,false,.var fy (.pair (.pair (.leaf .bool) (.pair (.leaf I6) (.pair (.leaf .str) (.pair (.pair (.leaf I6) (.pair (.whole z3 an) (.leaf .unit))) (.pair (.pair (.whole 500000004 cg) (.leaf (.pair I6 .unit))) (.pair (.whole 500000005 cw) (.pair (.whole 500000006 cp) (.leaf .unit)))))))) (.pair (.whole 500000007 bn) (.pair (.whole 500000008 b9) (.pair (.whole 500000009 an) (.leaf .unit)))))),(z1,false,.var di (.leaf di)),(z2,false,.var fy (.pair (.leaf b7) (.pair (.whole 500000010 bn) (.pair (.whole 500000011 b9) (.pair (.whole 500000012 an) (.leaf .unit)))))),(z3,false,.rows an),(500000004,false,.rows cg),(500000005,false,.rows cw),(500000006,false,.rows cp),(500000007,false,.rows bn),(500000008,false,.rows b9),(500000009,false,.rows an),(500000010,false,.rows bn),(500000011,false,.rows b9),(500000012,false,.rows an)]⟩ [(.norm,⟨[(8,.leaf .bool),(4,.aR z0 []),(3,.aR z1 []),(2,.aR z2 []),(7,.leaf I6)],[(z0,false,.var fy (.pair (.pair (.leaf .bool) (.pair (.leaf I6) (.pair (.leaf .str) (.pair (.pair (.leaf I6) (.pair (.whole z3 an) (.leaf .unit))) (.pair (.pair (.whole 500000004 cg) (.leaf (.pair I6 .unit))) (.pair (.whole 500000005 cw) (.pair (.whole 500000006 cp) (.leaf .unit)))))))) (.pair (.whole 500000007 bn) (.pair (.whole 500000008 b9) (.pair (.whole 500000009 an) (.leaf .unit)))))),(z1,false,.var di (.leaf di)),(z2,false,.var fy (.pair (.leaf b7) (.pair (.whole 500000010 bn) (.pair (.whole 500000011 b9) (.pair (.whole 500000012 an) (.leaf .unit)))))),(z3,false,.rows an),(500000004,false,.rows cg),(500000005,false,.rows cw),(500000006,false,.rows cp),(500000007,false,.rows bn),(500000008,false,.rows b9),(500000009,false,.rows an),(500000010,false,.rows bn),(500000011,false,.rows b9),(500000012,false,.rows an)]⟩)] q67 TT
def ZG:bZ:=boxD ⟨[(4,.aR z0 []),(3,.aR z1 []),(2,.aR z2 []),(7,.leaf I6)],[(z0,false,.var fy (.pair (.pair (.leaf .bool) (.pair (.leaf I6) (.pair (.leaf .str) (.pair (.pair (.leaf I6) (.pair (.whole z3 an) (.leaf .unit))) (.pair (.pair (.whole 500000004 cg) (.leaf (.pair I6 .unit))) (.pair (.whole 500000005 cw) (.pair (.whole 500000006 cp) (.leaf .unit)))))))) (.pair (.whole 500000007 bn) (.pair (.whole 500000008 b9) (.pair (.whole 500000009 an) (.leaf .unit)))))),(z1,false,.var di (.leaf di)),(z2,false,.var fy (.pair (.leaf b7) (.pair (.whole 500000010 bn) (.pair (.whole 500000011 b9) (.pair (.whole 500000012 an) (.leaf .unit)))))),(z3,false,.rows an),(500000004,false,.rows cg),(500000005,false,.rows cw),(500000006,false,.rows cp),(500000007,false,.rows bn),(500000008,false,.rows b9),(500000009,false,.rows an),(500000010,false,.rows bn),(500000011,false,.rows b9),(500000012,false,.rows an)]⟩ [(.norm,⟨[(17,.leaf .bool),(4,.aR z0 []),(3,.aR z1 []),(2,.aR z2 []),(7,.leaf I6)],[(z0,false,.var fy (.pair (.pair (.leaf .bool) (.pair (.leaf I6) (.pair (.leaf .str) (.pair (.pair (.leaf I6) (.pair (.whole z3 an) (.leaf .unit))) (.pair (.pair (.whole 500000004 cg) (.leaf (.pair I6 .unit))) (.pair (.whole 500000005 cw) (.pair (.whole 500000006 cp) (.leaf .unit)))))))) (.pair (.whole 500000007 bn) (.pair (.whole 500000008 b9) (.pair (.whole 500000009 an) (.leaf .unit)))))),(z1,false,.var di (.leaf di)),(z2,false,.var fy (.pair (.leaf b7) (.pair (.whole 500000010 bn) (.pair (.whole 500000011 b9) (.pair (.whole 500000012 an) (.leaf .unit)))))),(z3,false,.rows an),(500000004,false,.rows cg),(500000005,false,.rows cw),(500000006,false,.rows cp),(500000007,false,.rows bn),(500000008,false,.rows b9),(500000009,false,.rows an),(500000010,false,.rows bn),(500000011,false,.rows b9),(500000012,false,.rows an)]⟩)] q68 TU
def ZH:bZ:=boxD ⟨[(4,.aR z0 []),(3,.aR z1 []),(2,.aR z2 []),(7,.leaf I6)],[(z0,false,.var fy (.pair (.pair (.leaf .bool) (.pair (.leaf I6) (.pair (.leaf .str) (.pair (.pair (.leaf I6) (.pair (.whole z3 an) (.leaf .unit))) (.pair (.pair (.whole 500000004 cg) (.leaf (.pair I6 .unit))) (.pair (.whole 500000005 cw) (.pair (.whole 500000006 cp) (.leaf .unit)))))))) (.pair (.whole 500000007 bn) (.pair (.whole 500000008 b9) (.pair (.whole 500000009 an) (.leaf .unit)))))),(z1,false,.var di (.leaf di)),(z2,false,.var fy (.pair (.leaf b7) (.pair (.whole 500000010 bn) (.pair (.whole 500000011 b9) (.pair (.whole 500000012 an) (.leaf .unit)))))),(z3,false,.rows an),(500000004,false,.rows cg),(500000005,false,.rows cw),(500000006,false,.rows cp),(500000007,false,.rows bn),(500000008,false,.rows b9),(500000009,false,.rows an),(500000010,false,.rows bn),(500000011,false,.rows b9),(500000012,false,.rows an)]⟩ [(.norm,⟨[(27,.leaf .bool),(4,.aR z0 []),(3,.aR z1 []),(2,.aR z2 [])],[(z0,false,.var fy (.pair (.pair (.leaf .bool) (.pair (.leaf I6) (.pair (.leaf .str) (.pair (.pair (.leaf I6) (.pair (.whole z3 an) (.leaf .unit))) (.pair (.pair (.whole 500000004 cg) (.leaf (.pair I6 .unit))) (.pair (.whole 500000005 cw) (.pair (.whole 500000006 cp) (.leaf .unit)))))))) (.pair (.whole 500000007 bn) (.pair (.whole 500000008 b9) (.pair (.whole 500000009 an) (.leaf .unit)))))),(z1,false,.var di (.leaf di)),(z2,false,.var fy (.pair (.leaf b7) (.pair (.whole 500000010 bn) (.pair (.whole 500000011 b9) (.pair (.whole 500000012 an) (.leaf .unit)))))),(z3,false,.rows an),(500000004,false,.rows cg),(500000005,false,.rows cw),(500000006,false,.rows cp),(500000007,false,.rows bn),(500000008,false,.rows b9),(500000009,false,.rows an),(500000010,false,.rows bn),(500000011,false,.rows b9),(500000012,false,.rows an)]⟩)] q69 TV
def Tj:LT:=[(2000002,ZF),(2000006,ZG),(2000011,ZH)]
def anK:∀x,boxR Qz Tj (qD Tryz.f70 3) ZF x=q67 x:=by intro x;kernel_rfl
def anL:∀x,boxR Qz Tj (qD Tryz.f70 7) ZG x=q68 x:=by intro x;kernel_rfl
def anM:∀x,boxR Qz Tj (qD Tryz.f70 12) ZH x=q69 x:=by intro x;kernel_rfl
def e_q170:EV Qz Tj Tryz.f70 [.k (.pair b7 (.pair (.own bn) (.pair (.own b9) (.pair (.own an) .unit)))),.v di] [.v fy,.v .bool] J8:=by intro xs;kernel_rfl
def akT:CO Q9:=con_ok (Ls:=[]) mixed (ei _ _) (fk_q50 _ (fk_q48 _ (fk_q70 _ nF))) Tryz.func70 loopsL_nil (boxes_of (ks:=[3,7,12]) (by kernel_rfl) (boxesL_cons (by kernel_rfl) anK q67_v (boxesL_cons (by kernel_rfl) anL q68_v (boxesL_cons (by kernel_rfl) anM q69_v boxesL_nil)))) e_q170
def aiw (fns:List (Nat×List Ab.Mode×(List Arg→Option Res))){dp:Bool}(h:eN Tryz.prog Gb ⟨bm,fns,dp,Gl⟩):eN Tryz.prog Gb ⟨bm,Q9.entry::fns,dp,Gl⟩:=h.cons Q9 (by kernel_rfl) (zv (f:=J8)) akT
def RX:j4:=⟨66,[.p dz,.v I6],[.v (.own di),.v (.pair b7 (.pair (.own bn) (.pair (.own b9) (.pair (.own an) .unit))))],q73,zog q73⟩
def C_q73:Cx:=⟨bm,[Q9.entry,NY.entry,RW.entry,GM.entry,RQ.entry],false,Gl⟩
def Vz:bZ:=oP ⟨[(8,.leaf I6),(6,.aR z0 []),(7,.whole z1 di),(0,.aR 900 []),(5,.aR z2 [])],[(900,false,.var dz (.leaf dz)),(z0,false,.var fy (.leaf fy)),(z1,false,.rows di),(z2,false,.var fy (.pair (.pair (.leaf .bool) (.pair (.leaf I6) (.pair (.leaf .str) (.pair (.pair (.leaf I6) (.pair (.whole z3 an) (.leaf .unit))) (.pair (.pair (.whole 500000004 cg) (.leaf (.pair I6 .unit))) (.pair (.whole 500000005 cw) (.pair (.whole 500000006 cp) (.leaf .unit)))))))) (.pair (.whole 500000007 bn) (.pair (.whole 500000008 b9) (.pair (.whole 500000009 an) (.leaf .unit)))))),(z3,false,.rows an),(500000004,false,.rows cg),(500000005,false,.rows cw),(500000006,false,.rows cp),(500000007,false,.rows bn),(500000008,false,.rows b9),(500000009,false,.rows an)]⟩ [((.exit 0),⟨[(5,.aR z0 []),(6,.aR z1 []),(7,.whole z2 di)],[(900,false,.var dz (.leaf dz)),(z0,false,.var fy (.pair (.pair (.leaf .bool) (.pair (.leaf I6) (.pair (.leaf .str) (.pair (.pair (.leaf I6) (.pair (.whole z3 an) (.leaf .unit))) (.pair (.pair (.whole 500000004 cg) (.leaf (.pair I6 .unit))) (.pair (.whole 500000005 cw) (.pair (.whole 500000006 cp) (.leaf .unit)))))))) (.pair (.whole 500000007 bn) (.pair (.whole 500000008 b9) (.pair (.whole 500000009 an) (.leaf .unit)))))),(z1,false,.var fy (.leaf fy)),(z2,false,.rows di),(z3,false,.rows an),(500000004,false,.rows cg),(500000005,false,.rows cw),(500000006,false,.rows cp),(500000007,false,.rows bn),(500000008,false,.rows b9),(500000009,false,.rows an)]⟩)] afY PL
def acJ:LT:=[(4,Vz)]
def an0:∀x,round C_q73 acJ (iY Tryz.f66 0) Vz x=PL x:=by intro x;kernel_rfl
def e_q73:EV C_q73 acJ Tryz.f66 [.p dz,.v I6] [.v (.own di),.v (.pair b7 (.pair (.own bn) (.pair (.own b9) (.pair (.own an) .unit))))] q73:=by intro xs;kernel_rfl
def ok_q73:CO RX:=con_ok (Ls:=[Vz]) mixed (ei _ _) (aiw _ (aaA _ (fk_q72 _ (KX _ (fk_q64 _ nF))))) Tryz.func66 (loopsC (loopD_ok an0) loopsL_nil) boxesL_none e_q73
def fk_q73 (fns:List (Nat×List Ab.Mode×(List Arg→Option Res))){dp:Bool}(h:eN Tryz.prog Gb ⟨bm,fns,dp,Gl⟩):eN Tryz.prog Gb ⟨bm,RX.entry::fns,dp,Gl⟩:=h.cons RX (by kernel_rfl) (zv (f:=q73)) ok_q73
def RZ:j4:=⟨55,[.p dz],[.v (.pair b7 (.pair (.own bn) (.pair (.own b9) (.pair (.own an) .unit))))],q75,zog q75⟩
def C_q75:Cx:=⟨bm,[RX.entry],false,Gl⟩
def e_q75:EV C_q75 g9 Tryz.f55 [.p dz] [.v (.pair b7 (.pair (.own bn) (.pair (.own b9) (.pair (.own an) .unit))))] q75:=by intro xs;kernel_rfl
def ok_q75:CO RZ:=con_ok (Ls:=[]) mixed (ei _ _) (fk_q73 _ nF) Tryz.func55 loopsL_nil boxesL_none e_q75
def fk_q75 (fns:List (Nat×List Ab.Mode×(List Arg→Option Res))){dp:Bool}(h:eN Tryz.prog Gb ⟨bm,fns,dp,Gl⟩):eN Tryz.prog Gb ⟨bm,RZ.entry::fns,dp,Gl⟩:=h.cons RZ (by kernel_rfl) (zv (f:=q75)) ok_q75
def Rs:j4:=⟨56,[.p dz,.v fy],[.v (.pair b7 (.pair (.lst bn) (.pair (.own b9) (.pair (.own an) .unit))))],Wh.q3,zog Wh.q3⟩
def C_q3:Cx:=⟨bm,[GM.entry,NY.entry],false,Gl⟩
def e_q3:EV C_q3 g9 Tryz.f56 [.p dz,.v fy] [.v (.pair b7 (.pair (.lst bn) (.pair (.own b9) (.pair (.own an) .unit))))] Wh.q3:=by intro xs;kernel_rfl
def ok_q3:CO Rs:=con_ok (Ls:=[]) mixed (ei _ _) (KX _ (aaA _ nF)) Tryz.func56 loopsL_nil boxesL_none e_q3
def fk_q3 (fns:List (Nat×List Ab.Mode×(List Arg→Option Res))){dp:Bool}(h:eN Tryz.prog Gb ⟨bm,fns,dp,Gl⟩):eN Tryz.prog Gb ⟨bm,Rs.entry::fns,dp,Gl⟩:=h.cons Rs (by kernel_rfl) (zv (f:=Wh.q3)) ok_q3
def QD:j4:=⟨42,[.p dz],[.v (.pair b7 (.pair (.lst bn) (.pair (.own b9) (.pair (.own an) .unit))))],q10,zog q10⟩
def C_q10:Cx:=⟨bm,[Rs.entry,GM.entry,RZ.entry],false,Gl⟩
def e_q10:EV C_q10 g9 Tryz.f42 [.p dz] [.v (.pair b7 (.pair (.lst bn) (.pair (.own b9) (.pair (.own an) .unit))))] q10:=by intro xs;kernel_rfl
def ok_q10:CO QD:=con_ok (Ls:=[]) mixed (ei _ _) (fk_q3 _ (KX _ (fk_q75 _ nF))) Tryz.func42 loopsL_nil boxesL_none e_q10
def fk_q10 (fns:List (Nat×List Ab.Mode×(List Arg→Option Res))){dp:Bool}(h:eN Tryz.prog Gb ⟨bm,fns,dp,Gl⟩):eN Tryz.prog Gb ⟨bm,QD.entry::fns,dp,Gl⟩:=h.cons QD (by kernel_rfl) (zv (f:=q10)) ok_q10
def RS:j4:=⟨20,[.p dz],[.v bn],Wh.q7,zog Wh.q7⟩
def C_q7:Cx:=⟨bm,[GM.entry,QD.entry],false,Gl⟩
def e_q7:EV C_q7 g9 Tryz.f20 [.p dz] [.v bn] Wh.q7:=by intro xs;kernel_rfl
def ok_q7:CO RS:=con_ok (Ls:=[]) mixed (ei _ _) (KX _ (fk_q10 _ nF)) Tryz.func20 loopsL_nil boxesL_none e_q7
def fk_q7 (fns:List (Nat×List Ab.Mode×(List Arg→Option Res))){dp:Bool}(h:eN Tryz.prog Gb ⟨bm,fns,dp,Gl⟩):eN Tryz.prog Gb ⟨bm,RS.entry::fns,dp,Gl⟩:=h.cons RS (by kernel_rfl) (zv (f:=Wh.q7)) ok_q7
def QC:j4:=⟨6,[.v (.lst I8)],[.v bn],Wh.q1,zog Wh.q1⟩
def C_q1:Cx:=⟨bm,[RS.entry,QV.entry],false,Gl⟩
def e_q1:EV C_q1 g9 Tryz.f6 [.v (.lst I8)] [.v bn] Wh.q1:=by intro xs;kernel_rfl
def ok_q1:CO QC:=con_ok (Ls:=[]) mixed (ei _ _) (fk_q7 _ (aii _ nF)) Tryz.func6 loopsL_nil boxesL_none e_q1
def fk_q1 (fns:List (Nat×List Ab.Mode×(List Arg→Option Res))){dp:Bool}(h:eN Tryz.prog Gb ⟨bm,fns,dp,Gl⟩):eN Tryz.prog Gb ⟨bm,QC.entry::fns,dp,Gl⟩:=h.cons QC (by kernel_rfl) (zv (f:=Wh.q1)) ok_q1
def HL:j4:=⟨26,[.v I6,.v I6,.v I6],[.v .bool],AY,zog AY⟩
def C_q122:Cx:=⟨bm,[],false,Gl⟩
def e_q122:EV C_q122 g9 Tryz.f26 [.v I6,.v I6,.v I6] [.v .bool] AY:=by intro xs;kernel_rfl
def aj8:CO HL:=con_ok (Ls:=[]) mixed (ei _ _) nF Tryz.func26 loopsL_nil boxesL_none e_q122
def MD (fns:List (Nat×List Ab.Mode×(List Arg→Option Res))){dp:Bool}(h:eN Tryz.prog Gb ⟨bm,fns,dp,Gl⟩):eN Tryz.prog Gb ⟨bm,HL.entry::fns,dp,Gl⟩:=h.cons HL (by kernel_rfl) (zv (f:=AY)) aj8
def RL:j4:=⟨25,[.v I6],[.v .bool],IS,zog IS⟩
def C_q57:Cx:=⟨bm,[HL.entry],false,Gl⟩
def e_q57:EV C_q57 g9 Tryz.f25 [.v I6] [.v .bool] IS:=by intro xs;kernel_rfl
def ok_q57:CO RL:=con_ok (Ls:=[]) mixed (ei _ _) (MD _ nF) Tryz.func25 loopsL_nil boxesL_none e_q57
def fk_q57 (fns:List (Nat×List Ab.Mode×(List Arg→Option Res))){dp:Bool}(h:eN Tryz.prog Gb ⟨bm,fns,dp,Gl⟩):eN Tryz.prog Gb ⟨bm,RL.entry::fns,dp,Gl⟩:=h.cons RL (by kernel_rfl) (zv (f:=IS)) ok_q57
def Q4:j4:=⟨27,[.v r5],[.v .bool],J2,zog J2⟩
def C_q160:Cx:=⟨bm,[],false,Gl⟩
def e_q160:EV C_q160 g9 Tryz.f27 [.v r5] [.v .bool] J2:=by intro xs;kernel_rfl
def akJ:CO Q4:=con_ok (Ls:=[]) mixed (ei _ _) nF Tryz.func27 loopsL_nil boxesL_none e_q160
def air (fns:List (Nat×List Ab.Mode×(List Arg→Option Res))){dp:Bool}(h:eN Tryz.prog Gb ⟨bm,fns,dp,Gl⟩):eN Tryz.prog Gb ⟨bm,Q4.entry::fns,dp,Gl⟩:=h.cons Q4 (by kernel_rfl) (zv (f:=J2)) akJ
def Ok:j4:=⟨45,[.v gT],[.v I6],DZ,zog DZ⟩
def C_q21:Cx:=⟨bm,[],false,Gl⟩
def e_q21:EV C_q21 g9 Tryz.f45 [.v gT] [.v I6] DZ:=by intro xs;kernel_rfl
def ok_q21:CO Ok:=con_ok (Ls:=[]) mixed (ei _ _) nF Tryz.func45 loopsL_nil boxesL_none e_q21
def aaW (fns:List (Nat×List Ab.Mode×(List Arg→Option Res))){dp:Bool}(h:eN Tryz.prog Gb ⟨bm,fns,dp,Gl⟩):eN Tryz.prog Gb ⟨bm,Ok.entry::fns,dp,Gl⟩:=h.cons Ok (by kernel_rfl) (zv (f:=DZ)) ok_q21
def QO:j4:=⟨43,[.v gT],[.v .bool],Ef,zog Ef⟩
def Y8:Cx:=⟨bm,[Ok.entry,HL.entry],false,Gl⟩
def US:bZ:=oP ⟨[(50,.leaf I6),(1,.aR z0 []),(48,.leaf (.lst I6)),(49,.leaf I6)],[(z0,false,.var gT (.leaf gT))]⟩ [(.ret,⟨[(2,.leaf .bool)],[]⟩),((.exit 0),⟨[],[]⟩)] ad2 Gp
def abY:LT:=[(6,US)]
def am2:∀x,round Y8 abY (iY Tryz.f43 0) US x=Gp x:=by intro x;kernel_rfl
def e_q120:EV Y8 abY Tryz.f43 [.v gT] [.v .bool] Ef:=by intro xs;kernel_rfl
def aj7:CO QO:=con_ok (Ls:=[US]) mixed (ei _ _) (aaW _ (MD _ nF)) Tryz.func43 (loopsC (loopD_ok am2) loopsL_nil) boxesL_none e_q120
def aid (fns:List (Nat×List Ab.Mode×(List Arg→Option Res))){dp:Bool}(h:eN Tryz.prog Gb ⟨bm,fns,dp,Gl⟩):eN Tryz.prog Gb ⟨bm,QO.entry::fns,dp,Gl⟩:=h.cons QO (by kernel_rfl) (zv (f:=Ef)) aj7
def Q3:j4:=⟨57,[.v (.lst I6),.v I6],[.v .bool],Hj,zog Hj⟩
def Zk:Cx:=⟨bm,[HL.entry],false,Gl⟩
def UT:bZ:=oP ⟨[(9,.leaf I6),(0,.leaf (.lst I6)),(1,.leaf I6),(7,.leaf (.lst I6)),(8,.leaf I6)],[]⟩ [(.ret,⟨[(4,.leaf .bool)],[]⟩),((.exit 0),⟨[(1,.leaf I6)],[]⟩)] aex IE
def acd:LT:=[(2,UT)]
def am3:∀x,round Zk acd (iY Tryz.f57 0) UT x=IE x:=by intro x;kernel_rfl
def e_q159:EV Zk acd Tryz.f57 [.v (.lst I6),.v I6] [.v .bool] Hj:=by intro xs;kernel_rfl
def akI:CO Q3:=con_ok (Ls:=[UT]) mixed (ei _ _) (MD _ nF) Tryz.func57 (loopsC (loopD_ok am3) loopsL_nil) boxesL_none e_q159
def aiq (fns:List (Nat×List Ab.Mode×(List Arg→Option Res))){dp:Bool}(h:eN Tryz.prog Gb ⟨bm,fns,dp,Gl⟩):eN Tryz.prog Gb ⟨bm,Q3.entry::fns,dp,Gl⟩:=h.cons Q3 (by kernel_rfl) (zv (f:=Hj)) akI
def Ri:j4:=⟨58,[.v (.lst I6)],[.v I3],IK,zog IK⟩
def ZA:Cx:=⟨bm,[],false,Gl⟩
def UZ:bZ:=oP ⟨[(8,.leaf I6),(3,.leaf I3),(6,.leaf (.lst I6)),(7,.leaf I6)],[]⟩ [((.exit 0),⟨[(3,.leaf I3)],[]⟩)] afi Nf
def acu:LT:=[(3,UZ)]
def am8:∀x,round ZA acu (iY Tryz.f58 0) UZ x=Nf x:=by intro x;kernel_rfl
def e_q186:EV ZA acu Tryz.f58 [.v (.lst I6)] [.v I3] IK:=by intro xs;kernel_rfl
def ak9:CO Ri:=con_ok (Ls:=[UZ]) mixed (ei _ _) nF Tryz.func58 (loopsC (loopD_ok am8) loopsL_nil) boxesL_none e_q186
def aiG (fns:List (Nat×List Ab.Mode×(List Arg→Option Res))){dp:Bool}(h:eN Tryz.prog Gb ⟨bm,fns,dp,Gl⟩):eN Tryz.prog Gb ⟨bm,Ri.entry::fns,dp,Gl⟩:=h.cons Ri (by kernel_rfl) (zv (f:=IK)) ak9
def RK:j4:=⟨44,[.v fk],[.v .bool],FJ,zog FJ⟩
def UN:Cx:=⟨bm,[Ri.entry,Q3.entry,HL.entry],false,Gl⟩
def UU:bZ:=oP ⟨[(21,.leaf I6),(3,.leaf I3),(1,.aR z0 []),(19,.leaf (.lst gv)),(20,.leaf I6)],[(z0,false,.var fk (.leaf fk))]⟩ [(.ret,⟨[(2,.leaf .bool)],[]⟩),((.exit 0),⟨[(3,.leaf I3),(1,.aR z0 [])],[(z0,false,.var fk (.leaf fk))]⟩)] afG Ht
def UW:bZ:=oP ⟨[(77,.leaf I6),(3,.leaf I3),(75,.leaf (.lst gv)),(76,.leaf I6)],[]⟩ [(.ret,⟨[(2,.leaf .bool)],[]⟩),((.exit 2),⟨[],[]⟩)] afI LU
def XM:LT:=[(5,UU),(12,UW)]
def am4:∀x,round UN XM (iY Tryz.f44 0) UU x=Ht x:=by intro x;kernel_rfl
def am5:∀x,round UN XM (iY Tryz.f44 1) UW x=LU x:=by intro x;kernel_rfl
def e_q56:EV UN XM Tryz.f44 [.v fk] [.v .bool] FJ:=by intro xs;kernel_rfl
def ok_q56:CO RK:=con_ok (Ls:=[UU,UW]) mixed (ei _ _) (aiG _ (aiq _ (MD _ nF))) Tryz.func44 (loopsC (loopD_ok am4) (loopsC (loopD_ok am5) loopsL_nil)) boxesL_none e_q56
def fk_q56 (fns:List (Nat×List Ab.Mode×(List Arg→Option Res))){dp:Bool}(h:eN Tryz.prog Gb ⟨bm,fns,dp,Gl⟩):eN Tryz.prog Gb ⟨bm,RK.entry::fns,dp,Gl⟩:=h.cons RK (by kernel_rfl) (zv (f:=FJ)) ok_q56
def Q2:j4:=⟨28,[.v r5],[.v .bool],ID,zog ID⟩
def C_q158:Cx:=⟨bm,[Ok.entry,RK.entry,QO.entry],false,Gl⟩
def e_q158:EV C_q158 g9 Tryz.f28 [.v r5] [.v .bool] ID:=by intro xs;kernel_rfl
def akH:CO Q2:=con_ok (Ls:=[]) mixed (ei _ _) (aaW _ (fk_q56 _ (aid _ nF))) Tryz.func28 loopsL_nil boxesL_none e_q158
def aip (fns:List (Nat×List Ab.Mode×(List Arg→Option Res))){dp:Bool}(h:eN Tryz.prog Gb ⟨bm,fns,dp,Gl⟩):eN Tryz.prog Gb ⟨bm,Q2.entry::fns,dp,Gl⟩:=h.cons Q2 (by kernel_rfl) (zv (f:=ID)) akH
def QN:j4:=⟨29,[.v .str],[.v .bool],Iu,zog Iu⟩
def Y7:Cx:=⟨bm,[HL.entry],false,Gl⟩
def UR:bZ:=oP ⟨[(6,.leaf I6),(0,.leaf .str),(5,.leaf I6)],[]⟩ [(.ret,⟨[(2,.leaf .bool)],[]⟩),((.exit 0),⟨[(0,.leaf .str)],[]⟩)] ad0 JV
def abX:LT:=[(2,UR)]
def am1:∀x,round Y7 abX (iY Tryz.f29 0) UR x=JV x:=by intro x;kernel_rfl
def e_q119:EV Y7 abX Tryz.f29 [.v .str] [.v .bool] Iu:=by intro xs;kernel_rfl
def aj6:CO QN:=con_ok (Ls:=[UR]) mixed (ei _ _) (MD _ nF) Tryz.func29 (loopsC (loopD_ok am1) loopsL_nil) boxesL_none e_q119
def aic (fns:List (Nat×List Ab.Mode×(List Arg→Option Res))){dp:Bool}(h:eN Tryz.prog Gb ⟨bm,fns,dp,Gl⟩):eN Tryz.prog Gb ⟨bm,QN.entry::fns,dp,Gl⟩:=h.cons QN (by kernel_rfl) (zv (f:=Iu)) aj6
def Rl:j4:=⟨54,[.v fk,.v I6],[.v .str,.v .bool],q22,zog q22⟩
def C_q22:Cx:=⟨bm,[],false,Gl⟩
def UX:bZ:=oP ⟨[(11,.leaf I6),(1,.leaf I6),(9,.leaf (.lst gv)),(10,.leaf I6)],[]⟩ [(.ret,⟨[(4,.leaf .str),(5,.leaf .bool)],[]⟩),((.exit 0),⟨[],[]⟩)] afm LQ
def acw:LT:=[(2,UX)]
def am6:∀x,round C_q22 acw (iY Tryz.f54 0) UX x=LQ x:=by intro x;kernel_rfl
def e_q22:EV C_q22 acw Tryz.f54 [.v fk,.v I6] [.v .str,.v .bool] q22:=by intro xs;kernel_rfl
def ok_q22:CO Rl:=con_ok (Ls:=[UX]) mixed (ei _ _) nF Tryz.func54 (loopsC (loopD_ok am6) loopsL_nil) boxesL_none e_q22
def fk_q22 (fns:List (Nat×List Ab.Mode×(List Arg→Option Res))){dp:Bool}(h:eN Tryz.prog Gb ⟨bm,fns,dp,Gl⟩):eN Tryz.prog Gb ⟨bm,Rl.entry::fns,dp,Gl⟩:=h.cons Rl (by kernel_rfl) (zv (f:=q22)) ok_q22
def Rj:j4:=⟨46,[.v fk],[.v I6],Wh.q2,zog Wh.q2⟩
def C_q2:Cx:=⟨bm,[Rl.entry],false,Gl⟩
def UY:bZ:=oP ⟨[(3,.leaf I6),(1,.aR z0 [])],[(z0,false,.var fk (.leaf fk))]⟩ [((.exit 0),⟨[(3,.leaf I6)],[]⟩)] afo LR
def lt_q2:LT:=[(2,UY)]
def am7:∀x,round C_q2 lt_q2 (iY Tryz.f46 0) UY x=LR x:=by intro x;kernel_rfl
def e_q2:EV C_q2 lt_q2 Tryz.f46 [.v fk] [.v I6] Wh.q2:=by intro xs;kernel_rfl
def ok_q2:CO Rj:=con_ok (Ls:=[UY]) mixed (ei _ _) (fk_q22 _ nF) Tryz.func46 (loopsC (loopD_ok am7) loopsL_nil) boxesL_none e_q2
def fk_q2 (fns:List (Nat×List Ab.Mode×(List Arg→Option Res))){dp:Bool}(h:eN Tryz.prog Gb ⟨bm,fns,dp,Gl⟩):eN Tryz.prog Gb ⟨bm,Rj.entry::fns,dp,Gl⟩:=h.cons Rj (by kernel_rfl) (zv (f:=Wh.q2)) ok_q2
def Rx:j4:=⟨30,[.v r5],[.v .bool],Wh.q4,zog Wh.q4⟩
def C_q4:Cx:=⟨bm,[Rj.entry],false,Gl⟩
def e_q4:EV C_q4 g9 Tryz.f30 [.v r5] [.v .bool] Wh.q4:=by intro xs;kernel_rfl
def ok_q4:CO Rx:=con_ok (Ls:=[]) mixed (ei _ _) (fk_q2 _ nF) Tryz.func30 loopsL_nil boxesL_none e_q4
def fk_q4 (fns:List (Nat×List Ab.Mode×(List Arg→Option Res))){dp:Bool}(h:eN Tryz.prog Gb ⟨bm,fns,dp,Gl⟩):eN Tryz.prog Gb ⟨bm,Rx.entry::fns,dp,Gl⟩:=h.cons Rx (by kernel_rfl) (zv (f:=Wh.q4)) ok_q4
def Oo:j4:=⟨10,[.v bn],[.v .bool],Gx,zog Gx⟩
def C_q55:Cx:=⟨bm,[Rx.entry,QN.entry,Q2.entry,Q4.entry,HL.entry,RL.entry],false,Gl⟩
def e_q55:EV C_q55 g9 Tryz.f10 [.v bn] [.v .bool] Gx:=by intro xs;kernel_rfl
def ok_q55:CO Oo:=con_ok (Ls:=[]) mixed (ei _ _) (fk_q4 _ (aic _ (aip _ (air _ (MD _ (fk_q57 _ nF)))))) Tryz.func10 loopsL_nil boxesL_none e_q55
def aa0 (fns:List (Nat×List Ab.Mode×(List Arg→Option Res))){dp:Bool}(h:eN Tryz.prog Gb ⟨bm,fns,dp,Gl⟩):eN Tryz.prog Gb ⟨bm,Oo.entry::fns,dp,Gl⟩:=h.cons Oo (by kernel_rfl) (zv (f:=Gx)) ok_q55
def QB:j4:=⟨22,[.v bn],[.v (.own eL)],Wh.q0,zog Wh.q0⟩
def C_q0:Cx:=⟨bm,[],false,Gl⟩
def e_q0:EV C_q0 g9 Tryz.f22 [.v bn] [.v (.own eL)] Wh.q0:=by intro xs;kernel_rfl
def ok_q0:CO QB:=con_ok (Ls:=[]) mixed (ei _ _) nF Tryz.func22 loopsL_nil boxesL_none e_q0
def fk_q0 (fns:List (Nat×List Ab.Mode×(List Arg→Option Res))){dp:Bool}(h:eN Tryz.prog Gb ⟨bm,fns,dp,Gl⟩):eN Tryz.prog Gb ⟨bm,QB.entry::fns,dp,Gl⟩:=h.cons QB (by kernel_rfl) (zv (f:=Wh.q0)) ok_q0
def Rk:j4:=⟨7,[.v bn],[.v (.own eL)],q20,zog q20⟩
def C_q20:Cx:=⟨bm,[QB.entry,Oo.entry],false,Gl⟩
def e_q20:EV C_q20 g9 Tryz.f7 [.v bn] [.v (.own eL)] q20:=by intro xs;kernel_rfl
def ok_q20:CO Rk:=con_ok (Ls:=[]) mixed (ei _ _) (fk_q0 _ (aa0 _ nF)) Tryz.func7 loopsL_nil boxesL_none e_q20
def fk_q20 (fns:List (Nat×List Ab.Mode×(List Arg→Option Res))){dp:Bool}(h:eN Tryz.prog Gb ⟨bm,fns,dp,Gl⟩):eN Tryz.prog Gb ⟨bm,Rk.entry::fns,dp,Gl⟩:=h.cons Rk (by kernel_rfl) (zv (f:=q20)) ok_q20
def QS:j4:=⟨8,[.v (.lst eL),.v (.lst eL)],[.v .bool],Gq,zog Gq⟩
def Y9:Cx:=⟨bm,[Jg.entry],false,Gl⟩
def U0:bZ:=oP ⟨[(5,.leaf I6),(0,.leaf (.lst eL)),(1,.leaf (.lst eL))],[]⟩ [(.ret,⟨[(4,.leaf .bool)],[]⟩),((.exit 0),⟨[],[]⟩)] ad4 Na
def abZ:LT:=[(4,U0)]
def am9:∀x,round Y9 abZ (iY Tryz.f8 0) U0 x=Na x:=by intro x;kernel_rfl
def e_q123:EV Y9 abZ Tryz.f8 [.v (.lst eL),.v (.lst eL)] [.v .bool] Gq:=by intro xs;kernel_rfl
def aj9:CO QS:=con_ok (Ls:=[U0]) mixed (ei _ _) (OP _ nF) Tryz.func8 (loopsC (loopD_ok am9) loopsL_nil) boxesL_none e_q123
def aie (fns:List (Nat×List Ab.Mode×(List Arg→Option Res))){dp:Bool}(h:eN Tryz.prog Gb ⟨bm,fns,dp,Gl⟩):eN Tryz.prog Gb ⟨bm,QS.entry::fns,dp,Gl⟩:=h.cons QS (by kernel_rfl) (zv (f:=Gq)) aj9
def K_q5:j4:=⟨3,[.v (.lst I8)],[.v .bool],Wh.q5,zog Wh.q5⟩
def C_q5:Cx:=⟨bm,[HN.entry,Oo.entry,QS.entry,Ol.entry,Rk.entry,QC.entry],false,Gl⟩
def e_q5:EV C_q5 g9 Tryz.f3 [.v (.lst I8)] [.v .bool] Wh.q5:=by intro xs;kernel_rfl
def ok_q5:CO K_q5:=con_ok (Ls:=[]) mixed (ei _ _) (MG _ (aa0 _ (aie _ (aaX _ (fk_q20 _ (fk_q1 _ nF)))))) Tryz.func3 loopsL_nil boxesL_none e_q5
end
end Go.Proofs.Walk
