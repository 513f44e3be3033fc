import Derived.Test.YthanhdmbelbfcaaGreatX10
import Derived.Test.YthanhdmbelbfcaaGreatProg
import Derived.KernelRfl
set_option linter.defProp false
namespace Wh
end Wh
open Wh
open Go Go.Ab
namespace Go.Proofs.Walk
noncomputable section
def De:List (Nat×TI):=[(2,⟨(.int .i64),0⟩),(3,⟨(.int .i64),0⟩),(4,⟨.bool,0⟩),(5,⟨(.int .u8),0⟩),(6,⟨(.int .u8),0⟩),(7,⟨T0,1⟩),(8,⟨T0,1⟩),(9,⟨.str,0⟩),(10,⟨.str,0⟩),(11,⟨.str,0⟩),(12,⟨(.int .u64),0⟩),(13,⟨T1,0⟩),(14,⟨T1,0⟩),(21,⟨(.int .i32),0⟩),(247,⟨(.int .i32),0⟩),(246,⟨(.int .i32),0⟩),(245,⟨(.ref (.int .u8)),0⟩),(243,⟨(.int .u8),0⟩),(242,⟨(.int .u8),0⟩),(91,⟨(.int .u32),0⟩),(22,⟨(.lst (.int .u8)),0⟩),(23,⟨(.lst (.int .i64)),0⟩),(24,⟨gh,0⟩),(25,⟨gh,0⟩),(92,⟨gv,0⟩),(93,⟨gv,0⟩),(26,⟨(.lst gv),0⟩),(27,⟨e_,0⟩),(28,⟨e_,0⟩),(29,⟨x4,0⟩),(30,⟨x4,0⟩),(31,⟨bm,0⟩),(32,⟨bm,0⟩),(38,⟨ei,1⟩),(39,⟨ei,1⟩),(34,⟨(.lst ei),0⟩),(79,⟨dj,0⟩),(80,⟨dj,0⟩),(49,⟨(.ref dj),0⟩),(60,⟨(.lst .str),0⟩),(103,⟨an,1⟩),(104,⟨an,1⟩),(64,⟨(.lst an),0⟩),(65,⟨g7,0⟩),(66,⟨g7,0⟩),(174,⟨b8,1⟩),(175,⟨b8,1⟩),(67,⟨(.lst b8),0⟩),(68,⟨mb,0⟩),(69,⟨mb,0⟩),(132,⟨cw,1⟩),(133,⟨cw,1⟩),(70,⟨(.lst cw),0⟩),(155,⟨b9,1⟩),(156,⟨b9,1⟩),(71,⟨(.lst b9),0⟩),(72,⟨b7,0⟩),(73,⟨b7,0⟩),(74,⟨(.lst bm),0⟩),(105,⟨cg,1⟩),(106,⟨cg,1⟩),(75,⟨(.lst cg),0⟩),(76,⟨eL,0⟩),(77,⟨eL,0⟩),(108,⟨di,1⟩),(109,⟨di,1⟩),(99,⟨(.lst di),0⟩),(152,⟨BM,1⟩),(153,⟨BM,1⟩),(148,⟨(.lst BM),0⟩),(229,⟨(.lst (.int .u32)),0⟩),(232,⟨(.int .u64),0⟩)]
def Gl:List (Nat×DV):=[]
abbrev Gb:jN:=jN.none
def gl_ok:∀g d,find Gl g=some d→∀w I,Gb.ok w I→af w I (.ref d.t) d.x [.pointer (some ⟨g,0,none⟩)]:=fun _ _ h=>by simp[Gl,find] at h
def tab_ok:cH (fun x=>(dw Tryz.prog x.2.t).1 x.1&&(!(Nat.beq x.2.e 1) || eqB Tryz.prog x.1)) De=true:=by kernel_rfl
def RW (fns:List (Nat×List Ab.Mode×(List Arg→Option Res)))(dp:Bool):bR Tryz.prog ⟨De,fns,dp,Gl⟩:=cxOk_of tab_ok
def mixed:Tryz.prog.follows .mixedOrders=true:=by kernel_rfl
abbrev FT:Type:=List (Nat×List Ab.Mode×(List Arg→Option Res))
abbrev FK (c:j4):Prop:=∀(fns:FT) {dp:Bool},eN Tryz.prog Gb ⟨De,fns,dp,Gl⟩→eN Tryz.prog Gb ⟨De,c.entry::fns,dp,Gl⟩
abbrev EV (C:Cx)(lt:List (Nat×bZ))(f:Func)(ps:List PT)(ws:List Want)(g:jf ps→Option (kY ws×jW ps)):Prop:=∀xs,evT C lt f ps ws xs=g xs
abbrev CO (c:j4):Prop:=ConOk Tryz.prog Gb c
abbrev LT:Type:=List (Nat×bZ)
def gT:LT:=[]
abbrev z0:Nat:=500000000
abbrev z1:Nat:=500000001
abbrev z2:Nat:=500000002
abbrev z3:Nat:=500000003
abbrev I6:Ty:=.int .i64
abbrev I8:Ty:=.int .u8
abbrev I3:Ty:=.int .u32
def nF:eN Tryz.prog Gb ⟨De,[],false,Gl⟩:=eN.nil De false gl_ok
def lq {C:Cx}{lt:LT}{fn:Func}{k:Nat}{sh:Sh}{ex:fF}{y0:ex.den}{r:sh.den→Option (sh.den⊕ex.den)}{l:List bZ}(h3:lD C lt fn (k+1) l)(h:∀x,round C lt (iY fn k) (oP sh ex y0 r) x=r x:=by intro x;kernel_rfl)(h1:find lt (iH (iY fn k))=some (oP sh ex y0 r):=by kernel_rfl)(h4:(find lt (iH (iY fn k)+500000)).isSome=false:=by kernel_rfl):lD C lt fn k (oP sh ex y0 r::l):=loopsC (loopD_ok h) h3 h1 h4
def zx {α β:Type}[Inhabited β](f:α→Option β):∀x y,f x=some y→zog f x=y:=zv
def wl {c:j4}{F:FT}{b:Bool}{fn:Func}{Ls:List bZ}{lt:LT}(hv:∀x y,c.fn x=some y→c.val x=y)(hF:eN Tryz.prog Gb ⟨De,F,b,Gl⟩)(hf:Tryz.prog.funcs[c.id]?=some fn)(hlo:lD ⟨De,F,b,Gl⟩ lt fn 0 Ls)(hbx:∀b'∈h_ (jh fn),mj ⟨De,F,b,Gl⟩ lt b')(jk:∀xs,evT ⟨De,F,b,Gl⟩ lt fn c.ps c.ws xs=c.fn xs:=by intro xs;kernel_rfl)(he:fnB Tryz.prog c.id=true:=by kernel_rfl):FK c:=fun _ _ h=>h.cons c he hv (con_ok mixed (RW _ _) hF hf hlo hbx jk)
def K_q137:j4:=⟨21,[.v (.lst I8)],[.p dj],Ky,zog Ky⟩
def adL:FK K_q137:=wl (lt:=gT) (zx Ky) nF Tryz.func21 loopsL_nil boxesL_none
def K_q133:j4:=⟨82,[],[.v (.pair (.own b8) (.pair I6 .unit))],HT,zog HT⟩
def WX:FK K_q133:=wl (lt:=gT) (zx HT) nF Tryz.func82 loopsL_nil boxesL_none
def K_q32:j4:=⟨83,[.v I6],[.v (.own cw)],H9,zog H9⟩
def UW:bZ:=oP ⟨[(4,.leaf I6),(0,.leaf I6),(3,.whole z0 cw)],[(z0,false,.rows cw)]⟩ [((.exit 0),⟨[(3,.whole z0 cw)],[(z0,false,.rows cw)]⟩)] aaO Mk
def lt_q32:LT:=[(3,UW)]
def Xg:FK K_q32:=wl (lt:=lt_q32) (Ls:=[UW]) (zx H9) nF Tryz.func83 (lq loopsL_nil) boxesL_none
def K_q40:j4:=⟨72,[],[.v (.pair .bool (.pair I6 (.pair .str (.pair (.pair I6 (.pair (.own an) .unit)) (.pair (.pair (.own b8) (.pair I6 .unit)) (.pair (.own cw) (.pair (.own b9) .unit)))))))],q40,zog q40⟩
def fk_q40:FK K_q40:=wl (lt:=gT) (zx q40) (Xg _ (WX _ nF)) Tryz.func72 loopsL_nil boxesL_none
def Um:j4:=⟨31,[.v I6,.v I6,.v I6],[.v .bool],fN,zog fN⟩
def Ci:FK Um:=wl (lt:=gT) (zx fN) nF Tryz.func31 loopsL_nil boxesL_none
def K_q38:j4:=⟨73,[.v I6],[.v (.pair I6 (.pair I6 (.pair I6 (.pair .str (.pair I6 (.pair (.pair (.pair I6 (.pair I6 (.pair (.own I6) (.pair (.own I6) .unit)))) (.pair (.pair I6 (.pair I6 (.pair (.own gv) .unit))) .unit)) .unit))))))],q38,zog q38⟩
def fk_q38:FK K_q38:=wl (lt:=gT) (zx q38) (Ci _ nF) Tryz.func73 loopsL_nil boxesL_none
def K_q64:j4:=⟨68,[],[.v eL],q64,zog q64⟩
def UO:bZ:=oP ⟨[(2,.leaf I6),(1,.aR z0 []),(0,.aR z1 [])],[(z0,false,.var eL (.pair (.pair (.leaf .bool) (.pair (.leaf I6) (.pair (.leaf .str) (.pair (.pair (.leaf I6) (.pair (.whole z2 an) (.leaf .unit))) (.pair (.pair (.whole z3 b8) (.leaf (.pair I6 .unit))) (.pair (.whole 500000004 cw) (.pair (.whole 500000005 b9) (.leaf .unit)))))))) (.pair (.whole 500000006 bm) (.pair (.whole 500000007 cg) (.pair (.whole 500000008 an) (.leaf .unit)))))),(z1,false,.var eL (.pair (.pair (.leaf .bool) (.pair (.leaf I6) (.pair (.leaf .str) (.pair (.pair (.leaf I6) (.pair (.whole 500000009 an) (.leaf .unit))) (.pair (.pair (.whole 500000010 b8) (.leaf (.pair I6 .unit))) (.pair (.whole 500000011 cw) (.pair (.whole 500000012 b9) (.leaf .unit)))))))) (.pair (.whole 500000013 bm) (.pair (.whole 500000014 cg) (.pair (.whole 500000015 an) (.leaf .unit)))))),(z2,false,.rows an),(z3,false,.rows b8),(500000004,false,.rows cw),(500000005,false,.rows b9),(500000006,false,.rows bm),(500000007,false,.rows cg),(500000008,false,.rows an),(500000009,false,.rows an),(500000010,false,.rows b8),(500000011,false,.rows cw),(500000012,false,.rows b9),(500000013,false,.rows bm),(500000014,false,.rows cg),(500000015,false,.rows an)]⟩ [((.exit 0),⟨[(0,.aR z0 []),(1,.aR z1 [])],[(z0,false,.var eL (.pair (.pair (.leaf .bool) (.pair (.leaf I6) (.pair (.leaf .str) (.pair (.pair (.leaf I6) (.pair (.whole z2 an) (.leaf .unit))) (.pair (.pair (.whole z3 b8) (.leaf (.pair I6 .unit))) (.pair (.whole 500000004 cw) (.pair (.whole 500000005 b9) (.leaf .unit)))))))) (.pair (.whole 500000006 bm) (.pair (.whole 500000007 cg) (.pair (.whole 500000008 an) (.leaf .unit)))))),(z1,false,.var eL (.pair (.pair (.leaf .bool) (.pair (.leaf I6) (.pair (.leaf .str) (.pair (.pair (.leaf I6) (.pair (.whole 500000009 an) (.leaf .unit))) (.pair (.pair (.whole 500000010 b8) (.leaf (.pair I6 .unit))) (.pair (.whole 500000011 cw) (.pair (.whole 500000012 b9) (.leaf .unit)))))))) (.pair (.whole 500000013 bm) (.pair (.whole 500000014 cg) (.pair (.whole 500000015 an) (.leaf .unit)))))),(z2,false,.rows an),(z3,false,.rows b8),(500000004,false,.rows cw),(500000005,false,.rows b9),(500000006,false,.rows bm),(500000007,false,.rows cg),(500000008,false,.rows an),(500000009,false,.rows an),(500000010,false,.rows b8),(500000011,false,.rows cw),(500000012,false,.rows b9),(500000013,false,.rows bm),(500000014,false,.rows cg),(500000015,false,.rows an)]⟩)] abf QA
def lt_q64:LT:=[(3,UO)]
def fk_q64:FK K_q64:=wl (lt:=lt_q64) (Ls:=[UO]) (zx q64) (fk_q38 _ (fk_q40 _ nF)) Tryz.func68 (lq loopsL_nil) boxesL_none
def K_q51:j4:=⟨36,[.p dj,.v I6],[.v I6],m5,zog m5⟩
def JR:FK K_q51:=wl (lt:=gT) (zx m5) nF Tryz.func36 loopsL_nil boxesL_none
def Uj:j4:=⟨37,[.p dj,.v (.lst .str)],[.v .str],LY,zog LY⟩
def adD:FK Uj:=wl (lt:=gT) (zx LY) (JR _ nF) Tryz.func37 loopsL_nil boxesL_none
def K_q65:j4:=⟨74,[.v I6],[.v I6],Cc,zog Cc⟩
def Lv:FK K_q65:=wl (lt:=gT) (zx Cc) nF Tryz.func74 loopsL_nil boxesL_none
def Ui:j4:=⟨75,[.v .bool],[.v I6],Kp,zog Kp⟩
def adB:FK Ui:=wl (lt:=gT) (zx Kp) nF Tryz.func75 loopsL_nil boxesL_none
def K_q74:j4:=⟨76,[.p dj,.v I6],[.v .str],Ib,zog Ib⟩
def Vn:bZ:=oP ⟨[(6,.leaf I6),(0,.aR 900 []),(5,.whole z0 I8),(1,.leaf I6)],[(900,false,.var dj (.leaf dj)),(z0,false,.rows I8)]⟩ [((.exit 0),⟨[(5,.whole z0 I8)],[(900,false,.var dj (.leaf dj)),(z0,false,.rows I8)]⟩)] abl QF
def lt_q74:LT:=[(3,Vn)]
def fk_q74:FK K_q74:=wl (lt:=lt_q74) (Ls:=[Vn]) (zx Ib) (JR _ nF) Tryz.func76 (lq loopsL_nil) boxesL_none
def K_q72:j4:=⟨69,[.p dj,.v eL],[.v di],q72,zog q72⟩
def Hj:Cx:=⟨De,[K_q74.entry,Ui.entry,K_q65.entry,Uj.entry,K_q51.entry],false,Gl⟩
def Vc:bZ:=boxD ⟨[(0,.aR 900 []),(3,.aR z0 []),(4,.aR z1 []),(5,.leaf I6)],[(900,false,.var dj (.leaf dj)),(z0,false,.var eL (.leaf eL)),(z1,false,.var di (.leaf di))]⟩ [(.norm,⟨[(0,.aR 900 []),(3,.aR z0 []),(4,.aR z1 []),(5,.leaf I6)],[(900,false,.var dj (.leaf dj)),(z0,false,.var eL (.leaf eL)),(z1,false,.var di (.leaf di))]⟩)] q11 Qn
def Vd:bZ:=boxD ⟨[(0,.aR 900 []),(7,.leaf I6),(3,.aR z0 []),(4,.aR z1 []),(6,.leaf .str),(5,.leaf I6)],[(900,false,.var dj (.leaf dj)),(z0,false,.var eL (.leaf eL)),(z1,false,.var di (.leaf di))]⟩ [(.norm,⟨[(4,.aR z0 []),(0,.aR 900 []),(7,.leaf I6),(6,.leaf .str),(5,.leaf I6),(3,.aR z1 [])],[(900,false,.var dj (.leaf dj)),(z0,false,.var di (.leaf di)),(z1,false,.var eL (.leaf eL))]⟩)] q12 Qo
def Ve:bZ:=oP ⟨[(8,.leaf I6),(0,.aR 900 []),(7,.leaf I6),(3,.aR z0 []),(4,.aR z1 []),(6,.leaf .str),(5,.leaf I6)],[(900,false,.var dj (.leaf dj)),(z0,false,.var eL (.leaf eL)),(z1,false,.var di (.leaf di))]⟩ [((.exit 0),⟨[(4,.aR z0 []),(0,.aR 900 []),(7,.leaf I6),(6,.leaf .str),(5,.leaf I6),(3,.aR z1 [])],[(900,false,.var dj (.leaf dj)),(z0,false,.var di (.leaf di)),(z1,false,.var eL (.leaf eL))]⟩)] abh Ok
def Vf:bZ:=boxD ⟨[(4,.aR z0 []),(0,.aR 900 []),(7,.leaf I6),(6,.leaf .str),(5,.leaf I6),(3,.aR z1 [])],[(900,false,.var dj (.leaf dj)),(z0,false,.var di (.leaf di)),(z1,false,.var eL (.leaf eL))]⟩ [(.ret,⟨[(4,.aR z0 [])],[(900,false,.var dj (.leaf dj)),(z0,false,.var di (.leaf di))]⟩),(.norm,⟨[(4,.aR z0 []),(0,.aR 900 []),(6,.leaf .str),(7,.leaf I6),(5,.leaf I6)],[(900,false,.var dj (.leaf dj)),(z0,false,.var di (.leaf di))]⟩)] q13 Qp
def Vg:bZ:=boxD ⟨[(4,.aR z0 []),(0,.aR 900 []),(6,.leaf .str),(7,.leaf I6),(5,.leaf I6),(100,.leaf I6)],[(900,false,.var dj (.leaf dj)),(z0,false,.var di (.leaf di))]⟩ [(.norm,⟨[(101,.leaf .bool),(4,.aR z0 []),(0,.aR 900 []),(6,.leaf .str),(7,.leaf I6),(5,.leaf I6),(100,.leaf I6)],[(900,false,.var dj (.leaf dj)),(z0,false,.var di (.leaf di))]⟩)] q14 Qq
def Vh:bZ:=boxD ⟨[(4,.aR z0 []),(6,.leaf .str),(7,.leaf I6),(0,.aR 900 []),(5,.leaf I6),(100,.leaf I6)],[(900,false,.var dj (.leaf dj)),(z0,false,.var di (.leaf di))]⟩ [(.norm,⟨[(131,.leaf .bool),(4,.aR z0 []),(6,.leaf .str),(7,.leaf I6),(0,.aR 900 []),(5,.leaf I6),(100,.leaf I6)],[(900,false,.var dj (.leaf dj)),(z0,false,.var di (.leaf di))]⟩)] q15 Qs
def Vi:bZ:=boxD ⟨[(4,.aR z0 []),(0,.aR 900 []),(5,.leaf I6),(6,.leaf .str),(100,.leaf I6)],[(900,false,.var dj (.leaf dj)),(z0,false,.var di (.leaf di))]⟩ [(.norm,⟨[(148,.leaf .bool),(4,.aR z0 []),(0,.aR 900 []),(5,.leaf I6),(6,.leaf .str),(100,.leaf I6)],[(900,false,.var dj (.leaf dj)),(z0,false,.var di (.leaf di))]⟩)] q16 Qt
def Vj:bZ:=boxD ⟨[(4,.aR z0 []),(0,.aR 900 []),(5,.leaf I6),(6,.leaf .str),(100,.leaf I6)],[(900,false,.var dj (.leaf dj)),(z0,false,.var di (.leaf di))]⟩ [(.norm,⟨[(158,.leaf .bool),(4,.aR z0 []),(0,.aR 900 []),(5,.leaf I6),(6,.leaf .str),(100,.leaf I6)],[(900,false,.var dj (.leaf dj)),(z0,false,.var di (.leaf di))]⟩)] q17 Qu
def Vk:bZ:=boxD ⟨[(4,.aR z0 []),(5,.leaf I6),(100,.leaf I6)],[(900,false,.var dj (.leaf dj)),(z0,false,.var di (.leaf di))]⟩ [(.norm,⟨[(201,.leaf .bool),(4,.aR z0 []),(5,.leaf I6),(100,.leaf I6)],[(900,false,.var dj (.leaf dj)),(z0,false,.var di (.leaf di))]⟩)] q18 Qv
def Vl:bZ:=boxD ⟨[(4,.aR z0 []),(5,.leaf I6),(100,.leaf I6)],[(900,false,.var dj (.leaf dj)),(z0,false,.var di (.leaf di))]⟩ [(.norm,⟨[(205,.leaf .bool),(4,.aR z0 []),(5,.leaf I6)],[(900,false,.var dj (.leaf dj)),(z0,false,.var di (.leaf di))]⟩)] q19 Qx
def GM:LT:=[(2000002,Vc),(2000006,Vd),(8,Ve),(2000013,Vf),(2000017,Vg),(2000023,Vh),(2000031,Vi),(2000040,Vj),(2000052,Vk),(2000055,Vl)]
def ahT:∀x,boxR Hj GM (qD Tryz.f69 2) Vc x=q11 x:=by intro x;kernel_rfl
def ahU:∀x,boxR Hj GM (qD Tryz.f69 6) Vd x=q12 x:=by intro x;kernel_rfl
def ahV:∀x,boxR Hj GM (qD Tryz.f69 14) Vf x=q13 x:=by intro x;kernel_rfl
def ahW:∀x,boxR Hj GM (qD Tryz.f69 20) Vg x=q14 x:=by intro x;kernel_rfl
def ahX:∀x,boxR Hj GM (qD Tryz.f69 26) Vh x=q15 x:=by intro x;kernel_rfl
def ahY:∀x,boxR Hj GM (qD Tryz.f69 34) Vi x=q16 x:=by intro x;kernel_rfl
def ahZ:∀x,boxR Hj GM (qD Tryz.f69 43) Vj x=q17 x:=by intro x;kernel_rfl
def ah0:∀x,boxR Hj GM (qD Tryz.f69 55) Vk x=q18 x:=by intro x;kernel_rfl
def ah1:∀x,boxR Hj GM (qD Tryz.f69 58) Vl x=q19 x:=by intro x;kernel_rfl
def fk_q72:FK K_q72:=wl (lt:=GM) (Ls:=[Ve]) (zx q72) (fk_q74 _ (adB _ (Lv _ (adD _ (JR _ nF))))) Tryz.func69 (lq loopsL_nil) (boxes_of (ks:=[2,6,14,20,26,34,43,55,58]) (by kernel_rfl) (boxesL_cons (by kernel_rfl) ahT q11_v (boxesL_cons (by kernel_rfl) ahU q12_v (boxesL_cons (by kernel_rfl) ahV q13_v (boxesL_cons (by kernel_rfl) ahW q14_v (boxesL_cons (by kernel_rfl) ahX q15_v (boxesL_cons (by kernel_rfl) ahY q16_v (boxesL_cons (by kernel_rfl) ahZ q17_v (boxesL_cons (by kernel_rfl) ah0 q18_v (boxesL_cons (by kernel_rfl) ah1 q19_v boxesL_nil))))))))))
def K_q154:j4:=⟨80,[.v g7],[.v (.pair I6 (.pair (.own an) .unit))],GX,zog GX⟩
def Sa:FK K_q154:=wl (lt:=gT) (zx GX) nF Tryz.func80 loopsL_nil boxesL_none
def K_q88:j4:=⟨81,[.v mb],[.v (.pair (.own b8) (.pair I6 .unit))],Gg,zog Gg⟩
def Pr:FK K_q88:=wl (lt:=gT) (zx Gg) nF Tryz.func81 loopsL_nil boxesL_none
def K_q93:j4:=⟨71,[.v b7],[.v (.pair .bool (.pair I6 (.pair .str (.pair (.pair I6 (.pair (.own an) .unit)) (.pair (.pair (.own b8) (.pair I6 .unit)) (.pair (.own cw) (.pair (.own b9) .unit)))))))],Fu,zog Fu⟩
def Lw:FK K_q93:=wl (lt:=gT) (zx Fu) (Pr _ (Sa _ nF)) Tryz.func71 loopsL_nil boxesL_none
def K_q149:j4:=⟨63,[.v gh],[.v (.pair I6 (.pair I6 (.pair (.own I6) (.pair (.own I6) .unit))))],HW,zog HW⟩
def W9:FK K_q149:=wl (lt:=gT) (zx HW) nF Tryz.func63 loopsL_nil boxesL_none
def K_q139:j4:=⟨64,[.v e_],[.v (.pair I6 (.pair I6 (.pair (.own gv) .unit)))],Je,zog Je⟩
def VD:bZ:=oP ⟨[(4,.leaf I6),(3,.aR z0 []),(1,.aR z1 []),(2,.aR z2 [])],[(z0,false,.var e_ (.pair (.leaf I6) (.pair (.leaf I6) (.pair (.whole z3 gv) (.leaf .unit))))),(z1,false,.var e_ (.leaf e_)),(z2,false,.var e_ (.pair (.leaf I6) (.pair (.leaf I6) (.pair (.whole 500000004 gv) (.leaf .unit))))),(z3,false,.rows gv),(500000004,false,.rows gv)]⟩ [((.exit 0),⟨[(2,.aR z0 []),(3,.aR z1 [])],[(z0,false,.var e_ (.pair (.leaf I6) (.pair (.leaf I6) (.pair (.whole z2 gv) (.leaf .unit))))),(z1,false,.var e_ (.pair (.leaf I6) (.pair (.leaf I6) (.pair (.whole z3 gv) (.leaf .unit))))),(z2,false,.rows gv),(z3,false,.rows gv)]⟩)] ZB L6
def afe:LT:=[(3,VD)]
def W4:FK K_q139:=wl (lt:=afe) (Ls:=[VD]) (zx Je) nF Tryz.func64 (lq loopsL_nil) boxesL_none
def K_q148:j4:=⟨51,[.v x4],[.v (.pair (.pair I6 (.pair I6 (.pair (.own I6) (.pair (.own I6) .unit)))) (.pair (.pair I6 (.pair I6 (.pair (.own gv) .unit))) .unit))],KB,zog KB⟩
def W8:FK K_q148:=wl (lt:=gT) (zx KB) (W4 _ (W9 _ nF)) Tryz.func51 loopsL_nil boxesL_none
def K_q103:j4:=⟨39,[.v bm],[.v (.pair I6 (.pair I6 (.pair I6 (.pair .str (.pair I6 (.pair (.pair (.pair I6 (.pair I6 (.pair (.own I6) (.pair (.own I6) .unit)))) (.pair (.pair I6 (.pair I6 (.pair (.own gv) .unit))) .unit)) .unit))))))],GR,zog GR⟩
def Ph:FK K_q103:=wl (lt:=gT) (zx GR) (W8 _ nF) Tryz.func39 loopsL_nil boxesL_none
def K_q107:j4:=⟨67,[.v eL],[.v (.pair b7 (.pair (.own bm) (.pair (.own cg) (.pair (.own an) .unit))))],HR,zog HR⟩
def U6:bZ:=oP ⟨[(4,.leaf I6),(3,.aR z0 []),(1,.aR z1 []),(2,.aR z2 [])],[(z0,false,.var eL (.pair (.pair (.leaf .bool) (.pair (.leaf I6) (.pair (.leaf .str) (.pair (.pair (.leaf I6) (.pair (.whole z3 an) (.leaf .unit))) (.pair (.pair (.whole 500000004 b8) (.leaf (.pair I6 .unit))) (.pair (.whole 500000005 cw) (.pair (.whole 500000006 b9) (.leaf .unit)))))))) (.pair (.whole 500000007 bm) (.pair (.whole 500000008 cg) (.pair (.whole 500000009 an) (.leaf .unit)))))),(z1,false,.var eL (.leaf eL)),(z2,false,.var eL (.pair (.pair (.leaf .bool) (.pair (.leaf I6) (.pair (.leaf .str) (.pair (.pair (.leaf I6) (.pair (.whole 500000010 an) (.leaf .unit))) (.pair (.pair (.whole 500000011 b8) (.leaf (.pair I6 .unit))) (.pair (.whole 500000012 cw) (.pair (.whole 500000013 b9) (.leaf .unit)))))))) (.pair (.whole 500000014 bm) (.pair (.whole 500000015 cg) (.pair (.whole 500000016 an) (.leaf .unit)))))),(z3,false,.rows an),(500000004,false,.rows b8),(500000005,false,.rows cw),(500000006,false,.rows b9),(500000007,false,.rows bm),(500000008,false,.rows cg),(500000009,false,.rows an),(500000010,false,.rows an),(500000011,false,.rows b8),(500000012,false,.rows cw),(500000013,false,.rows b9),(500000014,false,.rows bm),(500000015,false,.rows cg),(500000016,false,.rows an)]⟩ [((.exit 0),⟨[(2,.aR z0 []),(3,.aR z1 [])],[(z0,false,.var eL (.pair (.pair (.leaf .bool) (.pair (.leaf I6) (.pair (.leaf .str) (.pair (.pair (.leaf I6) (.pair (.whole z2 an) (.leaf .unit))) (.pair (.pair (.whole z3 b8) (.leaf (.pair I6 .unit))) (.pair (.whole 500000004 cw) (.pair (.whole 500000005 b9) (.leaf .unit)))))))) (.pair (.whole 500000006 bm) (.pair (.whole 500000007 cg) (.pair (.whole 500000008 an) (.leaf .unit)))))),(z1,false,.var eL (.pair (.pair (.leaf .bool) (.pair (.leaf I6) (.pair (.leaf .str) (.pair (.pair (.leaf I6) (.pair (.whole 500000009 an) (.leaf .unit))) (.pair (.pair (.whole 500000010 b8) (.leaf (.pair I6 .unit))) (.pair (.whole 500000011 cw) (.pair (.whole 500000012 b9) (.leaf .unit)))))))) (.pair (.whole 500000013 bm) (.pair (.whole 500000014 cg) (.pair (.whole 500000015 an) (.leaf .unit)))))),(z2,false,.rows an),(z3,false,.rows b8),(500000004,false,.rows cw),(500000005,false,.rows b9),(500000006,false,.rows bm),(500000007,false,.rows cg),(500000008,false,.rows an),(500000009,false,.rows an),(500000010,false,.rows b8),(500000011,false,.rows cw),(500000012,false,.rows b9),(500000013,false,.rows bm),(500000014,false,.rows cg),(500000015,false,.rows an)]⟩)] Y0 Ql
def ae2:LT:=[(3,U6)]
def WO:FK K_q107:=wl (lt:=ae2) (Ls:=[U6]) (zx HR) (Ph _ (Lw _ nF)) Tryz.func67 (lq loopsL_nil) boxesL_none
def K_q150:j4:=⟨118,[.v .str,.v I6,.v I8],[.v I6],Cs,zog Cs⟩
def VW:bZ:=oP ⟨[(7,.leaf I6),(2,.leaf I8),(0,.leaf .str)],[]⟩ [(.ret,⟨[(6,.leaf I6)],[]⟩),((.exit 0),⟨[],[]⟩)] ZN F3
def afk:LT:=[(2,VW)]
def R_:FK K_q150:=wl (lt:=afk) (Ls:=[VW]) (zx Cs) nF Tryz.func118 (lq loopsL_nil) boxesL_none
def K_q145:j4:=⟨119,[.v .str,.v I8],[.v (.own .str)],DG,zog DG⟩
def VO:bZ:=oP ⟨[(7,.leaf I6),(6,.leaf I6),(0,.leaf .str),(5,.whole z0 .str),(1,.leaf I8)],[(z0,false,.rows .str)]⟩ [((.exit 0),⟨[(6,.leaf I6),(0,.leaf .str),(5,.whole z0 .str)],[(z0,false,.rows .str)]⟩)] ZH DH
def afh:LT:=[(4,VO)]
def Pk:FK K_q145:=wl (lt:=afh) (Ls:=[VO]) (zx DG) nF Tryz.func119 (lq loopsL_nil) boxesL_none
def K_q182:j4:=⟨120,[.v .str],[.v I6],Ay,zog Ay⟩
def VR:bZ:=oP ⟨[(4,.leaf I6),(0,.leaf .str),(3,.leaf I6)],[]⟩ [(.ret,⟨[(2,.leaf I6)],[]⟩),((.exit 0),⟨[(3,.leaf I6)],[]⟩)] aaw Mg
def afC:LT:=[(5,VR)]
def Nr:FK K_q182:=wl (lt:=afC) (Ls:=[VR]) (zx Ay) (Ci _ nF) Tryz.func120 (lq loopsL_nil) boxesL_none
def K_q129:j4:=⟨34,[.v .str],[.v .bool],DT,zog DT⟩
def UC:bZ:=oP ⟨[(3,.leaf I6),(0,.leaf .str)],[]⟩ [(.ret,⟨[(2,.leaf .bool)],[]⟩),((.exit 0),⟨[(0,.leaf .str)],[]⟩)] Zo Fm
def afa:LT:=[(2,UC)]
def Pj:FK K_q129:=wl (lt:=afa) (Ls:=[UC]) (zx DT) (Ci _ nF) Tryz.func34 (lq loopsL_nil) boxesL_none
def K_q132:j4:=⟨23,[.v ei],[.v .bool],EA,zog EA⟩
def Np:FK K_q132:=wl (lt:=gT) (zx EA) (Pj _ (Ci _ nF)) Tryz.func23 loopsL_nil boxesL_none
def Rx:j4:=⟨139,[.v I6],[.v .str],z9,zog z9⟩
def M4 (g:((Int))→Option (((List UInt8))×(Unit)))(g':((Int))→((List UInt8))×(Unit)):j4:=⟨139,[.v I6],[.v .str],g,g'⟩
def C_q171 (g:((Int))→Option (((List UInt8))×(Unit)))(g':((Int))→((List UInt8))×(Unit)):Cx:=⟨De,[(M4 g g').entry],false,Gl⟩
def e_q171 (g:((Int))→Option (((List UInt8))×(Unit)))(g':((Int))→((List UInt8))×(Unit)):∀xs,evT (C_q171 g g') gT Tryz.f139 [.v I6] [.v .str] xs=q36 g g' xs:=by intro xs;kernel_rfl
def s_q171 (g:((Int))→Option (((List UInt8))×(Unit)))(g':((Int))→((List UInt8))×(Unit))(hv:∀x y,g x=some y→g' x=y)(h:CO (M4 g g')):CO (M4 (q36 g g') (fun x=>match q36 g g' x with | some y=>y|none=>default)):=con_ok (Ls:=[]) mixed (RW _ _) (eN.cons nF (M4 g g') (by kernel_rfl) hv h) Tryz.func139 loopsL_nil boxesL_none (e_q171 g g')
def n_q171 (n:Nat):CO (M4 (EU n) (fun x=>match EU n x with | some y=>y|none=>default)):=by
 induction n with
 |zero=>intro xs y h;exact absurd (show none=some y from h) (by simp)
 |succ n ih=>
  rw[Tx n]
  exact s_q171 _ _ (fun x y h=>by simp only[h]) ih
def afY:CO Rx:=n_q171 20
def Lr:FK Rx:=fun _ _ h=>h.cons Rx (by kernel_rfl) (zx z9) afY
def K_q117:j4:=⟨125,[.v ei],[.v .str],L1,zog L1⟩
def adF:FK K_q117:=wl (lt:=gT) (zx L1) (Lr _ nF) Tryz.func125 loopsL_nil boxesL_none
def K_q184:j4:=⟨126,[.v .str],[.v .str],KO,zog KO⟩
def VX:bZ:=oP ⟨[(4,.leaf I6),(0,.leaf .str),(3,.leaf I6)],[]⟩ [((.exit 0),⟨[(3,.leaf I6)],[]⟩)] aay Qw
def VY:bZ:=oP ⟨[(5,.leaf .str)],[]⟩ [((.exit 2),⟨[(5,.leaf .str)],[]⟩)] aaA Oh
def afD:LT:=[(3,VX),(7,VY)]
def ad7:FK K_q184:=wl (lt:=afD) (Ls:=[VX,VY]) (zx KO) (Lr _ nF) Tryz.func126 (lq (lq loopsL_nil)) boxesL_none
def K_q43:j4:=⟨99,[.v ei],[.v .str],H_,zog H_⟩
def Xh:FK K_q43:=wl (lt:=gT) (zx H_) (ad7 _ (adF _ (Np _ nF))) Tryz.func99 loopsL_nil boxesL_none
def K_q63:j4:=⟨95,[.v .str],[.v ei,.v .bool],q63,zog q63⟩
def fk_q63:FK K_q63:=wl (lt:=gT) (zx q63) (Xh _ (Np _ (Nr _ (Pk _ (R_ _ nF))))) Tryz.func95 loopsL_nil boxesL_none
def K_q77:j4:=⟨185,[.v .str],[.v (.own I8)],q77,zog q77⟩
def Vt:bZ:=oP ⟨[(3,.whole z0 I8),(0,.leaf .str)],[(z0,false,.rows I8)]⟩ [((.exit 0),⟨[(3,.whole z0 I8),(0,.leaf .str)],[(z0,false,.rows I8)]⟩)] abn Mp
def Vu:bZ:=oP ⟨[(5,.leaf I6),(4,.leaf I6),(3,.whole z0 I8)],[(z0,false,.rows I8)]⟩ [((.exit 2),⟨[(3,.whole z0 I8)],[(z0,false,.rows I8)]⟩)] abp Ol
def lt_q77:LT:=[(2,Vt),(6,Vu)]
def fk_q77:FK K_q77:=wl (lt:=lt_q77) (Ls:=[Vt,Vu]) (zx q77) nF Tryz.func185 (lq (lq loopsL_nil)) boxesL_none
def K_q138:j4:=⟨189,[.v I3,.v I6],[.v I3],w8,zog w8⟩
def W3:FK K_q138:=wl (lt:=gT) (zx w8) nF Tryz.func189 loopsL_nil boxesL_none
def K_q114:j4:=⟨187,[.v (.lst I8)],[.v (.own I3)],LZ,zog LZ⟩
def Vx:bZ:=oP ⟨[(4,.leaf I6),(0,.leaf (.lst I8)),(3,.whole z0 I3)],[(z0,false,.rows I3)]⟩ [((.exit 0),⟨[(3,.whole z0 I3)],[(z0,false,.rows I3)]⟩)] Za Oc
def Vy:bZ:=oP ⟨[(5,.leaf I6),(3,.whole z0 I3)],[(z0,false,.rows I3)]⟩ [((.exit 2),⟨[(3,.whole z0 I3)],[(z0,false,.rows I3)]⟩)] Zc Od
def ae5:LT:=[(3,Vx),(7,Vy)]
def adE:FK K_q114:=wl (lt:=ae5) (Ls:=[Vx,Vy]) (zx LZ) (W3 _ nF) Tryz.func187 (lq (lq loopsL_nil)) boxesL_none
def K_q76:j4:=⟨188,[],[.v (.own I3)],q76,zog q76⟩
def fk_q76:FK K_q76:=wl (lt:=gT) (zx q76) nF Tryz.func188 loopsL_nil boxesL_none
def K_q111:j4:=⟨186,[.v (.lst I3),.v (.lst I8)],[.v (.own I3)],Kq,zog Kq⟩
def Vo:bZ:=oP ⟨[(7,.whole z0 I3),(8,.leaf I6),(5,.whole z1 I3),(6,.whole z2 I3),(0,.leaf (.lst I3))],[(z0,false,.rows I3),(z1,false,.rows I3),(z2,false,.rows I3)]⟩ [((.exit 0),⟨[(7,.whole z0 I3),(0,.leaf (.lst I3))],[(z0,false,.rows I3)]⟩)] Y6 Ob
def Vp:bZ:=oP ⟨[(14,.leaf I6),(7,.whole z0 I3),(5,.whole z1 I3),(6,.whole z2 I3),(0,.leaf (.lst I3)),(8,.leaf I6),(13,.leaf I3),(12,.leaf I3),(11,.leaf I3)],[(z0,false,.rows I3),(z1,false,.rows I3),(z2,false,.rows I3)]⟩ [((.exit 2),⟨[(7,.whole z0 I3),(5,.whole z1 I3),(6,.whole z2 I3),(0,.leaf (.lst I3)),(8,.leaf I6),(13,.leaf I3),(12,.leaf I3),(11,.leaf I3)],[(z0,false,.rows I3),(z1,false,.rows I3),(z2,false,.rows I3)]⟩)] Tv Tu
def Vq:bZ:=oP ⟨[(16,.leaf I6),(7,.whole z0 I3),(0,.leaf (.lst I3)),(15,.whole z1 I3)],[(z0,false,.rows I3),(z1,false,.rows I3)]⟩ [((.exit 4),⟨[(15,.whole z0 I3)],[(z0,false,.rows I3)]⟩)] Y9 Tw
def ae4:LT:=[(5,Vo),(13,Vp),(20,Vq)]
def adC:FK K_q111:=wl (lt:=ae4) (Ls:=[Vo,Vp,Vq]) (zx Kq) (W3 _ (fk_q76 _ (adE _ nF))) Tryz.func186 (lq (lq (lq loopsL_nil))) boxesL_none
def K_q173:j4:=⟨183,[.v .str],[.v .str],KJ,zog KJ⟩
def Vv:bZ:=oP ⟨[(5,.leaf I6),(4,.whole z0 I8),(3,.whole z1 I3)],[(z0,false,.rows I8),(z1,false,.rows I3)]⟩ [((.exit 0),⟨[(3,.whole z0 I3)],[(z0,false,.rows I3)]⟩)] aaa Ma
def Vw:bZ:=oP ⟨[(7,.leaf I6),(3,.whole z0 I3),(6,.whole z1 I8)],[(z0,false,.rows I3),(z1,false,.rows I8)]⟩ [((.exit 2),⟨[(6,.whole z0 I8)],[(z0,false,.rows I8)]⟩)] aac Tz
def aft:LT:=[(4,Vv),(9,Vw)]
def ad1:FK K_q173:=wl (lt:=aft) (Ls:=[Vv,Vw]) (zx KJ) (adC _ (fk_q77 _ nF)) Tryz.func183 (lq (lq loopsL_nil)) boxesL_none
def K_q172:j4:=⟨182,[.v .str],[.v .str],H7,zog H7⟩
def Vr:bZ:=oP ⟨[(4,.leaf I6),(0,.leaf .str),(3,.whole z0 I8)],[(z0,false,.rows I8)]⟩ [((.exit 0),⟨[(3,.whole z0 I8)],[(z0,false,.rows I8)]⟩)] Z9 L_
def afs:LT:=[(3,Vr)]
def ad0:FK K_q172:=wl (lt:=afs) (Ls:=[Vr]) (zx H7) nF Tryz.func182 (lq loopsL_nil) boxesL_none
def K_q84:j4:=⟨174,[.v .str],[.v .str],q84,zog q84⟩
def fk_q84:FK K_q84:=wl (lt:=gT) (zx q84) (ad0 _ (ad1 _ nF)) Tryz.func174 loopsL_nil boxesL_none
def K_q151:j4:=⟨159,[.v I6,.v .str],[.v .str],HX,zog HX⟩
def W_:FK K_q151:=wl (lt:=gT) (zx HX) (fk_q84 _ (Lr _ nF)) Tryz.func159 loopsL_nil boxesL_none
def K_q152:j4:=⟨148,[.v .str,.v I6,.v I6],[.v .str,.v I6],Ji,zog Ji⟩
def adQ:FK K_q152:=wl (lt:=gT) (zx Ji) (W_ _ (Ci _ (Nr _ (R_ _ nF)))) Tryz.func148 loopsL_nil boxesL_none
def K_q153:j4:=⟨116,[.v .str],[.v (.own .str),.v I6],Fp,zog Fp⟩
def VZ:bZ:=oP ⟨[(5,.leaf I6),(4,.whole z0 .str),(0,.leaf .str)],[(z0,false,.rows .str)]⟩ [(.ret,⟨[(2,.whole z0 .str),(3,.leaf I6)],[(z0,false,.rows .str)]⟩)] ZP L7
def afl:LT:=[(3,VZ)]
def Nq:FK K_q153:=wl (lt:=afl) (Ls:=[VZ]) (zx Fp) (adQ _ nF) Tryz.func116 (lq loopsL_nil) boxesL_none
def K_q189:j4:=⟨134,[.v an],[.v .bool],G0,zog G0⟩
def Sj:FK K_q189:=wl (lt:=gT) (zx G0) (Pj _ (Ci _ nF)) Tryz.func134 loopsL_nil boxesL_none
def K_q37:j4:=⟨103,[.v I6,.v .str,.v .str],[.v .str],EY,zog EY⟩
def Pp:FK K_q37:=wl (lt:=gT) (zx EY) (Lr _ (Sj _ nF)) Tryz.func103 loopsL_nil boxesL_none
def K_q156:j4:=⟨157,[.v an,.v I6,.v .str],[.v .bool],Jj,zog Jj⟩
def Xa:FK K_q156:=wl (lt:=gT) (zx Jj) nF Tryz.func157 loopsL_nil boxesL_none
def K_q118:j4:=⟨136,[.v (.lst an),.v I6],[.v I6],I_,zog I_⟩
def V1:bZ:=oP ⟨[(6,.leaf I6),(0,.leaf (.lst an)),(5,.leaf I6),(1,.leaf I6)],[]⟩ [((.exit 0),⟨[(5,.leaf I6)],[]⟩)] Zg Kr
def ae7:LT:=[(3,V1)]
def WQ:FK K_q118:=wl (lt:=ae7) (Ls:=[V1]) (zx I_) nF Tryz.func136 (lq loopsL_nil) boxesL_none
def K_q162:j4:=⟨133,[.v g7],[.v .bool],HZ,zog HZ⟩
def Ux:bZ:=oP ⟨[(1,.aR z0 []),(3,.leaf I6)],[(z0,false,.var g7 (.leaf g7))]⟩ [(.ret,⟨[(2,.leaf .bool)],[]⟩),((.exit 0),⟨[(1,.aR z0 [])],[(z0,false,.var g7 (.leaf g7))]⟩)] ZV KE
def Uy:bZ:=oP ⟨[(5,.leaf I6),(4,.aR z0 []),(1,.aR z1 []),(3,.leaf I6)],[(z0,false,.var an (.leaf an)),(z1,false,.var g7 (.leaf g7))]⟩ [(.ret,⟨[(2,.leaf .bool)],[]⟩),((.exit 2),⟨[(1,.aR z0 []),(3,.leaf I6)],[(z0,false,.var g7 (.leaf g7))]⟩)] ZX L9
def Uz:bZ:=oP ⟨[(6,.leaf I6),(1,.aR z0 [])],[(z0,false,.var g7 (.leaf g7))]⟩ [(.ret,⟨[(2,.leaf .bool)],[]⟩),((.exit 4),⟨[],[]⟩)] ZZ Og
def afo:LT:=[(4,Ux),(10,Uy),(15,Uz)]
def Sd:FK K_q162:=wl (lt:=afo) (Ls:=[Ux,Uy,Uz]) (zx HZ) (WQ _ (Xa _ (Sj _ (Ci _ nF)))) Tryz.func133 (lq (lq (lq loopsL_nil))) boxesL_none
def K_q188:j4:=⟨135,[.v g7,.v I6,.v .str],[.v I6],F9,zog F9⟩
def V0:bZ:=oP ⟨[(7,.leaf I6),(2,.leaf .str),(3,.aR z0 []),(1,.leaf I6)],[(z0,false,.var g7 (.leaf g7))]⟩ [(.ret,⟨[(6,.leaf I6)],[]⟩),((.exit 0),⟨[],[]⟩)] aaG KQ
def afG:LT:=[(2,V0)]
def Si:FK K_q188:=wl (lt:=afG) (Ls:=[V0]) (zx F9) nF Tryz.func135 (lq loopsL_nil) boxesL_none
def K_q157:j4:=⟨167,[.v g7,.v I6],[.v (.pair I6 (.pair (.own an) .unit))],L8,zog L8⟩
def adR:FK K_q157:=wl (lt:=gT) (zx L8) nF Tryz.func167 loopsL_nil boxesL_none
def K_q82:j4:=⟨147,[.v g7,.v I6,.v .str],[.v (.pair I6 (.pair (.own an) .unit)),.v I6],Ic,zog Ic⟩
def fk_q82:FK K_q82:=wl (lt:=gT) (zx Ic) (adR _ (Sa _ (Si _ (Sd _ nF)))) Tryz.func147 loopsL_nil boxesL_none
def K_q185:j4:=⟨137,[.v g7,.v an],[.v (.pair I6 (.pair (.own an) .unit))],Mh,zog Mh⟩
def V3:bZ:=oP ⟨[(5,.leaf I6),(4,.aR z0 []),(2,.aR z1 []),(3,.aR z2 [])],[(z0,false,.var g7 (.pair (.leaf I6) (.pair (.whole z3 an) (.leaf .unit)))),(z1,false,.var g7 (.leaf g7)),(z2,false,.var an (.leaf an)),(z3,false,.rows an)]⟩ [((.exit 0),⟨[(4,.aR z0 []),(5,.leaf I6),(2,.aR z1 []),(3,.aR z2 [])],[(z0,false,.var g7 (.pair (.leaf I6) (.pair (.whole z3 an) (.leaf .unit)))),(z1,false,.var g7 (.leaf g7)),(z2,false,.var an (.leaf an)),(z3,false,.rows an)]⟩)] aaC KP
def afE:LT:=[(2,V3)]
def ad8:FK K_q185:=wl (lt:=afE) (Ls:=[V3]) (zx Mh) (Xa _ nF) Tryz.func137 (lq loopsL_nil) boxesL_none
def K_q125:j4:=⟨101,[.v g7,.v I6,.v .str,.v .str],[.v (.pair I6 (.pair (.own an) .unit)),.v I6],F1,zog F1⟩
def WU:FK K_q125:=wl (lt:=gT) (zx F1) (ad8 _ (WQ _ (Si _ (Sa _ (Sj _ (Sd _ nF)))))) Tryz.func101 loopsL_nil boxesL_none
def K_q155:j4:=⟨114,[.v g7,.v .str],[.v (.pair I6 (.pair (.own an) .unit)),.v .bool],F4,zog F4⟩
def Sb:FK K_q155:=wl (lt:=gT) (zx F4) (WU _ (fk_q82 _ (Pp _ (Nr _ (Pk _ (R_ _ nF)))))) Tryz.func114 loopsL_nil boxesL_none
def K_q161:j4:=⟨117,[.v (.lst .str)],[.v (.pair I6 (.pair (.own an) .unit)),.v .bool],Jm,zog Jm⟩
def Uw:bZ:=oP ⟨[(2,.aR z0 []),(5,.leaf I6),(4,.aR z1 []),(0,.leaf (.lst .str))],[(z0,false,.var g7 (.pair (.leaf I6) (.pair (.whole z2 an) (.leaf .unit)))),(z1,false,.var g7 (.pair (.leaf I6) (.pair (.whole z3 an) (.leaf .unit)))),(z2,false,.rows an),(z3,false,.rows an)]⟩ [(.ret,⟨[(2,.aR z0 []),(3,.leaf .bool)],[(z0,false,.var g7 (.pair (.leaf I6) (.pair (.whole z1 an) (.leaf .unit)))),(z1,false,.rows an)]⟩),((.exit 0),⟨[(2,.aR z0 []),(4,.aR z1 [])],[(z0,false,.var g7 (.pair (.leaf I6) (.pair (.whole z2 an) (.leaf .unit)))),(z1,false,.var g7 (.pair (.leaf I6) (.pair (.whole z3 an) (.leaf .unit)))),(z2,false,.rows an),(z3,false,.rows an)]⟩)] ZT KD
def afn:LT:=[(3,Uw)]
def Sc:FK K_q161:=wl (lt:=afn) (Ls:=[Uw]) (zx Jm) (Sb _ nF) Tryz.func117 (lq loopsL_nil) boxesL_none
def K_q99:j4:=⟨127,[.v b7],[.v .bool],q99,zog q99⟩
def fk_q99:FK K_q99:=wl (lt:=gT) (zx q99) (Sc _ (Nq _ nF)) Tryz.func127 loopsL_nil boxesL_none
def K_q98:j4:=⟨128,[.v g7,.v g7],[.v .bool],Ih,zog Ih⟩
def UZ:bZ:=oP ⟨[(5,.leaf I6),(3,.aR z0 []),(2,.aR z1 [])],[(z0,false,.var g7 (.leaf g7)),(z1,false,.var g7 (.leaf g7))]⟩ [(.ret,⟨[(4,.leaf .bool)],[]⟩),((.exit 0),⟨[],[]⟩)] abL K0
def lt_q98:LT:=[(4,UZ)]
def fk_q98:FK K_q98:=wl (lt:=lt_q98) (Ls:=[UZ]) (zx Ih) nF Tryz.func128 (lq loopsL_nil) boxesL_none
def K_q167:j4:=⟨155,[.v b8],[.v .bool],Jo,zog Jo⟩
def adX:FK K_q167:=wl (lt:=gT) (zx Jo) (Ci _ nF) Tryz.func155 loopsL_nil boxesL_none
def K_q166:j4:=⟨156,[.v mb,.v I6],[.v I6],KG,zog KG⟩
def UR:bZ:=oP ⟨[(6,.leaf I6),(5,.leaf I6),(1,.leaf I6),(2,.aR z0 [])],[(z0,false,.var mb (.leaf mb))]⟩ [((.exit 0),⟨[(5,.leaf I6)],[]⟩)] Z5 KH
def afq:LT:=[(3,UR)]
def Xb:FK K_q166:=wl (lt:=afq) (Ls:=[UR]) (zx KG) nF Tryz.func156 (lq loopsL_nil) boxesL_none
def K_q131:j4:=⟨129,[.v mb],[.v .bool],HS,zog HS⟩
def UE:bZ:=oP ⟨[(1,.aR z0 []),(3,.leaf I6)],[(z0,false,.var mb (.leaf mb))]⟩ [(.ret,⟨[(2,.leaf .bool)],[]⟩),((.exit 0),⟨[(1,.aR z0 [])],[(z0,false,.var mb (.leaf mb))]⟩)] Zt Jc
def UF:bZ:=oP ⟨[(4,.leaf I6),(1,.aR z0 []),(3,.leaf I6)],[(z0,false,.var mb (.leaf mb))]⟩ [(.ret,⟨[(2,.leaf .bool)],[]⟩),((.exit 2),⟨[(1,.aR z0 []),(3,.leaf I6)],[(z0,false,.var mb (.leaf mb))]⟩)] Zv Fo
def UG:bZ:=oP ⟨[(5,.leaf I6),(1,.aR z0 [])],[(z0,false,.var mb (.leaf mb))]⟩ [(.ret,⟨[(2,.leaf .bool)],[]⟩),((.exit 4),⟨[],[]⟩)] Zx Jd
def afc:LT:=[(4,UE),(9,UF),(14,UG)]
def WW:FK K_q131:=wl (lt:=afc) (Ls:=[UE,UF,UG]) (zx HS) (Xb _ (adX _ (Ci _ nF))) Tryz.func129 (lq (lq (lq loopsL_nil))) boxesL_none
def K_q54:j4:=⟨110,[.v g7,.v I6],[.v an,.v .bool],Ga,zog Ga⟩
def V2:bZ:=oP ⟨[(4,.aR z0 []),(6,.leaf I6),(2,.aR z1 []),(1,.leaf I6)],[(z0,false,.var an (.leaf an)),(z1,false,.var g7 (.leaf g7))]⟩ [(.ret,⟨[(4,.aR z0 []),(5,.leaf .bool)],[(z0,false,.var an (.leaf an))]⟩),((.exit 0),⟨[(4,.aR z0 [])],[(z0,false,.var an (.leaf an))]⟩)] aa0 KT
def lt_q54:LT:=[(2,V2)]
def Pq:FK K_q54:=wl (lt:=lt_q54) (Ls:=[V2]) (zx Ga) nF Tryz.func110 (lq loopsL_nil) boxesL_none
def K_q45:j4:=⟨130,[.v b7],[.v .bool],q45,zog q45⟩
def U0:bZ:=oP ⟨[(3,.leaf I6),(1,.aR z0 [])],[(z0,false,.var b7 (.leaf b7))]⟩ [(.ret,⟨[(2,.leaf .bool)],[]⟩),((.exit 0),⟨[],[]⟩)] aaU Jr
def lt_q45:LT:=[(2,U0)]
def fk_q45:FK K_q45:=wl (lt:=lt_q45) (Ls:=[U0]) (zx q45) (Lv _ (Pq _ (Ci _ nF))) Tryz.func130 (lq loopsL_nil) boxesL_none
def K_q116:j4:=⟨49,[.v gh],[.v I6],Bf,zog Bf⟩
def Hx:FK K_q116:=wl (lt:=gT) (zx Bf) nF Tryz.func49 loopsL_nil boxesL_none
def K_q181:j4:=⟨131,[.v I6],[.v (.pair I6 (.pair I6 (.pair (.own I6) (.pair (.own I6) .unit))))],Cb,zog Cb⟩
def VP:bZ:=oP ⟨[(3,.aR z0 []),(2,.aR z1 [])],[(z0,false,.var gh (.pair (.leaf I6) (.pair (.leaf I6) (.pair (.whole z2 I6) (.pair (.whole z3 I6) (.leaf .unit)))))),(z1,false,.var gh (.pair (.leaf I6) (.pair (.leaf I6) (.pair (.whole 500000004 I6) (.pair (.whole 500000005 I6) (.leaf .unit)))))),(z2,false,.rows I6),(z3,false,.rows I6),(500000004,false,.rows I6),(500000005,false,.rows I6)]⟩ [((.exit 0),⟨[(2,.aR z0 []),(3,.aR z1 [])],[(z0,false,.var gh (.pair (.leaf I6) (.pair (.leaf I6) (.pair (.whole z2 I6) (.pair (.whole z3 I6) (.leaf .unit)))))),(z1,false,.var gh (.pair (.leaf I6) (.pair (.leaf I6) (.pair (.whole 500000004 I6) (.pair (.whole 500000005 I6) (.leaf .unit)))))),(z2,false,.rows I6),(z3,false,.rows I6),(500000004,false,.rows I6),(500000005,false,.rows I6)]⟩)] aau Fs
def afB:LT:=[(2,VP)]
def Pm:FK K_q181:=wl (lt:=afB) (Ls:=[VP]) (zx Cb) (Hx _ nF) Tryz.func131 (lq loopsL_nil) boxesL_none
def K_q58:j4:=⟨132,[.v cw],[.v .bool],q58,zog q58⟩
def fk_q58:FK K_q58:=wl (lt:=gT) (zx q58) (Ci _ nF) Tryz.func132 loopsL_nil boxesL_none
def K_q61:j4:=⟨100,[.v b7],[.v .bool],Gd,zog Gd⟩
def UI:bZ:=oP ⟨[(7,.leaf I6),(1,.aR z0 [])],[(z0,false,.var b7 (.leaf b7))]⟩ [(.ret,⟨[(2,.leaf .bool)],[]⟩),((.exit 0),⟨[(1,.aR z0 [])],[(z0,false,.var b7 (.leaf b7))]⟩)] aa6 Ge
def UJ:bZ:=oP ⟨[(10,.leaf I6),(1,.aR z0 [])],[(z0,false,.var b7 (.leaf b7))]⟩ [(.ret,⟨[(2,.leaf .bool)],[]⟩),((.exit 2),⟨[],[]⟩)] aa8 KU
def lt_q61:LT:=[(10,UI),(16,UJ)]
def Lu:FK K_q61:=wl (lt:=lt_q61) (Ls:=[UI,UJ]) (zx Gd) (fk_q58 _ (Hx _ (Pm _ (Pq _ (fk_q45 _ (WW _ (fk_q98 _ (Sc _ (Nq _ (fk_q99 _ (Ci _ nF))))))))))) Tryz.func100 (lq (lq loopsL_nil)) boxesL_none
def Ul:j4:=⟨109,[.v b7,.v I6],[.v I6],F6,zog F6⟩
def UT:bZ:=oP ⟨[(5,.leaf I6),(1,.leaf I6),(2,.aR z0 [])],[(z0,false,.var b7 (.leaf b7))]⟩ [(.ret,⟨[(4,.leaf I6)],[]⟩),((.exit 0),⟨[],[]⟩)] Z7 Fq
def afr:LT:=[(2,UT)]
def Sf:FK Ul:=wl (lt:=afr) (Ls:=[UT]) (zx F6) nF Tryz.func109 (lq loopsL_nil) boxesL_none
def K_q124:j4:=⟨104,[.v g7,.v I6,.v .str],[.v an,.v .bool],Eb,zog Eb⟩
def WT:FK K_q124:=wl (lt:=gT) (zx Eb) (Sd _ (Si _ nF)) Tryz.func104 loopsL_nil boxesL_none
def K_q34:j4:=⟨111,[.v b7,.v I6],[.v (.pair .bool (.pair I6 (.pair .str (.pair g7 (.pair mb (.pair (.lst cw) (.pair (.own b9) .unit)))))))],G1,zog G1⟩
def U3:bZ:=oP ⟨[(6,.leaf I6),(2,.aR z0 []),(5,.whole z1 b9),(1,.leaf I6),(4,.aR z2 [])],[(z0,false,.var b7 (.leaf b7)),(z1,false,.rows b9),(z2,false,.var b7 (.pair (.leaf .bool) (.pair (.leaf I6) (.pair (.leaf .str) (.pair (.pair (.leaf I6) (.pair (.whole z3 an) (.leaf .unit))) (.pair (.pair (.whole 500000004 b8) (.leaf (.pair I6 .unit))) (.pair (.whole 500000005 cw) (.pair (.whole 500000006 b9) (.leaf .unit))))))))),(z3,false,.rows an),(500000004,false,.rows b8),(500000005,false,.rows cw),(500000006,false,.rows b9)]⟩ [((.exit 0),⟨[(4,.aR z0 []),(2,.aR z1 []),(5,.whole z2 b9)],[(z0,false,.var b7 (.pair (.leaf .bool) (.pair (.leaf I6) (.pair (.leaf .str) (.pair (.pair (.leaf I6) (.pair (.whole z3 an) (.leaf .unit))) (.pair (.pair (.whole 500000004 b8) (.leaf (.pair I6 .unit))) (.pair (.whole 500000005 cw) (.pair (.whole 500000006 b9) (.leaf .unit))))))))),(z1,false,.var b7 (.leaf b7)),(z2,false,.rows b9),(z3,false,.rows an),(500000004,false,.rows b8),(500000005,false,.rows cw),(500000006,false,.rows b9)]⟩)] aaQ KR
def lt_q34:LT:=[(3,U3)]
def Pn:FK K_q34:=wl (lt:=lt_q34) (Ls:=[U3]) (zx G1) nF Tryz.func111 (lq loopsL_nil) boxesL_none
def K_q94:j4:=⟨112,[.v I6,.v I6,.v I6],[.v (.own ei)],q94,zog q94⟩
def Xl:FK K_q94:=wl (lt:=gT) (zx q94) nF Tryz.func112 loopsL_nil boxesL_none
def K_q101:j4:=⟨168,[.v b7,.v b9],[.v (.pair .bool (.pair I6 (.pair .str (.pair g7 (.pair mb (.pair (.lst cw) (.pair (.own b9) .unit)))))))],LW,zog LW⟩
def U2:bZ:=oP ⟨[(5,.leaf I6),(4,.aR z0 []),(2,.aR z1 []),(3,.aR z2 [])],[(z0,false,.var b7 (.pair (.leaf .bool) (.pair (.leaf I6) (.pair (.leaf .str) (.pair (.pair (.leaf I6) (.pair (.whole z3 an) (.leaf .unit))) (.pair (.pair (.whole 500000004 b8) (.leaf (.pair I6 .unit))) (.pair (.whole 500000005 cw) (.pair (.whole 500000006 b9) (.leaf .unit))))))))),(z1,false,.var b7 (.pair (.leaf .bool) (.pair (.leaf I6) (.pair (.leaf .str) (.pair (.leaf g7) (.pair (.leaf mb) (.pair (.leaf (.lst cw)) (.pair (.whole 500000007 b9) (.leaf .unit))))))))),(z2,false,.var b9 (.leaf b9)),(z3,false,.rows an),(500000004,false,.rows b8),(500000005,false,.rows cw),(500000006,false,.rows b9),(500000007,false,.rows b9)]⟩ [((.exit 0),⟨[(4,.aR z0 []),(2,.aR z1 []),(5,.leaf I6),(3,.aR z2 [])],[(z0,false,.var b7 (.pair (.leaf .bool) (.pair (.leaf I6) (.pair (.leaf .str) (.pair (.pair (.leaf I6) (.pair (.whole z3 an) (.leaf .unit))) (.pair (.pair (.whole 500000004 b8) (.leaf (.pair I6 .unit))) (.pair (.whole 500000005 cw) (.pair (.whole 500000006 b9) (.leaf .unit))))))))),(z1,false,.var b7 (.pair (.leaf .bool) (.pair (.leaf I6) (.pair (.leaf .str) (.pair (.leaf g7) (.pair (.leaf mb) (.pair (.leaf (.lst cw)) (.pair (.whole 500000007 b9) (.leaf .unit))))))))),(z2,false,.var b9 (.leaf b9)),(z3,false,.rows an),(500000004,false,.rows b8),(500000005,false,.rows cw),(500000006,false,.rows b9),(500000007,false,.rows b9)]⟩)] YY Kj
def ae1:LT:=[(3,U2)]
def ady:FK K_q101:=wl (lt:=ae1) (Ls:=[U2]) (zx LW) (Pn _ nF) Tryz.func168 (lq loopsL_nil) boxesL_none
def K_q130:j4:=⟨47,[.v gh],[.v .bool],Ec,zog Ec⟩
def UD:bZ:=oP ⟨[(3,.leaf I6),(1,.aR z0 [])],[(z0,false,.var gh (.leaf gh))]⟩ [(.ret,⟨[(2,.leaf .bool)],[]⟩),((.exit 0),⟨[(1,.aR z0 [])],[(z0,false,.var gh (.leaf gh))]⟩)] Zq GW
def afb:LT:=[(4,UD)]
def R9:FK K_q130:=wl (lt:=afb) (Ls:=[UD]) (zx Ec) (Hx _ (Ci _ nF)) Tryz.func47 (lq loopsL_nil) boxesL_none
def K_q146:j4:=⟨171,[.v (.lst I6)],[.v .str],HU,zog HU⟩
def VQ:bZ:=oP ⟨[(4,.leaf I6),(0,.leaf (.lst I6)),(3,.leaf .str)],[]⟩ [((.exit 0),⟨[(3,.leaf .str)],[]⟩)] ZJ Qr
def afi:LT:=[(3,VQ)]
def adO:FK K_q146:=wl (lt:=afi) (Ls:=[VQ]) (zx HU) (Lr _ nF) Tryz.func171 (lq loopsL_nil) boxesL_none
def K_q39:j4:=⟨152,[.v gh],[.v .str],EZ,zog EZ⟩
def Sk:FK K_q39:=wl (lt:=gT) (zx EZ) (adO _ (Lr _ (R9 _ nF))) Tryz.func152 loopsL_nil boxesL_none
def K_q97:j4:=⟨149,[.k (.pair .bool (.pair I6 (.pair .str (.pair (.pair I6 (.pair (.own an) .unit)) (.pair (.pair (.own b8) (.pair I6 .unit)) (.pair (.own cw) (.pair (.own b9) .unit))))))),.v ei],[.v (.pair .bool (.pair I6 (.pair .str (.pair g7 (.pair mb (.pair (.lst cw) (.pair (.own b9) .unit))))))),.v (.own ei)],q97,zog q97⟩
def fk_q97:FK K_q97:=wl (lt:=gT) (zx q97) (Sk _ (Pm _ (ady _ (Xl _ (Pn _ (WT _ (Lv _ (Sf _ nF)))))))) Tryz.func149 loopsL_nil boxesL_none
def K_q95:j4:=⟨121,[.k (.pair .bool (.pair I6 (.pair .str (.pair (.pair I6 (.pair (.own an) .unit)) (.pair (.pair (.own b8) (.pair I6 .unit)) (.pair (.own cw) (.pair (.own b9) .unit))))))),.v ei],[.v (.pair .bool (.pair I6 (.pair .str (.pair g7 (.pair mb (.pair (.lst cw) (.pair (.own b9) .unit))))))),.v (.own ei)],q95,zog q95⟩
def C_q95:Cx:=⟨De,[K_q34.entry,Ul.entry,K_q97.entry],false,Gl⟩
def UX:bZ:=boxD ⟨[(4,.aR z0 []),(2,.aR z1 []),(3,.aR z2 []),(6,.leaf I6)],[(z0,false,.var b7 (.pair (.leaf .bool) (.pair (.leaf I6) (.pair (.leaf .str) (.pair (.pair (.leaf I6) (.pair (.whole z3 an) (.leaf .unit))) (.pair (.pair (.whole 500000004 b8) (.leaf (.pair I6 .unit))) (.pair (.whole 500000005 cw) (.pair (.whole 500000006 b9) (.leaf .unit))))))))),(z1,false,.var b7 (.pair (.leaf .bool) (.pair (.leaf I6) (.pair (.leaf .str) (.pair (.pair (.leaf I6) (.pair (.whole 500000007 an) (.leaf .unit))) (.pair (.pair (.whole 500000008 b8) (.leaf (.pair I6 .unit))) (.pair (.whole 500000009 cw) (.pair (.whole 500000010 b9) (.leaf .unit))))))))),(z2,false,.var ei (.leaf ei)),(z3,false,.rows an),(500000004,false,.rows b8),(500000005,false,.rows cw),(500000006,false,.rows b9),(500000007,false,.rows an),(500000008,false,.rows b8),(500000009,false,.rows cw),(500000010,false,.rows b9)]⟩ [(.norm,⟨[(4,.aR z0 []),(2,.aR z1 [])],[(z0,false,.var b7 (.pair (.leaf .bool) (.pair (.leaf I6) (.pair (.leaf .str) (.pair (.pair (.leaf I6) (.pair (.whole z2 an) (.leaf .unit))) (.pair (.pair (.whole z3 b8) (.leaf (.pair I6 .unit))) (.pair (.whole 500000004 cw) (.pair (.whole 500000005 b9) (.leaf .unit))))))))),(z1,false,.var b7 (.pair (.leaf .bool) (.pair (.leaf I6) (.pair (.leaf .str) (.pair (.leaf g7) (.pair (.leaf mb) (.pair (.leaf (.lst cw)) (.pair (.whole 500000006 b9) (.leaf .unit))))))))),(z2,false,.rows an),(z3,false,.rows b8),(500000004,false,.rows cw),(500000005,false,.rows b9),(500000006,false,.rows b9)]⟩),(.norm,⟨[(4,.aR z0 []),(2,.aR z1 [])],[(z0,false,.var b7 (.pair (.leaf .bool) (.pair (.leaf I6) (.pair (.leaf .str) (.pair (.pair (.leaf I6) (.pair (.whole z2 an) (.leaf .unit))) (.pair (.pair (.whole z3 b8) (.leaf (.pair I6 .unit))) (.pair (.whole 500000004 cw) (.pair (.whole 500000005 b9) (.leaf .unit))))))))),(z1,false,.var b7 (.pair (.leaf .bool) (.pair (.leaf I6) (.pair (.leaf .str) (.pair (.pair (.leaf I6) (.pair (.whole 500000006 an) (.leaf .unit))) (.pair (.pair (.whole 500000007 b8) (.leaf (.pair I6 .unit))) (.pair (.whole 500000008 cw) (.pair (.whole 500000009 b9) (.leaf .unit))))))))),(z2,false,.rows an),(z3,false,.rows b8),(500000004,false,.rows cw),(500000005,false,.rows b9),(500000006,false,.rows an),(500000007,false,.rows b8),(500000008,false,.rows cw),(500000009,false,.rows b9)]⟩)] q33 Qy
def Yc:LT:=[(1000006,UX)]
def ahM:∀x,boxR C_q95 Yc (qD Tryz.f121 8) UX x=q33 x:=by intro x;kernel_rfl
def fk_q95:FK K_q95:=wl (lt:=Yc) (Ls:=[]) (zx q95) (Pn _ (Sf _ (fk_q97 _ nF))) Tryz.func121 loopsL_nil (boxes_of (ks:=[8]) (by kernel_rfl) (boxesL_cons (by kernel_rfl) ahM q33_v boxesL_nil))
def K_q28:j4:=⟨96,[.v b7,.v ei],[.v b7,.v (.own ei)],q28,zog q28⟩
def fk_q28:FK K_q28:=wl (lt:=gT) (zx q28) (fk_q95 _ (Np _ (Lw _ (Lu _ nF)))) Tryz.func96 loopsL_nil boxesL_none
def Rw:j4:=⟨87,[.k (.pair b7 (.pair (.own bm) (.pair (.own cg) (.pair (.own an) .unit)))),.v I6,.v (.lst ei)],[.v (.pair b7 (.pair (.own bm) (.pair (.own cg) (.pair (.own an) .unit))))],GS,zog GS⟩
def C_q109:Cx:=⟨De,[K_q43.entry],false,Gl⟩
def Va:bZ:=oP ⟨[(7,.leaf I6),(3,.aR z0 []),(2,.leaf (.lst ei)),(1,.leaf I6),(6,.aR z1 [])],[(z0,false,.var eL (.pair (.leaf b7) (.pair (.whole z2 bm) (.pair (.whole z3 cg) (.pair (.whole 500000004 an) (.leaf .unit)))))),(z1,false,.var eL (.pair (.pair (.leaf .bool) (.pair (.leaf I6) (.pair (.leaf .str) (.pair (.pair (.leaf I6) (.pair (.whole 500000005 an) (.leaf .unit))) (.pair (.pair (.whole 500000006 b8) (.leaf (.pair I6 .unit))) (.pair (.whole 500000007 cw) (.pair (.whole 500000008 b9) (.leaf .unit)))))))) (.pair (.whole 500000009 bm) (.pair (.whole 500000010 cg) (.pair (.whole 500000011 an) (.leaf .unit)))))),(z2,false,.rows bm),(z3,false,.rows cg),(500000004,false,.rows an),(500000005,false,.rows an),(500000006,false,.rows b8),(500000007,false,.rows cw),(500000008,false,.rows b9),(500000009,false,.rows bm),(500000010,false,.rows cg),(500000011,false,.rows an)]⟩ [((.exit 0),⟨[(6,.aR z0 []),(3,.aR z1 [])],[(z0,false,.var eL (.pair (.pair (.leaf .bool) (.pair (.leaf I6) (.pair (.leaf .str) (.pair (.pair (.leaf I6) (.pair (.whole z2 an) (.leaf .unit))) (.pair (.pair (.whole z3 b8) (.leaf (.pair I6 .unit))) (.pair (.whole 500000004 cw) (.pair (.whole 500000005 b9) (.leaf .unit)))))))) (.pair (.whole 500000006 bm) (.pair (.whole 500000007 cg) (.pair (.whole 500000008 an) (.leaf .unit)))))),(z1,false,.var eL (.pair (.leaf b7) (.pair (.whole 500000009 bm) (.pair (.whole 500000010 cg) (.pair (.whole 500000011 an) (.leaf .unit)))))),(z2,false,.rows an),(z3,false,.rows b8),(500000004,false,.rows cw),(500000005,false,.rows b9),(500000006,false,.rows bm),(500000007,false,.rows cg),(500000008,false,.rows an),(500000009,false,.rows bm),(500000010,false,.rows cg),(500000011,false,.rows an)]⟩)] Y4 LX
def Vb:bZ:=boxD ⟨[(3,.aR z0 []),(2,.leaf (.lst ei)),(1,.leaf I6),(6,.aR z1 []),(7,.leaf I6),(8,.leaf I6)],[(z0,false,.var eL (.pair (.leaf b7) (.pair (.whole z2 bm) (.pair (.whole z3 cg) (.pair (.whole 500000004 an) (.leaf .unit)))))),(z1,false,.var eL (.pair (.pair (.leaf .bool) (.pair (.leaf I6) (.pair (.leaf .str) (.pair (.pair (.leaf I6) (.pair (.whole 500000005 an) (.leaf .unit))) (.pair (.pair (.whole 500000006 b8) (.leaf (.pair I6 .unit))) (.pair (.whole 500000007 cw) (.pair (.whole 500000008 b9) (.leaf .unit)))))))) (.pair (.whole 500000009 bm) (.pair (.whole 500000010 cg) (.pair (.whole 500000011 an) (.leaf .unit)))))),(z2,false,.rows bm),(z3,false,.rows cg),(500000004,false,.rows an),(500000005,false,.rows an),(500000006,false,.rows b8),(500000007,false,.rows cw),(500000008,false,.rows b9),(500000009,false,.rows bm),(500000010,false,.rows cg),(500000011,false,.rows an)]⟩ [(.norm,⟨[(3,.aR z0 []),(2,.leaf (.lst ei)),(1,.leaf I6),(6,.aR z1 []),(7,.leaf I6),(8,.leaf I6)],[(z0,false,.var eL (.pair (.leaf b7) (.pair (.whole z2 bm) (.pair (.whole z3 cg) (.pair (.whole 500000004 an) (.leaf .unit)))))),(z1,false,.var eL (.pair (.pair (.leaf .bool) (.pair (.leaf I6) (.pair (.leaf .str) (.pair (.pair (.leaf I6) (.pair (.whole 500000005 an) (.leaf .unit))) (.pair (.pair (.whole 500000006 b8) (.leaf (.pair I6 .unit))) (.pair (.whole 500000007 cw) (.pair (.whole 500000008 b9) (.leaf .unit)))))))) (.pair (.whole 500000009 bm) (.pair (.whole 500000010 cg) (.pair (.whole 500000011 an) (.leaf .unit)))))),(z2,false,.rows bm),(z3,false,.rows cg),(500000004,false,.rows an),(500000005,false,.rows an),(500000006,false,.rows b8),(500000007,false,.rows cw),(500000008,false,.rows b9),(500000009,false,.rows bm),(500000010,false,.rows cg),(500000011,false,.rows an)]⟩)] q35 Ml
def X_:LT:=[(2,Va),(2000005,Vb)]
def ahS:∀x,boxR C_q109 X_ (qD Tryz.f87 7) Vb x=q35 x:=by intro x;kernel_rfl
def R7:FK Rw:=wl (lt:=X_) (Ls:=[Va]) (zx GS) (Xh _ nF) Tryz.func87 (lq loopsL_nil) (boxes_of (ks:=[7]) (by kernel_rfl) (boxesL_cons (by kernel_rfl) ahS q35_v boxesL_nil))
def K_q106:j4:=⟨32,[.v bm],[.v .bool],Kn,zog Kn⟩
def adz:FK K_q106:=wl (lt:=gT) (zx Kn) nF Tryz.func32 loopsL_nil boxesL_none
def K_q165:j4:=⟨59,[.v (.lst I6),.v I6],[.v .bool],H6,zog H6⟩
def UH:bZ:=oP ⟨[(5,.leaf I6),(0,.leaf (.lst I6)),(1,.leaf I6)],[]⟩ [(.ret,⟨[(4,.leaf .bool)],[]⟩),((.exit 0),⟨[(1,.leaf I6)],[]⟩)] Z3 Jn
def afp:LT:=[(2,UH)]
def adW:FK K_q165:=wl (lt:=afp) (Ls:=[UH]) (zx H6) (Ci _ nF) Tryz.func59 (lq loopsL_nil) boxesL_none
def K_q178:j4:=⟨60,[.v (.lst I6),.v I6],[.v .bool],EC,zog EC⟩
def VF:bZ:=oP ⟨[(5,.leaf I6),(1,.leaf I6),(0,.leaf (.lst I6))],[]⟩ [(.ret,⟨[(4,.leaf .bool)],[]⟩),((.exit 0),⟨[],[]⟩)] aam Md
def afy:LT:=[(2,VF)]
def Sg:FK K_q178:=wl (lt:=afy) (Ls:=[VF]) (zx EC) nF Tryz.func60 (lq loopsL_nil) boxesL_none
def K_q62:j4:=⟨48,[.v e_],[.v .bool],Gf,zog Gf⟩
def UL:bZ:=oP ⟨[(3,.leaf I6),(1,.aR z0 [])],[(z0,false,.var e_ (.leaf e_))]⟩ [(.ret,⟨[(2,.leaf .bool)],[]⟩),((.exit 0),⟨[(1,.aR z0 [])],[(z0,false,.var e_ (.leaf e_))]⟩)] aa_ KV
def UM:bZ:=oP ⟨[(5,.leaf I6),(1,.aR z0 [])],[(z0,false,.var e_ (.leaf e_))]⟩ [(.ret,⟨[(2,.leaf .bool)],[]⟩),((.exit 2),⟨[],[]⟩)] abb Mn
def UN:bZ:=oP ⟨[(6,.leaf I6),(5,.leaf I6),(1,.aR z0 [])],[(z0,false,.var e_ (.leaf e_))]⟩ [(.ret,⟨[(2,.leaf .bool)],[]⟩),((.exit 4),⟨[(1,.aR z0 []),(5,.leaf I6)],[(z0,false,.var e_ (.leaf e_))]⟩)] abd Mo
def lt_q62:LT:=[(4,UL),(10,UM),(13,UN)]
def fk_q62:FK K_q62:=wl (lt:=lt_q62) (Ls:=[UL,UM,UN]) (zx Gf) (Sg _ (adW _ (Ci _ nF))) Tryz.func48 (lq (lq (lq loopsL_nil))) boxesL_none
def K_q163:j4:=⟨33,[.v x4],[.v .bool],F5,zog F5⟩
def Se:FK K_q163:=wl (lt:=gT) (zx F5) (Hx _ (fk_q62 _ (R9 _ nF))) Tryz.func33 loopsL_nil boxesL_none
def K_q83:j4:=⟨35,[.v x4],[.v .bool],E0,zog E0⟩
def Xj:FK K_q83:=wl (lt:=gT) (zx E0) (Hx _ (Se _ nF)) Tryz.func35 loopsL_nil boxesL_none
def K_q59:j4:=⟨11,[.v bm],[.v .bool],DU,zog DU⟩
def Lt:FK K_q59:=wl (lt:=gT) (zx DU) (Xj _ (Pj _ (Se _ (adz _ (Ci _ nF))))) Tryz.func11 loopsL_nil boxesL_none
def K_q105:j4:=⟨122,[.v ei],[.v (.own ei)],Km,zog Km⟩
def WN:FK K_q105:=wl (lt:=gT) (zx Km) nF Tryz.func122 loopsL_nil boxesL_none
def K_q147:j4:=⟨169,[.v .str],[.v (.own I6)],HV,zog HV⟩
def VS:bZ:=oP ⟨[(5,.leaf I6),(4,.whole z0 .str),(3,.whole z1 I6)],[(z0,false,.rows .str),(z1,false,.rows I6)]⟩ [((.exit 0),⟨[(3,.whole z0 I6)],[(z0,false,.rows I6)]⟩)] ZL Of
def afj:LT:=[(4,VS)]
def adP:FK K_q147:=wl (lt:=afj) (Ls:=[VS]) (zx HV) (Nr _ (Pk _ nF)) Tryz.func169 (lq loopsL_nil) boxesL_none
def K_q60:j4:=⟨150,[.v .str],[.v (.pair I6 (.pair I6 (.pair (.own I6) (.pair (.own I6) .unit)))),.v .bool],q60,zog q60⟩
def fk_q60:FK K_q60:=wl (lt:=gT) (zx q60) (Sk _ (adP _ (Nr _ (Pk _ nF)))) Tryz.func150 loopsL_nil boxesL_none
def K_q42:j4:=⟨170,[.v I6,.v I6],[.v (.pair I6 (.pair I6 (.pair (.own gv) .unit)))],q42,zog q42⟩
def fk_q42:FK K_q42:=wl (lt:=gT) (zx q42) (Ci _ nF) Tryz.func170 loopsL_nil boxesL_none
def K_q127:j4:=⟨151,[.v gh],[.v (.pair (.pair I6 (.pair I6 (.pair (.own I6) (.pair (.own I6) .unit)))) (.pair (.pair I6 (.pair I6 (.pair (.own gv) .unit))) .unit))],L4,zog L4⟩
def adK:FK K_q127:=wl (lt:=gT) (zx L4) (fk_q42 _ (Hx _ (W9 _ (R9 _ nF)))) Tryz.func151 loopsL_nil boxesL_none
def K_q46:j4:=⟨123,[.v bm,.v ei],[.v bm],q46,zog q46⟩
def fk_q46:FK K_q46:=wl (lt:=gT) (zx q46) (Sk _ (adK _ (fk_q60 _ nF))) Tryz.func123 loopsL_nil boxesL_none
def K_q177:j4:=⟨179,[.v e_,.v I6],[.v .str,.v .bool],KK,zog KK⟩
def VE:bZ:=oP ⟨[(6,.leaf I6),(2,.aR z0 []),(1,.leaf I6)],[(z0,false,.var e_ (.leaf e_))]⟩ [(.ret,⟨[(4,.leaf .str),(5,.leaf .bool)],[]⟩),((.exit 0),⟨[],[]⟩)] aak Mc
def afx:LT:=[(2,VE)]
def ad4:FK K_q177:=wl (lt:=afx) (Ls:=[VE]) (zx KK) nF Tryz.func179 (lq loopsL_nil) boxesL_none
def K_q78:j4:=⟨172,[.v e_],[.v I6],q78,zog q78⟩
def VH:bZ:=oP ⟨[(3,.leaf I6),(1,.aR z0 [])],[(z0,false,.var e_ (.leaf e_))]⟩ [(.ret,⟨[(2,.leaf I6)],[]⟩)] abr QG
def lt_q78:LT:=[(2,VH)]
def fk_q78:FK K_q78:=wl (lt:=lt_q78) (Ls:=[VH]) (zx q78) (ad4 _ nF) Tryz.func172 (lq loopsL_nil) boxesL_none
def K_q53:j4:=⟨153,[.v x4],[.v I6],q53,zog q53⟩
def VV:bZ:=oP ⟨[(3,.leaf I6),(4,.leaf I6),(1,.aR z0 [])],[(z0,false,.var x4 (.leaf x4))]⟩ [((.exit 0),⟨[(3,.leaf I6)],[]⟩)] aaY Qz
def lt_q53:LT:=[(3,VV)]
def fk_q53:FK K_q53:=wl (lt:=lt_q53) (Ls:=[VV]) (zx q53) (fk_q78 _ nF) Tryz.func153 (lq loopsL_nil) boxesL_none
def K_q143:j4:=⟨175,[.v I6],[.v I6],EX,zog EX⟩
def W6:FK K_q143:=wl (lt:=gT) (zx EX) nF Tryz.func175 loopsL_nil boxesL_none
def K_q144:j4:=⟨177,[.v I6,.v I6],[.v I6],EB,zog EB⟩
def W7:FK K_q144:=wl (lt:=gT) (zx EB) nF Tryz.func177 loopsL_nil boxesL_none
def K_q80:j4:=⟨161,[.v gh,.v I6],[.v I6],G3,zog G3⟩
def VT:bZ:=oP ⟨[(6,.leaf I6),(2,.aR z0 []),(5,.leaf I6),(1,.leaf I6)],[(z0,false,.var gh (.leaf gh))]⟩ [((.exit 0),⟨[(2,.aR z0 []),(5,.leaf I6),(1,.leaf I6)],[(z0,false,.var gh (.leaf gh))]⟩)] abw Jt
def VU:bZ:=oP ⟨[(8,.leaf I6),(2,.aR z0 []),(7,.leaf I6)],[(z0,false,.var gh (.leaf gh))]⟩ [(.ret,⟨[(4,.leaf I6)],[]⟩),((.exit 2),⟨[(2,.aR z0 [])],[(z0,false,.var gh (.leaf gh))]⟩)] aby Ju
def lt_q80:LT:=[(3,VT),(8,VU)]
def fk_q80:FK K_q80:=wl (lt:=lt_q80) (Ls:=[VT,VU]) (zx G3) (Hx _ (W7 _ (W6 _ nF))) Tryz.func161 (lq (lq loopsL_nil)) boxesL_none
def K_q52:j4:=⟨184,[.v I6],[.v (.own I6)],q52,zog q52⟩
def VJ:bZ:=oP ⟨[(5,.leaf I6),(4,.leaf I6),(3,.whole z0 I6),(0,.leaf I6)],[(z0,false,.rows I6)]⟩ [((.exit 0),⟨[(4,.leaf I6),(3,.whole z0 I6)],[(z0,false,.rows I6)]⟩)] aaW Js
def lt_q52:LT:=[(4,VJ)]
def fk_q52:FK K_q52:=wl (lt:=lt_q52) (Ls:=[VJ]) (zx q52) nF Tryz.func184 (lq loopsL_nil) boxesL_none
def K_q79:j4:=⟨176,[.v I6,.v I6],[.v I6],q79,zog q79⟩
def VI:bZ:=oP ⟨[(6,.leaf I6),(5,.whole z0 I6),(1,.leaf I6),(0,.leaf I6)],[(z0,false,.rows I6)]⟩ [(.ret,⟨[(4,.leaf I6)],[]⟩),((.exit 0),⟨[(0,.leaf I6)],[]⟩)] abu KW
def lt_q79:LT:=[(3,VI)]
def fk_q79:FK K_q79:=wl (lt:=lt_q79) (Ls:=[VI]) (zx q79) (fk_q52 _ nF) Tryz.func176 (lq loopsL_nil) boxesL_none
def K_q142:j4:=⟨178,[.v (.lst I6),.v I6],[.v (.own I6)],Jg,zog Jg⟩
def VK:bZ:=oP ⟨[(5,.leaf I6),(0,.leaf (.lst I6)),(1,.leaf I6)],[]⟩ [((.exit 0),⟨[(5,.leaf I6),(0,.leaf (.lst I6)),(1,.leaf I6)],[]⟩)] ZF Jh
def afg:LT:=[(2,VK)]
def adN:FK K_q142:=wl (lt:=afg) (Ls:=[VK]) (zx Jg) nF Tryz.func178 (lq loopsL_nil) boxesL_none
def K_q179:j4:=⟨160,[.v I6,.v I6],[.v (.own I6)],KL,zog KL⟩
def VL:bZ:=oP ⟨[(8,.leaf I6),(7,.whole z0 I6),(5,.leaf I6),(6,.leaf I6),(0,.leaf I6)],[(z0,false,.rows I6)]⟩ [((.exit 0),⟨[(7,.whole z0 I6),(5,.leaf I6),(6,.leaf I6)],[(z0,false,.rows I6)]⟩)] aao Me
def VM:bZ:=oP ⟨[(10,.leaf I6),(7,.whole z0 I6),(9,.whole z1 I6),(5,.leaf I6),(6,.leaf I6)],[(z0,false,.rows I6),(z1,false,.rows I6)]⟩ [((.exit 2),⟨[(9,.whole z0 I6)],[(z0,false,.rows I6)]⟩)] aaq KM
def afz:LT:=[(5,VL),(10,VM)]
def ad5:FK K_q179:=wl (lt:=afz) (Ls:=[VL,VM]) (zx KL) (adN _ (fk_q79 _ (W7 _ (W6 _ nF)))) Tryz.func160 (lq (lq loopsL_nil)) boxesL_none
def K_q183:j4:=⟨142,[.v gh,.v I6],[.v (.own I6)],Ft,zog Ft⟩
def Xd:FK K_q183:=wl (lt:=gT) (zx Ft) (ad5 _ (fk_q80 _ (Hx _ nF))) Tryz.func142 loopsL_nil boxesL_none
def K_q175:j4:=⟨181,[.v (.lst I6),.v (.lst I6)],[.v (.lst I6)],H8,zog H8⟩
def VB:bZ:=oP ⟨[(6,.leaf I6),(0,.leaf (.lst I6)),(5,.whole z0 I6),(7,.leaf I6),(1,.leaf (.lst I6))],[(z0,false,.rows I6)]⟩ [((.exit 0),⟨[(5,.whole z0 I6)],[(z0,false,.rows I6)]⟩)] aag F7
def afv:LT:=[(4,VB)]
def Xc:FK K_q175:=wl (lt:=afv) (Ls:=[VB]) (zx H8) nF Tryz.func181 (lq loopsL_nil) boxesL_none
def K_q115:j4:=⟨165,[.v .str,.v .str],[.v .str],F0,zog F0⟩
def Vz:bZ:=oP ⟨[(6,.leaf I6),(1,.leaf .str),(0,.leaf .str),(5,.whole z0 I8)],[(z0,false,.rows I8)]⟩ [((.exit 0),⟨[(5,.whole z0 I8)],[(z0,false,.rows I8)]⟩)] Ze L0
def ae6:LT:=[(3,Vz)]
def R8:FK K_q115:=wl (lt:=ae6) (Ls:=[Vz]) (zx F0) nF Tryz.func165 (lq loopsL_nil) boxesL_none
def K_q140:j4:=⟨180,[.v e_,.v gv],[.v gv],Kz,zog Kz⟩
def VG:bZ:=oP ⟨[(5,.leaf I6),(3,.aR z0 []),(2,.aR z1 []),(4,.aR z2 [])],[(z0,false,.var gv (.leaf gv)),(z1,false,.var e_ (.leaf e_)),(z2,false,.var gv (.pair (.whole z3 I6) (.leaf (.pair .str .unit)))),(z3,false,.rows I6)]⟩ [((.exit 0),⟨[(4,.aR z0 []),(3,.aR z1 [])],[(z0,false,.var gv (.pair (.whole z2 I6) (.leaf (.pair .str .unit)))),(z1,false,.var gv (.leaf gv)),(z2,false,.rows I6)]⟩)] ZD KA
def aff:LT:=[(2,VG)]
def adM:FK K_q140:=wl (lt:=aff) (Ls:=[VG]) (zx Kz) (R8 _ (Xc _ (Sg _ nF))) Tryz.func180 (lq loopsL_nil) boxesL_none
def K_q136:j4:=⟨164,[.v .str,.v I6],[.v .str],Kx,zog Kx⟩
def Vs:bZ:=oP ⟨[(1,.leaf I6),(0,.leaf .str),(5,.leaf .str)],[]⟩ [((.exit 0),⟨[(5,.leaf .str)],[]⟩)] Zz L5
def afd:LT:=[(2,Vs)]
def W0:FK K_q136:=wl (lt:=afd) (Ls:=[Vs]) (zx Kx) nF Tryz.func164 (lq loopsL_nil) boxesL_none
def K_q141:j4:=⟨166,[.v I6],[.v .str],Jf,zog Jf⟩
def W5:FK K_q141:=wl (lt:=gT) (zx Jf) (W0 _ nF) Tryz.func166 loopsL_nil boxesL_none
def K_q176:j4:=⟨173,[.v e_,.v (.lst I6),.v .str],[.v (.pair I6 (.pair I6 (.pair (.own gv) .unit))),.v I6],GZ,zog GZ⟩
def VC:bZ:=oP ⟨[(12,.leaf I6),(10,.aR z0 []),(8,.aR z1 []),(11,.leaf .bool),(9,.aR z2 []),(6,.aR z3 [])],[(z0,false,.var e_ (.pair (.leaf I6) (.pair (.leaf I6) (.pair (.whole 500000004 gv) (.leaf .unit))))),(z1,false,.var gv (.leaf gv)),(z2,false,.var e_ (.pair (.leaf I6) (.pair (.leaf I6) (.pair (.whole 500000005 gv) (.leaf .unit))))),(z3,false,.var e_ (.pair (.leaf I6) (.pair (.leaf I6) (.pair (.whole 500000006 gv) (.leaf .unit))))),(500000004,false,.rows gv),(500000005,false,.rows gv),(500000006,false,.rows gv)]⟩ [((.exit 0),⟨[(6,.aR z0 []),(10,.aR z1 []),(8,.aR z2 []),(11,.leaf .bool)],[(z0,false,.var e_ (.pair (.leaf I6) (.pair (.leaf I6) (.pair (.whole z3 gv) (.leaf .unit))))),(z1,false,.var e_ (.pair (.leaf I6) (.pair (.leaf I6) (.pair (.whole 500000004 gv) (.leaf .unit))))),(z2,false,.var gv (.leaf gv)),(z3,false,.rows gv),(500000004,false,.rows gv)]⟩)] aai F8
def afw:LT:=[(10,VC)]
def ad3:FK K_q176:=wl (lt:=afw) (Ls:=[VC]) (zx GZ) (R8 _ (Xc _ (Sg _ (W5 _ (W4 _ (adM _ nF)))))) Tryz.func173 (lq loopsL_nil) boxesL_none
def K_q126:j4:=⟨154,[.v x4,.v I6,.v .str],[.v (.pair (.pair I6 (.pair I6 (.pair (.own I6) (.pair (.own I6) .unit)))) (.pair (.pair I6 (.pair I6 (.pair (.own gv) .unit))) .unit)),.v I6],L3,zog L3⟩
def adJ:FK K_q126:=wl (lt:=gT) (zx L3) (ad3 _ (Xd _ (Ci _ (W8 _ (Se _ nF))))) Tryz.func154 loopsL_nil boxesL_none
def K_q104:j4:=⟨98,[.v bm],[.v (.own ei)],Kl,zog Kl⟩
def WM:FK K_q104:=wl (lt:=gT) (zx Kl) nF Tryz.func98 loopsL_nil boxesL_none
def K_q47:j4:=⟨124,[.v bm,.v ei],[.v bm,.v (.own ei)],q47,zog q47⟩
def fk_q47:FK K_q47:=wl (lt:=gT) (zx q47) (WM _ (Xj _ (adJ _ (fk_q53 _ (WN _ nF))))) Tryz.func124 loopsL_nil boxesL_none
def K_q23:j4:=⟨97,[.v bm,.v ei],[.v bm,.v (.own ei)],q23,zog q23⟩
def fk_q23:FK K_q23:=wl (lt:=gT) (zx q23) (fk_q47 _ (fk_q46 _ (WN _ (Np _ (Ph _ (Lt _ nF)))))) Tryz.func97 loopsL_nil boxesL_none
def K_q66:j4:=⟨84,[.k (.pair b7 (.pair (.own bm) (.pair (.own cg) (.pair (.own an) .unit)))),.v di],[.v (.pair b7 (.pair (.own bm) (.pair (.own cg) (.pair (.own an) .unit))))],q66,zog q66⟩
def C_q66:Cx:=⟨De,[K_q23.entry,Rw.entry,K_q28.entry,K_q63.entry],false,Gl⟩
def U4:bZ:=boxD ⟨[(4,.aR z0 []),(2,.aR z1 []),(5,.aR z2 []),(3,.aR z3 [])],[(z0,false,.var eL (.pair (.pair (.leaf .bool) (.pair (.leaf I6) (.pair (.leaf .str) (.pair (.pair (.leaf I6) (.pair (.whole 500000004 an) (.leaf .unit))) (.pair (.pair (.whole 500000005 b8) (.leaf (.pair I6 .unit))) (.pair (.whole 500000006 cw) (.pair (.whole 500000007 b9) (.leaf .unit)))))))) (.pair (.whole 500000008 bm) (.pair (.whole 500000009 cg) (.pair (.whole 500000010 an) (.leaf .unit)))))),(z1,false,.var eL (.pair (.leaf b7) (.pair (.whole 500000011 bm) (.pair (.whole 500000012 cg) (.pair (.whole 500000013 an) (.leaf .unit)))))),(z2,false,.var cg (.leaf cg)),(z3,false,.var di (.leaf di)),(500000004,false,.rows an),(500000005,false,.rows b8),(500000006,false,.rows cw),(500000007,false,.rows b9),(500000008,false,.rows bm),(500000009,false,.rows cg),(500000010,false,.rows an),(500000011,false,.rows bm),(500000012,false,.rows cg),(500000013,false,.rows an)]⟩ [(.norm,⟨[(4,.aR z0 []),(2,.aR z1 []),(5,.aR z2 [])],[(z0,false,.var eL (.pair (.pair (.leaf .bool) (.pair (.leaf I6) (.pair (.leaf .str) (.pair (.pair (.leaf I6) (.pair (.whole z3 an) (.leaf .unit))) (.pair (.pair (.whole 500000004 b8) (.leaf (.pair I6 .unit))) (.pair (.whole 500000005 cw) (.pair (.whole 500000006 b9) (.leaf .unit)))))))) (.pair (.whole 500000007 bm) (.pair (.whole 500000008 cg) (.pair (.whole 500000009 an) (.leaf .unit)))))),(z1,false,.var eL (.pair (.leaf b7) (.pair (.whole 500000010 bm) (.pair (.whole 500000011 cg) (.pair (.whole 500000012 an) (.leaf .unit)))))),(z2,false,.var cg (.leaf cg)),(z3,false,.rows an),(500000004,false,.rows b8),(500000005,false,.rows cw),(500000006,false,.rows b9),(500000007,false,.rows bm),(500000008,false,.rows cg),(500000009,false,.rows an),(500000010,false,.rows bm),(500000011,false,.rows cg),(500000012,false,.rows an)]⟩)] Ms q9'
def Yb:LT:=[(2000002,U4)]
def ahN:∀x,boxR C_q66 Yb (qD Tryz.f84 2) U4 x=Ms x:=by intro x;kernel_rfl
def fk_q66:FK K_q66:=wl (lt:=Yb) (Ls:=[]) (zx q66) (fk_q23 _ (R7 _ (fk_q28 _ (fk_q63 _ nF)))) Tryz.func84 loopsL_nil (boxes_of (ks:=[2]) (by kernel_rfl) (boxesL_cons (by kernel_rfl) ahN q9_v boxesL_nil))
def K_q71:j4:=⟨85,[.v cg,.v I6],[.v cg],q71,zog q71⟩
def fk_q71:FK K_q71:=wl (lt:=gT) (zx q71) nF Tryz.func85 loopsL_nil boxesL_none
def K_q70:j4:=⟨77,[.k (.pair b7 (.pair (.own bm) (.pair (.own cg) (.pair (.own an) .unit)))),.v di],[.v (.pair b7 (.pair (.own bm) (.pair (.own cg) (.pair (.own an) .unit)))),.v .bool],q70,zog q70⟩
def fk_q70:FK K_q70:=wl (lt:=gT) (zx q70) (fk_q71 _ (fk_q66 _ (Ci _ nF))) Tryz.func77 loopsL_nil boxesL_none
def K_q102:j4:=⟨24,[.v bm],[.v (.own ei)],Kk,zog Kk⟩
def R6:FK K_q102:=wl (lt:=gT) (zx Kk) nF Tryz.func24 loopsL_nil boxesL_none
def K_q24:j4:=⟨14,[.v bm,.v .str],[.v (.pair I6 (.pair I6 (.pair I6 (.pair .str (.pair I6 (.pair (.pair (.pair I6 (.pair I6 (.pair (.own I6) (.pair (.own I6) .unit)))) (.pair (.pair I6 (.pair I6 (.pair (.own gv) .unit))) .unit)) .unit)))))),.v (.own ei)],q24,zog q24⟩
def fk_q24:FK K_q24:=wl (lt:=gT) (zx q24) (R6 _ (Ph _ (Pj _ (Lt _ nF)))) Tryz.func14 loopsL_nil boxesL_none
def K_q8:j4:=⟨19,[.v bm],[.v (.pair I6 (.pair I6 (.pair I6 (.pair .str (.pair I6 (.pair (.pair (.pair I6 (.pair I6 (.pair (.own I6) (.pair (.own I6) .unit)))) (.pair (.pair I6 (.pair I6 (.pair (.own gv) .unit))) .unit)) .unit)))))),.v (.own ei)],Mq,zog Mq⟩
def fk_q8:FK K_q8:=wl (lt:=gT) (zx Mq) (R6 _ (Ph _ (Lt _ nF))) Tryz.func19 loopsL_nil boxesL_none
def K_q25:j4:=⟨86,[.v bm],[.v (.pair I6 (.pair I6 (.pair I6 (.pair .str (.pair I6 (.pair (.pair (.pair I6 (.pair I6 (.pair (.own I6) (.pair (.own I6) .unit)))) (.pair (.pair I6 (.pair I6 (.pair (.own gv) .unit))) .unit)) .unit)))))),.v (.own ei)],q25,zog q25⟩
def fk_q25:FK K_q25:=wl (lt:=gT) (zx q25) (WM _ (Lt _ nF)) Tryz.func86 loopsL_nil boxesL_none
def Ry:j4:=⟨9,[.v bm],[.v (.own ei)],F_,zog F_⟩
def Xf:FK Ry:=wl (lt:=gT) (zx F_) (R6 _ (Lt _ nF)) Tryz.func9 loopsL_nil boxesL_none
def K_q48:j4:=⟨78,[.k (.pair b7 (.pair (.own bm) (.pair (.own cg) (.pair (.own an) .unit)))),.v di],[.v (.pair b7 (.pair (.own bm) (.pair (.own cg) (.pair (.own an) .unit)))),.v .bool],q48,zog q48⟩
def C_q48:Cx:=⟨De,[Rw.entry,Ry.entry,K_q25.entry,K_q8.entry,K_q24.entry,Um.entry],false,Gl⟩
def U5:bZ:=boxD ⟨[(4,.aR z0 []),(2,.aR z1 []),(3,.aR z2 []),(6,.aR z3 []),(8,.aR 500000004 [])],[(z0,false,.var eL (.pair (.pair (.leaf .bool) (.pair (.leaf I6) (.pair (.leaf .str) (.pair (.pair (.leaf I6) (.pair (.whole 500000005 an) (.leaf .unit))) (.pair (.pair (.whole 500000006 b8) (.leaf (.pair I6 .unit))) (.pair (.whole 500000007 cw) (.pair (.whole 500000008 b9) (.leaf .unit)))))))) (.pair (.whole 500000009 bm) (.pair (.whole 500000010 cg) (.pair (.whole 500000011 an) (.leaf .unit)))))),(z1,false,.var eL (.pair (.leaf b7) (.pair (.whole 500000012 bm) (.pair (.whole 500000013 cg) (.pair (.whole 500000014 an) (.leaf .unit)))))),(z2,false,.var di (.leaf di)),(z3,false,.var bm (.leaf bm)),(500000004,false,.var bm (.leaf bm)),(500000005,false,.rows an),(500000006,false,.rows b8),(500000007,false,.rows cw),(500000008,false,.rows b9),(500000009,false,.rows bm),(500000010,false,.rows cg),(500000011,false,.rows an),(500000012,false,.rows bm),(500000013,false,.rows cg),(500000014,false,.rows an)]⟩ [(.norm,⟨[(4,.aR z0 []),(7,.whole z1 ei),(2,.aR z2 []),(3,.aR z3 []),(6,.aR 500000004 []),(8,.aR 500000005 [])],[(z0,false,.var eL (.pair (.pair (.leaf .bool) (.pair (.leaf I6) (.pair (.leaf .str) (.pair (.pair (.leaf I6) (.pair (.whole 500000006 an) (.leaf .unit))) (.pair (.pair (.whole 500000007 b8) (.leaf (.pair I6 .unit))) (.pair (.whole 500000008 cw) (.pair (.whole 500000009 b9) (.leaf .unit)))))))) (.pair (.whole 500000010 bm) (.pair (.whole 500000011 cg) (.pair (.whole 500000012 an) (.leaf .unit)))))),(z1,false,.rows ei),(z2,false,.var eL (.pair (.leaf b7) (.pair (.whole 500000013 bm) (.pair (.whole 500000014 cg) (.pair (.whole 500000015 an) (.leaf .unit)))))),(z3,false,.var di (.leaf di)),(500000004,false,.var bm (.leaf bm)),(500000005,false,.var bm (.pair (.leaf I6) (.pair (.leaf I6) (.pair (.leaf I6) (.pair (.leaf .str) (.pair (.leaf I6) (.pair (.pair (.pair (.leaf I6) (.pair (.leaf I6) (.pair (.whole 500000016 I6) (.pair (.whole 500000017 I6) (.leaf .unit))))) (.pair (.pair (.leaf I6) (.pair (.leaf I6) (.pair (.whole 500000018 gv) (.leaf .unit)))) (.leaf .unit))) (.leaf .unit)))))))),(500000006,false,.rows an),(500000007,false,.rows b8),(500000008,false,.rows cw),(500000009,false,.rows b9),(500000010,false,.rows bm),(500000011,false,.rows cg),(500000012,false,.rows an),(500000013,false,.rows bm),(500000014,false,.rows cg),(500000015,false,.rows an),(500000016,false,.rows I6),(500000017,false,.rows I6),(500000018,false,.rows gv)]⟩),(.norm,⟨[(4,.aR z0 []),(7,.whole z1 ei),(2,.aR z2 []),(3,.aR z3 []),(6,.aR 500000004 []),(8,.aR 500000005 [])],[(z0,false,.var eL (.pair (.pair (.leaf .bool) (.pair (.leaf I6) (.pair (.leaf .str) (.pair (.pair (.leaf I6) (.pair (.whole 500000006 an) (.leaf .unit))) (.pair (.pair (.whole 500000007 b8) (.leaf (.pair I6 .unit))) (.pair (.whole 500000008 cw) (.pair (.whole 500000009 b9) (.leaf .unit)))))))) (.pair (.whole 500000010 bm) (.pair (.whole 500000011 cg) (.pair (.whole 500000012 an) (.leaf .unit)))))),(z1,false,.rows ei),(z2,false,.var eL (.pair (.leaf b7) (.pair (.whole 500000013 bm) (.pair (.whole 500000014 cg) (.pair (.whole 500000015 an) (.leaf .unit)))))),(z3,false,.var di (.leaf di)),(500000004,false,.var bm (.leaf bm)),(500000005,false,.var bm (.leaf bm)),(500000006,false,.rows an),(500000007,false,.rows b8),(500000008,false,.rows cw),(500000009,false,.rows b9),(500000010,false,.rows bm),(500000011,false,.rows cg),(500000012,false,.rows an),(500000013,false,.rows bm),(500000014,false,.rows cg),(500000015,false,.rows an)]⟩)] Wh.q6 q6'
def Ya:LT:=[(2000006,U5)]
def ahO:∀x,boxR C_q48 Ya (qD Tryz.f78 7) U5 x=Wh.q6 x:=by intro x;kernel_rfl
def fk_q48:FK K_q48:=wl (lt:=Ya) (Ls:=[]) (zx q48) (R7 _ (Xf _ (fk_q25 _ (fk_q8 _ (fk_q24 _ (Ci _ nF)))))) Tryz.func78 loopsL_nil (boxes_of (ks:=[7]) (by kernel_rfl) (boxesL_cons (by kernel_rfl) ahO q6_v boxesL_nil))
def K_q164:j4:=⟨158,[.v .str],[.v .bool],KF,zog KF⟩
def adV:FK K_q164:=wl (lt:=gT) (zx KF) (Nq _ nF) Tryz.func158 loopsL_nil boxesL_none
def K_q128:j4:=⟨138,[.v .str,.v .str],[.v .str,.v .bool],Kw,zog Kw⟩
def WV:FK K_q128:=wl (lt:=gT) (zx Kw) (W_ _ (Ci _ (adV _ (Nq _ nF)))) Tryz.func138 loopsL_nil boxesL_none
def K_q135:j4:=⟨102,[.v b7,.v .str],[.v b7,.v I6],F2,zog F2⟩
def WZ:FK K_q135:=wl (lt:=gT) (zx F2) (Sb _ (WV _ nF)) Tryz.func102 loopsL_nil boxesL_none
def K_q41:j4:=⟨88,[.v b7,.v I6,.v .str,.v .str],[.v b7,.v I6],q41,zog q41⟩
def fk_q41:FK K_q41:=wl (lt:=gT) (zx q41) (WZ _ (Pp _ (WU _ (Lw _ (Lu _ nF))))) Tryz.func88 loopsL_nil boxesL_none
def K_q108:j4:=⟨89,[.k (.pair b7 (.pair (.own bm) (.pair (.own cg) (.pair (.own an) .unit))))],[.v (.pair b7 (.pair (.own bm) (.pair (.own cg) (.pair (.own an) .unit))))],Ko,zog Ko⟩
def U_:bZ:=oP ⟨[(3,.leaf I6),(1,.aR z0 []),(2,.aR z1 [])],[(z0,false,.var eL (.pair (.leaf b7) (.pair (.whole z2 bm) (.pair (.whole z3 cg) (.pair (.whole 500000004 an) (.leaf .unit)))))),(z1,false,.var eL (.pair (.pair (.leaf .bool) (.pair (.leaf I6) (.pair (.leaf .str) (.pair (.pair (.leaf I6) (.pair (.whole 500000005 an) (.leaf .unit))) (.pair (.pair (.whole 500000006 b8) (.leaf (.pair I6 .unit))) (.pair (.whole 500000007 cw) (.pair (.whole 500000008 b9) (.leaf .unit)))))))) (.pair (.whole 500000009 bm) (.pair (.whole 500000010 cg) (.pair (.whole 500000011 an) (.leaf .unit)))))),(z2,false,.rows bm),(z3,false,.rows cg),(500000004,false,.rows an),(500000005,false,.rows an),(500000006,false,.rows b8),(500000007,false,.rows cw),(500000008,false,.rows b9),(500000009,false,.rows bm),(500000010,false,.rows cg),(500000011,false,.rows an)]⟩ [((.exit 0),⟨[(2,.aR z0 []),(1,.aR z1 [])],[(z0,false,.var eL (.pair (.pair (.leaf .bool) (.pair (.leaf I6) (.pair (.leaf .str) (.pair (.pair (.leaf I6) (.pair (.whole z2 an) (.leaf .unit))) (.pair (.pair (.whole z3 b8) (.leaf (.pair I6 .unit))) (.pair (.whole 500000004 cw) (.pair (.whole 500000005 b9) (.leaf .unit)))))))) (.pair (.whole 500000006 bm) (.pair (.whole 500000007 cg) (.pair (.whole 500000008 an) (.leaf .unit)))))),(z1,false,.var eL (.pair (.leaf b7) (.pair (.whole 500000009 bm) (.pair (.whole 500000010 cg) (.pair (.whole 500000011 an) (.leaf .unit)))))),(z2,false,.rows an),(z3,false,.rows b8),(500000004,false,.rows cw),(500000005,false,.rows b9),(500000006,false,.rows bm),(500000007,false,.rows cg),(500000008,false,.rows an),(500000009,false,.rows bm),(500000010,false,.rows cg),(500000011,false,.rows an)]⟩)] Y2 Qm
def ae3:LT:=[(2,U_)]
def adA:FK K_q108:=wl (lt:=ae3) (Ls:=[U_]) (zx Ko) nF Tryz.func89 (lq loopsL_nil) boxesL_none
def K_q89:j4:=⟨105,[.v mb,.v I6],[.v (.pair (.own b8) (.pair I6 .unit))],q89,zog q89⟩
def UP:bZ:=oP ⟨[(6,.leaf I6),(5,.aR z0 []),(1,.leaf I6),(4,.aR z1 [])],[(z0,false,.var mb (.pair (.whole z2 b8) (.leaf (.pair I6 .unit)))),(z1,false,.var mb (.pair (.whole z3 b8) (.leaf (.pair I6 .unit)))),(z2,false,.rows b8),(z3,false,.rows b8)]⟩ [((.exit 0),⟨[(4,.aR z0 []),(5,.aR z1 [])],[(z0,false,.var mb (.pair (.whole z2 b8) (.leaf (.pair I6 .unit)))),(z1,false,.var mb (.pair (.whole z3 b8) (.leaf (.pair I6 .unit)))),(z2,false,.rows b8),(z3,false,.rows b8)]⟩)] abD Mr
def lt_q89:LT:=[(3,UP)]
def fk_q89:FK K_q89:=wl (lt:=lt_q89) (Ls:=[UP]) (zx q89) (Pr _ nF) Tryz.func105 (lq loopsL_nil) boxesL_none
def K_q30:j4:=⟨90,[.v b7,.v I6,.v .str],[.v b7,.v I6],q30,zog q30⟩
def fk_q30:FK K_q30:=wl (lt:=gT) (zx q30) (fk_q89 _ (WZ _ (Pp _ (WT _ (Lw _ (Lu _ nF)))))) Tryz.func90 loopsL_nil boxesL_none
def K_q168:j4:=⟨106,[.v cw,.v I6],[.v cw],GY,zog GY⟩
def adY:FK K_q168:=wl (lt:=gT) (zx GY) nF Tryz.func106 loopsL_nil boxesL_none
def K_q134:j4:=⟨141,[.v b9],[.v BM],EW,zog EW⟩
def WY:FK K_q134:=wl (lt:=gT) (zx EW) nF Tryz.func141 loopsL_nil boxesL_none
def K_q85:j4:=⟨108,[.v (.lst BM),.v I6],[.v I6],q85,zog q85⟩
def UA:bZ:=oP ⟨[(6,.leaf I6),(5,.leaf I6),(0,.leaf (.lst BM)),(1,.leaf I6)],[]⟩ [(.ret,⟨[(4,.leaf I6)],[]⟩),((.exit 0),⟨[(5,.leaf I6)],[]⟩)] abB KX
def lt_q85:LT:=[(3,UA)]
def Xk:FK K_q85:=wl (lt:=lt_q85) (Ls:=[UA]) (zx q85) (Ci _ nF) Tryz.func108 (lq loopsL_nil) boxesL_none
def K_q92:j4:=⟨140,[.v b7,.v I6],[.v .bool],G4,zog G4⟩
def UU:bZ:=oP ⟨[(6,.leaf I6),(2,.aR z0 []),(5,.whole z1 BM),(1,.leaf I6)],[(z0,false,.var b7 (.leaf b7)),(z1,false,.rows BM)]⟩ [((.exit 0),⟨[(1,.leaf I6),(5,.whole z0 BM),(2,.aR z1 [])],[(z0,false,.rows BM),(z1,false,.var b7 (.leaf b7))]⟩)] abH KZ
def lt_q92:LT:=[(3,UU)]
def fk_q92:FK K_q92:=wl (lt:=lt_q92) (Ls:=[UU]) (zx G4) (Xk _ (WY _ (Lv _ nF))) Tryz.func140 (lq loopsL_nil) boxesL_none
def K_q96:j4:=⟨107,[.v b7],[.v (.own BM)],q96,zog q96⟩
def UY:bZ:=oP ⟨[(4,.leaf I6),(3,.whole z0 BM),(1,.aR z1 [])],[(z0,false,.rows BM),(z1,false,.var b7 (.leaf b7))]⟩ [((.exit 0),⟨[(3,.whole z0 BM)],[(z0,false,.rows BM)]⟩)] abJ Ig
def lt_q96:LT:=[(3,UY)]
def fk_q96:FK K_q96:=wl (lt:=lt_q96) (Ls:=[UY]) (zx q96) (WY _ (Lv _ (fk_q92 _ (Pm _ (Pq _ nF))))) Tryz.func107 (lq loopsL_nil) boxesL_none
def K_q90:j4:=⟨162,[.v mb,.v I6,.v I6],[.v I6],q90,zog q90⟩
def UQ:bZ:=oP ⟨[(7,.leaf I6),(2,.leaf I6),(3,.aR z0 []),(1,.leaf I6)],[(z0,false,.var mb (.leaf mb))]⟩ [(.ret,⟨[(6,.leaf I6)],[]⟩),((.exit 0),⟨[],[]⟩)] abF KY
def lt_q90:LT:=[(2,UQ)]
def fk_q90:FK K_q90:=wl (lt:=lt_q90) (Ls:=[UQ]) (zx q90) nF Tryz.func162 (lq loopsL_nil) boxesL_none
def K_q44:j4:=⟨163,[.k (.pair (.own b8) (.pair I6 .unit)),.v I6],[.v (.pair (.own b8) (.pair I6 .unit)),.v I6],q44,zog q44⟩
def US:bZ:=oP ⟨[(7,.leaf I6),(2,.aR z0 []),(4,.aR z1 []),(1,.leaf I6),(6,.leaf .bool)],[(z0,false,.var mb (.pair (.whole z2 b8) (.leaf (.pair I6 .unit)))),(z1,false,.var mb (.pair (.whole z3 b8) (.leaf (.pair I6 .unit)))),(z2,false,.rows b8),(z3,false,.rows b8)]⟩ [(.ret,⟨[(4,.aR z0 []),(5,.leaf I6)],[(z0,false,.var mb (.pair (.whole z1 b8) (.leaf (.pair I6 .unit)))),(z1,false,.rows b8)]⟩),((.exit 0),⟨[(4,.aR z0 []),(2,.aR z1 [])],[(z0,false,.var mb (.pair (.whole z2 b8) (.leaf (.pair I6 .unit)))),(z1,false,.var mb (.pair (.whole z3 b8) (.leaf (.pair I6 .unit)))),(z2,false,.rows b8),(z3,false,.rows b8)]⟩)] aaS KS
def lt_q44:LT:=[(3,US)]
def fk_q44:FK K_q44:=wl (lt:=lt_q44) (Ls:=[US]) (zx q44) (Xb _ nF) Tryz.func163 (lq loopsL_nil) boxesL_none
def K_q91:j4:=⟨143,[.v mb,.v I6,.v I6,.v I6],[.v (.pair (.own b8) (.pair I6 .unit)),.v I6,.v I6],Ie,zog Ie⟩
def fk_q91:FK K_q91:=wl (lt:=gT) (zx Ie) (fk_q44 _ (fk_q90 _ (Pr _ nF))) Tryz.func143 loopsL_nil boxesL_none
def K_q87:j4:=⟨144,[.v mb,.v I6],[.v (.pair (.own b8) (.pair I6 .unit)),.v .bool],q87,zog q87⟩
def fk_q87:FK K_q87:=wl (lt:=gT) (zx q87) (Ci _ (Pr _ (WW _ nF))) Tryz.func144 loopsL_nil boxesL_none
def K_q180:j4:=⟨146,[.v gh,.v .str],[.v (.own .str)],KN,zog KN⟩
def VN:bZ:=oP ⟨[(7,.leaf I6),(2,.aR z0 []),(5,.leaf .str),(6,.whole z1 .str)],[(z0,false,.var gh (.leaf gh)),(z1,false,.rows .str)]⟩ [((.exit 0),⟨[(6,.whole z0 .str)],[(z0,false,.rows .str)]⟩)] aas Mf
def afA:LT:=[(4,VN)]
def ad6:FK K_q180:=wl (lt:=afA) (Ls:=[VN]) (zx KN) (W5 _ (Hx _ nF)) Tryz.func146 (lq loopsL_nil) boxesL_none
def K_q174:j4:=⟨145,[.v (.lst .str),.v (.lst I6),.v I6],[.v .str],Jp,zog Jp⟩
def VA:bZ:=oP ⟨[(8,.leaf I6),(1,.leaf (.lst I6)),(0,.leaf (.lst .str)),(7,.leaf .str)],[]⟩ [((.exit 0),⟨[(7,.leaf .str)],[]⟩)] aae Mb
def afu:LT:=[(3,VA)]
def ad2:FK K_q174:=wl (lt:=afu) (Ls:=[VA]) (zx Jp) (R8 _ (W0 _ nF)) Tryz.func145 (lq loopsL_nil) boxesL_none
def K_q100:j4:=⟨113,[.k (.pair .bool (.pair I6 (.pair .str (.pair (.pair I6 (.pair (.own an) .unit)) (.pair (.pair (.own b8) (.pair I6 .unit)) (.pair (.own cw) (.pair (.own b9) .unit))))))),.v I6,.v an],[.v (.pair .bool (.pair I6 (.pair .str (.pair (.pair I6 (.pair (.own an) .unit)) (.pair (.pair (.own b8) (.pair I6 .unit)) (.pair (.own cw) (.pair (.own b9) .unit))))))),.v (.own ei)],LV,zog LV⟩
def U1:bZ:=oP ⟨[(11,.leaf I6),(3,.aR z0 []),(10,.whole z1 I6),(5,.aR z2 []),(6,.aR z3 []),(9,.aR 500000004 []),(8,.aR 500000005 []),(1,.leaf I6)],[(z0,false,.var b7 (.pair (.leaf .bool) (.pair (.leaf I6) (.pair (.leaf .str) (.pair (.pair (.leaf I6) (.pair (.whole 500000006 an) (.leaf .unit))) (.pair (.pair (.whole 500000007 b8) (.leaf (.pair I6 .unit))) (.pair (.whole 500000008 cw) (.pair (.whole 500000009 b9) (.leaf .unit))))))))),(z1,false,.rows I6),(z2,false,.var an (.leaf an)),(z3,false,.var b7 (.pair (.leaf .bool) (.pair (.leaf I6) (.pair (.leaf .str) (.pair (.pair (.leaf I6) (.pair (.whole 500000010 an) (.leaf .unit))) (.pair (.pair (.whole 500000011 b8) (.leaf (.pair I6 .unit))) (.pair (.whole 500000012 cw) (.pair (.whole 500000013 b9) (.leaf .unit))))))))),(500000004,false,.var gh (.pair (.leaf I6) (.pair (.leaf I6) (.pair (.whole 500000014 I6) (.pair (.whole 500000015 I6) (.leaf .unit)))))),(500000005,false,.var b9 (.leaf b9)),(500000006,false,.rows an),(500000007,false,.rows b8),(500000008,false,.rows cw),(500000009,false,.rows b9),(500000010,false,.rows an),(500000011,false,.rows b8),(500000012,false,.rows cw),(500000013,false,.rows b9),(500000014,false,.rows I6),(500000015,false,.rows I6)]⟩ [((.exit 0),⟨[(6,.aR z0 []),(9,.aR z1 []),(10,.whole z2 I6),(5,.aR z3 []),(8,.aR 500000004 []),(3,.aR 500000005 []),(1,.leaf I6)],[(z0,false,.var b7 (.pair (.leaf .bool) (.pair (.leaf I6) (.pair (.leaf .str) (.pair (.pair (.leaf I6) (.pair (.whole 500000006 an) (.leaf .unit))) (.pair (.pair (.whole 500000007 b8) (.leaf (.pair I6 .unit))) (.pair (.whole 500000008 cw) (.pair (.whole 500000009 b9) (.leaf .unit))))))))),(z1,false,.var gh (.pair (.leaf I6) (.pair (.leaf I6) (.pair (.whole 500000010 I6) (.pair (.whole 500000011 I6) (.leaf .unit)))))),(z2,false,.rows I6),(z3,false,.var an (.leaf an)),(500000004,false,.var b9 (.leaf b9)),(500000005,false,.var b7 (.pair (.leaf .bool) (.pair (.leaf I6) (.pair (.leaf .str) (.pair (.pair (.leaf I6) (.pair (.whole 500000012 an) (.leaf .unit))) (.pair (.pair (.whole 500000013 b8) (.leaf (.pair I6 .unit))) (.pair (.whole 500000014 cw) (.pair (.whole 500000015 b9) (.leaf .unit))))))))),(500000006,false,.rows an),(500000007,false,.rows b8),(500000008,false,.rows cw),(500000009,false,.rows b9),(500000010,false,.rows I6),(500000011,false,.rows I6),(500000012,false,.rows an),(500000013,false,.rows b8),(500000014,false,.rows cw),(500000015,false,.rows b9)]⟩)] YW Oa
def ae0:LT:=[(5,U1)]
def adx:FK K_q100:=wl (lt:=ae0) (Ls:=[U1]) (zx LV) (ad2 _ (ad6 _ (Lv _ (fk_q87 _ (fk_q91 _ (Xd _ (Pm _ nF))))))) Tryz.func113 (lq loopsL_nil) boxesL_none
def K_q31:j4:=⟨91,[.v b7],[.v b7,.v (.own ei)],q31,zog q31⟩
def UK:bZ:=oP ⟨[(5,.leaf I6),(4,.aR z0 []),(2,.aR z1 [])],[(z0,false,.var b7 (.pair (.leaf .bool) (.pair (.leaf I6) (.pair (.leaf .str) (.pair (.pair (.leaf I6) (.pair (.whole z2 an) (.leaf .unit))) (.pair (.pair (.whole z3 b8) (.leaf (.pair I6 .unit))) (.pair (.whole 500000004 cw) (.pair (.whole 500000005 b9) (.leaf .unit))))))))),(z1,false,.var b7 (.pair (.leaf .bool) (.pair (.leaf I6) (.pair (.leaf .str) (.pair (.pair (.leaf I6) (.pair (.whole 500000006 an) (.leaf .unit))) (.pair (.pair (.whole 500000007 b8) (.leaf (.pair I6 .unit))) (.pair (.whole 500000008 cw) (.pair (.whole 500000009 b9) (.leaf .unit))))))))),(z2,false,.rows an),(z3,false,.rows b8),(500000004,false,.rows cw),(500000005,false,.rows b9),(500000006,false,.rows an),(500000007,false,.rows b8),(500000008,false,.rows cw),(500000009,false,.rows b9)]⟩ [((.exit 0),⟨[(2,.aR z0 []),(4,.aR z1 [])],[(z0,false,.var b7 (.pair (.leaf .bool) (.pair (.leaf I6) (.pair (.leaf .str) (.pair (.pair (.leaf I6) (.pair (.whole z2 an) (.leaf .unit))) (.pair (.pair (.whole z3 b8) (.leaf (.pair I6 .unit))) (.pair (.whole 500000004 cw) (.pair (.whole 500000005 b9) (.leaf .unit))))))))),(z1,false,.var b7 (.pair (.leaf .bool) (.pair (.leaf I6) (.pair (.leaf .str) (.pair (.pair (.leaf I6) (.pair (.whole 500000006 an) (.leaf .unit))) (.pair (.pair (.whole 500000007 b8) (.leaf (.pair I6 .unit))) (.pair (.whole 500000008 cw) (.pair (.whole 500000009 b9) (.leaf .unit))))))))),(z2,false,.rows an),(z3,false,.rows b8),(500000004,false,.rows cw),(500000005,false,.rows b9),(500000006,false,.rows an),(500000007,false,.rows b8),(500000008,false,.rows cw),(500000009,false,.rows b9)]⟩)] aaM Oj
def lt_q31:LT:=[(8,UK)]
def fk_q31:FK K_q31:=wl (lt:=lt_q31) (Ls:=[UK]) (zx q31) (adx _ (Xl _ (Pn _ (Pq _ (Sf _ (Xk _ (fk_q96 _ (adY _ (Lw _ (Lu _ nF)))))))))) Tryz.func91 (lq loopsL_nil) boxesL_none
def K_q49:j4:=⟨93,[.v di],[.v .str],q49,zog q49⟩
def fk_q49:FK K_q49:=wl (lt:=gT) (zx q49) (Pp _ nF) Tryz.func93 loopsL_nil boxesL_none
def K_q86:j4:=⟨115,[.v .str,.v .str,.v I6],[.v .str],q86,zog q86⟩
def fk_q86:FK K_q86:=wl (lt:=gT) (zx q86) (WV _ nF) Tryz.func115 loopsL_nil boxesL_none
def K_q27:j4:=⟨92,[.v b7,.v .str,.v I6],[.v b7],q27,zog q27⟩
def fk_q27:FK K_q27:=wl (lt:=gT) (zx q27) (fk_q86 _ (Sb _ (Lu _ nF))) Tryz.func92 loopsL_nil boxesL_none
def K_q29:j4:=⟨94,[.v b7],[.v b7],q29,zog q29⟩
def fk_q29:FK K_q29:=wl (lt:=gT) (zx q29) (Xg _ (WX _ (Sc _ (Nq _ (Lw _ (Lu _ nF)))))) Tryz.func94 loopsL_nil boxesL_none
def K_q50:j4:=⟨79,[.k (.pair b7 (.pair (.own bm) (.pair (.own cg) (.pair (.own an) .unit)))),.v di],[.v (.pair b7 (.pair (.own bm) (.pair (.own cg) (.pair (.own an) .unit)))),.v .bool],q50,zog q50⟩
def fk_q50:FK K_q50:=wl (lt:=gT) (zx q50) (fk_q29 _ (fk_q27 _ (fk_q49 _ (R7 _ (fk_q31 _ (fk_q30 _ (adA _ (fk_q41 _ nF)))))))) Tryz.func79 loopsL_nil boxesL_none
def K_q170:j4:=⟨70,[.k (.pair b7 (.pair (.own bm) (.pair (.own cg) (.pair (.own an) .unit)))),.v di],[.v eL,.v .bool],KI,zog KI⟩
def Rv:Cx:=⟨De,[K_q50.entry,K_q48.entry,K_q70.entry],false,Gl⟩
def U7:bZ:=boxD ⟨[(4,.aR z0 []),(3,.aR z1 []),(2,.aR z2 []),(7,.leaf I6)],[(z0,false,.var eL (.pair (.pair (.leaf .bool) (.pair (.leaf I6) (.pair (.leaf .str) (.pair (.pair (.leaf I6) (.pair (.whole z3 an) (.leaf .unit))) (.pair (.pair (.whole 500000004 b8) (.leaf (.pair I6 .unit))) (.pair (.whole 500000005 cw) (.pair (.whole 500000006 b9) (.leaf .unit)))))))) (.pair (.whole 500000007 bm) (.pair (.whole 500000008 cg) (.pair (.whole 500000009 an) (.leaf .unit)))))),(z1,false,.var di (.leaf di)),(z2,false,.var eL (.pair (.leaf b7) (.pair (.whole 500000010 bm) (.pair (.whole 500000011 cg) (.pair (.whole 500000012 an) (.leaf .unit)))))),(z3,false,.rows an),(500000004,false,.rows b8),(500000005,false,.rows cw),(500000006,false,.rows b9),(500000007,false,.rows bm),(500000008,false,.rows cg),(500000009,false,.rows an),(500000010,false,.rows bm),(500000011,false,.rows cg),(500000012,false,.rows an)]⟩ [(.norm,⟨[(8,.leaf .bool),(4,.aR z0 []),(3,.aR z1 []),(2,.aR z2 []),(7,.leaf I6)],[(z0,false,.var eL (.pair (.pair (.leaf .bool) (.pair (.leaf I6) (.pair (.leaf .str) (.pair (.pair (.leaf I6) (.pair (.whole z3 an) (.leaf .unit))) (.pair (.pair (.whole 500000004 b8) (.leaf (.pair I6 .unit))) (.pair (.whole 500000005 cw) (.pair (.whole 500000006 b9) (.leaf .unit)))))))) (.pair (.whole 500000007 bm) (.pair (.whole 500000008 cg) (.pair (.whole 500000009 an) (.leaf .unit)))))),(z1,false,.var di (.leaf di)),(z2,false,.var eL (.pair (.leaf b7) (.pair (.whole 500000010 bm) (.pair (.whole 500000011 cg) (.pair (.whole 500000012 an) (.leaf .unit)))))),(z3,false,.rows an),(500000004,false,.rows b8),(500000005,false,.rows cw),(500000006,false,.rows b9),(500000007,false,.rows bm),(500000008,false,.rows cg),(500000009,false,.rows an),(500000010,false,.rows bm),(500000011,false,.rows cg),(500000012,false,.rows an)]⟩)] q67 QB
def U8:bZ:=boxD ⟨[(4,.aR z0 []),(3,.aR z1 []),(2,.aR z2 []),(7,.leaf I6)],[(z0,false,.var eL (.pair (.pair (.leaf .bool) (.pair (.leaf I6) (.pair (.leaf .str) (.pair (.pair (.leaf I6) (.pair (.whole z3 an) (.leaf .unit))) (.pair (.pair (.whole 500000004 b8) (.leaf (.pair I6 .unit))) (.pair (.whole 500000005 cw) (.pair (.whole 500000006 b9) (.leaf .unit)))))))) (.pair (.whole 500000007 bm) (.pair (.whole 500000008 cg) (.pair (.whole 500000009 an) (.leaf .unit)))))),(z1,false,.var di (.leaf di)),(z2,false,.var eL (.pair (.leaf b7) (.pair (.whole 500000010 bm) (.pair (.whole 500000011 cg) (.pair (.whole 500000012 an) (.leaf .unit)))))),(z3,false,.rows an),(500000004,false,.rows b8),(500000005,false,.rows cw),(500000006,false,.rows b9),(500000007,false,.rows bm),(500000008,false,.rows cg),(500000009,false,.rows an),(500000010,false,.rows bm),(500000011,false,.rows cg),(500000012,false,.rows an)]⟩ [(.norm,⟨[(17,.leaf .bool),(4,.aR z0 []),(3,.aR z1 []),(2,.aR z2 []),(7,.leaf I6)],[(z0,false,.var eL (.pair (.pair (.leaf .bool) (.pair (.leaf I6) (.pair (.leaf .str) (.pair (.pair (.leaf I6) (.pair (.whole z3 an) (.leaf .unit))) (.pair (.pair (.whole 500000004 b8) (.leaf (.pair I6 .unit))) (.pair (.whole 500000005 cw) (.pair (.whole 500000006 b9) (.leaf .unit)))))))) (.pair (.whole 500000007 bm) (.pair (.whole 500000008 cg) (.pair (.whole 500000009 an) (.leaf .unit)))))),(z1,false,.var di (.leaf di)),(z2,false,.var eL (.pair (.leaf b7) (.pair (.whole 500000010 bm) (.pair (.whole 500000011 cg) (.pair (.whole 500000012 an) (.leaf .unit)))))),(z3,false,.rows an),(500000004,false,.rows b8),(500000005,false,.rows cw),(500000006,false,.rows b9),(500000007,false,.rows bm),(500000008,false,.rows cg),(500000009,false,.rows an),(500000010,false,.rows bm),(500000011,false,.rows cg),(500000012,false,.rows an)]⟩)] q68 QC
def U9:bZ:=boxD ⟨[(4,.aR z0 []),(3,.aR z1 []),(2,.aR z2 []),(7,.leaf I6)],[(z0,false,.var eL (.pair (.pair (.leaf .bool) (.pair (.leaf I6) (.pair (.leaf .str) (.pair (.pair (.leaf I6) (.pair (.whole z3 an) (.leaf .unit))) (.pair (.pair (.whole 500000004 b8) (.leaf (.pair I6 .unit))) (.pair (.whole 500000005 cw) (.pair (.whole 500000006 b9) (.leaf .unit)))))))) (.pair (.whole 500000007 bm) (.pair (.whole 500000008 cg) (.pair (.whole 500000009 an) (.leaf .unit)))))),(z1,false,.var di (.leaf di)),(z2,false,.var eL (.pair (.leaf b7) (.pair (.whole 500000010 bm) (.pair (.whole 500000011 cg) (.pair (.whole 500000012 an) (.leaf .unit)))))),(z3,false,.rows an),(500000004,false,.rows b8),(500000005,false,.rows cw),(500000006,false,.rows b9),(500000007,false,.rows bm),(500000008,false,.rows cg),(500000009,false,.rows an),(500000010,false,.rows bm),(500000011,false,.rows cg),(500000012,false,.rows an)]⟩ [(.norm,⟨[(27,.leaf .bool),(4,.aR z0 []),(3,.aR z1 []),(2,.aR z2 [])],[(z0,false,.var eL (.pair (.pair (.leaf .bool) (.pair (.leaf I6) (.pair (.leaf .str) (.pair (.pair (.leaf I6) (.pair (.whole z3 an) (.leaf .unit))) (.pair (.pair (.whole 500000004 b8) (.leaf (.pair I6 .unit))) (.pair (.whole 500000005 cw) (.pair (.whole 500000006 b9) (.leaf .unit)))))))) (.pair (.whole 500000007 bm) (.pair (.whole 500000008 cg) (.pair (.whole 500000009 an) (.leaf .unit)))))),(z1,false,.var di (.leaf di)),(z2,false,.var eL (.pair (.leaf b7) (.pair (.whole 500000010 bm) (.pair (.whole 500000011 cg) (.pair (.whole 500000012 an) (.leaf .unit)))))),(z3,false,.rows an),(500000004,false,.rows b8),(500000005,false,.rows cw),(500000006,false,.rows b9),(500000007,false,.rows bm),(500000008,false,.rows cg),(500000009,false,.rows an),(500000010,false,.rows bm),(500000011,false,.rows cg),(500000012,false,.rows an)]⟩)] q69 QD
def P4:LT:=[(2000002,U7),(2000006,U8),(2000011,U9)]
def ahP:∀x,boxR Rv P4 (qD Tryz.f70 3) U7 x=q67 x:=by intro x;kernel_rfl
def ahQ:∀x,boxR Rv P4 (qD Tryz.f70 7) U8 x=q68 x:=by intro x;kernel_rfl
def ahR:∀x,boxR Rv P4 (qD Tryz.f70 12) U9 x=q69 x:=by intro x;kernel_rfl
def adZ:FK K_q170:=wl (lt:=P4) (Ls:=[]) (zx KI) (fk_q50 _ (fk_q48 _ (fk_q70 _ nF))) Tryz.func70 loopsL_nil (boxes_of (ks:=[3,7,12]) (by kernel_rfl) (boxesL_cons (by kernel_rfl) ahP q67_v (boxesL_cons (by kernel_rfl) ahQ q68_v (boxesL_cons (by kernel_rfl) ahR q69_v boxesL_nil))))
def K_q73:j4:=⟨66,[.p dj,.v I6],[.v (.own di),.v (.pair b7 (.pair (.own bm) (.pair (.own cg) (.pair (.own an) .unit))))],q73,zog q73⟩
def Vm:bZ:=oP ⟨[(8,.leaf I6),(6,.aR z0 []),(7,.whole z1 di),(0,.aR 900 []),(5,.aR z2 [])],[(900,false,.var dj (.leaf dj)),(z0,false,.var eL (.leaf eL)),(z1,false,.rows di),(z2,false,.var eL (.pair (.pair (.leaf .bool) (.pair (.leaf I6) (.pair (.leaf .str) (.pair (.pair (.leaf I6) (.pair (.whole z3 an) (.leaf .unit))) (.pair (.pair (.whole 500000004 b8) (.leaf (.pair I6 .unit))) (.pair (.whole 500000005 cw) (.pair (.whole 500000006 b9) (.leaf .unit)))))))) (.pair (.whole 500000007 bm) (.pair (.whole 500000008 cg) (.pair (.whole 500000009 an) (.leaf .unit)))))),(z3,false,.rows an),(500000004,false,.rows b8),(500000005,false,.rows cw),(500000006,false,.rows b9),(500000007,false,.rows bm),(500000008,false,.rows cg),(500000009,false,.rows an)]⟩ [((.exit 0),⟨[(5,.aR z0 []),(6,.aR z1 []),(7,.whole z2 di)],[(900,false,.var dj (.leaf dj)),(z0,false,.var eL (.pair (.pair (.leaf .bool) (.pair (.leaf I6) (.pair (.leaf .str) (.pair (.pair (.leaf I6) (.pair (.whole z3 an) (.leaf .unit))) (.pair (.pair (.whole 500000004 b8) (.leaf (.pair I6 .unit))) (.pair (.whole 500000005 cw) (.pair (.whole 500000006 b9) (.leaf .unit)))))))) (.pair (.whole 500000007 bm) (.pair (.whole 500000008 cg) (.pair (.whole 500000009 an) (.leaf .unit)))))),(z1,false,.var eL (.leaf eL)),(z2,false,.rows di),(z3,false,.rows an),(500000004,false,.rows b8),(500000005,false,.rows cw),(500000006,false,.rows b9),(500000007,false,.rows bm),(500000008,false,.rows cg),(500000009,false,.rows an)]⟩)] abj QE
def lt_q73:LT:=[(4,Vm)]
def fk_q73:FK K_q73:=wl (lt:=lt_q73) (Ls:=[Vm]) (zx q73) (adZ _ (WO _ (fk_q72 _ (JR _ (fk_q64 _ nF))))) Tryz.func66 (lq loopsL_nil) boxesL_none
def K_q75:j4:=⟨55,[.p dj],[.v (.pair b7 (.pair (.own bm) (.pair (.own cg) (.pair (.own an) .unit))))],q75,zog q75⟩
def fk_q75:FK K_q75:=wl (lt:=gT) (zx q75) (fk_q73 _ nF) Tryz.func55 loopsL_nil boxesL_none
def K_q3:j4:=⟨56,[.p dj,.v eL],[.v (.pair b7 (.pair (.lst bm) (.pair (.own cg) (.pair (.own an) .unit))))],Wh.q3,zog Wh.q3⟩
def fk_q3:FK K_q3:=wl (lt:=gT) (zx Wh.q3) (JR _ (WO _ nF)) Tryz.func56 loopsL_nil boxesL_none
def K_q10:j4:=⟨42,[.p dj],[.v (.pair b7 (.pair (.lst bm) (.pair (.own cg) (.pair (.own an) .unit))))],q10,zog q10⟩
def fk_q10:FK K_q10:=wl (lt:=gT) (zx q10) (fk_q3 _ (JR _ (fk_q75 _ nF))) Tryz.func42 loopsL_nil boxesL_none
def K_q7:j4:=⟨20,[.p dj],[.v bm],Wh.q7,zog Wh.q7⟩
def fk_q7:FK K_q7:=wl (lt:=gT) (zx Wh.q7) (JR _ (fk_q10 _ nF)) Tryz.func20 loopsL_nil boxesL_none
def K_q1:j4:=⟨6,[.v (.lst I8)],[.v bm],Wh.q1,zog Wh.q1⟩
def fk_q1:FK K_q1:=wl (lt:=gT) (zx Wh.q1) (fk_q7 _ (adL _ nF)) Tryz.func6 loopsL_nil boxesL_none
def K_q122:j4:=⟨26,[.v I6,.v I6,.v I6],[.v .bool],A1,zog A1⟩
def Lq:FK K_q122:=wl (lt:=gT) (zx A1) nF Tryz.func26 loopsL_nil boxesL_none
def K_q57:j4:=⟨25,[.v I6],[.v .bool],q57,zog q57⟩
def fk_q57:FK K_q57:=wl (lt:=gT) (zx q57) (Lq _ nF) Tryz.func25 loopsL_nil boxesL_none
def K_q160:j4:=⟨27,[.v x4],[.v .bool],KC,zog KC⟩
def adU:FK K_q160:=wl (lt:=gT) (zx KC) nF Tryz.func27 loopsL_nil boxesL_none
def K_q21:j4:=⟨45,[.v gh],[.v I6],Ed,zog Ed⟩
def Xe:FK K_q21:=wl (lt:=gT) (zx Ed) nF Tryz.func45 loopsL_nil boxesL_none
def K_q120:j4:=⟨43,[.v gh],[.v .bool],Ez,zog Ez⟩
def Uo:bZ:=oP ⟨[(50,.leaf I6),(1,.aR z0 []),(48,.leaf (.lst I6)),(49,.leaf I6)],[(z0,false,.var gh (.leaf gh))]⟩ [(.ret,⟨[(2,.leaf .bool)],[]⟩),((.exit 0),⟨[],[]⟩)] Zk GU
def ae9:LT:=[(6,Uo)]
def adH:FK K_q120:=wl (lt:=ae9) (Ls:=[Uo]) (zx Ez) (Xe _ (Lq _ nF)) Tryz.func43 (lq loopsL_nil) boxesL_none
def K_q159:j4:=⟨57,[.v (.lst I6),.v I6],[.v .bool],HY,zog HY⟩
def Up:bZ:=oP ⟨[(9,.leaf I6),(0,.leaf (.lst I6)),(1,.leaf I6),(7,.leaf (.lst I6)),(8,.leaf I6)],[]⟩ [(.ret,⟨[(4,.leaf .bool)],[]⟩),((.exit 0),⟨[(1,.leaf I6)],[]⟩)] ZR Jl
def afm:LT:=[(2,Up)]
def adT:FK K_q159:=wl (lt:=afm) (Ls:=[Up]) (zx HY) (Lq _ nF) Tryz.func57 (lq loopsL_nil) boxesL_none
def K_q186:j4:=⟨58,[.v (.lst I6)],[.v I3],Jq,zog Jq⟩
def Uu:bZ:=oP ⟨[(8,.leaf I6),(3,.leaf I3),(6,.leaf (.lst I6)),(7,.leaf I6)],[]⟩ [((.exit 0),⟨[(3,.leaf I3)],[]⟩)] aaE Oi
def afF:LT:=[(3,Uu)]
def ad9:FK K_q186:=wl (lt:=afF) (Ls:=[Uu]) (zx Jq) nF Tryz.func58 (lq loopsL_nil) boxesL_none
def K_q56:j4:=⟨44,[.v e_],[.v .bool],Gc,zog Gc⟩
def Uq:bZ:=oP ⟨[(21,.leaf I6),(3,.leaf I3),(1,.aR z0 []),(19,.leaf (.lst gv)),(20,.leaf I6)],[(z0,false,.var e_ (.leaf e_))]⟩ [(.ret,⟨[(2,.leaf .bool)],[]⟩),((.exit 0),⟨[(3,.leaf I3),(1,.aR z0 [])],[(z0,false,.var e_ (.leaf e_))]⟩)] aa2 Ia
def Ur:bZ:=oP ⟨[(77,.leaf I6),(3,.leaf I3),(75,.leaf (.lst gv)),(76,.leaf I6)],[]⟩ [(.ret,⟨[(2,.leaf .bool)],[]⟩),((.exit 2),⟨[],[]⟩)] aa4 Mm
def lt_q56:LT:=[(5,Uq),(12,Ur)]
def fk_q56:FK K_q56:=wl (lt:=lt_q56) (Ls:=[Uq,Ur]) (zx Gc) (ad9 _ (adT _ (Lq _ nF))) Tryz.func44 (lq (lq loopsL_nil)) boxesL_none
def K_q158:j4:=⟨28,[.v x4],[.v .bool],Jk,zog Jk⟩
def adS:FK K_q158:=wl (lt:=gT) (zx Jk) (Xe _ (fk_q56 _ (adH _ nF))) Tryz.func28 loopsL_nil boxesL_none
def K_q119:j4:=⟨29,[.v .str],[.v .bool],Ja,zog Ja⟩
def Un:bZ:=oP ⟨[(6,.leaf I6),(0,.leaf .str),(5,.leaf I6)],[]⟩ [(.ret,⟨[(2,.leaf .bool)],[]⟩),((.exit 0),⟨[(0,.leaf .str)],[]⟩)] Zi Ku
def ae8:LT:=[(2,Un)]
def adG:FK K_q119:=wl (lt:=ae8) (Ls:=[Un]) (zx Ja) (Lq _ nF) Tryz.func29 (lq loopsL_nil) boxesL_none
def K_q22:j4:=⟨54,[.v e_,.v I6],[.v .str,.v .bool],q22,zog q22⟩
def Us:bZ:=oP ⟨[(11,.leaf I6),(1,.leaf I6),(9,.leaf (.lst gv)),(10,.leaf I6)],[]⟩ [(.ret,⟨[(4,.leaf .str),(5,.leaf .bool)],[]⟩),((.exit 0),⟨[],[]⟩)] aaI Mi
def lt_q22:LT:=[(2,Us)]
def fk_q22:FK K_q22:=wl (lt:=lt_q22) (Ls:=[Us]) (zx q22) nF Tryz.func54 (lq loopsL_nil) boxesL_none
def K_q2:j4:=⟨46,[.v e_],[.v I6],Wh.q2,zog Wh.q2⟩
def Ut:bZ:=oP ⟨[(3,.leaf I6),(1,.aR z0 [])],[(z0,false,.var e_ (.leaf e_))]⟩ [((.exit 0),⟨[(3,.leaf I6)],[]⟩)] aaK Mj
def lt_q2:LT:=[(2,Ut)]
def fk_q2:FK K_q2:=wl (lt:=lt_q2) (Ls:=[Ut]) (zx Wh.q2) (fk_q22 _ nF) Tryz.func46 (lq loopsL_nil) boxesL_none
def K_q4:j4:=⟨30,[.v x4],[.v .bool],Wh.q4,zog Wh.q4⟩
def fk_q4:FK K_q4:=wl (lt:=gT) (zx Wh.q4) (fk_q2 _ nF) Tryz.func30 loopsL_nil boxesL_none
def K_q55:j4:=⟨10,[.v bm],[.v .bool],G2,zog G2⟩
def Xi:FK K_q55:=wl (lt:=gT) (zx G2) (fk_q4 _ (adG _ (adS _ (adU _ (Lq _ (fk_q57 _ nF)))))) Tryz.func10 loopsL_nil boxesL_none
def K_q0:j4:=⟨22,[.v bm],[.v (.own ei)],Wh.q0,zog Wh.q0⟩
def fk_q0:FK K_q0:=wl (lt:=gT) (zx Wh.q0) nF Tryz.func22 loopsL_nil boxesL_none
def K_q20:j4:=⟨7,[.v bm],[.v (.own ei)],q20,zog q20⟩
def fk_q20:FK K_q20:=wl (lt:=gT) (zx q20) (fk_q0 _ (Xi _ nF)) Tryz.func7 loopsL_nil boxesL_none
def Uk:j4:=⟨8,[.v (.lst ei),.v (.lst ei)],[.v .bool],GV,zog GV⟩
def Uv:bZ:=oP ⟨[(5,.leaf I6),(0,.leaf (.lst ei)),(1,.leaf (.lst ei))],[]⟩ [(.ret,⟨[(4,.leaf .bool)],[]⟩),((.exit 0),⟨[],[]⟩)] Zm Oe
def ae_:LT:=[(4,Uv)]
def adI:FK Uk:=wl (lt:=ae_) (Ls:=[Uv]) (zx GV) (Np _ nF) Tryz.func8 (lq loopsL_nil) boxesL_none
def K_q5:j4:=⟨3,[.v (.lst I8)],[.v .bool],Wh.q5,zog Wh.q5⟩
def C_q5:Cx:=⟨De,[K_q59.entry,K_q55.entry,Uk.entry,Ry.entry,K_q20.entry,K_q1.entry],false,Gl⟩
def e_q5:EV C_q5 gT Tryz.f3 [.v (.lst I8)] [.v .bool] Wh.q5:=by intro xs;kernel_rfl
def ok_q5:CO K_q5:=con_ok (Ls:=[]) mixed (RW _ _) (Lt _ (Xi _ (adI _ (Xf _ (fk_q20 _ (fk_q1 _ nF)))))) Tryz.func3 loopsL_nil boxesL_none e_q5
end
end Go.Proofs.Walk
