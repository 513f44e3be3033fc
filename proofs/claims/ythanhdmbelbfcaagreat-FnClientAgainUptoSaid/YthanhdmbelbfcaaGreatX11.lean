import Derived.Test.YthanhdmbelbfcaaGreatX10
import Derived.Test.YthanhdmbelbfcaaGreatProg
import Derived.KernelRfl
set_option linter.defProp false
namespace Wh
end Wh
open Wh
open Go Go.Ab
namespace Go.Proofs.Walk
noncomputable section
def Dj:List (Nat×TI):=[(2,⟨(.int .i64),0⟩),(3,⟨(.int .i64),0⟩),(4,⟨.bool,0⟩),(5,⟨(.int .u8),0⟩),(6,⟨(.int .u8),0⟩),(7,⟨Un,1⟩),(8,⟨Un,1⟩),(9,⟨.str,0⟩),(10,⟨.str,0⟩),(11,⟨.str,0⟩),(12,⟨(.int .u64),0⟩),(13,⟨Uo,0⟩),(14,⟨Uo,0⟩),(21,⟨(.int .i32),0⟩),(247,⟨(.int .i32),0⟩),(246,⟨(.int .i32),0⟩),(245,⟨(.ref (.int .u8)),0⟩),(243,⟨(.int .u8),0⟩),(242,⟨(.int .u8),0⟩),(91,⟨(.int .u32),0⟩),(22,⟨(.lst (.int .u8)),0⟩),(23,⟨(.lst (.int .i64)),0⟩),(24,⟨gv,0⟩),(25,⟨gv,0⟩),(92,⟨e_,0⟩),(93,⟨e_,0⟩),(26,⟨(.lst e_),0⟩),(27,⟨ei,0⟩),(28,⟨ei,0⟩),(29,⟨nT,0⟩),(30,⟨nT,0⟩),(31,⟨bm,0⟩),(32,⟨bm,0⟩),(38,⟨eL,1⟩),(39,⟨eL,1⟩),(34,⟨(.lst eL),0⟩),(79,⟨dj,0⟩),(80,⟨dj,0⟩),(49,⟨(.ref dj),0⟩),(60,⟨(.lst .str),0⟩),(103,⟨an,1⟩),(104,⟨an,1⟩),(64,⟨(.lst an),0⟩),(65,⟨g9,0⟩),(66,⟨g9,0⟩),(174,⟨b9,1⟩),(175,⟨b9,1⟩),(67,⟨(.lst b9),0⟩),(68,⟨mb,0⟩),(69,⟨mb,0⟩),(132,⟨cw,1⟩),(133,⟨cw,1⟩),(70,⟨(.lst cw),0⟩),(155,⟨cg,1⟩),(156,⟨cg,1⟩),(71,⟨(.lst cg),0⟩),(72,⟨b7,0⟩),(73,⟨b7,0⟩),(74,⟨(.lst bm),0⟩),(105,⟨cp,1⟩),(106,⟨cp,1⟩),(75,⟨(.lst cp),0⟩),(76,⟨fk,0⟩),(77,⟨fk,0⟩),(108,⟨di,1⟩),(109,⟨di,1⟩),(99,⟨(.lst di),0⟩),(152,⟨BV,1⟩),(153,⟨BV,1⟩),(148,⟨(.lst BV),0⟩),(229,⟨(.lst (.int .u32)),0⟩),(232,⟨(.int .u64),0⟩)]
def Gl:List (Nat×DV):=[]
abbrev Gb:jN:=jN.none
def gl_ok:∀g d,find Gl g=some d→∀w I,Gb.ok w I→af w I (.ref d.t) d.x [.pointer (some ⟨g,0,none⟩)]:=fun _ _ h=>by simp[Gl,find] at h
def tab_ok:cH (fun x=>(dw Tryz.prog x.2.t).1 x.1&&(!(Nat.beq x.2.e 1) || eqB Tryz.prog x.1)) Dj=true:=by kernel_rfl
def Si (fns:List (Nat×List Ab.Mode×(List Arg→Option Res)))(dp:Bool):bR Tryz.prog ⟨Dj,fns,dp,Gl⟩:=cxOk_of tab_ok
def mixed:Tryz.prog.follows .mixedOrders=true:=by kernel_rfl
abbrev FT:Type:=List (Nat×List Ab.Mode×(List Arg→Option Res))
abbrev FK (c:j4):Prop:=∀(fns:FT) {dp:Bool},eN Tryz.prog Gb ⟨Dj,fns,dp,Gl⟩→eN Tryz.prog Gb ⟨Dj,c.entry::fns,dp,Gl⟩
abbrev EV (C:Cx)(lt:List (Nat×bZ))(f:Func)(ps:List PT)(ws:List Want)(g:jf ps→Option (kY ws×jW ps)):Prop:=∀xs,evT C lt f ps ws xs=g xs
abbrev CO (c:j4):Prop:=ConOk Tryz.prog Gb c
abbrev LT:Type:=List (Nat×bZ)
def g7:LT:=[]
abbrev z0:Nat:=500000000
abbrev z1:Nat:=500000001
abbrev z2:Nat:=500000002
abbrev z3:Nat:=500000003
abbrev I6:Ty:=.int .i64
abbrev I8:Ty:=.int .u8
abbrev I3:Ty:=.int .u32
def nF:eN Tryz.prog Gb ⟨Dj,[],false,Gl⟩:=eN.nil Dj false gl_ok
def lq {C:Cx}{lt:LT}{fn:Func}{k:Nat}{sh:Sh}{ex:fF}{y0:ex.den}{r:sh.den→Option (sh.den⊕ex.den)}{l:List bZ}(h3:lD C lt fn (k+1) l)(h:∀x,round C lt (iY fn k) (oP sh ex y0 r) x=r x:=by intro x;kernel_rfl)(h1:find lt (iH (iY fn k))=some (oP sh ex y0 r):=by kernel_rfl)(h4:(find lt (iH (iY fn k)+500000)).isSome=false:=by kernel_rfl):lD C lt fn k (oP sh ex y0 r::l):=loopsC (loopD_ok h) h3 h1 h4
def zx {α β:Type}[Inhabited β](f:α→Option β):∀x y,f x=some y→zog f x=y:=zv
def wl {c:j4}{F:FT}{b:Bool}{fn:Func}{Ls:List bZ}{lt:LT}(hv:∀x y,c.fn x=some y→c.val x=y)(hF:eN Tryz.prog Gb ⟨Dj,F,b,Gl⟩)(hf:Tryz.prog.funcs[c.id]?=some fn)(hlo:lD ⟨Dj,F,b,Gl⟩ lt fn 0 Ls)(hbx:∀b'∈h_ (jh fn),mj ⟨Dj,F,b,Gl⟩ lt b')(jk:∀xs,evT ⟨Dj,F,b,Gl⟩ lt fn c.ps c.ws xs=c.fn xs:=by intro xs;kernel_rfl)(he:fnB Tryz.prog c.id=true:=by kernel_rfl):FK c:=fun _ _ h=>h.cons c he hv (con_ok mixed (Si _ _) hF hf hlo hbx jk)
def K_q148:j4:=⟨21,[.v (.lst I8)],[.p dj],Mk,zog Mk⟩
def aeH:FK K_q148:=wl (lt:=g7) (zx Mk) nF Tryz.func21 loopsL_nil boxesL_none
def K_q144:j4:=⟨82,[],[.v (.pair (.own b9) (.pair I6 .unit))],Ia,zog Ia⟩
def Xv:FK K_q144:=wl (lt:=g7) (zx Ia) nF Tryz.func82 loopsL_nil boxesL_none
def K_q35:j4:=⟨83,[.v I6],[.v (.own cw)],Io,zog Io⟩
def Vq:bZ:=oP ⟨[(4,.leaf I6),(0,.leaf I6),(3,.whole z0 cw)],[(z0,false,.rows cw)]⟩ [((.exit 0),⟨[(3,.whole z0 cw)],[(z0,false,.rows cw)]⟩)] aby MA
def lt_q35:LT:=[(3,Vq)]
def XO:FK K_q35:=wl (lt:=lt_q35) (Ls:=[Vq]) (zx Io) nF Tryz.func83 (lq loopsL_nil) boxesL_none
def K_q45:j4:=⟨72,[],[.v (.pair .bool (.pair I6 (.pair .str (.pair (.pair I6 (.pair (.own an) .unit)) (.pair (.pair (.own b9) (.pair I6 .unit)) (.pair (.own cw) (.pair (.own cg) .unit)))))))],q45,zog q45⟩
def fk_q45:FK K_q45:=wl (lt:=g7) (zx q45) (XO _ (Xv _ nF)) Tryz.func72 loopsL_nil boxesL_none
def UO:j4:=⟨31,[.v I6,.v I6,.v I6],[.v .bool],gh,zog gh⟩
def Cm:FK UO:=wl (lt:=g7) (zx gh) nF Tryz.func31 loopsL_nil boxesL_none
def K_q43:j4:=⟨73,[.v I6],[.v (.pair I6 (.pair I6 (.pair I6 (.pair .str (.pair I6 (.pair (.pair (.pair I6 (.pair I6 (.pair (.own I6) (.pair (.own I6) .unit)))) (.pair (.pair I6 (.pair I6 (.pair (.own e_) .unit))) .unit)) .unit))))))],q43,zog q43⟩
def fk_q43:FK K_q43:=wl (lt:=g7) (zx q43) (Cm _ nF) Tryz.func73 loopsL_nil boxesL_none
def K_q72:j4:=⟨68,[],[.v fk],q72,zog q72⟩
def Vj:bZ:=oP ⟨[(2,.leaf I6),(1,.aR z0 []),(0,.aR z1 [])],[(z0,false,.var fk (.pair (.pair (.leaf .bool) (.pair (.leaf I6) (.pair (.leaf .str) (.pair (.pair (.leaf I6) (.pair (.whole z2 an) (.leaf .unit))) (.pair (.pair (.whole z3 b9) (.leaf (.pair I6 .unit))) (.pair (.whole 500000004 cw) (.pair (.whole 500000005 cg) (.leaf .unit)))))))) (.pair (.whole 500000006 bm) (.pair (.whole 500000007 cp) (.pair (.whole 500000008 an) (.leaf .unit)))))),(z1,false,.var fk (.pair (.pair (.leaf .bool) (.pair (.leaf I6) (.pair (.leaf .str) (.pair (.pair (.leaf I6) (.pair (.whole 500000009 an) (.leaf .unit))) (.pair (.pair (.whole 500000010 b9) (.leaf (.pair I6 .unit))) (.pair (.whole 500000011 cw) (.pair (.whole 500000012 cg) (.leaf .unit)))))))) (.pair (.whole 500000013 bm) (.pair (.whole 500000014 cp) (.pair (.whole 500000015 an) (.leaf .unit)))))),(z2,false,.rows an),(z3,false,.rows b9),(500000004,false,.rows cw),(500000005,false,.rows cg),(500000006,false,.rows bm),(500000007,false,.rows cp),(500000008,false,.rows an),(500000009,false,.rows an),(500000010,false,.rows b9),(500000011,false,.rows cw),(500000012,false,.rows cg),(500000013,false,.rows bm),(500000014,false,.rows cp),(500000015,false,.rows an)]⟩ [((.exit 0),⟨[(0,.aR z0 []),(1,.aR z1 [])],[(z0,false,.var fk (.pair (.pair (.leaf .bool) (.pair (.leaf I6) (.pair (.leaf .str) (.pair (.pair (.leaf I6) (.pair (.whole z2 an) (.leaf .unit))) (.pair (.pair (.whole z3 b9) (.leaf (.pair I6 .unit))) (.pair (.whole 500000004 cw) (.pair (.whole 500000005 cg) (.leaf .unit)))))))) (.pair (.whole 500000006 bm) (.pair (.whole 500000007 cp) (.pair (.whole 500000008 an) (.leaf .unit)))))),(z1,false,.var fk (.pair (.pair (.leaf .bool) (.pair (.leaf I6) (.pair (.leaf .str) (.pair (.pair (.leaf I6) (.pair (.whole 500000009 an) (.leaf .unit))) (.pair (.pair (.whole 500000010 b9) (.leaf (.pair I6 .unit))) (.pair (.whole 500000011 cw) (.pair (.whole 500000012 cg) (.leaf .unit)))))))) (.pair (.whole 500000013 bm) (.pair (.whole 500000014 cp) (.pair (.whole 500000015 an) (.leaf .unit)))))),(z2,false,.rows an),(z3,false,.rows b9),(500000004,false,.rows cw),(500000005,false,.rows cg),(500000006,false,.rows bm),(500000007,false,.rows cp),(500000008,false,.rows an),(500000009,false,.rows an),(500000010,false,.rows b9),(500000011,false,.rows cw),(500000012,false,.rows cg),(500000013,false,.rows bm),(500000014,false,.rows cp),(500000015,false,.rows an)]⟩)] ab2 QZ
def lt_q72:LT:=[(3,Vj)]
def fk_q72:FK K_q72:=wl (lt:=lt_q72) (Ls:=[Vj]) (zx q72) (fk_q43 _ (fk_q45 _ nF)) Tryz.func68 (lq loopsL_nil) boxesL_none
def K_q56:j4:=⟨36,[.p dj,.v I6],[.v I6],m5,zog m5⟩
def IN:FK K_q56:=wl (lt:=g7) (zx m5) nF Tryz.func36 loopsL_nil boxesL_none
def UL:j4:=⟨37,[.p dj,.v (.lst .str)],[.v .str],Mc,zog Mc⟩
def aey:FK UL:=wl (lt:=g7) (zx Mc) (IN _ nF) Tryz.func37 loopsL_nil boxesL_none
def K_q73:j4:=⟨74,[.v I6],[.v I6],Ci,zog Ci⟩
def LH:FK K_q73:=wl (lt:=g7) (zx Ci) nF Tryz.func74 loopsL_nil boxesL_none
def UK:j4:=⟨75,[.v .bool],[.v I6],KC,zog KC⟩
def aew:FK UK:=wl (lt:=g7) (zx KC) nF Tryz.func75 loopsL_nil boxesL_none
def K_q82:j4:=⟨76,[.p dj,.v I6],[.v .str],Is,zog Is⟩
def VS:bZ:=oP ⟨[(6,.leaf I6),(0,.aR 900 []),(5,.whole z0 I8),(1,.leaf I6)],[(900,false,.var dj (.leaf dj)),(z0,false,.rows I8)]⟩ [((.exit 0),⟨[(5,.whole z0 I8)],[(900,false,.var dj (.leaf dj)),(z0,false,.rows I8)]⟩)] ab8 Q4
def lt_q82:LT:=[(3,VS)]
def fk_q82:FK K_q82:=wl (lt:=lt_q82) (Ls:=[VS]) (zx Is) (IN _ nF) Tryz.func76 (lq loopsL_nil) boxesL_none
def K_q80:j4:=⟨69,[.p dj,.v fk],[.v di],q80,zog q80⟩
def Hv:Cx:=⟨Dj,[K_q82.entry,UK.entry,K_q73.entry,UL.entry,K_q56.entry],false,Gl⟩
def VH:bZ:=boxD ⟨[(0,.aR 900 []),(3,.aR z0 []),(4,.aR z1 []),(5,.leaf I6)],[(900,false,.var dj (.leaf dj)),(z0,false,.var fk (.leaf fk)),(z1,false,.var di (.leaf di))]⟩ [(.norm,⟨[(0,.aR 900 []),(3,.aR z0 []),(4,.aR z1 []),(5,.leaf I6)],[(900,false,.var dj (.leaf dj)),(z0,false,.var fk (.leaf fk)),(z1,false,.var di (.leaf di))]⟩)] q14 QJ
def VI:bZ:=boxD ⟨[(0,.aR 900 []),(7,.leaf I6),(3,.aR z0 []),(4,.aR z1 []),(6,.leaf .str),(5,.leaf I6)],[(900,false,.var dj (.leaf dj)),(z0,false,.var fk (.leaf fk)),(z1,false,.var di (.leaf di))]⟩ [(.norm,⟨[(4,.aR z0 []),(0,.aR 900 []),(7,.leaf I6),(6,.leaf .str),(5,.leaf I6),(3,.aR z1 [])],[(900,false,.var dj (.leaf dj)),(z0,false,.var di (.leaf di)),(z1,false,.var fk (.leaf fk))]⟩)] q15 QK
def VJ:bZ:=oP ⟨[(8,.leaf I6),(0,.aR 900 []),(7,.leaf I6),(3,.aR z0 []),(4,.aR z1 []),(6,.leaf .str),(5,.leaf I6)],[(900,false,.var dj (.leaf dj)),(z0,false,.var fk (.leaf fk)),(z1,false,.var di (.leaf di))]⟩ [((.exit 0),⟨[(4,.aR z0 []),(0,.aR 900 []),(7,.leaf I6),(6,.leaf .str),(5,.leaf I6),(3,.aR z1 [])],[(900,false,.var dj (.leaf dj)),(z0,false,.var di (.leaf di)),(z1,false,.var fk (.leaf fk))]⟩)] ab4 OH
def VK:bZ:=boxD ⟨[(4,.aR z0 []),(0,.aR 900 []),(7,.leaf I6),(6,.leaf .str),(5,.leaf I6),(3,.aR z1 [])],[(900,false,.var dj (.leaf dj)),(z0,false,.var di (.leaf di)),(z1,false,.var fk (.leaf fk))]⟩ [(.ret,⟨[(4,.aR z0 [])],[(900,false,.var dj (.leaf dj)),(z0,false,.var di (.leaf di))]⟩),(.norm,⟨[(4,.aR z0 []),(0,.aR 900 []),(6,.leaf .str),(7,.leaf I6),(5,.leaf I6)],[(900,false,.var dj (.leaf dj)),(z0,false,.var di (.leaf di))]⟩)] q16 QM
def VL:bZ:=boxD ⟨[(4,.aR z0 []),(0,.aR 900 []),(6,.leaf .str),(7,.leaf I6),(5,.leaf I6),(100,.leaf I6)],[(900,false,.var dj (.leaf dj)),(z0,false,.var di (.leaf di))]⟩ [(.norm,⟨[(101,.leaf .bool),(4,.aR z0 []),(0,.aR 900 []),(6,.leaf .str),(7,.leaf I6),(5,.leaf I6),(100,.leaf I6)],[(900,false,.var dj (.leaf dj)),(z0,false,.var di (.leaf di))]⟩)] q17 QN
def VM:bZ:=boxD ⟨[(4,.aR z0 []),(6,.leaf .str),(7,.leaf I6),(0,.aR 900 []),(5,.leaf I6),(100,.leaf I6)],[(900,false,.var dj (.leaf dj)),(z0,false,.var di (.leaf di))]⟩ [(.norm,⟨[(131,.leaf .bool),(4,.aR z0 []),(6,.leaf .str),(7,.leaf I6),(0,.aR 900 []),(5,.leaf I6),(100,.leaf I6)],[(900,false,.var dj (.leaf dj)),(z0,false,.var di (.leaf di))]⟩)] q18 QO
def VN:bZ:=boxD ⟨[(4,.aR z0 []),(0,.aR 900 []),(5,.leaf I6),(6,.leaf .str),(100,.leaf I6)],[(900,false,.var dj (.leaf dj)),(z0,false,.var di (.leaf di))]⟩ [(.norm,⟨[(148,.leaf .bool),(4,.aR z0 []),(0,.aR 900 []),(5,.leaf I6),(6,.leaf .str),(100,.leaf I6)],[(900,false,.var dj (.leaf dj)),(z0,false,.var di (.leaf di))]⟩)] q19 QS
def VO:bZ:=boxD ⟨[(4,.aR z0 []),(0,.aR 900 []),(5,.leaf I6),(6,.leaf .str),(100,.leaf I6)],[(900,false,.var dj (.leaf dj)),(z0,false,.var di (.leaf di))]⟩ [(.norm,⟨[(158,.leaf .bool),(4,.aR z0 []),(0,.aR 900 []),(5,.leaf I6),(6,.leaf .str),(100,.leaf I6)],[(900,false,.var dj (.leaf dj)),(z0,false,.var di (.leaf di))]⟩)] q20 QU
def VP:bZ:=boxD ⟨[(4,.aR z0 []),(5,.leaf I6),(100,.leaf I6)],[(900,false,.var dj (.leaf dj)),(z0,false,.var di (.leaf di))]⟩ [(.norm,⟨[(201,.leaf .bool),(4,.aR z0 []),(5,.leaf I6),(100,.leaf I6)],[(900,false,.var dj (.leaf dj)),(z0,false,.var di (.leaf di))]⟩)] q21 QV
def VQ:bZ:=boxD ⟨[(4,.aR z0 []),(5,.leaf I6),(100,.leaf I6)],[(900,false,.var dj (.leaf dj)),(z0,false,.var di (.leaf di))]⟩ [(.norm,⟨[(205,.leaf .bool),(4,.aR z0 []),(5,.leaf I6)],[(900,false,.var dj (.leaf dj)),(z0,false,.var di (.leaf di))]⟩)] q22 QW
def GW:LT:=[(2000002,VH),(2000006,VI),(8,VJ),(2000013,VK),(2000017,VL),(2000023,VM),(2000031,VN),(2000040,VO),(2000052,VP),(2000055,VQ)]
def aiZ:∀x,boxR Hv GW (qD Tryz.f69 2) VH x=q14 x:=by intro x;kernel_rfl
def ai0:∀x,boxR Hv GW (qD Tryz.f69 6) VI x=q15 x:=by intro x;kernel_rfl
def ai1:∀x,boxR Hv GW (qD Tryz.f69 14) VK x=q16 x:=by intro x;kernel_rfl
def ai2:∀x,boxR Hv GW (qD Tryz.f69 20) VL x=q17 x:=by intro x;kernel_rfl
def ai3:∀x,boxR Hv GW (qD Tryz.f69 26) VM x=q18 x:=by intro x;kernel_rfl
def ai4:∀x,boxR Hv GW (qD Tryz.f69 34) VN x=q19 x:=by intro x;kernel_rfl
def ai5:∀x,boxR Hv GW (qD Tryz.f69 43) VO x=q20 x:=by intro x;kernel_rfl
def ai6:∀x,boxR Hv GW (qD Tryz.f69 55) VP x=q21 x:=by intro x;kernel_rfl
def ai7:∀x,boxR Hv GW (qD Tryz.f69 58) VQ x=q22 x:=by intro x;kernel_rfl
def fk_q80:FK K_q80:=wl (lt:=GW) (Ls:=[VJ]) (zx q80) (fk_q82 _ (aew _ (LH _ (aey _ (IN _ nF))))) Tryz.func69 (lq loopsL_nil) (boxes_of (ks:=[2,6,14,20,26,34,43,55,58]) (by kernel_rfl) (boxesL_cons (by kernel_rfl) aiZ q14_v (boxesL_cons (by kernel_rfl) ai0 q15_v (boxesL_cons (by kernel_rfl) ai1 q16_v (boxesL_cons (by kernel_rfl) ai2 q17_v (boxesL_cons (by kernel_rfl) ai3 q18_v (boxesL_cons (by kernel_rfl) ai4 q19_v (boxesL_cons (by kernel_rfl) ai5 q20_v (boxesL_cons (by kernel_rfl) ai6 q21_v (boxesL_cons (by kernel_rfl) ai7 q22_v boxesL_nil))))))))))
def K_q165:j4:=⟨80,[.v g9],[.v (.pair I6 (.pair (.own an) .unit))],G9,zog G9⟩
def SA:FK K_q165:=wl (lt:=g7) (zx G9) nF Tryz.func80 loopsL_nil boxesL_none
def K_q97:j4:=⟨81,[.v mb],[.v (.pair (.own b9) (.pair I6 .unit))],Gm,zog Gm⟩
def PR:FK K_q97:=wl (lt:=g7) (zx Gm) nF Tryz.func81 loopsL_nil boxesL_none
def K_q102:j4:=⟨71,[.v b7],[.v (.pair .bool (.pair I6 (.pair .str (.pair (.pair I6 (.pair (.own an) .unit)) (.pair (.pair (.own b9) (.pair I6 .unit)) (.pair (.own cw) (.pair (.own cg) .unit)))))))],Fq,zog Fq⟩
def LB:FK K_q102:=wl (lt:=g7) (zx Fq) (PR _ (SA _ nF)) Tryz.func71 loopsL_nil boxesL_none
def K_q160:j4:=⟨63,[.v gv],[.v (.pair I6 (.pair I6 (.pair (.own I6) (.pair (.own I6) .unit))))],Ie,zog Ie⟩
def XF:FK K_q160:=wl (lt:=g7) (zx Ie) nF Tryz.func63 loopsL_nil boxesL_none
def K_q150:j4:=⟨64,[.v ei],[.v (.pair I6 (.pair I6 (.pair (.own e_) .unit)))],Jo,zog Jo⟩
def V8:bZ:=oP ⟨[(4,.leaf I6),(3,.aR z0 []),(1,.aR z1 []),(2,.aR z2 [])],[(z0,false,.var ei (.pair (.leaf I6) (.pair (.leaf I6) (.pair (.whole z3 e_) (.leaf .unit))))),(z1,false,.var ei (.leaf ei)),(z2,false,.var ei (.pair (.leaf I6) (.pair (.leaf I6) (.pair (.whole 500000004 e_) (.leaf .unit))))),(z3,false,.rows e_),(500000004,false,.rows e_)]⟩ [((.exit 0),⟨[(2,.aR z0 []),(3,.aR z1 [])],[(z0,false,.var ei (.pair (.leaf I6) (.pair (.leaf I6) (.pair (.whole z2 e_) (.leaf .unit))))),(z1,false,.var ei (.pair (.leaf I6) (.pair (.leaf I6) (.pair (.whole z3 e_) (.leaf .unit))))),(z2,false,.rows e_),(z3,false,.rows e_)]⟩)] aam Ml
def agd:LT:=[(3,V8)]
def XA:FK K_q150:=wl (lt:=agd) (Ls:=[V8]) (zx Jo) nF Tryz.func64 (lq loopsL_nil) boxesL_none
def K_q159:j4:=⟨51,[.v nT],[.v (.pair (.pair I6 (.pair I6 (.pair (.own I6) (.pair (.own I6) .unit)))) (.pair (.pair I6 (.pair I6 (.pair (.own e_) .unit))) .unit))],KL,zog KL⟩
def XE:FK K_q159:=wl (lt:=g7) (zx KL) (XA _ (XF _ nF)) Tryz.func51 loopsL_nil boxesL_none
def K_q112:j4:=⟨39,[.v bm],[.v (.pair I6 (.pair I6 (.pair I6 (.pair .str (.pair I6 (.pair (.pair (.pair I6 (.pair I6 (.pair (.own I6) (.pair (.own I6) .unit)))) (.pair (.pair I6 (.pair I6 (.pair (.own e_) .unit))) .unit)) .unit))))))],F3,zog F3⟩
def PG:FK K_q112:=wl (lt:=g7) (zx F3) (XE _ nF) Tryz.func39 loopsL_nil boxesL_none
def K_q116:j4:=⟨67,[.v fk],[.v (.pair b7 (.pair (.own bm) (.pair (.own cp) (.pair (.own an) .unit))))],H9,zog H9⟩
def VA:bZ:=oP ⟨[(4,.leaf I6),(3,.aR z0 []),(1,.aR z1 []),(2,.aR z2 [])],[(z0,false,.var fk (.pair (.pair (.leaf .bool) (.pair (.leaf I6) (.pair (.leaf .str) (.pair (.pair (.leaf I6) (.pair (.whole z3 an) (.leaf .unit))) (.pair (.pair (.whole 500000004 b9) (.leaf (.pair I6 .unit))) (.pair (.whole 500000005 cw) (.pair (.whole 500000006 cg) (.leaf .unit)))))))) (.pair (.whole 500000007 bm) (.pair (.whole 500000008 cp) (.pair (.whole 500000009 an) (.leaf .unit)))))),(z1,false,.var fk (.leaf fk)),(z2,false,.var fk (.pair (.pair (.leaf .bool) (.pair (.leaf I6) (.pair (.leaf .str) (.pair (.pair (.leaf I6) (.pair (.whole 500000010 an) (.leaf .unit))) (.pair (.pair (.whole 500000011 b9) (.leaf (.pair I6 .unit))) (.pair (.whole 500000012 cw) (.pair (.whole 500000013 cg) (.leaf .unit)))))))) (.pair (.whole 500000014 bm) (.pair (.whole 500000015 cp) (.pair (.whole 500000016 an) (.leaf .unit)))))),(z3,false,.rows an),(500000004,false,.rows b9),(500000005,false,.rows cw),(500000006,false,.rows cg),(500000007,false,.rows bm),(500000008,false,.rows cp),(500000009,false,.rows an),(500000010,false,.rows an),(500000011,false,.rows b9),(500000012,false,.rows cw),(500000013,false,.rows cg),(500000014,false,.rows bm),(500000015,false,.rows cp),(500000016,false,.rows an)]⟩ [((.exit 0),⟨[(2,.aR z0 []),(3,.aR z1 [])],[(z0,false,.var fk (.pair (.pair (.leaf .bool) (.pair (.leaf I6) (.pair (.leaf .str) (.pair (.pair (.leaf I6) (.pair (.whole z2 an) (.leaf .unit))) (.pair (.pair (.whole z3 b9) (.leaf (.pair I6 .unit))) (.pair (.whole 500000004 cw) (.pair (.whole 500000005 cg) (.leaf .unit)))))))) (.pair (.whole 500000006 bm) (.pair (.whole 500000007 cp) (.pair (.whole 500000008 an) (.leaf .unit)))))),(z1,false,.var fk (.pair (.pair (.leaf .bool) (.pair (.leaf I6) (.pair (.leaf .str) (.pair (.pair (.leaf I6) (.pair (.whole 500000009 an) (.leaf .unit))) (.pair (.pair (.whole 500000010 b9) (.leaf (.pair I6 .unit))) (.pair (.whole 500000011 cw) (.pair (.whole 500000012 cg) (.leaf .unit)))))))) (.pair (.whole 500000013 bm) (.pair (.whole 500000014 cp) (.pair (.whole 500000015 an) (.leaf .unit)))))),(z2,false,.rows an),(z3,false,.rows b9),(500000004,false,.rows cw),(500000005,false,.rows cg),(500000006,false,.rows bm),(500000007,false,.rows cp),(500000008,false,.rows an),(500000009,false,.rows an),(500000010,false,.rows b9),(500000011,false,.rows cw),(500000012,false,.rows cg),(500000013,false,.rows bm),(500000014,false,.rows cp),(500000015,false,.rows an)]⟩)] ZI QG
def af0:LT:=[(3,VA)]
def Xo:FK K_q116:=wl (lt:=af0) (Ls:=[VA]) (zx H9) (PG _ (LB _ nF)) Tryz.func67 (lq loopsL_nil) boxesL_none
def K_q161:j4:=⟨118,[.v .str,.v I6,.v I8],[.v I6],Cz,zog Cz⟩
def Wr:bZ:=oP ⟨[(7,.leaf I6),(2,.leaf I8),(0,.leaf .str)],[]⟩ [(.ret,⟨[(6,.leaf I6)],[]⟩),((.exit 0),⟨[],[]⟩)] aay F8
def agk:LT:=[(2,Wr)]
def Sz:FK K_q161:=wl (lt:=agk) (Ls:=[Wr]) (zx Cz) nF Tryz.func118 (lq loopsL_nil) boxesL_none
def K_q156:j4:=⟨119,[.v .str,.v I8],[.v (.own .str)],DH,zog DH⟩
def Wj:bZ:=oP ⟨[(7,.leaf I6),(6,.leaf I6),(0,.leaf .str),(5,.whole z0 .str),(1,.leaf I8)],[(z0,false,.rows .str)]⟩ [((.exit 0),⟨[(6,.leaf I6),(0,.leaf .str),(5,.whole z0 .str)],[(z0,false,.rows .str)]⟩)] aas DI
def agh:LT:=[(4,Wj)]
def PK:FK K_q156:=wl (lt:=agh) (Ls:=[Wj]) (zx DH) nF Tryz.func119 (lq loopsL_nil) boxesL_none
def K_q193:j4:=⟨120,[.v .str],[.v I6],AD,zog AD⟩
def Wm:bZ:=oP ⟨[(4,.leaf I6),(0,.leaf .str),(3,.leaf I6)],[]⟩ [(.ret,⟨[(2,.leaf I6)],[]⟩),((.exit 0),⟨[(3,.leaf I6)],[]⟩)] abf Mw
def agC:LT:=[(5,Wm)]
def NL:FK K_q193:=wl (lt:=agC) (Ls:=[Wm]) (zx AD) (Cm _ nF) Tryz.func120 (lq loopsL_nil) boxesL_none
def K_q140:j4:=⟨34,[.v .str],[.v .bool],DU,zog DU⟩
def U8:bZ:=oP ⟨[(3,.leaf I6),(0,.leaf .str)],[]⟩ [(.ret,⟨[(2,.leaf .bool)],[]⟩),((.exit 0),⟨[(0,.leaf .str)],[]⟩)] aaa Fs
def af_:LT:=[(2,U8)]
def PJ:FK K_q140:=wl (lt:=af_) (Ls:=[U8]) (zx DU) (Cm _ nF) Tryz.func34 (lq loopsL_nil) boxesL_none
def K_q143:j4:=⟨23,[.v eL],[.v .bool],EE,zog EE⟩
def NJ:FK K_q143:=wl (lt:=g7) (zx EE) (PJ _ (Cm _ nF)) Tryz.func23 loopsL_nil boxesL_none
def RU:j4:=⟨139,[.v I6],[.v .str],As,zog As⟩
def Nm (g:((Int))→Option (((List UInt8))×(Unit)))(g':((Int))→((List UInt8))×(Unit)):j4:=⟨139,[.v I6],[.v .str],g,g'⟩
def C_q182 (g:((Int))→Option (((List UInt8))×(Unit)))(g':((Int))→((List UInt8))×(Unit)):Cx:=⟨Dj,[(Nm g g').entry],false,Gl⟩
def e_q182 (g:((Int))→Option (((List UInt8))×(Unit)))(g':((Int))→((List UInt8))×(Unit)):∀xs,evT (C_q182 g g') g7 Tryz.f139 [.v I6] [.v .str] xs=q39 g g' xs:=by intro xs;kernel_rfl
def s_q182 (g:((Int))→Option (((List UInt8))×(Unit)))(g':((Int))→((List UInt8))×(Unit))(hv:∀x y,g x=some y→g' x=y)(h:CO (Nm g g')):CO (Nm (q39 g g') (fun x=>match q39 g g' x with | some y=>y|none=>default)):=con_ok (Ls:=[]) mixed (Si _ _) (eN.cons nF (Nm g g') (by kernel_rfl) hv h) Tryz.func139 loopsL_nil boxesL_none (e_q182 g g')
def n_q182 (n:Nat):CO (Nm (EZ n) (fun x=>match EZ n x with | some y=>y|none=>default)):=by
 induction n with
 |zero=>intro xs y h;exact absurd (show none=some y from h) (by simp)
 |succ n ih=>
  rw[TZ n]
  exact s_q182 _ _ (fun x y h=>by simp only[h]) ih
def agZ:CO RU:=n_q182 20
def LD:FK RU:=fun _ _ h=>h.cons RU (by kernel_rfl) (zx As) agZ
def K_q126:j4:=⟨125,[.v eL],[.v .str],Mf,zog Mf⟩
def aeA:FK K_q126:=wl (lt:=g7) (zx Mf) (LD _ nF) Tryz.func125 loopsL_nil boxesL_none
def K_q195:j4:=⟨126,[.v .str],[.v .str],KY,zog KY⟩
def Wt:bZ:=oP ⟨[(4,.leaf I6),(0,.leaf .str),(3,.leaf I6)],[]⟩ [((.exit 0),⟨[(3,.leaf I6)],[]⟩)] abh QT
def Wu:bZ:=oP ⟨[(5,.leaf .str)],[]⟩ [((.exit 2),⟨[(5,.leaf .str)],[]⟩)] abj OE
def agD:LT:=[(3,Wt),(7,Wu)]
def ae2:FK K_q195:=wl (lt:=agD) (Ls:=[Wt,Wu]) (zx KY) (LD _ nF) Tryz.func126 (lq (lq loopsL_nil)) boxesL_none
def K_q48:j4:=⟨99,[.v eL],[.v .str],Ip,zog Ip⟩
def XP:FK K_q48:=wl (lt:=g7) (zx Ip) (ae2 _ (aeA _ (NJ _ nF))) Tryz.func99 loopsL_nil boxesL_none
def K_q71:j4:=⟨95,[.v .str],[.v eL,.v .bool],q71,zog q71⟩
def fk_q71:FK K_q71:=wl (lt:=g7) (zx q71) (XP _ (NJ _ (NL _ (PK _ (Sz _ nF))))) Tryz.func95 loopsL_nil boxesL_none
def K_q85:j4:=⟨185,[.v .str],[.v (.own I8)],q85,zog q85⟩
def VY:bZ:=oP ⟨[(3,.whole z0 I8),(0,.leaf .str)],[(z0,false,.rows I8)]⟩ [((.exit 0),⟨[(3,.whole z0 I8),(0,.leaf .str)],[(z0,false,.rows I8)]⟩)] ab_ MH
def VZ:bZ:=oP ⟨[(5,.leaf I6),(4,.leaf I6),(3,.whole z0 I8)],[(z0,false,.rows I8)]⟩ [((.exit 2),⟨[(3,.whole z0 I8)],[(z0,false,.rows I8)]⟩)] ace OI
def lt_q85:LT:=[(2,VY),(6,VZ)]
def fk_q85:FK K_q85:=wl (lt:=lt_q85) (Ls:=[VY,VZ]) (zx q85) nF Tryz.func185 (lq (lq loopsL_nil)) boxesL_none
def K_q149:j4:=⟨189,[.v I3,.v I6],[.v I3],x3,zog x3⟩
def Xz:FK K_q149:=wl (lt:=g7) (zx x3) nF Tryz.func189 loopsL_nil boxesL_none
def K_q123:j4:=⟨187,[.v (.lst I8)],[.v (.own I3)],Md,zog Md⟩
def V2:bZ:=oP ⟨[(4,.leaf I6),(0,.leaf (.lst I8)),(3,.whole z0 I3)],[(z0,false,.rows I3)]⟩ [((.exit 0),⟨[(3,.whole z0 I3)],[(z0,false,.rows I3)]⟩)] ZT Oz
def V3:bZ:=oP ⟨[(5,.leaf I6),(3,.whole z0 I3)],[(z0,false,.rows I3)]⟩ [((.exit 2),⟨[(3,.whole z0 I3)],[(z0,false,.rows I3)]⟩)] ZV OA
def af3:LT:=[(3,V2),(7,V3)]
def aez:FK K_q123:=wl (lt:=af3) (Ls:=[V2,V3]) (zx Md) (Xz _ nF) Tryz.func187 (lq (lq loopsL_nil)) boxesL_none
def K_q84:j4:=⟨188,[],[.v (.own I3)],q84,zog q84⟩
def fk_q84:FK K_q84:=wl (lt:=g7) (zx q84) nF Tryz.func188 loopsL_nil boxesL_none
def K_q120:j4:=⟨186,[.v (.lst I3),.v (.lst I8)],[.v (.own I3)],KD,zog KD⟩
def VT:bZ:=oP ⟨[(7,.whole z0 I3),(8,.leaf I6),(5,.whole z1 I3),(6,.whole z2 I3),(0,.leaf (.lst I3))],[(z0,false,.rows I3),(z1,false,.rows I3),(z2,false,.rows I3)]⟩ [((.exit 0),⟨[(7,.whole z0 I3),(0,.leaf (.lst I3))],[(z0,false,.rows I3)]⟩)] ZO Oy
def VU:bZ:=oP ⟨[(14,.leaf I6),(7,.whole z0 I3),(5,.whole z1 I3),(6,.whole z2 I3),(0,.leaf (.lst I3)),(8,.leaf I6),(13,.leaf I3),(12,.leaf I3),(11,.leaf I3)],[(z0,false,.rows I3),(z1,false,.rows I3),(z2,false,.rows I3)]⟩ [((.exit 2),⟨[(7,.whole z0 I3),(5,.whole z1 I3),(6,.whole z2 I3),(0,.leaf (.lst I3)),(8,.leaf I6),(13,.leaf I3),(12,.leaf I3),(11,.leaf I3)],[(z0,false,.rows I3),(z1,false,.rows I3),(z2,false,.rows I3)]⟩)] TX TW
def VV:bZ:=oP ⟨[(16,.leaf I6),(7,.whole z0 I3),(0,.leaf (.lst I3)),(15,.whole z1 I3)],[(z0,false,.rows I3),(z1,false,.rows I3)]⟩ [((.exit 4),⟨[(15,.whole z0 I3)],[(z0,false,.rows I3)]⟩)] ZR TY
def af2:LT:=[(5,VT),(13,VU),(20,VV)]
def aex:FK K_q120:=wl (lt:=af2) (Ls:=[VT,VU,VV]) (zx KD) (Xz _ (fk_q84 _ (aez _ nF))) Tryz.func186 (lq (lq (lq loopsL_nil))) boxesL_none
def K_q184:j4:=⟨183,[.v .str],[.v .str],KT,zog KT⟩
def V0:bZ:=oP ⟨[(5,.leaf I6),(4,.whole z0 I8),(3,.whole z1 I3)],[(z0,false,.rows I8),(z1,false,.rows I3)]⟩ [((.exit 0),⟨[(3,.whole z0 I3)],[(z0,false,.rows I3)]⟩)] aaU Mq
def V1:bZ:=oP ⟨[(7,.leaf I6),(3,.whole z0 I3),(6,.whole z1 I8)],[(z0,false,.rows I3),(z1,false,.rows I8)]⟩ [((.exit 2),⟨[(6,.whole z0 I8)],[(z0,false,.rows I8)]⟩)] aaW T0
def agt:LT:=[(4,V0),(9,V1)]
def aeW:FK K_q184:=wl (lt:=agt) (Ls:=[V0,V1]) (zx KT) (aex _ (fk_q85 _ nF)) Tryz.func183 (lq (lq loopsL_nil)) boxesL_none
def K_q183:j4:=⟨182,[.v .str],[.v .str],Il,zog Il⟩
def VW:bZ:=oP ⟨[(4,.leaf I6),(0,.leaf .str),(3,.whole z0 I8)],[(z0,false,.rows I8)]⟩ [((.exit 0),⟨[(3,.whole z0 I8)],[(z0,false,.rows I8)]⟩)] aaS Mp
def ags:LT:=[(3,VW)]
def aeV:FK K_q183:=wl (lt:=ags) (Ls:=[VW]) (zx Il) nF Tryz.func182 (lq loopsL_nil) boxesL_none
def K_q93:j4:=⟨174,[.v .str],[.v .str],q93,zog q93⟩
def fk_q93:FK K_q93:=wl (lt:=g7) (zx q93) (aeV _ (aeW _ nF)) Tryz.func174 loopsL_nil boxesL_none
def K_q162:j4:=⟨159,[.v I6,.v .str],[.v .str],Ig,zog Ig⟩
def XG:FK K_q162:=wl (lt:=g7) (zx Ig) (fk_q93 _ (LD _ nF)) Tryz.func159 loopsL_nil boxesL_none
def K_q163:j4:=⟨148,[.v .str,.v I6,.v I6],[.v .str,.v I6],Js,zog Js⟩
def aeM:FK K_q163:=wl (lt:=g7) (zx Js) (XG _ (Cm _ (NL _ (Sz _ nF)))) Tryz.func148 loopsL_nil boxesL_none
def K_q164:j4:=⟨116,[.v .str],[.v (.own .str),.v I6],Fu,zog Fu⟩
def Wv:bZ:=oP ⟨[(5,.leaf I6),(4,.whole z0 .str),(0,.leaf .str)],[(z0,false,.rows .str)]⟩ [(.ret,⟨[(2,.whole z0 .str),(3,.leaf I6)],[(z0,false,.rows .str)]⟩)] aaA Mm
def agl:LT:=[(3,Wv)]
def NK:FK K_q164:=wl (lt:=agl) (Ls:=[Wv]) (zx Fu) (aeM _ nF) Tryz.func116 (lq loopsL_nil) boxesL_none
def K_q200:j4:=⟨134,[.v an],[.v .bool],Hf,zog Hf⟩
def SJ:FK K_q200:=wl (lt:=g7) (zx Hf) (PJ _ (Cm _ nF)) Tryz.func134 loopsL_nil boxesL_none
def K_q42:j4:=⟨103,[.v I6,.v .str,.v .str],[.v .str],E4,zog E4⟩
def PN:FK K_q42:=wl (lt:=g7) (zx E4) (LD _ (SJ _ nF)) Tryz.func103 loopsL_nil boxesL_none
def K_q167:j4:=⟨157,[.v an,.v I6,.v .str],[.v .bool],Jt,zog Jt⟩
def XH:FK K_q167:=wl (lt:=g7) (zx Jt) nF Tryz.func157 loopsL_nil boxesL_none
def K_q127:j4:=⟨136,[.v (.lst an),.v I6],[.v I6],Jk,zog Jk⟩
def Wx:bZ:=oP ⟨[(6,.leaf I6),(0,.leaf (.lst an)),(5,.leaf I6),(1,.leaf I6)],[]⟩ [((.exit 0),⟨[(5,.leaf I6)],[]⟩)] ZZ KE
def af5:LT:=[(3,Wx)]
def Xp:FK K_q127:=wl (lt:=af5) (Ls:=[Wx]) (zx Jk) nF Tryz.func136 (lq loopsL_nil) boxesL_none
def K_q173:j4:=⟨133,[.v g9],[.v .bool],Ij,zog Ij⟩
def U4:bZ:=oP ⟨[(1,.aR z0 []),(3,.leaf I6)],[(z0,false,.var g9 (.leaf g9))]⟩ [(.ret,⟨[(2,.leaf .bool)],[]⟩),((.exit 0),⟨[(1,.aR z0 [])],[(z0,false,.var g9 (.leaf g9))]⟩)] aaG KO
def U5:bZ:=oP ⟨[(5,.leaf I6),(4,.aR z0 []),(1,.aR z1 []),(3,.leaf I6)],[(z0,false,.var an (.leaf an)),(z1,false,.var g9 (.leaf g9))]⟩ [(.ret,⟨[(2,.leaf .bool)],[]⟩),((.exit 2),⟨[(1,.aR z0 []),(3,.leaf I6)],[(z0,false,.var g9 (.leaf g9))]⟩)] aaI Mo
def U6:bZ:=oP ⟨[(6,.leaf I6),(1,.aR z0 [])],[(z0,false,.var g9 (.leaf g9))]⟩ [(.ret,⟨[(2,.leaf .bool)],[]⟩),((.exit 4),⟨[],[]⟩)] aaK OD
def ago:LT:=[(4,U4),(10,U5),(15,U6)]
def SD:FK K_q173:=wl (lt:=ago) (Ls:=[U4,U5,U6]) (zx Ij) (Xp _ (XH _ (SJ _ (Cm _ nF)))) Tryz.func133 (lq (lq (lq loopsL_nil))) boxesL_none
def K_q199:j4:=⟨135,[.v g9,.v I6,.v .str],[.v I6],Ge,zog Ge⟩
def Ww:bZ:=oP ⟨[(7,.leaf I6),(2,.leaf .str),(3,.aR z0 []),(1,.leaf I6)],[(z0,false,.var g9 (.leaf g9))]⟩ [(.ret,⟨[(6,.leaf I6)],[]⟩),((.exit 0),⟨[],[]⟩)] abp K0
def agG:LT:=[(2,Ww)]
def SH:FK K_q199:=wl (lt:=agG) (Ls:=[Ww]) (zx Ge) nF Tryz.func135 (lq loopsL_nil) boxesL_none
def K_q168:j4:=⟨167,[.v g9,.v I6],[.v (.pair I6 (.pair (.own an) .unit))],Mn,zog Mn⟩
def aeN:FK K_q168:=wl (lt:=g7) (zx Mn) nF Tryz.func167 loopsL_nil boxesL_none
def K_q91:j4:=⟨147,[.v g9,.v I6,.v .str],[.v (.pair I6 (.pair (.own an) .unit)),.v I6],Iu,zog Iu⟩
def fk_q91:FK K_q91:=wl (lt:=g7) (zx Iu) (aeN _ (SA _ (SH _ (SD _ nF)))) Tryz.func147 loopsL_nil boxesL_none
def K_q196:j4:=⟨137,[.v g9,.v an],[.v (.pair I6 (.pair (.own an) .unit))],Mx,zog Mx⟩
def Wz:bZ:=oP ⟨[(5,.leaf I6),(4,.aR z0 []),(2,.aR z1 []),(3,.aR z2 [])],[(z0,false,.var g9 (.pair (.leaf I6) (.pair (.whole z3 an) (.leaf .unit)))),(z1,false,.var g9 (.leaf g9)),(z2,false,.var an (.leaf an)),(z3,false,.rows an)]⟩ [((.exit 0),⟨[(4,.aR z0 []),(5,.leaf I6),(2,.aR z1 []),(3,.aR z2 [])],[(z0,false,.var g9 (.pair (.leaf I6) (.pair (.whole z3 an) (.leaf .unit)))),(z1,false,.var g9 (.leaf g9)),(z2,false,.var an (.leaf an)),(z3,false,.rows an)]⟩)] abl KZ
def agE:LT:=[(2,Wz)]
def ae3:FK K_q196:=wl (lt:=agE) (Ls:=[Wz]) (zx Mx) (XH _ nF) Tryz.func137 (lq loopsL_nil) boxesL_none
def K_q136:j4:=⟨101,[.v g9,.v I6,.v .str,.v .str],[.v (.pair I6 (.pair (.own an) .unit)),.v I6],F6,zog F6⟩
def Xs:FK K_q136:=wl (lt:=g7) (zx F6) (ae3 _ (Xp _ (SH _ (SA _ (SJ _ (SD _ nF)))))) Tryz.func101 loopsL_nil boxesL_none
def K_q166:j4:=⟨114,[.v g9,.v .str],[.v (.pair I6 (.pair (.own an) .unit)),.v .bool],F9,zog F9⟩
def SB:FK K_q166:=wl (lt:=g7) (zx F9) (Xs _ (fk_q91 _ (PN _ (NL _ (PK _ (Sz _ nF)))))) Tryz.func114 loopsL_nil boxesL_none
def K_q172:j4:=⟨117,[.v (.lst .str)],[.v (.pair I6 (.pair (.own an) .unit)),.v .bool],Jv,zog Jv⟩
def U3:bZ:=oP ⟨[(2,.aR z0 []),(5,.leaf I6),(4,.aR z1 []),(0,.leaf (.lst .str))],[(z0,false,.var g9 (.pair (.leaf I6) (.pair (.whole z2 an) (.leaf .unit)))),(z1,false,.var g9 (.pair (.leaf I6) (.pair (.whole z3 an) (.leaf .unit)))),(z2,false,.rows an),(z3,false,.rows an)]⟩ [(.ret,⟨[(2,.aR z0 []),(3,.leaf .bool)],[(z0,false,.var g9 (.pair (.leaf I6) (.pair (.whole z1 an) (.leaf .unit)))),(z1,false,.rows an)]⟩),((.exit 0),⟨[(2,.aR z0 []),(4,.aR z1 [])],[(z0,false,.var g9 (.pair (.leaf I6) (.pair (.whole z2 an) (.leaf .unit)))),(z1,false,.var g9 (.pair (.leaf I6) (.pair (.whole z3 an) (.leaf .unit)))),(z2,false,.rows an),(z3,false,.rows an)]⟩)] aaE KN
def agn:LT:=[(3,U3)]
def SC:FK K_q172:=wl (lt:=agn) (Ls:=[U3]) (zx Jv) (SB _ nF) Tryz.func117 (lq loopsL_nil) boxesL_none
def K_q108:j4:=⟨127,[.v b7],[.v .bool],Ku,zog Ku⟩
def aer:FK K_q108:=wl (lt:=g7) (zx Ku) (SC _ (NK _ nF)) Tryz.func127 loopsL_nil boxesL_none
def K_q107:j4:=⟨128,[.v g9,.v g9],[.v .bool],H8,zog H8⟩
def Vt:bZ:=oP ⟨[(5,.leaf I6),(3,.aR z0 []),(2,.aR z1 [])],[(z0,false,.var g9 (.leaf g9)),(z1,false,.var g9 (.leaf g9))]⟩ [(.ret,⟨[(4,.leaf .bool)],[]⟩),((.exit 0),⟨[],[]⟩)] ZA Kr
def afX:LT:=[(4,Vt)]
def aeq:FK K_q107:=wl (lt:=afX) (Ls:=[Vt]) (zx H8) nF Tryz.func128 (lq loopsL_nil) boxesL_none
def K_q178:j4:=⟨155,[.v b9],[.v .bool],Jx,zog Jx⟩
def aeS:FK K_q178:=wl (lt:=g7) (zx Jx) (Cm _ nF) Tryz.func155 loopsL_nil boxesL_none
def K_q177:j4:=⟨156,[.v mb,.v I6],[.v I6],KQ,zog KQ⟩
def Vm:bZ:=oP ⟨[(6,.leaf I6),(5,.leaf I6),(1,.leaf I6),(2,.aR z0 [])],[(z0,false,.var mb (.leaf mb))]⟩ [((.exit 0),⟨[(5,.leaf I6)],[]⟩)] aaO KR
def agq:LT:=[(3,Vm)]
def XJ:FK K_q177:=wl (lt:=agq) (Ls:=[Vm]) (zx KQ) nF Tryz.func156 (lq loopsL_nil) boxesL_none
def K_q142:j4:=⟨129,[.v mb],[.v .bool],H_,zog H_⟩
def U_:bZ:=oP ⟨[(1,.aR z0 []),(3,.leaf I6)],[(z0,false,.var mb (.leaf mb))]⟩ [(.ret,⟨[(2,.leaf .bool)],[]⟩),((.exit 0),⟨[(1,.aR z0 [])],[(z0,false,.var mb (.leaf mb))]⟩)] aae Jm
def Va:bZ:=oP ⟨[(4,.leaf I6),(1,.aR z0 []),(3,.leaf I6)],[(z0,false,.var mb (.leaf mb))]⟩ [(.ret,⟨[(2,.leaf .bool)],[]⟩),((.exit 2),⟨[(1,.aR z0 []),(3,.leaf I6)],[(z0,false,.var mb (.leaf mb))]⟩)] aag Ft
def Vb:bZ:=oP ⟨[(5,.leaf I6),(1,.aR z0 [])],[(z0,false,.var mb (.leaf mb))]⟩ [(.ret,⟨[(2,.leaf .bool)],[]⟩),((.exit 4),⟨[],[]⟩)] aai Jn
def agb:LT:=[(4,U_),(9,Va),(14,Vb)]
def Xu:FK K_q142:=wl (lt:=agb) (Ls:=[U_,Va,Vb]) (zx H_) (XJ _ (aeS _ (Cm _ nF))) Tryz.func129 (lq (lq (lq loopsL_nil))) boxesL_none
def K_q59:j4:=⟨110,[.v g9,.v I6],[.v an,.v .bool],Gf,zog Gf⟩
def Wy:bZ:=oP ⟨[(4,.aR z0 []),(6,.leaf I6),(2,.aR z1 []),(1,.leaf I6)],[(z0,false,.var an (.leaf an)),(z1,false,.var g9 (.leaf g9))]⟩ [(.ret,⟨[(4,.aR z0 []),(5,.leaf .bool)],[(z0,false,.var an (.leaf an))]⟩),((.exit 0),⟨[(4,.aR z0 [])],[(z0,false,.var an (.leaf an))]⟩)] abK K5
def lt_q59:LT:=[(2,Wy)]
def PO:FK K_q59:=wl (lt:=lt_q59) (Ls:=[Wy]) (zx Gf) nF Tryz.func110 (lq loopsL_nil) boxesL_none
def K_q50:j4:=⟨130,[.v b7],[.v .bool],q50,zog q50⟩
def Vu:bZ:=oP ⟨[(3,.leaf I6),(1,.aR z0 [])],[(z0,false,.var b7 (.leaf b7))]⟩ [(.ret,⟨[(2,.leaf .bool)],[]⟩),((.exit 0),⟨[],[]⟩)] abE JA
def lt_q50:LT:=[(2,Vu)]
def fk_q50:FK K_q50:=wl (lt:=lt_q50) (Ls:=[Vu]) (zx q50) (LH _ (PO _ (Cm _ nF))) Tryz.func130 (lq loopsL_nil) boxesL_none
def K_q125:j4:=⟨49,[.v gv],[.v I6],Bn,zog Bn⟩
def HH:FK K_q125:=wl (lt:=g7) (zx Bn) nF Tryz.func49 loopsL_nil boxesL_none
def K_q192:j4:=⟨131,[.v I6],[.v (.pair I6 (.pair I6 (.pair (.own I6) (.pair (.own I6) .unit))))],Ch,zog Ch⟩
def Wk:bZ:=oP ⟨[(3,.aR z0 []),(2,.aR z1 [])],[(z0,false,.var gv (.pair (.leaf I6) (.pair (.leaf I6) (.pair (.whole z2 I6) (.pair (.whole z3 I6) (.leaf .unit)))))),(z1,false,.var gv (.pair (.leaf I6) (.pair (.leaf I6) (.pair (.whole 500000004 I6) (.pair (.whole 500000005 I6) (.leaf .unit)))))),(z2,false,.rows I6),(z3,false,.rows I6),(500000004,false,.rows I6),(500000005,false,.rows I6)]⟩ [((.exit 0),⟨[(2,.aR z0 []),(3,.aR z1 [])],[(z0,false,.var gv (.pair (.leaf I6) (.pair (.leaf I6) (.pair (.whole z2 I6) (.pair (.whole z3 I6) (.leaf .unit)))))),(z1,false,.var gv (.pair (.leaf I6) (.pair (.leaf I6) (.pair (.whole 500000004 I6) (.pair (.whole 500000005 I6) (.leaf .unit)))))),(z2,false,.rows I6),(z3,false,.rows I6),(500000004,false,.rows I6),(500000005,false,.rows I6)]⟩)] abd Fw
def agB:LT:=[(2,Wk)]
def PL:FK K_q192:=wl (lt:=agB) (Ls:=[Wk]) (zx Ch) (HH _ nF) Tryz.func131 (lq loopsL_nil) boxesL_none
def K_q66:j4:=⟨132,[.v cw],[.v .bool],q66,zog q66⟩
def fk_q66:FK K_q66:=wl (lt:=g7) (zx q66) (Cm _ nF) Tryz.func132 loopsL_nil boxesL_none
def K_q69:j4:=⟨100,[.v b7],[.v .bool],Gi,zog Gi⟩
def Vd:bZ:=oP ⟨[(7,.leaf I6),(1,.aR z0 [])],[(z0,false,.var b7 (.leaf b7))]⟩ [(.ret,⟨[(2,.leaf .bool)],[]⟩),((.exit 0),⟨[(1,.aR z0 [])],[(z0,false,.var b7 (.leaf b7))]⟩)] abS Gj
def Ve:bZ:=oP ⟨[(10,.leaf I6),(1,.aR z0 [])],[(z0,false,.var b7 (.leaf b7))]⟩ [(.ret,⟨[(2,.leaf .bool)],[]⟩),((.exit 2),⟨[],[]⟩)] abU K6
def lt_q69:LT:=[(10,Vd),(16,Ve)]
def LG:FK K_q69:=wl (lt:=lt_q69) (Ls:=[Vd,Ve]) (zx Gi) (fk_q66 _ (HH _ (PL _ (PO _ (fk_q50 _ (Xu _ (aeq _ (SC _ (NK _ (aer _ (Cm _ nF))))))))))) Tryz.func100 (lq (lq loopsL_nil)) boxesL_none
def UN:j4:=⟨109,[.v b7,.v I6],[.v I6],Ga,zog Ga⟩
def Vo:bZ:=oP ⟨[(5,.leaf I6),(1,.leaf I6),(2,.aR z0 [])],[(z0,false,.var b7 (.leaf b7))]⟩ [(.ret,⟨[(4,.leaf I6)],[]⟩),((.exit 0),⟨[],[]⟩)] aaQ Fv
def agr:LT:=[(2,Vo)]
def SF:FK UN:=wl (lt:=agr) (Ls:=[Vo]) (zx Ga) nF Tryz.func109 (lq loopsL_nil) boxesL_none
def K_q135:j4:=⟨104,[.v g9,.v I6,.v .str],[.v an,.v .bool],Ee,zog Ee⟩
def Xr:FK K_q135:=wl (lt:=g7) (zx Ee) (SD _ (SH _ nF)) Tryz.func104 loopsL_nil boxesL_none
def K_q37:j4:=⟨111,[.v b7,.v I6],[.v (.pair .bool (.pair I6 (.pair .str (.pair g9 (.pair mb (.pair (.lst cw) (.pair (.own cg) .unit)))))))],Hg,zog Hg⟩
def Vx:bZ:=oP ⟨[(6,.leaf I6),(2,.aR z0 []),(5,.whole z1 cg),(1,.leaf I6),(4,.aR z2 [])],[(z0,false,.var b7 (.leaf b7)),(z1,false,.rows cg),(z2,false,.var b7 (.pair (.leaf .bool) (.pair (.leaf I6) (.pair (.leaf .str) (.pair (.pair (.leaf I6) (.pair (.whole z3 an) (.leaf .unit))) (.pair (.pair (.whole 500000004 b9) (.leaf (.pair I6 .unit))) (.pair (.whole 500000005 cw) (.pair (.whole 500000006 cg) (.leaf .unit))))))))),(z3,false,.rows an),(500000004,false,.rows b9),(500000005,false,.rows cw),(500000006,false,.rows cg)]⟩ [((.exit 0),⟨[(4,.aR z0 []),(2,.aR z1 []),(5,.whole z2 cg)],[(z0,false,.var b7 (.pair (.leaf .bool) (.pair (.leaf I6) (.pair (.leaf .str) (.pair (.pair (.leaf I6) (.pair (.whole z3 an) (.leaf .unit))) (.pair (.pair (.whole 500000004 b9) (.leaf (.pair I6 .unit))) (.pair (.whole 500000005 cw) (.pair (.whole 500000006 cg) (.leaf .unit))))))))),(z1,false,.var b7 (.leaf b7)),(z2,false,.rows cg),(z3,false,.rows an),(500000004,false,.rows b9),(500000005,false,.rows cw),(500000006,false,.rows cg)]⟩)] abA K3
def lt_q37:LT:=[(3,Vx)]
def PM:FK K_q37:=wl (lt:=lt_q37) (Ls:=[Vx]) (zx Hg) nF Tryz.func111 (lq loopsL_nil) boxesL_none
def K_q103:j4:=⟨112,[.v I6,.v I6,.v I6],[.v (.own eL)],Jj,zog Jj⟩
def Xk:FK K_q103:=wl (lt:=g7) (zx Jj) nF Tryz.func112 loopsL_nil boxesL_none
def K_q110:j4:=⟨168,[.v b7,.v cg],[.v (.pair .bool (.pair I6 (.pair .str (.pair g9 (.pair mb (.pair (.lst cw) (.pair (.own cg) .unit)))))))],Ma,zog Ma⟩
def Vw:bZ:=oP ⟨[(5,.leaf I6),(4,.aR z0 []),(2,.aR z1 []),(3,.aR z2 [])],[(z0,false,.var b7 (.pair (.leaf .bool) (.pair (.leaf I6) (.pair (.leaf .str) (.pair (.pair (.leaf I6) (.pair (.whole z3 an) (.leaf .unit))) (.pair (.pair (.whole 500000004 b9) (.leaf (.pair I6 .unit))) (.pair (.whole 500000005 cw) (.pair (.whole 500000006 cg) (.leaf .unit))))))))),(z1,false,.var b7 (.pair (.leaf .bool) (.pair (.leaf I6) (.pair (.leaf .str) (.pair (.leaf g9) (.pair (.leaf mb) (.pair (.leaf (.lst cw)) (.pair (.whole 500000007 cg) (.leaf .unit))))))))),(z2,false,.var cg (.leaf cg)),(z3,false,.rows an),(500000004,false,.rows b9),(500000005,false,.rows cw),(500000006,false,.rows cg),(500000007,false,.rows cg)]⟩ [((.exit 0),⟨[(4,.aR z0 []),(2,.aR z1 []),(5,.leaf I6),(3,.aR z2 [])],[(z0,false,.var b7 (.pair (.leaf .bool) (.pair (.leaf I6) (.pair (.leaf .str) (.pair (.pair (.leaf I6) (.pair (.whole z3 an) (.leaf .unit))) (.pair (.pair (.whole 500000004 b9) (.leaf (.pair I6 .unit))) (.pair (.whole 500000005 cw) (.pair (.whole 500000006 cg) (.leaf .unit))))))))),(z1,false,.var b7 (.pair (.leaf .bool) (.pair (.leaf I6) (.pair (.leaf .str) (.pair (.leaf g9) (.pair (.leaf mb) (.pair (.leaf (.lst cw)) (.pair (.whole 500000007 cg) (.leaf .unit))))))))),(z2,false,.var cg (.leaf cg)),(z3,false,.rows an),(500000004,false,.rows b9),(500000005,false,.rows cw),(500000006,false,.rows cg),(500000007,false,.rows cg)]⟩)] ZG Kw
def afZ:LT:=[(3,Vw)]
def aet:FK K_q110:=wl (lt:=afZ) (Ls:=[Vw]) (zx Ma) (PM _ nF) Tryz.func168 (lq loopsL_nil) boxesL_none
def K_q141:j4:=⟨47,[.v gv],[.v .bool],Ef,zog Ef⟩
def U9:bZ:=oP ⟨[(3,.leaf I6),(1,.aR z0 [])],[(z0,false,.var gv (.leaf gv))]⟩ [(.ret,⟨[(2,.leaf .bool)],[]⟩),((.exit 0),⟨[(1,.aR z0 [])],[(z0,false,.var gv (.leaf gv))]⟩)] aac G8
def aga:LT:=[(4,U9)]
def Sy:FK K_q141:=wl (lt:=aga) (Ls:=[U9]) (zx Ef) (HH _ (Cm _ nF)) Tryz.func47 (lq loopsL_nil) boxesL_none
def K_q157:j4:=⟨171,[.v (.lst I6)],[.v .str],Ib,zog Ib⟩
def Wl:bZ:=oP ⟨[(4,.leaf I6),(0,.leaf (.lst I6)),(3,.leaf .str)],[]⟩ [((.exit 0),⟨[(3,.leaf .str)],[]⟩)] aau QL
def agi:LT:=[(3,Wl)]
def aeK:FK K_q157:=wl (lt:=agi) (Ls:=[Wl]) (zx Ib) (LD _ nF) Tryz.func171 (lq loopsL_nil) boxesL_none
def K_q44:j4:=⟨152,[.v gv],[.v .str],E5,zog E5⟩
def SL:FK K_q44:=wl (lt:=g7) (zx E5) (aeK _ (LD _ (Sy _ nF))) Tryz.func152 loopsL_nil boxesL_none
def UJ:j4:=⟨149,[.k (.pair .bool (.pair I6 (.pair .str (.pair (.pair I6 (.pair (.own an) .unit)) (.pair (.pair (.own b9) (.pair I6 .unit)) (.pair (.own cw) (.pair (.own cg) .unit))))))),.v eL],[.v (.pair .bool (.pair I6 (.pair .str (.pair g9 (.pair mb (.pair (.lst cw) (.pair (.own cg) .unit))))))),.v (.own eL)],L8,zog L8⟩
def aep:FK UJ:=wl (lt:=g7) (zx L8) (SL _ (PL _ (aet _ (Xk _ (PM _ (Xr _ (LH _ (SF _ nF)))))))) Tryz.func149 loopsL_nil boxesL_none
def K_q104:j4:=⟨121,[.k (.pair .bool (.pair I6 (.pair .str (.pair (.pair I6 (.pair (.own an) .unit)) (.pair (.pair (.own b9) (.pair I6 .unit)) (.pair (.own cw) (.pair (.own cg) .unit))))))),.v eL],[.v (.pair .bool (.pair I6 (.pair .str (.pair g9 (.pair mb (.pair (.lst cw) (.pair (.own cg) .unit))))))),.v (.own eL)],L6,zog L6⟩
def C_q104:Cx:=⟨Dj,[K_q37.entry,UN.entry,UJ.entry],false,Gl⟩
def Vr:bZ:=boxD ⟨[(4,.aR z0 []),(2,.aR z1 []),(3,.aR z2 []),(6,.leaf I6)],[(z0,false,.var b7 (.pair (.leaf .bool) (.pair (.leaf I6) (.pair (.leaf .str) (.pair (.pair (.leaf I6) (.pair (.whole z3 an) (.leaf .unit))) (.pair (.pair (.whole 500000004 b9) (.leaf (.pair I6 .unit))) (.pair (.whole 500000005 cw) (.pair (.whole 500000006 cg) (.leaf .unit))))))))),(z1,false,.var b7 (.pair (.leaf .bool) (.pair (.leaf I6) (.pair (.leaf .str) (.pair (.pair (.leaf I6) (.pair (.whole 500000007 an) (.leaf .unit))) (.pair (.pair (.whole 500000008 b9) (.leaf (.pair I6 .unit))) (.pair (.whole 500000009 cw) (.pair (.whole 500000010 cg) (.leaf .unit))))))))),(z2,false,.var eL (.leaf eL)),(z3,false,.rows an),(500000004,false,.rows b9),(500000005,false,.rows cw),(500000006,false,.rows cg),(500000007,false,.rows an),(500000008,false,.rows b9),(500000009,false,.rows cw),(500000010,false,.rows cg)]⟩ [(.norm,⟨[(4,.aR z0 []),(2,.aR z1 [])],[(z0,false,.var b7 (.pair (.leaf .bool) (.pair (.leaf I6) (.pair (.leaf .str) (.pair (.pair (.leaf I6) (.pair (.whole z2 an) (.leaf .unit))) (.pair (.pair (.whole z3 b9) (.leaf (.pair I6 .unit))) (.pair (.whole 500000004 cw) (.pair (.whole 500000005 cg) (.leaf .unit))))))))),(z1,false,.var b7 (.pair (.leaf .bool) (.pair (.leaf I6) (.pair (.leaf .str) (.pair (.leaf g9) (.pair (.leaf mb) (.pair (.leaf (.lst cw)) (.pair (.whole 500000006 cg) (.leaf .unit))))))))),(z2,false,.rows an),(z3,false,.rows b9),(500000004,false,.rows cw),(500000005,false,.rows cg),(500000006,false,.rows cg)]⟩),(.norm,⟨[(4,.aR z0 []),(2,.aR z1 [])],[(z0,false,.var b7 (.pair (.leaf .bool) (.pair (.leaf I6) (.pair (.leaf .str) (.pair (.pair (.leaf I6) (.pair (.whole z2 an) (.leaf .unit))) (.pair (.pair (.whole z3 b9) (.leaf (.pair I6 .unit))) (.pair (.whole 500000004 cw) (.pair (.whole 500000005 cg) (.leaf .unit))))))))),(z1,false,.var b7 (.pair (.leaf .bool) (.pair (.leaf I6) (.pair (.leaf .str) (.pair (.pair (.leaf I6) (.pair (.whole 500000006 an) (.leaf .unit))) (.pair (.pair (.whole 500000007 b9) (.leaf (.pair I6 .unit))) (.pair (.whole 500000008 cw) (.pair (.whole 500000009 cg) (.leaf .unit))))))))),(z2,false,.rows an),(z3,false,.rows b9),(500000004,false,.rows cw),(500000005,false,.rows cg),(500000006,false,.rows an),(500000007,false,.rows b9),(500000008,false,.rows cw),(500000009,false,.rows cg)]⟩)] q36 QX
def YK:LT:=[(1000006,Vr)]
def aiS:∀x,boxR C_q104 YK (qD Tryz.f121 8) Vr x=q36 x:=by intro x;kernel_rfl
def aen:FK K_q104:=wl (lt:=YK) (Ls:=[]) (zx L6) (PM _ (SF _ (aep _ nF))) Tryz.func121 loopsL_nil (boxes_of (ks:=[8]) (by kernel_rfl) (boxesL_cons (by kernel_rfl) aiS q36_v boxesL_nil))
def K_q31:j4:=⟨96,[.v b7,.v eL],[.v b7,.v (.own eL)],q31,zog q31⟩
def fk_q31:FK K_q31:=wl (lt:=g7) (zx q31) (aen _ (NJ _ (LB _ (LG _ nF)))) Tryz.func96 loopsL_nil boxesL_none
def RT:j4:=⟨87,[.k (.pair b7 (.pair (.own bm) (.pair (.own cp) (.pair (.own an) .unit)))),.v I6,.v (.lst eL)],[.v (.pair b7 (.pair (.own bm) (.pair (.own cp) (.pair (.own an) .unit))))],G5,zog G5⟩
def C_q118:Cx:=⟨Dj,[K_q48.entry],false,Gl⟩
def VF:bZ:=oP ⟨[(7,.leaf I6),(3,.aR z0 []),(2,.leaf (.lst eL)),(1,.leaf I6),(6,.aR z1 [])],[(z0,false,.var fk (.pair (.leaf b7) (.pair (.whole z2 bm) (.pair (.whole z3 cp) (.pair (.whole 500000004 an) (.leaf .unit)))))),(z1,false,.var fk (.pair (.pair (.leaf .bool) (.pair (.leaf I6) (.pair (.leaf .str) (.pair (.pair (.leaf I6) (.pair (.whole 500000005 an) (.leaf .unit))) (.pair (.pair (.whole 500000006 b9) (.leaf (.pair I6 .unit))) (.pair (.whole 500000007 cw) (.pair (.whole 500000008 cg) (.leaf .unit)))))))) (.pair (.whole 500000009 bm) (.pair (.whole 500000010 cp) (.pair (.whole 500000011 an) (.leaf .unit)))))),(z2,false,.rows bm),(z3,false,.rows cp),(500000004,false,.rows an),(500000005,false,.rows an),(500000006,false,.rows b9),(500000007,false,.rows cw),(500000008,false,.rows cg),(500000009,false,.rows bm),(500000010,false,.rows cp),(500000011,false,.rows an)]⟩ [((.exit 0),⟨[(6,.aR z0 []),(3,.aR z1 [])],[(z0,false,.var fk (.pair (.pair (.leaf .bool) (.pair (.leaf I6) (.pair (.leaf .str) (.pair (.pair (.leaf I6) (.pair (.whole z2 an) (.leaf .unit))) (.pair (.pair (.whole z3 b9) (.leaf (.pair I6 .unit))) (.pair (.whole 500000004 cw) (.pair (.whole 500000005 cg) (.leaf .unit)))))))) (.pair (.whole 500000006 bm) (.pair (.whole 500000007 cp) (.pair (.whole 500000008 an) (.leaf .unit)))))),(z1,false,.var fk (.pair (.leaf b7) (.pair (.whole 500000009 bm) (.pair (.whole 500000010 cp) (.pair (.whole 500000011 an) (.leaf .unit)))))),(z2,false,.rows an),(z3,false,.rows b9),(500000004,false,.rows cw),(500000005,false,.rows cg),(500000006,false,.rows bm),(500000007,false,.rows cp),(500000008,false,.rows an),(500000009,false,.rows bm),(500000010,false,.rows cp),(500000011,false,.rows an)]⟩)] ZM Mb
def VG:bZ:=boxD ⟨[(3,.aR z0 []),(2,.leaf (.lst eL)),(1,.leaf I6),(6,.aR z1 []),(7,.leaf I6),(8,.leaf I6)],[(z0,false,.var fk (.pair (.leaf b7) (.pair (.whole z2 bm) (.pair (.whole z3 cp) (.pair (.whole 500000004 an) (.leaf .unit)))))),(z1,false,.var fk (.pair (.pair (.leaf .bool) (.pair (.leaf I6) (.pair (.leaf .str) (.pair (.pair (.leaf I6) (.pair (.whole 500000005 an) (.leaf .unit))) (.pair (.pair (.whole 500000006 b9) (.leaf (.pair I6 .unit))) (.pair (.whole 500000007 cw) (.pair (.whole 500000008 cg) (.leaf .unit)))))))) (.pair (.whole 500000009 bm) (.pair (.whole 500000010 cp) (.pair (.whole 500000011 an) (.leaf .unit)))))),(z2,false,.rows bm),(z3,false,.rows cp),(500000004,false,.rows an),(500000005,false,.rows an),(500000006,false,.rows b9),(500000007,false,.rows cw),(500000008,false,.rows cg),(500000009,false,.rows bm),(500000010,false,.rows cp),(500000011,false,.rows an)]⟩ [(.norm,⟨[(3,.aR z0 []),(2,.leaf (.lst eL)),(1,.leaf I6),(6,.aR z1 []),(7,.leaf I6),(8,.leaf I6)],[(z0,false,.var fk (.pair (.leaf b7) (.pair (.whole z2 bm) (.pair (.whole z3 cp) (.pair (.whole 500000004 an) (.leaf .unit)))))),(z1,false,.var fk (.pair (.pair (.leaf .bool) (.pair (.leaf I6) (.pair (.leaf .str) (.pair (.pair (.leaf I6) (.pair (.whole 500000005 an) (.leaf .unit))) (.pair (.pair (.whole 500000006 b9) (.leaf (.pair I6 .unit))) (.pair (.whole 500000007 cw) (.pair (.whole 500000008 cg) (.leaf .unit)))))))) (.pair (.whole 500000009 bm) (.pair (.whole 500000010 cp) (.pair (.whole 500000011 an) (.leaf .unit)))))),(z2,false,.rows bm),(z3,false,.rows cp),(500000004,false,.rows an),(500000005,false,.rows an),(500000006,false,.rows b9),(500000007,false,.rows cw),(500000008,false,.rows cg),(500000009,false,.rows bm),(500000010,false,.rows cp),(500000011,false,.rows an)]⟩)] q38 MB
def YL:LT:=[(2,VF),(2000005,VG)]
def aiY:∀x,boxR C_q118 YL (qD Tryz.f87 7) VG x=q38 x:=by intro x;kernel_rfl
def Sw:FK RT:=wl (lt:=YL) (Ls:=[VF]) (zx G5) (XP _ nF) Tryz.func87 (lq loopsL_nil) (boxes_of (ks:=[7]) (by kernel_rfl) (boxesL_cons (by kernel_rfl) aiY q38_v boxesL_nil))
def K_q115:j4:=⟨32,[.v bm],[.v .bool],KA,zog KA⟩
def aeu:FK K_q115:=wl (lt:=g7) (zx KA) nF Tryz.func32 loopsL_nil boxesL_none
def K_q176:j4:=⟨59,[.v (.lst I6),.v I6],[.v .bool],Ik,zog Ik⟩
def Vc:bZ:=oP ⟨[(5,.leaf I6),(0,.leaf (.lst I6)),(1,.leaf I6)],[]⟩ [(.ret,⟨[(4,.leaf .bool)],[]⟩),((.exit 0),⟨[(1,.leaf I6)],[]⟩)] aaM Jw
def agp:LT:=[(2,Vc)]
def aeR:FK K_q176:=wl (lt:=agp) (Ls:=[Vc]) (zx Ik) (Cm _ nF) Tryz.func59 (lq loopsL_nil) boxesL_none
def K_q189:j4:=⟨60,[.v (.lst I6),.v I6],[.v .bool],EH,zog EH⟩
def V_:bZ:=oP ⟨[(5,.leaf I6),(1,.leaf I6),(0,.leaf (.lst I6))],[]⟩ [(.ret,⟨[(4,.leaf .bool)],[]⟩),((.exit 0),⟨[],[]⟩)] aa6 Mt
def agy:LT:=[(2,V_)]
def SG:FK K_q189:=wl (lt:=agy) (Ls:=[V_]) (zx EH) nF Tryz.func60 (lq loopsL_nil) boxesL_none
def K_q70:j4:=⟨48,[.v ei],[.v .bool],Gk,zog Gk⟩
def Vg:bZ:=oP ⟨[(3,.leaf I6),(1,.aR z0 [])],[(z0,false,.var ei (.leaf ei))]⟩ [(.ret,⟨[(2,.leaf .bool)],[]⟩),((.exit 0),⟨[(1,.aR z0 [])],[(z0,false,.var ei (.leaf ei))]⟩)] abW K7
def Vh:bZ:=oP ⟨[(5,.leaf I6),(1,.aR z0 [])],[(z0,false,.var ei (.leaf ei))]⟩ [(.ret,⟨[(2,.leaf .bool)],[]⟩),((.exit 2),⟨[],[]⟩)] abY ME
def Vi:bZ:=oP ⟨[(6,.leaf I6),(5,.leaf I6),(1,.aR z0 [])],[(z0,false,.var ei (.leaf ei))]⟩ [(.ret,⟨[(2,.leaf .bool)],[]⟩),((.exit 4),⟨[(1,.aR z0 []),(5,.leaf I6)],[(z0,false,.var ei (.leaf ei))]⟩)] ab0 MG
def lt_q70:LT:=[(4,Vg),(10,Vh),(13,Vi)]
def fk_q70:FK K_q70:=wl (lt:=lt_q70) (Ls:=[Vg,Vh,Vi]) (zx Gk) (SG _ (aeR _ (Cm _ nF))) Tryz.func48 (lq (lq (lq loopsL_nil))) boxesL_none
def K_q174:j4:=⟨33,[.v nT],[.v .bool],F_,zog F_⟩
def SE:FK K_q174:=wl (lt:=g7) (zx F_) (HH _ (fk_q70 _ (Sy _ nF))) Tryz.func33 loopsL_nil boxesL_none
def K_q92:j4:=⟨35,[.v nT],[.v .bool],E6,zog E6⟩
def XQ:FK K_q92:=wl (lt:=g7) (zx E6) (HH _ (SE _ nF)) Tryz.func35 loopsL_nil boxesL_none
def K_q67:j4:=⟨11,[.v bm],[.v .bool],Eh,zog Eh⟩
def LF:FK K_q67:=wl (lt:=g7) (zx Eh) (XQ _ (PJ _ (SE _ (aeu _ (Cm _ nF))))) Tryz.func11 loopsL_nil boxesL_none
def K_q114:j4:=⟨122,[.v eL],[.v (.own eL)],Kz,zog Kz⟩
def Xn:FK K_q114:=wl (lt:=g7) (zx Kz) nF Tryz.func122 loopsL_nil boxesL_none
def K_q158:j4:=⟨169,[.v .str],[.v (.own I6)],Ic,zog Ic⟩
def Wn:bZ:=oP ⟨[(5,.leaf I6),(4,.whole z0 .str),(3,.whole z1 I6)],[(z0,false,.rows .str),(z1,false,.rows I6)]⟩ [((.exit 0),⟨[(3,.whole z0 I6)],[(z0,false,.rows I6)]⟩)] aaw OC
def agj:LT:=[(4,Wn)]
def aeL:FK K_q158:=wl (lt:=agj) (Ls:=[Wn]) (zx Ic) (NL _ (PK _ nF)) Tryz.func169 (lq loopsL_nil) boxesL_none
def K_q68:j4:=⟨150,[.v .str],[.v (.pair I6 (.pair I6 (.pair (.own I6) (.pair (.own I6) .unit)))),.v .bool],q68,zog q68⟩
def fk_q68:FK K_q68:=wl (lt:=g7) (zx q68) (SL _ (aeL _ (NL _ (PK _ nF)))) Tryz.func150 loopsL_nil boxesL_none
def K_q47:j4:=⟨170,[.v I6,.v I6],[.v (.pair I6 (.pair I6 (.pair (.own e_) .unit)))],q47,zog q47⟩
def fk_q47:FK K_q47:=wl (lt:=g7) (zx q47) (Cm _ nF) Tryz.func170 loopsL_nil boxesL_none
def K_q138:j4:=⟨151,[.v gv],[.v (.pair (.pair I6 (.pair I6 (.pair (.own I6) (.pair (.own I6) .unit)))) (.pair (.pair I6 (.pair I6 (.pair (.own e_) .unit))) .unit))],Mi,zog Mi⟩
def aeG:FK K_q138:=wl (lt:=g7) (zx Mi) (fk_q47 _ (HH _ (XF _ (Sy _ nF)))) Tryz.func151 loopsL_nil boxesL_none
def K_q51:j4:=⟨123,[.v bm,.v eL],[.v bm],q51,zog q51⟩
def fk_q51:FK K_q51:=wl (lt:=g7) (zx q51) (SL _ (aeG _ (fk_q68 _ nF))) Tryz.func123 loopsL_nil boxesL_none
def K_q188:j4:=⟨179,[.v ei,.v I6],[.v .str,.v .bool],KU,zog KU⟩
def V9:bZ:=oP ⟨[(6,.leaf I6),(2,.aR z0 []),(1,.leaf I6)],[(z0,false,.var ei (.leaf ei))]⟩ [(.ret,⟨[(4,.leaf .str),(5,.leaf .bool)],[]⟩),((.exit 0),⟨[],[]⟩)] aa4 Ms
def agx:LT:=[(2,V9)]
def aeZ:FK K_q188:=wl (lt:=agx) (Ls:=[V9]) (zx KU) nF Tryz.func179 (lq loopsL_nil) boxesL_none
def K_q86:j4:=⟨172,[.v ei],[.v I6],q86,zog q86⟩
def Wb:bZ:=oP ⟨[(3,.leaf I6),(1,.aR z0 [])],[(z0,false,.var ei (.leaf ei))]⟩ [(.ret,⟨[(2,.leaf I6)],[]⟩)] acg Q5
def lt_q86:LT:=[(2,Wb)]
def fk_q86:FK K_q86:=wl (lt:=lt_q86) (Ls:=[Wb]) (zx q86) (aeZ _ nF) Tryz.func172 (lq loopsL_nil) boxesL_none
def K_q58:j4:=⟨153,[.v nT],[.v I6],q58,zog q58⟩
def Wq:bZ:=oP ⟨[(3,.leaf I6),(4,.leaf I6),(1,.aR z0 [])],[(z0,false,.var nT (.leaf nT))]⟩ [((.exit 0),⟨[(3,.leaf I6)],[]⟩)] abI QY
def lt_q58:LT:=[(3,Wq)]
def fk_q58:FK K_q58:=wl (lt:=lt_q58) (Ls:=[Wq]) (zx q58) (fk_q86 _ nF) Tryz.func153 (lq loopsL_nil) boxesL_none
def K_q154:j4:=⟨175,[.v I6],[.v I6],E3,zog E3⟩
def XC:FK K_q154:=wl (lt:=g7) (zx E3) nF Tryz.func175 loopsL_nil boxesL_none
def K_q155:j4:=⟨177,[.v I6,.v I6],[.v I6],EG,zog EG⟩
def XD:FK K_q155:=wl (lt:=g7) (zx EG) nF Tryz.func177 loopsL_nil boxesL_none
def K_q88:j4:=⟨161,[.v gv,.v I6],[.v I6],Hh,zog Hh⟩
def Wo:bZ:=oP ⟨[(6,.leaf I6),(2,.aR z0 []),(5,.leaf I6),(1,.leaf I6)],[(z0,false,.var gv (.leaf gv))]⟩ [((.exit 0),⟨[(2,.aR z0 []),(5,.leaf I6),(1,.leaf I6)],[(z0,false,.var gv (.leaf gv))]⟩)] ack JC
def Wp:bZ:=oP ⟨[(8,.leaf I6),(2,.aR z0 []),(7,.leaf I6)],[(z0,false,.var gv (.leaf gv))]⟩ [(.ret,⟨[(4,.leaf I6)],[]⟩),((.exit 2),⟨[(2,.aR z0 [])],[(z0,false,.var gv (.leaf gv))]⟩)] acn JD
def lt_q88:LT:=[(3,Wo),(8,Wp)]
def fk_q88:FK K_q88:=wl (lt:=lt_q88) (Ls:=[Wo,Wp]) (zx Hh) (HH _ (XD _ (XC _ nF))) Tryz.func161 (lq (lq loopsL_nil)) boxesL_none
def K_q57:j4:=⟨184,[.v I6],[.v (.own I6)],q57,zog q57⟩
def Wd:bZ:=oP ⟨[(5,.leaf I6),(4,.leaf I6),(3,.whole z0 I6),(0,.leaf I6)],[(z0,false,.rows I6)]⟩ [((.exit 0),⟨[(4,.leaf I6),(3,.whole z0 I6)],[(z0,false,.rows I6)]⟩)] abG JB
def lt_q57:LT:=[(4,Wd)]
def fk_q57:FK K_q57:=wl (lt:=lt_q57) (Ls:=[Wd]) (zx q57) nF Tryz.func184 (lq loopsL_nil) boxesL_none
def K_q87:j4:=⟨176,[.v I6,.v I6],[.v I6],q87,zog q87⟩
def Wc:bZ:=oP ⟨[(6,.leaf I6),(5,.whole z0 I6),(1,.leaf I6),(0,.leaf I6)],[(z0,false,.rows I6)]⟩ [(.ret,⟨[(4,.leaf I6)],[]⟩),((.exit 0),⟨[(0,.leaf I6)],[]⟩)] aci K9
def lt_q87:LT:=[(3,Wc)]
def fk_q87:FK K_q87:=wl (lt:=lt_q87) (Ls:=[Wc]) (zx q87) (fk_q57 _ nF) Tryz.func176 (lq loopsL_nil) boxesL_none
def K_q153:j4:=⟨178,[.v (.lst I6),.v I6],[.v (.own I6)],Jq,zog Jq⟩
def We:bZ:=oP ⟨[(5,.leaf I6),(0,.leaf (.lst I6)),(1,.leaf I6)],[]⟩ [((.exit 0),⟨[(5,.leaf I6),(0,.leaf (.lst I6)),(1,.leaf I6)],[]⟩)] aaq Jr
def agf:LT:=[(2,We)]
def aeJ:FK K_q153:=wl (lt:=agf) (Ls:=[We]) (zx Jq) nF Tryz.func178 (lq loopsL_nil) boxesL_none
def K_q190:j4:=⟨160,[.v I6,.v I6],[.v (.own I6)],KV,zog KV⟩
def Wf:bZ:=oP ⟨[(8,.leaf I6),(7,.whole z0 I6),(5,.leaf I6),(6,.leaf I6),(0,.leaf I6)],[(z0,false,.rows I6)]⟩ [((.exit 0),⟨[(7,.whole z0 I6),(5,.leaf I6),(6,.leaf I6)],[(z0,false,.rows I6)]⟩)] aa8 Mu
def Wg:bZ:=oP ⟨[(10,.leaf I6),(7,.whole z0 I6),(9,.whole z1 I6),(5,.leaf I6),(6,.leaf I6)],[(z0,false,.rows I6),(z1,false,.rows I6)]⟩ [((.exit 2),⟨[(9,.whole z0 I6)],[(z0,false,.rows I6)]⟩)] aa_ KW
def agz:LT:=[(5,Wf),(10,Wg)]
def ae0:FK K_q190:=wl (lt:=agz) (Ls:=[Wf,Wg]) (zx KV) (aeJ _ (fk_q87 _ (XD _ (XC _ nF)))) Tryz.func160 (lq (lq loopsL_nil)) boxesL_none
def K_q194:j4:=⟨142,[.v gv,.v I6],[.v (.own I6)],Fx,zog Fx⟩
def XL:FK K_q194:=wl (lt:=g7) (zx Fx) (ae0 _ (fk_q88 _ (HH _ nF))) Tryz.func142 loopsL_nil boxesL_none
def K_q186:j4:=⟨181,[.v (.lst I6),.v (.lst I6)],[.v (.lst I6)],Im,zog Im⟩
def V6:bZ:=oP ⟨[(6,.leaf I6),(0,.leaf (.lst I6)),(5,.whole z0 I6),(7,.leaf I6),(1,.leaf (.lst I6))],[(z0,false,.rows I6)]⟩ [((.exit 0),⟨[(5,.whole z0 I6)],[(z0,false,.rows I6)]⟩)] aa0 Gc
def agv:LT:=[(4,V6)]
def XK:FK K_q186:=wl (lt:=agv) (Ls:=[V6]) (zx Im) nF Tryz.func181 (lq loopsL_nil) boxesL_none
def K_q124:j4:=⟨165,[.v .str,.v .str],[.v .str],F4,zog F4⟩
def V4:bZ:=oP ⟨[(6,.leaf I6),(1,.leaf .str),(0,.leaf .str),(5,.whole z0 I8)],[(z0,false,.rows I8)]⟩ [((.exit 0),⟨[(5,.whole z0 I8)],[(z0,false,.rows I8)]⟩)] ZX Me
def af4:LT:=[(3,V4)]
def Sx:FK K_q124:=wl (lt:=af4) (Ls:=[V4]) (zx F4) nF Tryz.func165 (lq loopsL_nil) boxesL_none
def K_q151:j4:=⟨180,[.v ei,.v e_],[.v e_],KJ,zog KJ⟩
def Wa:bZ:=oP ⟨[(5,.leaf I6),(3,.aR z0 []),(2,.aR z1 []),(4,.aR z2 [])],[(z0,false,.var e_ (.leaf e_)),(z1,false,.var ei (.leaf ei)),(z2,false,.var e_ (.pair (.whole z3 I6) (.leaf (.pair .str .unit)))),(z3,false,.rows I6)]⟩ [((.exit 0),⟨[(4,.aR z0 []),(3,.aR z1 [])],[(z0,false,.var e_ (.pair (.whole z2 I6) (.leaf (.pair .str .unit)))),(z1,false,.var e_ (.leaf e_)),(z2,false,.rows I6)]⟩)] aao KK
def age:LT:=[(2,Wa)]
def aeI:FK K_q151:=wl (lt:=age) (Ls:=[Wa]) (zx KJ) (Sx _ (XK _ (SG _ nF))) Tryz.func180 (lq loopsL_nil) boxesL_none
def K_q147:j4:=⟨164,[.v .str,.v I6],[.v .str],KI,zog KI⟩
def VX:bZ:=oP ⟨[(1,.leaf I6),(0,.leaf .str),(5,.leaf .str)],[]⟩ [((.exit 0),⟨[(5,.leaf .str)],[]⟩)] aak Mj
def agc:LT:=[(2,VX)]
def Xy:FK K_q147:=wl (lt:=agc) (Ls:=[VX]) (zx KI) nF Tryz.func164 (lq loopsL_nil) boxesL_none
def K_q152:j4:=⟨166,[.v I6],[.v .str],Jp,zog Jp⟩
def XB:FK K_q152:=wl (lt:=g7) (zx Jp) (Xy _ nF) Tryz.func166 loopsL_nil boxesL_none
def K_q187:j4:=⟨173,[.v ei,.v (.lst I6),.v .str],[.v (.pair I6 (.pair I6 (.pair (.own e_) .unit))),.v I6],He,zog He⟩
def V7:bZ:=oP ⟨[(12,.leaf I6),(10,.aR z0 []),(8,.aR z1 []),(11,.leaf .bool),(9,.aR z2 []),(6,.aR z3 [])],[(z0,false,.var ei (.pair (.leaf I6) (.pair (.leaf I6) (.pair (.whole 500000004 e_) (.leaf .unit))))),(z1,false,.var e_ (.leaf e_)),(z2,false,.var ei (.pair (.leaf I6) (.pair (.leaf I6) (.pair (.whole 500000005 e_) (.leaf .unit))))),(z3,false,.var ei (.pair (.leaf I6) (.pair (.leaf I6) (.pair (.whole 500000006 e_) (.leaf .unit))))),(500000004,false,.rows e_),(500000005,false,.rows e_),(500000006,false,.rows e_)]⟩ [((.exit 0),⟨[(6,.aR z0 []),(10,.aR z1 []),(8,.aR z2 []),(11,.leaf .bool)],[(z0,false,.var ei (.pair (.leaf I6) (.pair (.leaf I6) (.pair (.whole z3 e_) (.leaf .unit))))),(z1,false,.var ei (.pair (.leaf I6) (.pair (.leaf I6) (.pair (.whole 500000004 e_) (.leaf .unit))))),(z2,false,.var e_ (.leaf e_)),(z3,false,.rows e_),(500000004,false,.rows e_)]⟩)] aa2 Gd
def agw:LT:=[(10,V7)]
def aeY:FK K_q187:=wl (lt:=agw) (Ls:=[V7]) (zx He) (Sx _ (XK _ (SG _ (XB _ (XA _ (aeI _ nF)))))) Tryz.func173 (lq loopsL_nil) boxesL_none
def K_q137:j4:=⟨154,[.v nT,.v I6,.v .str],[.v (.pair (.pair I6 (.pair I6 (.pair (.own I6) (.pair (.own I6) .unit)))) (.pair (.pair I6 (.pair I6 (.pair (.own e_) .unit))) .unit)),.v I6],Mh,zog Mh⟩
def aeF:FK K_q137:=wl (lt:=g7) (zx Mh) (aeY _ (XL _ (Cm _ (XE _ (SE _ nF))))) Tryz.func154 loopsL_nil boxesL_none
def K_q113:j4:=⟨98,[.v bm],[.v (.own eL)],Ky,zog Ky⟩
def Xm:FK K_q113:=wl (lt:=g7) (zx Ky) nF Tryz.func98 loopsL_nil boxesL_none
def K_q52:j4:=⟨124,[.v bm,.v eL],[.v bm,.v (.own eL)],q52,zog q52⟩
def fk_q52:FK K_q52:=wl (lt:=g7) (zx q52) (Xm _ (XQ _ (aeF _ (fk_q58 _ (Xn _ nF))))) Tryz.func124 loopsL_nil boxesL_none
def K_q26:j4:=⟨97,[.v bm,.v eL],[.v bm,.v (.own eL)],q26,zog q26⟩
def fk_q26:FK K_q26:=wl (lt:=g7) (zx q26) (fk_q52 _ (fk_q51 _ (Xn _ (NJ _ (PG _ (LF _ nF)))))) Tryz.func97 loopsL_nil boxesL_none
def K_q74:j4:=⟨84,[.k (.pair b7 (.pair (.own bm) (.pair (.own cp) (.pair (.own an) .unit)))),.v di],[.v (.pair b7 (.pair (.own bm) (.pair (.own cp) (.pair (.own an) .unit))))],q74,zog q74⟩
def C_q74:Cx:=⟨Dj,[K_q26.entry,RT.entry,K_q31.entry,K_q71.entry],false,Gl⟩
def Vy:bZ:=boxD ⟨[(4,.aR z0 []),(2,.aR z1 []),(5,.aR z2 []),(3,.aR z3 [])],[(z0,false,.var fk (.pair (.pair (.leaf .bool) (.pair (.leaf I6) (.pair (.leaf .str) (.pair (.pair (.leaf I6) (.pair (.whole 500000004 an) (.leaf .unit))) (.pair (.pair (.whole 500000005 b9) (.leaf (.pair I6 .unit))) (.pair (.whole 500000006 cw) (.pair (.whole 500000007 cg) (.leaf .unit)))))))) (.pair (.whole 500000008 bm) (.pair (.whole 500000009 cp) (.pair (.whole 500000010 an) (.leaf .unit)))))),(z1,false,.var fk (.pair (.leaf b7) (.pair (.whole 500000011 bm) (.pair (.whole 500000012 cp) (.pair (.whole 500000013 an) (.leaf .unit)))))),(z2,false,.var cp (.leaf cp)),(z3,false,.var di (.leaf di)),(500000004,false,.rows an),(500000005,false,.rows b9),(500000006,false,.rows cw),(500000007,false,.rows cg),(500000008,false,.rows bm),(500000009,false,.rows cp),(500000010,false,.rows an),(500000011,false,.rows bm),(500000012,false,.rows cp),(500000013,false,.rows an)]⟩ [(.norm,⟨[(4,.aR z0 []),(2,.aR z1 []),(5,.aR z2 [])],[(z0,false,.var fk (.pair (.pair (.leaf .bool) (.pair (.leaf I6) (.pair (.leaf .str) (.pair (.pair (.leaf I6) (.pair (.whole z3 an) (.leaf .unit))) (.pair (.pair (.whole 500000004 b9) (.leaf (.pair I6 .unit))) (.pair (.whole 500000005 cw) (.pair (.whole 500000006 cg) (.leaf .unit)))))))) (.pair (.whole 500000007 bm) (.pair (.whole 500000008 cp) (.pair (.whole 500000009 an) (.leaf .unit)))))),(z1,false,.var fk (.pair (.leaf b7) (.pair (.whole 500000010 bm) (.pair (.whole 500000011 cp) (.pair (.whole 500000012 an) (.leaf .unit)))))),(z2,false,.var cp (.leaf cp)),(z3,false,.rows an),(500000004,false,.rows b9),(500000005,false,.rows cw),(500000006,false,.rows cg),(500000007,false,.rows bm),(500000008,false,.rows cp),(500000009,false,.rows an),(500000010,false,.rows bm),(500000011,false,.rows cp),(500000012,false,.rows an)]⟩)] q12 QI
def YN:LT:=[(2000002,Vy)]
def aiT:∀x,boxR C_q74 YN (qD Tryz.f84 2) Vy x=q12 x:=by intro x;kernel_rfl
def fk_q74:FK K_q74:=wl (lt:=YN) (Ls:=[]) (zx q74) (fk_q26 _ (Sw _ (fk_q31 _ (fk_q71 _ nF)))) Tryz.func84 loopsL_nil (boxes_of (ks:=[2]) (by kernel_rfl) (boxesL_cons (by kernel_rfl) aiT q12_v boxesL_nil))
def K_q79:j4:=⟨85,[.v cp,.v I6],[.v cp],q79,zog q79⟩
def fk_q79:FK K_q79:=wl (lt:=g7) (zx q79) nF Tryz.func85 loopsL_nil boxesL_none
def K_q78:j4:=⟨77,[.k (.pair b7 (.pair (.own bm) (.pair (.own cp) (.pair (.own an) .unit)))),.v di],[.v (.pair b7 (.pair (.own bm) (.pair (.own cp) (.pair (.own an) .unit)))),.v .bool],q78,zog q78⟩
def fk_q78:FK K_q78:=wl (lt:=g7) (zx q78) (fk_q79 _ (fk_q74 _ (Cm _ nF))) Tryz.func77 loopsL_nil boxesL_none
def K_q111:j4:=⟨24,[.v bm],[.v (.own eL)],Kx,zog Kx⟩
def Su:FK K_q111:=wl (lt:=g7) (zx Kx) nF Tryz.func24 loopsL_nil boxesL_none
def K_q27:j4:=⟨14,[.v bm,.v .str],[.v (.pair I6 (.pair I6 (.pair I6 (.pair .str (.pair I6 (.pair (.pair (.pair I6 (.pair I6 (.pair (.own I6) (.pair (.own I6) .unit)))) (.pair (.pair I6 (.pair I6 (.pair (.own e_) .unit))) .unit)) .unit)))))),.v (.own eL)],q27,zog q27⟩
def fk_q27:FK K_q27:=wl (lt:=g7) (zx q27) (Su _ (PG _ (PJ _ (LF _ nF)))) Tryz.func14 loopsL_nil boxesL_none
def RS:j4:=⟨19,[.v bm],[.v (.pair I6 (.pair I6 (.pair I6 (.pair .str (.pair I6 (.pair (.pair (.pair I6 (.pair I6 (.pair (.own I6) (.pair (.own I6) .unit)))) (.pair (.pair I6 (.pair I6 (.pair (.own e_) .unit))) .unit)) .unit)))))),.v (.own eL)],G4,zog G4⟩
def Xl:FK RS:=wl (lt:=g7) (zx G4) (Su _ (PG _ (LF _ nF))) Tryz.func19 loopsL_nil boxesL_none
def K_q28:j4:=⟨86,[.v bm],[.v (.pair I6 (.pair I6 (.pair I6 (.pair .str (.pair I6 (.pair (.pair (.pair I6 (.pair I6 (.pair (.own I6) (.pair (.own I6) .unit)))) (.pair (.pair I6 (.pair I6 (.pair (.own e_) .unit))) .unit)) .unit)))))),.v (.own eL)],q28,zog q28⟩
def fk_q28:FK K_q28:=wl (lt:=g7) (zx q28) (Xm _ (LF _ nF)) Tryz.func86 loopsL_nil boxesL_none
def K_q29:j4:=⟨9,[.v bm],[.v (.own eL)],q29,zog q29⟩
def fk_q29:FK K_q29:=wl (lt:=g7) (zx q29) (Su _ (LF _ nF)) Tryz.func9 loopsL_nil boxesL_none
def K_q53:j4:=⟨78,[.k (.pair b7 (.pair (.own bm) (.pair (.own cp) (.pair (.own an) .unit)))),.v di],[.v (.pair b7 (.pair (.own bm) (.pair (.own cp) (.pair (.own an) .unit)))),.v .bool],q53,zog q53⟩
def C_q53:Cx:=⟨Dj,[RT.entry,K_q29.entry,K_q28.entry,RS.entry,K_q27.entry,UO.entry],false,Gl⟩
def Vz:bZ:=boxD ⟨[(4,.aR z0 []),(2,.aR z1 []),(3,.aR z2 []),(6,.aR z3 []),(8,.aR 500000004 [])],[(z0,false,.var fk (.pair (.pair (.leaf .bool) (.pair (.leaf I6) (.pair (.leaf .str) (.pair (.pair (.leaf I6) (.pair (.whole 500000005 an) (.leaf .unit))) (.pair (.pair (.whole 500000006 b9) (.leaf (.pair I6 .unit))) (.pair (.whole 500000007 cw) (.pair (.whole 500000008 cg) (.leaf .unit)))))))) (.pair (.whole 500000009 bm) (.pair (.whole 500000010 cp) (.pair (.whole 500000011 an) (.leaf .unit)))))),(z1,false,.var fk (.pair (.leaf b7) (.pair (.whole 500000012 bm) (.pair (.whole 500000013 cp) (.pair (.whole 500000014 an) (.leaf .unit)))))),(z2,false,.var di (.leaf di)),(z3,false,.var bm (.leaf bm)),(500000004,false,.var bm (.leaf bm)),(500000005,false,.rows an),(500000006,false,.rows b9),(500000007,false,.rows cw),(500000008,false,.rows cg),(500000009,false,.rows bm),(500000010,false,.rows cp),(500000011,false,.rows an),(500000012,false,.rows bm),(500000013,false,.rows cp),(500000014,false,.rows an)]⟩ [(.norm,⟨[(4,.aR z0 []),(7,.whole z1 eL),(2,.aR z2 []),(3,.aR z3 []),(6,.aR 500000004 []),(8,.aR 500000005 [])],[(z0,false,.var fk (.pair (.pair (.leaf .bool) (.pair (.leaf I6) (.pair (.leaf .str) (.pair (.pair (.leaf I6) (.pair (.whole 500000006 an) (.leaf .unit))) (.pair (.pair (.whole 500000007 b9) (.leaf (.pair I6 .unit))) (.pair (.whole 500000008 cw) (.pair (.whole 500000009 cg) (.leaf .unit)))))))) (.pair (.whole 500000010 bm) (.pair (.whole 500000011 cp) (.pair (.whole 500000012 an) (.leaf .unit)))))),(z1,false,.rows eL),(z2,false,.var fk (.pair (.leaf b7) (.pair (.whole 500000013 bm) (.pair (.whole 500000014 cp) (.pair (.whole 500000015 an) (.leaf .unit)))))),(z3,false,.var di (.leaf di)),(500000004,false,.var bm (.leaf bm)),(500000005,false,.var bm (.pair (.leaf I6) (.pair (.leaf I6) (.pair (.leaf I6) (.pair (.leaf .str) (.pair (.leaf I6) (.pair (.pair (.pair (.leaf I6) (.pair (.leaf I6) (.pair (.whole 500000016 I6) (.pair (.whole 500000017 I6) (.leaf .unit))))) (.pair (.pair (.leaf I6) (.pair (.leaf I6) (.pair (.whole 500000018 e_) (.leaf .unit)))) (.leaf .unit))) (.leaf .unit)))))))),(500000006,false,.rows an),(500000007,false,.rows b9),(500000008,false,.rows cw),(500000009,false,.rows cg),(500000010,false,.rows bm),(500000011,false,.rows cp),(500000012,false,.rows an),(500000013,false,.rows bm),(500000014,false,.rows cp),(500000015,false,.rows an),(500000016,false,.rows I6),(500000017,false,.rows I6),(500000018,false,.rows e_)]⟩),(.norm,⟨[(4,.aR z0 []),(7,.whole z1 eL),(2,.aR z2 []),(3,.aR z3 []),(6,.aR 500000004 []),(8,.aR 500000005 [])],[(z0,false,.var fk (.pair (.pair (.leaf .bool) (.pair (.leaf I6) (.pair (.leaf .str) (.pair (.pair (.leaf I6) (.pair (.whole 500000006 an) (.leaf .unit))) (.pair (.pair (.whole 500000007 b9) (.leaf (.pair I6 .unit))) (.pair (.whole 500000008 cw) (.pair (.whole 500000009 cg) (.leaf .unit)))))))) (.pair (.whole 500000010 bm) (.pair (.whole 500000011 cp) (.pair (.whole 500000012 an) (.leaf .unit)))))),(z1,false,.rows eL),(z2,false,.var fk (.pair (.leaf b7) (.pair (.whole 500000013 bm) (.pair (.whole 500000014 cp) (.pair (.whole 500000015 an) (.leaf .unit)))))),(z3,false,.var di (.leaf di)),(500000004,false,.var bm (.leaf bm)),(500000005,false,.var bm (.leaf bm)),(500000006,false,.rows an),(500000007,false,.rows b9),(500000008,false,.rows cw),(500000009,false,.rows cg),(500000010,false,.rows bm),(500000011,false,.rows cp),(500000012,false,.rows an),(500000013,false,.rows bm),(500000014,false,.rows cp),(500000015,false,.rows an)]⟩)] Wh.q6 q6'
def YM:LT:=[(2000006,Vz)]
def aiU:∀x,boxR C_q53 YM (qD Tryz.f78 7) Vz x=Wh.q6 x:=by intro x;kernel_rfl
def fk_q53:FK K_q53:=wl (lt:=YM) (Ls:=[]) (zx q53) (Sw _ (fk_q29 _ (fk_q28 _ (Xl _ (fk_q27 _ (Cm _ nF)))))) Tryz.func78 loopsL_nil (boxes_of (ks:=[7]) (by kernel_rfl) (boxesL_cons (by kernel_rfl) aiU q6_v boxesL_nil))
def K_q175:j4:=⟨158,[.v .str],[.v .bool],KP,zog KP⟩
def aeQ:FK K_q175:=wl (lt:=g7) (zx KP) (NK _ nF) Tryz.func158 loopsL_nil boxesL_none
def K_q139:j4:=⟨138,[.v .str,.v .str],[.v .str,.v .bool],KH,zog KH⟩
def Xt:FK K_q139:=wl (lt:=g7) (zx KH) (XG _ (Cm _ (aeQ _ (NK _ nF)))) Tryz.func138 loopsL_nil boxesL_none
def K_q146:j4:=⟨102,[.v b7,.v .str],[.v b7,.v I6],F7,zog F7⟩
def Xx:FK K_q146:=wl (lt:=g7) (zx F7) (SB _ (Xt _ nF)) Tryz.func102 loopsL_nil boxesL_none
def K_q46:j4:=⟨88,[.v b7,.v I6,.v .str,.v .str],[.v b7,.v I6],q46,zog q46⟩
def fk_q46:FK K_q46:=wl (lt:=g7) (zx q46) (Xx _ (PN _ (Xs _ (LB _ (LG _ nF))))) Tryz.func88 loopsL_nil boxesL_none
def K_q117:j4:=⟨89,[.k (.pair b7 (.pair (.own bm) (.pair (.own cp) (.pair (.own an) .unit))))],[.v (.pair b7 (.pair (.own bm) (.pair (.own cp) (.pair (.own an) .unit))))],KB,zog KB⟩
def VE:bZ:=oP ⟨[(3,.leaf I6),(1,.aR z0 []),(2,.aR z1 [])],[(z0,false,.var fk (.pair (.leaf b7) (.pair (.whole z2 bm) (.pair (.whole z3 cp) (.pair (.whole 500000004 an) (.leaf .unit)))))),(z1,false,.var fk (.pair (.pair (.leaf .bool) (.pair (.leaf I6) (.pair (.leaf .str) (.pair (.pair (.leaf I6) (.pair (.whole 500000005 an) (.leaf .unit))) (.pair (.pair (.whole 500000006 b9) (.leaf (.pair I6 .unit))) (.pair (.whole 500000007 cw) (.pair (.whole 500000008 cg) (.leaf .unit)))))))) (.pair (.whole 500000009 bm) (.pair (.whole 500000010 cp) (.pair (.whole 500000011 an) (.leaf .unit)))))),(z2,false,.rows bm),(z3,false,.rows cp),(500000004,false,.rows an),(500000005,false,.rows an),(500000006,false,.rows b9),(500000007,false,.rows cw),(500000008,false,.rows cg),(500000009,false,.rows bm),(500000010,false,.rows cp),(500000011,false,.rows an)]⟩ [((.exit 0),⟨[(2,.aR z0 []),(1,.aR z1 [])],[(z0,false,.var fk (.pair (.pair (.leaf .bool) (.pair (.leaf I6) (.pair (.leaf .str) (.pair (.pair (.leaf I6) (.pair (.whole z2 an) (.leaf .unit))) (.pair (.pair (.whole z3 b9) (.leaf (.pair I6 .unit))) (.pair (.whole 500000004 cw) (.pair (.whole 500000005 cg) (.leaf .unit)))))))) (.pair (.whole 500000006 bm) (.pair (.whole 500000007 cp) (.pair (.whole 500000008 an) (.leaf .unit)))))),(z1,false,.var fk (.pair (.leaf b7) (.pair (.whole 500000009 bm) (.pair (.whole 500000010 cp) (.pair (.whole 500000011 an) (.leaf .unit)))))),(z2,false,.rows an),(z3,false,.rows b9),(500000004,false,.rows cw),(500000005,false,.rows cg),(500000006,false,.rows bm),(500000007,false,.rows cp),(500000008,false,.rows an),(500000009,false,.rows bm),(500000010,false,.rows cp),(500000011,false,.rows an)]⟩)] ZK QH
def af1:LT:=[(2,VE)]
def aev:FK K_q117:=wl (lt:=af1) (Ls:=[VE]) (zx KB) nF Tryz.func89 (lq loopsL_nil) boxesL_none
def K_q98:j4:=⟨105,[.v mb,.v I6],[.v (.pair (.own b9) (.pair I6 .unit))],q98,zog q98⟩
def Vk:bZ:=oP ⟨[(6,.leaf I6),(5,.aR z0 []),(1,.leaf I6),(4,.aR z1 [])],[(z0,false,.var mb (.pair (.whole z2 b9) (.leaf (.pair I6 .unit)))),(z1,false,.var mb (.pair (.whole z3 b9) (.leaf (.pair I6 .unit)))),(z2,false,.rows b9),(z3,false,.rows b9)]⟩ [((.exit 0),⟨[(4,.aR z0 []),(5,.aR z1 [])],[(z0,false,.var mb (.pair (.whole z2 b9) (.leaf (.pair I6 .unit)))),(z1,false,.var mb (.pair (.whole z3 b9) (.leaf (.pair I6 .unit)))),(z2,false,.rows b9),(z3,false,.rows b9)]⟩)] acv MJ
def lt_q98:LT:=[(3,Vk)]
def fk_q98:FK K_q98:=wl (lt:=lt_q98) (Ls:=[Vk]) (zx q98) (PR _ nF) Tryz.func105 (lq loopsL_nil) boxesL_none
def K_q33:j4:=⟨90,[.v b7,.v I6,.v .str],[.v b7,.v I6],q33,zog q33⟩
def fk_q33:FK K_q33:=wl (lt:=g7) (zx q33) (fk_q98 _ (Xx _ (PN _ (Xr _ (LB _ (LG _ nF)))))) Tryz.func90 loopsL_nil boxesL_none
def K_q179:j4:=⟨106,[.v cw,.v I6],[.v cw],G_,zog G_⟩
def aeT:FK K_q179:=wl (lt:=g7) (zx G_) nF Tryz.func106 loopsL_nil boxesL_none
def K_q145:j4:=⟨141,[.v cg],[.v BV],E0,zog E0⟩
def Xw:FK K_q145:=wl (lt:=g7) (zx E0) nF Tryz.func141 loopsL_nil boxesL_none
def K_q94:j4:=⟨108,[.v (.lst BV),.v I6],[.v I6],q94,zog q94⟩
def U7:bZ:=oP ⟨[(6,.leaf I6),(5,.leaf I6),(0,.leaf (.lst BV)),(1,.leaf I6)],[]⟩ [(.ret,⟨[(4,.leaf I6)],[]⟩),((.exit 0),⟨[(5,.leaf I6)],[]⟩)] acs K_
def lt_q94:LT:=[(3,U7)]
def XR:FK K_q94:=wl (lt:=lt_q94) (Ls:=[U7]) (zx q94) (Cm _ nF) Tryz.func108 (lq loopsL_nil) boxesL_none
def K_q101:j4:=⟨140,[.v b7,.v I6],[.v .bool],G3,zog G3⟩
def Vp:bZ:=oP ⟨[(6,.leaf I6),(2,.aR z0 []),(5,.whole z1 BV),(1,.leaf I6)],[(z0,false,.var b7 (.leaf b7)),(z1,false,.rows BV)]⟩ [((.exit 0),⟨[(1,.leaf I6),(5,.whole z0 BV),(2,.aR z1 [])],[(z0,false,.rows BV),(z1,false,.var b7 (.leaf b7))]⟩)] Zw Kq
def afV:LT:=[(3,Vp)]
def aem:FK K_q101:=wl (lt:=afV) (Ls:=[Vp]) (zx G3) (XR _ (Xw _ (LH _ nF))) Tryz.func140 (lq loopsL_nil) boxesL_none
def K_q105:j4:=⟨107,[.v b7],[.v (.own BV)],L7,zog L7⟩
def Vs:bZ:=oP ⟨[(4,.leaf I6),(3,.whole z0 BV),(1,.aR z1 [])],[(z0,false,.rows BV),(z1,false,.var b7 (.leaf b7))]⟩ [((.exit 0),⟨[(3,.whole z0 BV)],[(z0,false,.rows BV)]⟩)] Zy H7
def afW:LT:=[(3,Vs)]
def aeo:FK K_q105:=wl (lt:=afW) (Ls:=[Vs]) (zx L7) (Xw _ (LH _ (aem _ (PL _ (PO _ nF))))) Tryz.func107 (lq loopsL_nil) boxesL_none
def K_q99:j4:=⟨162,[.v mb,.v I6,.v I6],[.v I6],q99,zog q99⟩
def Vl:bZ:=oP ⟨[(7,.leaf I6),(2,.leaf I6),(3,.aR z0 []),(1,.leaf I6)],[(z0,false,.var mb (.leaf mb))]⟩ [(.ret,⟨[(6,.leaf I6)],[]⟩),((.exit 0),⟨[],[]⟩)] acy La
def lt_q99:LT:=[(2,Vl)]
def fk_q99:FK K_q99:=wl (lt:=lt_q99) (Ls:=[Vl]) (zx q99) nF Tryz.func162 (lq loopsL_nil) boxesL_none
def K_q49:j4:=⟨163,[.k (.pair (.own b9) (.pair I6 .unit)),.v I6],[.v (.pair (.own b9) (.pair I6 .unit)),.v I6],q49,zog q49⟩
def Vn:bZ:=oP ⟨[(7,.leaf I6),(2,.aR z0 []),(4,.aR z1 []),(1,.leaf I6),(6,.leaf .bool)],[(z0,false,.var mb (.pair (.whole z2 b9) (.leaf (.pair I6 .unit)))),(z1,false,.var mb (.pair (.whole z3 b9) (.leaf (.pair I6 .unit)))),(z2,false,.rows b9),(z3,false,.rows b9)]⟩ [(.ret,⟨[(4,.aR z0 []),(5,.leaf I6)],[(z0,false,.var mb (.pair (.whole z1 b9) (.leaf (.pair I6 .unit)))),(z1,false,.rows b9)]⟩),((.exit 0),⟨[(4,.aR z0 []),(2,.aR z1 [])],[(z0,false,.var mb (.pair (.whole z2 b9) (.leaf (.pair I6 .unit)))),(z1,false,.var mb (.pair (.whole z3 b9) (.leaf (.pair I6 .unit)))),(z2,false,.rows b9),(z3,false,.rows b9)]⟩)] abC K4
def lt_q49:LT:=[(3,Vn)]
def fk_q49:FK K_q49:=wl (lt:=lt_q49) (Ls:=[Vn]) (zx q49) (XJ _ nF) Tryz.func163 (lq loopsL_nil) boxesL_none
def K_q100:j4:=⟨143,[.v mb,.v I6,.v I6,.v I6],[.v (.pair (.own b9) (.pair I6 .unit)),.v I6,.v I6],H6,zog H6⟩
def ael:FK K_q100:=wl (lt:=g7) (zx H6) (fk_q49 _ (fk_q99 _ (PR _ nF))) Tryz.func143 loopsL_nil boxesL_none
def K_q96:j4:=⟨144,[.v mb,.v I6],[.v (.pair (.own b9) (.pair I6 .unit)),.v .bool],q96,zog q96⟩
def fk_q96:FK K_q96:=wl (lt:=g7) (zx q96) (Cm _ (PR _ (Xu _ nF))) Tryz.func144 loopsL_nil boxesL_none
def K_q191:j4:=⟨146,[.v gv,.v .str],[.v (.own .str)],KX,zog KX⟩
def Wi:bZ:=oP ⟨[(7,.leaf I6),(2,.aR z0 []),(5,.leaf .str),(6,.whole z1 .str)],[(z0,false,.var gv (.leaf gv)),(z1,false,.rows .str)]⟩ [((.exit 0),⟨[(6,.whole z0 .str)],[(z0,false,.rows .str)]⟩)] abb Mv
def agA:LT:=[(4,Wi)]
def ae1:FK K_q191:=wl (lt:=agA) (Ls:=[Wi]) (zx KX) (XB _ (HH _ nF)) Tryz.func146 (lq loopsL_nil) boxesL_none
def K_q185:j4:=⟨145,[.v (.lst .str),.v (.lst I6),.v I6],[.v .str],Jy,zog Jy⟩
def V5:bZ:=oP ⟨[(8,.leaf I6),(1,.leaf (.lst I6)),(0,.leaf (.lst .str)),(7,.leaf .str)],[]⟩ [((.exit 0),⟨[(7,.leaf .str)],[]⟩)] aaY Mr
def agu:LT:=[(3,V5)]
def aeX:FK K_q185:=wl (lt:=agu) (Ls:=[V5]) (zx Jy) (Sx _ (Xy _ nF)) Tryz.func145 (lq loopsL_nil) boxesL_none
def K_q109:j4:=⟨113,[.k (.pair .bool (.pair I6 (.pair .str (.pair (.pair I6 (.pair (.own an) .unit)) (.pair (.pair (.own b9) (.pair I6 .unit)) (.pair (.own cw) (.pair (.own cg) .unit))))))),.v I6,.v an],[.v (.pair .bool (.pair I6 (.pair .str (.pair (.pair I6 (.pair (.own an) .unit)) (.pair (.pair (.own b9) (.pair I6 .unit)) (.pair (.own cw) (.pair (.own cg) .unit))))))),.v (.own eL)],L9,zog L9⟩
def Vv:bZ:=oP ⟨[(11,.leaf I6),(3,.aR z0 []),(10,.whole z1 I6),(5,.aR z2 []),(6,.aR z3 []),(9,.aR 500000004 []),(8,.aR 500000005 []),(1,.leaf I6)],[(z0,false,.var b7 (.pair (.leaf .bool) (.pair (.leaf I6) (.pair (.leaf .str) (.pair (.pair (.leaf I6) (.pair (.whole 500000006 an) (.leaf .unit))) (.pair (.pair (.whole 500000007 b9) (.leaf (.pair I6 .unit))) (.pair (.whole 500000008 cw) (.pair (.whole 500000009 cg) (.leaf .unit))))))))),(z1,false,.rows I6),(z2,false,.var an (.leaf an)),(z3,false,.var b7 (.pair (.leaf .bool) (.pair (.leaf I6) (.pair (.leaf .str) (.pair (.pair (.leaf I6) (.pair (.whole 500000010 an) (.leaf .unit))) (.pair (.pair (.whole 500000011 b9) (.leaf (.pair I6 .unit))) (.pair (.whole 500000012 cw) (.pair (.whole 500000013 cg) (.leaf .unit))))))))),(500000004,false,.var gv (.pair (.leaf I6) (.pair (.leaf I6) (.pair (.whole 500000014 I6) (.pair (.whole 500000015 I6) (.leaf .unit)))))),(500000005,false,.var cg (.leaf cg)),(500000006,false,.rows an),(500000007,false,.rows b9),(500000008,false,.rows cw),(500000009,false,.rows cg),(500000010,false,.rows an),(500000011,false,.rows b9),(500000012,false,.rows cw),(500000013,false,.rows cg),(500000014,false,.rows I6),(500000015,false,.rows I6)]⟩ [((.exit 0),⟨[(6,.aR z0 []),(9,.aR z1 []),(10,.whole z2 I6),(5,.aR z3 []),(8,.aR 500000004 []),(3,.aR 500000005 []),(1,.leaf I6)],[(z0,false,.var b7 (.pair (.leaf .bool) (.pair (.leaf I6) (.pair (.leaf .str) (.pair (.pair (.leaf I6) (.pair (.whole 500000006 an) (.leaf .unit))) (.pair (.pair (.whole 500000007 b9) (.leaf (.pair I6 .unit))) (.pair (.whole 500000008 cw) (.pair (.whole 500000009 cg) (.leaf .unit))))))))),(z1,false,.var gv (.pair (.leaf I6) (.pair (.leaf I6) (.pair (.whole 500000010 I6) (.pair (.whole 500000011 I6) (.leaf .unit)))))),(z2,false,.rows I6),(z3,false,.var an (.leaf an)),(500000004,false,.var cg (.leaf cg)),(500000005,false,.var b7 (.pair (.leaf .bool) (.pair (.leaf I6) (.pair (.leaf .str) (.pair (.pair (.leaf I6) (.pair (.whole 500000012 an) (.leaf .unit))) (.pair (.pair (.whole 500000013 b9) (.leaf (.pair I6 .unit))) (.pair (.whole 500000014 cw) (.pair (.whole 500000015 cg) (.leaf .unit))))))))),(500000006,false,.rows an),(500000007,false,.rows b9),(500000008,false,.rows cw),(500000009,false,.rows cg),(500000010,false,.rows I6),(500000011,false,.rows I6),(500000012,false,.rows an),(500000013,false,.rows b9),(500000014,false,.rows cw),(500000015,false,.rows cg)]⟩)] ZC Ox
def afY:LT:=[(5,Vv)]
def aes:FK K_q109:=wl (lt:=afY) (Ls:=[Vv]) (zx L9) (aeX _ (ae1 _ (LH _ (fk_q96 _ (ael _ (XL _ (PL _ nF))))))) Tryz.func113 (lq loopsL_nil) boxesL_none
def K_q34:j4:=⟨91,[.v b7],[.v b7,.v (.own eL)],q34,zog q34⟩
def Vf:bZ:=oP ⟨[(5,.leaf I6),(4,.aR z0 []),(2,.aR z1 [])],[(z0,false,.var b7 (.pair (.leaf .bool) (.pair (.leaf I6) (.pair (.leaf .str) (.pair (.pair (.leaf I6) (.pair (.whole z2 an) (.leaf .unit))) (.pair (.pair (.whole z3 b9) (.leaf (.pair I6 .unit))) (.pair (.whole 500000004 cw) (.pair (.whole 500000005 cg) (.leaf .unit))))))))),(z1,false,.var b7 (.pair (.leaf .bool) (.pair (.leaf I6) (.pair (.leaf .str) (.pair (.pair (.leaf I6) (.pair (.whole 500000006 an) (.leaf .unit))) (.pair (.pair (.whole 500000007 b9) (.leaf (.pair I6 .unit))) (.pair (.whole 500000008 cw) (.pair (.whole 500000009 cg) (.leaf .unit))))))))),(z2,false,.rows an),(z3,false,.rows b9),(500000004,false,.rows cw),(500000005,false,.rows cg),(500000006,false,.rows an),(500000007,false,.rows b9),(500000008,false,.rows cw),(500000009,false,.rows cg)]⟩ [((.exit 0),⟨[(2,.aR z0 []),(4,.aR z1 [])],[(z0,false,.var b7 (.pair (.leaf .bool) (.pair (.leaf I6) (.pair (.leaf .str) (.pair (.pair (.leaf I6) (.pair (.whole z2 an) (.leaf .unit))) (.pair (.pair (.whole z3 b9) (.leaf (.pair I6 .unit))) (.pair (.whole 500000004 cw) (.pair (.whole 500000005 cg) (.leaf .unit))))))))),(z1,false,.var b7 (.pair (.leaf .bool) (.pair (.leaf I6) (.pair (.leaf .str) (.pair (.pair (.leaf I6) (.pair (.whole 500000006 an) (.leaf .unit))) (.pair (.pair (.whole 500000007 b9) (.leaf (.pair I6 .unit))) (.pair (.whole 500000008 cw) (.pair (.whole 500000009 cg) (.leaf .unit))))))))),(z2,false,.rows an),(z3,false,.rows b9),(500000004,false,.rows cw),(500000005,false,.rows cg),(500000006,false,.rows an),(500000007,false,.rows b9),(500000008,false,.rows cw),(500000009,false,.rows cg)]⟩)] abw OG
def lt_q34:LT:=[(8,Vf)]
def fk_q34:FK K_q34:=wl (lt:=lt_q34) (Ls:=[Vf]) (zx q34) (aes _ (Xk _ (PM _ (PO _ (SF _ (XR _ (aeo _ (aeT _ (LB _ (LG _ nF)))))))))) Tryz.func91 (lq loopsL_nil) boxesL_none
def K_q54:j4:=⟨93,[.v di],[.v .str],q54,zog q54⟩
def fk_q54:FK K_q54:=wl (lt:=g7) (zx q54) (PN _ nF) Tryz.func93 loopsL_nil boxesL_none
def K_q95:j4:=⟨115,[.v .str,.v .str,.v I6],[.v .str],q95,zog q95⟩
def fk_q95:FK K_q95:=wl (lt:=g7) (zx q95) (Xt _ nF) Tryz.func115 loopsL_nil boxesL_none
def K_q30:j4:=⟨92,[.v b7,.v .str,.v I6],[.v b7],q30,zog q30⟩
def fk_q30:FK K_q30:=wl (lt:=g7) (zx q30) (fk_q95 _ (SB _ (LG _ nF))) Tryz.func92 loopsL_nil boxesL_none
def K_q32:j4:=⟨94,[.v b7],[.v b7],q32,zog q32⟩
def fk_q32:FK K_q32:=wl (lt:=g7) (zx q32) (XO _ (Xv _ (SC _ (NK _ (LB _ (LG _ nF)))))) Tryz.func94 loopsL_nil boxesL_none
def K_q55:j4:=⟨79,[.k (.pair b7 (.pair (.own bm) (.pair (.own cp) (.pair (.own an) .unit)))),.v di],[.v (.pair b7 (.pair (.own bm) (.pair (.own cp) (.pair (.own an) .unit)))),.v .bool],q55,zog q55⟩
def fk_q55:FK K_q55:=wl (lt:=g7) (zx q55) (fk_q32 _ (fk_q30 _ (fk_q54 _ (Sw _ (fk_q34 _ (fk_q33 _ (aev _ (fk_q46 _ nF)))))))) Tryz.func79 loopsL_nil boxesL_none
def K_q181:j4:=⟨70,[.k (.pair b7 (.pair (.own bm) (.pair (.own cp) (.pair (.own an) .unit)))),.v di],[.v fk,.v .bool],KS,zog KS⟩
def RR:Cx:=⟨Dj,[K_q55.entry,K_q53.entry,K_q78.entry],false,Gl⟩
def VB:bZ:=boxD ⟨[(4,.aR z0 []),(3,.aR z1 []),(2,.aR z2 []),(7,.leaf I6)],[(z0,false,.var fk (.pair (.pair (.leaf .bool) (.pair (.leaf I6) (.pair (.leaf .str) (.pair (.pair (.leaf I6) (.pair (.whole z3 an) (.leaf .unit))) (.pair (.pair (.whole 500000004 b9) (.leaf (.pair I6 .unit))) (.pair (.whole 500000005 cw) (.pair (.whole 500000006 cg) (.leaf .unit)))))))) (.pair (.whole 500000007 bm) (.pair (.whole 500000008 cp) (.pair (.whole 500000009 an) (.leaf .unit)))))),(z1,false,.var di (.leaf di)),(z2,false,.var fk (.pair (.leaf b7) (.pair (.whole 500000010 bm) (.pair (.whole 500000011 cp) (.pair (.whole 500000012 an) (.leaf .unit)))))),(z3,false,.rows an),(500000004,false,.rows b9),(500000005,false,.rows cw),(500000006,false,.rows cg),(500000007,false,.rows bm),(500000008,false,.rows cp),(500000009,false,.rows an),(500000010,false,.rows bm),(500000011,false,.rows cp),(500000012,false,.rows an)]⟩ [(.norm,⟨[(8,.leaf .bool),(4,.aR z0 []),(3,.aR z1 []),(2,.aR z2 []),(7,.leaf I6)],[(z0,false,.var fk (.pair (.pair (.leaf .bool) (.pair (.leaf I6) (.pair (.leaf .str) (.pair (.pair (.leaf I6) (.pair (.whole z3 an) (.leaf .unit))) (.pair (.pair (.whole 500000004 b9) (.leaf (.pair I6 .unit))) (.pair (.whole 500000005 cw) (.pair (.whole 500000006 cg) (.leaf .unit)))))))) (.pair (.whole 500000007 bm) (.pair (.whole 500000008 cp) (.pair (.whole 500000009 an) (.leaf .unit)))))),(z1,false,.var di (.leaf di)),(z2,false,.var fk (.pair (.leaf b7) (.pair (.whole 500000010 bm) (.pair (.whole 500000011 cp) (.pair (.whole 500000012 an) (.leaf .unit)))))),(z3,false,.rows an),(500000004,false,.rows b9),(500000005,false,.rows cw),(500000006,false,.rows cg),(500000007,false,.rows bm),(500000008,false,.rows cp),(500000009,false,.rows an),(500000010,false,.rows bm),(500000011,false,.rows cp),(500000012,false,.rows an)]⟩)] q75 Q0
def VC:bZ:=boxD ⟨[(4,.aR z0 []),(3,.aR z1 []),(2,.aR z2 []),(7,.leaf I6)],[(z0,false,.var fk (.pair (.pair (.leaf .bool) (.pair (.leaf I6) (.pair (.leaf .str) (.pair (.pair (.leaf I6) (.pair (.whole z3 an) (.leaf .unit))) (.pair (.pair (.whole 500000004 b9) (.leaf (.pair I6 .unit))) (.pair (.whole 500000005 cw) (.pair (.whole 500000006 cg) (.leaf .unit)))))))) (.pair (.whole 500000007 bm) (.pair (.whole 500000008 cp) (.pair (.whole 500000009 an) (.leaf .unit)))))),(z1,false,.var di (.leaf di)),(z2,false,.var fk (.pair (.leaf b7) (.pair (.whole 500000010 bm) (.pair (.whole 500000011 cp) (.pair (.whole 500000012 an) (.leaf .unit)))))),(z3,false,.rows an),(500000004,false,.rows b9),(500000005,false,.rows cw),(500000006,false,.rows cg),(500000007,false,.rows bm),(500000008,false,.rows cp),(500000009,false,.rows an),(500000010,false,.rows bm),(500000011,false,.rows cp),(500000012,false,.rows an)]⟩ [(.norm,⟨[(17,.leaf .bool),(4,.aR z0 []),(3,.aR z1 []),(2,.aR z2 []),(7,.leaf I6)],[(z0,false,.var fk (.pair (.pair (.leaf .bool) (.pair (.leaf I6) (.pair (.leaf .str) (.pair (.pair (.leaf I6) (.pair (.whole z3 an) (.leaf .unit))) (.pair (.pair (.whole 500000004 b9) (.leaf (.pair I6 .unit))) (.pair (.whole 500000005 cw) (.pair (.whole 500000006 cg) (.leaf .unit)))))))) (.pair (.whole 500000007 bm) (.pair (.whole 500000008 cp) (.pair (.whole 500000009 an) (.leaf .unit)))))),(z1,false,.var di (.leaf di)),(z2,false,.var fk (.pair (.leaf b7) (.pair (.whole 500000010 bm) (.pair (.whole 500000011 cp) (.pair (.whole 500000012 an) (.leaf .unit)))))),(z3,false,.rows an),(500000004,false,.rows b9),(500000005,false,.rows cw),(500000006,false,.rows cg),(500000007,false,.rows bm),(500000008,false,.rows cp),(500000009,false,.rows an),(500000010,false,.rows bm),(500000011,false,.rows cp),(500000012,false,.rows an)]⟩)] q76 Q1
def VD:bZ:=boxD ⟨[(4,.aR z0 []),(3,.aR z1 []),(2,.aR z2 []),(7,.leaf I6)],[(z0,false,.var fk (.pair (.pair (.leaf .bool) (.pair (.leaf I6) (.pair (.leaf .str) (.pair (.pair (.leaf I6) (.pair (.whole z3 an) (.leaf .unit))) (.pair (.pair (.whole 500000004 b9) (.leaf (.pair I6 .unit))) (.pair (.whole 500000005 cw) (.pair (.whole 500000006 cg) (.leaf .unit)))))))) (.pair (.whole 500000007 bm) (.pair (.whole 500000008 cp) (.pair (.whole 500000009 an) (.leaf .unit)))))),(z1,false,.var di (.leaf di)),(z2,false,.var fk (.pair (.leaf b7) (.pair (.whole 500000010 bm) (.pair (.whole 500000011 cp) (.pair (.whole 500000012 an) (.leaf .unit)))))),(z3,false,.rows an),(500000004,false,.rows b9),(500000005,false,.rows cw),(500000006,false,.rows cg),(500000007,false,.rows bm),(500000008,false,.rows cp),(500000009,false,.rows an),(500000010,false,.rows bm),(500000011,false,.rows cp),(500000012,false,.rows an)]⟩ [(.norm,⟨[(27,.leaf .bool),(4,.aR z0 []),(3,.aR z1 []),(2,.aR z2 [])],[(z0,false,.var fk (.pair (.pair (.leaf .bool) (.pair (.leaf I6) (.pair (.leaf .str) (.pair (.pair (.leaf I6) (.pair (.whole z3 an) (.leaf .unit))) (.pair (.pair (.whole 500000004 b9) (.leaf (.pair I6 .unit))) (.pair (.whole 500000005 cw) (.pair (.whole 500000006 cg) (.leaf .unit)))))))) (.pair (.whole 500000007 bm) (.pair (.whole 500000008 cp) (.pair (.whole 500000009 an) (.leaf .unit)))))),(z1,false,.var di (.leaf di)),(z2,false,.var fk (.pair (.leaf b7) (.pair (.whole 500000010 bm) (.pair (.whole 500000011 cp) (.pair (.whole 500000012 an) (.leaf .unit)))))),(z3,false,.rows an),(500000004,false,.rows b9),(500000005,false,.rows cw),(500000006,false,.rows cg),(500000007,false,.rows bm),(500000008,false,.rows cp),(500000009,false,.rows an),(500000010,false,.rows bm),(500000011,false,.rows cp),(500000012,false,.rows an)]⟩)] q77 Q2
def Qo:LT:=[(2000002,VB),(2000006,VC),(2000011,VD)]
def aiV:∀x,boxR RR Qo (qD Tryz.f70 3) VB x=q75 x:=by intro x;kernel_rfl
def aiW:∀x,boxR RR Qo (qD Tryz.f70 7) VC x=q76 x:=by intro x;kernel_rfl
def aiX:∀x,boxR RR Qo (qD Tryz.f70 12) VD x=q77 x:=by intro x;kernel_rfl
def aeU:FK K_q181:=wl (lt:=Qo) (Ls:=[]) (zx KS) (fk_q55 _ (fk_q53 _ (fk_q78 _ nF))) Tryz.func70 loopsL_nil (boxes_of (ks:=[3,7,12]) (by kernel_rfl) (boxesL_cons (by kernel_rfl) aiV q75_v (boxesL_cons (by kernel_rfl) aiW q76_v (boxesL_cons (by kernel_rfl) aiX q77_v boxesL_nil))))
def K_q81:j4:=⟨66,[.p dj,.v I6],[.v (.own di),.v (.pair b7 (.pair (.own bm) (.pair (.own cp) (.pair (.own an) .unit))))],q81,zog q81⟩
def VR:bZ:=oP ⟨[(8,.leaf I6),(6,.aR z0 []),(7,.whole z1 di),(0,.aR 900 []),(5,.aR z2 [])],[(900,false,.var dj (.leaf dj)),(z0,false,.var fk (.leaf fk)),(z1,false,.rows di),(z2,false,.var fk (.pair (.pair (.leaf .bool) (.pair (.leaf I6) (.pair (.leaf .str) (.pair (.pair (.leaf I6) (.pair (.whole z3 an) (.leaf .unit))) (.pair (.pair (.whole 500000004 b9) (.leaf (.pair I6 .unit))) (.pair (.whole 500000005 cw) (.pair (.whole 500000006 cg) (.leaf .unit)))))))) (.pair (.whole 500000007 bm) (.pair (.whole 500000008 cp) (.pair (.whole 500000009 an) (.leaf .unit)))))),(z3,false,.rows an),(500000004,false,.rows b9),(500000005,false,.rows cw),(500000006,false,.rows cg),(500000007,false,.rows bm),(500000008,false,.rows cp),(500000009,false,.rows an)]⟩ [((.exit 0),⟨[(5,.aR z0 []),(6,.aR z1 []),(7,.whole z2 di)],[(900,false,.var dj (.leaf dj)),(z0,false,.var fk (.pair (.pair (.leaf .bool) (.pair (.leaf I6) (.pair (.leaf .str) (.pair (.pair (.leaf I6) (.pair (.whole z3 an) (.leaf .unit))) (.pair (.pair (.whole 500000004 b9) (.leaf (.pair I6 .unit))) (.pair (.whole 500000005 cw) (.pair (.whole 500000006 cg) (.leaf .unit)))))))) (.pair (.whole 500000007 bm) (.pair (.whole 500000008 cp) (.pair (.whole 500000009 an) (.leaf .unit)))))),(z1,false,.var fk (.leaf fk)),(z2,false,.rows di),(z3,false,.rows an),(500000004,false,.rows b9),(500000005,false,.rows cw),(500000006,false,.rows cg),(500000007,false,.rows bm),(500000008,false,.rows cp),(500000009,false,.rows an)]⟩)] ab6 Q3
def lt_q81:LT:=[(4,VR)]
def fk_q81:FK K_q81:=wl (lt:=lt_q81) (Ls:=[VR]) (zx q81) (aeU _ (Xo _ (fk_q80 _ (IN _ (fk_q72 _ nF))))) Tryz.func66 (lq loopsL_nil) boxesL_none
def K_q83:j4:=⟨55,[.p dj],[.v (.pair b7 (.pair (.own bm) (.pair (.own cp) (.pair (.own an) .unit))))],q83,zog q83⟩
def fk_q83:FK K_q83:=wl (lt:=g7) (zx q83) (fk_q81 _ nF) Tryz.func55 loopsL_nil boxesL_none
def K_q4:j4:=⟨56,[.p dj,.v fk],[.v (.pair b7 (.pair (.lst bm) (.pair (.own cp) (.pair (.own an) .unit))))],Wh.q4,zog Wh.q4⟩
def fk_q4:FK K_q4:=wl (lt:=g7) (zx Wh.q4) (IN _ (Xo _ nF)) Tryz.func56 loopsL_nil boxesL_none
def K_q13:j4:=⟨42,[.p dj],[.v (.pair b7 (.pair (.lst bm) (.pair (.own cp) (.pair (.own an) .unit))))],q13,zog q13⟩
def fk_q13:FK K_q13:=wl (lt:=g7) (zx q13) (fk_q4 _ (IN _ (fk_q83 _ nF))) Tryz.func42 loopsL_nil boxesL_none
def K_q7:j4:=⟨20,[.p dj],[.v bm],Wh.q7,zog Wh.q7⟩
def fk_q7:FK K_q7:=wl (lt:=g7) (zx Wh.q7) (IN _ (fk_q13 _ nF)) Tryz.func20 loopsL_nil boxesL_none
def K_q131:j4:=⟨26,[.v I6,.v I6,.v I6],[.v .bool],A8,zog A8⟩
def LC:FK K_q131:=wl (lt:=g7) (zx A8) nF Tryz.func26 loopsL_nil boxesL_none
def K_q62:j4:=⟨25,[.v I6],[.v .bool],q62,zog q62⟩
def fk_q62:FK K_q62:=wl (lt:=g7) (zx q62) (LC _ nF) Tryz.func25 loopsL_nil boxesL_none
def K_q171:j4:=⟨27,[.v nT],[.v .bool],KM,zog KM⟩
def aeP:FK K_q171:=wl (lt:=g7) (zx KM) nF Tryz.func27 loopsL_nil boxesL_none
def K_q24:j4:=⟨45,[.v gv],[.v I6],Eg,zog Eg⟩
def XM:FK K_q24:=wl (lt:=g7) (zx Eg) nF Tryz.func45 loopsL_nil boxesL_none
def K_q129:j4:=⟨43,[.v gv],[.v .bool],ED,zog ED⟩
def UR:bZ:=oP ⟨[(50,.leaf I6),(1,.aR z0 []),(48,.leaf (.lst I6)),(49,.leaf I6)],[(z0,false,.var gv (.leaf gv))]⟩ [(.ret,⟨[(2,.leaf .bool)],[]⟩),((.exit 0),⟨[],[]⟩)] Z5 G6
def af7:LT:=[(6,UR)]
def aeC:FK K_q129:=wl (lt:=af7) (Ls:=[UR]) (zx ED) (XM _ (LC _ nF)) Tryz.func43 (lq loopsL_nil) boxesL_none
def K_q170:j4:=⟨57,[.v (.lst I6),.v I6],[.v .bool],Ii,zog Ii⟩
def US:bZ:=oP ⟨[(9,.leaf I6),(0,.leaf (.lst I6)),(1,.leaf I6),(7,.leaf (.lst I6)),(8,.leaf I6)],[]⟩ [(.ret,⟨[(4,.leaf .bool)],[]⟩),((.exit 0),⟨[(1,.leaf I6)],[]⟩)] aaC Ju
def agm:LT:=[(2,US)]
def aeO:FK K_q170:=wl (lt:=agm) (Ls:=[US]) (zx Ii) (LC _ nF) Tryz.func57 (lq loopsL_nil) boxesL_none
def K_q197:j4:=⟨58,[.v (.lst I6)],[.v I3],Jz,zog Jz⟩
def UZ:bZ:=oP ⟨[(8,.leaf I6),(3,.leaf I3),(6,.leaf (.lst I6)),(7,.leaf I6)],[]⟩ [((.exit 0),⟨[(3,.leaf I3)],[]⟩)] abn OF
def agF:LT:=[(3,UZ)]
def ae4:FK K_q197:=wl (lt:=agF) (Ls:=[UZ]) (zx Jz) nF Tryz.func58 (lq loopsL_nil) boxesL_none
def K_q61:j4:=⟨44,[.v ei],[.v .bool],Gh,zog Gh⟩
def UT:bZ:=oP ⟨[(21,.leaf I6),(3,.leaf I3),(1,.aR z0 []),(19,.leaf (.lst e_)),(20,.leaf I6)],[(z0,false,.var ei (.leaf ei))]⟩ [(.ret,⟨[(2,.leaf .bool)],[]⟩),((.exit 0),⟨[(3,.leaf I3),(1,.aR z0 [])],[(z0,false,.var ei (.leaf ei))]⟩)] abM Iq
def UU:bZ:=oP ⟨[(77,.leaf I6),(3,.leaf I3),(75,.leaf (.lst e_)),(76,.leaf I6)],[]⟩ [(.ret,⟨[(2,.leaf .bool)],[]⟩),((.exit 2),⟨[],[]⟩)] abO MC
def lt_q61:LT:=[(5,UT),(12,UU)]
def fk_q61:FK K_q61:=wl (lt:=lt_q61) (Ls:=[UT,UU]) (zx Gh) (ae4 _ (aeO _ (LC _ nF))) Tryz.func44 (lq (lq loopsL_nil)) boxesL_none
def K_q169:j4:=⟨28,[.v nT],[.v .bool],Ih,zog Ih⟩
def XI:FK K_q169:=wl (lt:=g7) (zx Ih) (XM _ (fk_q61 _ (aeC _ nF))) Tryz.func28 loopsL_nil boxesL_none
def K_q128:j4:=⟨29,[.v .str],[.v .bool],Jl,zog Jl⟩
def UQ:bZ:=oP ⟨[(6,.leaf I6),(0,.leaf .str),(5,.leaf I6)],[]⟩ [(.ret,⟨[(2,.leaf .bool)],[]⟩),((.exit 0),⟨[(0,.leaf .str)],[]⟩)] Z3 KF
def af6:LT:=[(2,UQ)]
def aeB:FK K_q128:=wl (lt:=af6) (Ls:=[UQ]) (zx Jl) (LC _ nF) Tryz.func29 (lq loopsL_nil) boxesL_none
def K_q25:j4:=⟨54,[.v ei,.v I6],[.v .str,.v .bool],q25,zog q25⟩
def UW:bZ:=oP ⟨[(11,.leaf I6),(1,.leaf I6),(9,.leaf (.lst e_)),(10,.leaf I6)],[]⟩ [(.ret,⟨[(4,.leaf .str),(5,.leaf .bool)],[]⟩),((.exit 0),⟨[],[]⟩)] abr My
def lt_q25:LT:=[(2,UW)]
def XN:FK K_q25:=wl (lt:=lt_q25) (Ls:=[UW]) (zx q25) nF Tryz.func54 (lq loopsL_nil) boxesL_none
def K_q2:j4:=⟨46,[.v ei],[.v I6],Wh.q2,zog Wh.q2⟩
def UX:bZ:=oP ⟨[(3,.leaf I6),(1,.aR z0 [])],[(z0,false,.var ei (.leaf ei))]⟩ [((.exit 0),⟨[(3,.leaf I6)],[]⟩)] abu Mz
def lt_q2:LT:=[(2,UX)]
def fk_q2:FK K_q2:=wl (lt:=lt_q2) (Ls:=[UX]) (zx Wh.q2) (XN _ nF) Tryz.func46 (lq loopsL_nil) boxesL_none
def K_q5:j4:=⟨30,[.v nT],[.v .bool],Wh.q5,zog Wh.q5⟩
def fk_q5:FK K_q5:=wl (lt:=g7) (zx Wh.q5) (fk_q2 _ nF) Tryz.func30 loopsL_nil boxesL_none
def K_q60:j4:=⟨10,[.v bm],[.v .bool],Gg,zog Gg⟩
def SM:FK K_q60:=wl (lt:=g7) (zx Gg) (fk_q5 _ (aeB _ (XI _ (aeP _ (LC _ (fk_q62 _ nF)))))) Tryz.func10 loopsL_nil boxesL_none
def K_q1:j4:=⟨22,[.v bm],[.v (.own eL)],Wh.q1,zog Wh.q1⟩
def fk_q1:FK K_q1:=wl (lt:=g7) (zx Wh.q1) nF Tryz.func22 loopsL_nil boxesL_none
def UM:j4:=⟨8,[.v (.lst eL),.v (.lst eL)],[.v .bool],G7,zog G7⟩
def U1:bZ:=oP ⟨[(5,.leaf I6),(0,.leaf (.lst eL)),(1,.leaf (.lst eL))],[]⟩ [(.ret,⟨[(4,.leaf .bool)],[]⟩),((.exit 0),⟨[],[]⟩)] Z9 OB
def af9:LT:=[(4,U1)]
def aeD:FK UM:=wl (lt:=af9) (Ls:=[U1]) (zx G7) (NJ _ nF) Tryz.func8 (lq loopsL_nil) boxesL_none
def K_q40:j4:=⟨61,[.v gv],[.v (.pair I6 (.pair I6 (.pair (.own I6) (.pair (.own I6) .unit))))],q40,zog q40⟩
def fk_q40:FK K_q40:=wl (lt:=g7) (zx q40) nF Tryz.func61 loopsL_nil boxesL_none
def K_q10:j4:=⟨62,[.v ei],[.v (.pair I6 (.pair I6 (.pair (.own e_) .unit)))],q10,zog q10⟩
def UY:bZ:=oP ⟨[(15,.leaf I6),(3,.aR z0 []),(13,.leaf (.lst e_)),(2,.aR z1 []),(14,.leaf I6)],[(z0,false,.var ei (.pair (.leaf I6) (.pair (.leaf I6) (.pair (.whole z2 e_) (.leaf .unit))))),(z1,false,.var ei (.pair (.leaf I6) (.pair (.leaf I6) (.pair (.whole z3 e_) (.leaf .unit))))),(z2,false,.rows e_),(z3,false,.rows e_)]⟩ [((.exit 0),⟨[(2,.aR z0 []),(3,.aR z1 [])],[(z0,false,.var ei (.pair (.leaf I6) (.pair (.leaf I6) (.pair (.whole z2 e_) (.leaf .unit))))),(z1,false,.var ei (.pair (.leaf I6) (.pair (.leaf I6) (.pair (.whole z3 e_) (.leaf .unit))))),(z2,false,.rows e_),(z3,false,.rows e_)]⟩)] ZE L_
def lt_q10:LT:=[(3,UY)]
def fk_q10:FK K_q10:=wl (lt:=lt_q10) (Ls:=[UY]) (zx q10) nF Tryz.func62 (lq loopsL_nil) boxesL_none
def K_q63:j4:=⟨50,[.v nT],[.v (.pair (.pair I6 (.pair I6 (.pair (.own I6) (.pair (.own I6) .unit)))) (.pair (.pair I6 (.pair I6 (.pair (.own e_) .unit))) .unit))],q63,zog q63⟩
def fk_q63:FK K_q63:=wl (lt:=g7) (zx q63) (fk_q10 _ (fk_q40 _ nF)) Tryz.func50 loopsL_nil boxesL_none
def K_q9:j4:=⟨38,[.v bm],[.v (.pair I6 (.pair I6 (.pair I6 (.pair .str (.pair I6 (.pair (.pair (.pair I6 (.pair I6 (.pair (.own I6) (.pair (.own I6) .unit)))) (.pair (.pair I6 (.pair I6 (.pair (.own e_) .unit))) .unit)) .unit))))))],MI,zog MI⟩
def fk_q9:FK K_q9:=wl (lt:=g7) (zx MI) (fk_q63 _ nF) Tryz.func38 loopsL_nil boxesL_none
def K_q132:j4:=⟨65,[.v (.lst I6),.v (.lst I6)],[.v .bool],F5,zog F5⟩
def U0:bZ:=oP ⟨[(5,.leaf I6),(1,.leaf (.lst I6)),(0,.leaf (.lst I6))],[]⟩ [(.ret,⟨[(4,.leaf .bool)],[]⟩),((.exit 0),⟨[],[]⟩)] Z7 Mg
def af8:LT:=[(4,U0)]
def Xq:FK K_q132:=wl (lt:=af8) (Ls:=[U0]) (zx F5) nF Tryz.func65 (lq loopsL_nil) boxesL_none
def K_q134:j4:=⟨52,[.v gv,.v gv],[.v .bool],KG,zog KG⟩
def aeE:FK K_q134:=wl (lt:=g7) (zx KG) (Xq _ nF) Tryz.func52 loopsL_nil boxesL_none
def K_q65:j4:=⟨53,[.v ei,.v ei],[.v .bool],q65,zog q65⟩
def U2:bZ:=oP ⟨[(5,.leaf I6),(3,.aR z0 []),(2,.aR z1 [])],[(z0,false,.var ei (.leaf ei)),(z1,false,.var ei (.leaf ei))]⟩ [(.ret,⟨[(4,.leaf .bool)],[]⟩),((.exit 0),⟨[],[]⟩)] abQ MD
def lt_q65:LT:=[(4,U2)]
def fk_q65:FK K_q65:=wl (lt:=lt_q65) (Ls:=[U2]) (zx q65) (Xq _ nF) Tryz.func53 (lq loopsL_nil) boxesL_none
def K_q41:j4:=⟨40,[.v nT,.v nT],[.v .bool],q41,zog q41⟩
def fk_q41:FK K_q41:=wl (lt:=g7) (zx q41) (fk_q65 _ (aeE _ nF)) Tryz.func40 loopsL_nil boxesL_none
def K_q64:j4:=⟨15,[.v bm,.v bm],[.v .bool],Ir,zog Ir⟩
def fk_q64:FK K_q64:=wl (lt:=g7) (zx Ir) (fk_q41 _ nF) Tryz.func15 loopsL_nil boxesL_none
def K_q89:j4:=⟨41,[.v nT],[.v .str],q89,zog q89⟩
def UP:bZ:=oP ⟨[(13,.leaf I6),(3,.leaf .str),(1,.aR z0 []),(12,.leaf I6)],[(z0,false,.var nT (.leaf nT))]⟩ [((.exit 0),⟨[(1,.aR z0 []),(3,.leaf .str)],[(z0,false,.var nT (.leaf nT))]⟩)] acp OJ
def lt_q89:LT:=[(5,UP)]
def fk_q89:FK K_q89:=wl (lt:=lt_q89) (Ls:=[UP]) (zx q89) (XN _ (fk_q2 _ (XI _ nF))) Tryz.func41 (lq loopsL_nil) boxesL_none
def K_q23:j4:=⟨16,[.v bm],[.v .str],Fy,zog Fy⟩
def fk_q23:FK K_q23:=wl (lt:=g7) (zx Fy) (fk_q89 _ (SM _ nF)) Tryz.func16 loopsL_nil boxesL_none
def K_q0:j4:=⟨17,[.v (.lst I8)],[.v bm],Wh.q0,zog Wh.q0⟩
def fk_q0:FK K_q0:=wl (lt:=g7) (zx Wh.q0) (IN _ (fk_q7 _ (aeH _ nF))) Tryz.func17 loopsL_nil boxesL_none
def K_q8:j4:=⟨18,[.v bm],[.v (.pair I6 (.pair I6 (.pair I6 (.pair .str (.pair I6 (.pair (.pair (.pair I6 (.pair I6 (.pair (.own I6) (.pair (.own I6) .unit)))) (.pair (.pair I6 (.pair I6 (.pair (.own e_) .unit))) .unit)) .unit)))))),.v (.own eL)],K8,zog K8⟩
def fk_q8:FK K_q8:=wl (lt:=g7) (zx K8) (fk_q1 _ (fk_q9 _ (SM _ nF))) Tryz.func18 loopsL_nil boxesL_none
def K_q3:j4:=⟨5,[.v (.lst I8)],[.v .bool],Wh.q3,zog Wh.q3⟩
def C_q3:Cx:=⟨Dj,[K_q60.entry,K_q23.entry,K_q67.entry,UM.entry,K_q64.entry,RS.entry,K_q8.entry,K_q0.entry],false,Gl⟩
def e_q3:EV C_q3 g7 Tryz.f5 [.v (.lst I8)] [.v .bool] Wh.q3:=by intro xs;kernel_rfl
def ok_q3:CO K_q3:=con_ok (Ls:=[]) mixed (Si _ _) (SM _ (fk_q23 _ (LF _ (aeD _ (fk_q64 _ (Xl _ (fk_q8 _ (fk_q0 _ nF)))))))) Tryz.func5 loopsL_nil boxesL_none e_q3
end
end Go.Proofs.Walk
