import Derived.Test.YthanhdmbelbfcaaGreatX10
import Derived.Test.YthanhdmbelbfcaaGreatProg
import Derived.KernelRfl
set_option linter.defProp false
namespace Wh
end Wh
open Wh
open Go Go.Ab
namespace Go.Proofs.Walk
noncomputable section
def C9:List (Nat×TI):=[(2,⟨(.int .i64),0⟩),(3,⟨(.int .i64),0⟩),(4,⟨.bool,0⟩),(5,⟨(.int .u8),0⟩),(6,⟨(.int .u8),0⟩),(7,⟨Uv,1⟩),(8,⟨Uv,1⟩),(9,⟨.str,0⟩),(10,⟨.str,0⟩),(11,⟨.str,0⟩),(12,⟨(.int .u64),0⟩),(13,⟨Uw,0⟩),(14,⟨Uw,0⟩),(21,⟨(.int .i32),0⟩),(247,⟨(.int .i32),0⟩),(246,⟨(.int .i32),0⟩),(245,⟨(.ref (.int .u8)),0⟩),(243,⟨(.int .u8),0⟩),(242,⟨(.int .u8),0⟩),(91,⟨(.int .u32),0⟩),(22,⟨(.lst (.int .u8)),0⟩),(23,⟨(.lst (.int .i64)),0⟩),(24,⟨gT,0⟩),(25,⟨gT,0⟩),(92,⟨e_,0⟩),(93,⟨e_,0⟩),(26,⟨(.lst e_),0⟩),(27,⟨ei,0⟩),(28,⟨ei,0⟩),(29,⟨nT,0⟩),(30,⟨nT,0⟩),(31,⟨bm,0⟩),(32,⟨bm,0⟩),(38,⟨eL,1⟩),(39,⟨eL,1⟩),(34,⟨(.lst eL),0⟩),(79,⟨dj,0⟩),(80,⟨dj,0⟩),(49,⟨(.ref dj),0⟩),(60,⟨(.lst .str),0⟩),(103,⟨an,1⟩),(104,⟨an,1⟩),(64,⟨(.lst an),0⟩),(65,⟨g9,0⟩),(66,⟨g9,0⟩),(174,⟨b9,1⟩),(175,⟨b9,1⟩),(67,⟨(.lst b9),0⟩),(68,⟨mb,0⟩),(69,⟨mb,0⟩),(132,⟨cw,1⟩),(133,⟨cw,1⟩),(70,⟨(.lst cw),0⟩),(155,⟨cg,1⟩),(156,⟨cg,1⟩),(71,⟨(.lst cg),0⟩),(72,⟨b7,0⟩),(73,⟨b7,0⟩),(74,⟨(.lst bm),0⟩),(105,⟨cp,1⟩),(106,⟨cp,1⟩),(75,⟨(.lst cp),0⟩),(76,⟨fk,0⟩),(77,⟨fk,0⟩),(108,⟨di,1⟩),(109,⟨di,1⟩),(99,⟨(.lst di),0⟩),(152,⟨BX,1⟩),(153,⟨BX,1⟩),(148,⟨(.lst BX),0⟩),(229,⟨(.lst (.int .u32)),0⟩),(232,⟨(.int .u64),0⟩)]
def Gl:List (Nat×DV):=[]
abbrev Gb:jN:=jN.none
def gl_ok:∀g d,find Gl g=some d→∀w I,Gb.ok w I→af w I (.ref d.t) d.x [.pointer (some ⟨g,0,none⟩)]:=fun _ _ h=>by simp[Gl,find] at h
def tab_ok:cH (fun x=>(dw Tryz.prog x.2.t).1 x.1&&(!(Nat.beq x.2.e 1) || eqB Tryz.prog x.1)) C9=true:=by kernel_rfl
def Sp (fns:List (Nat×List Ab.Mode×(List Arg→Option Res)))(dp:Bool):bR Tryz.prog ⟨C9,fns,dp,Gl⟩:=cxOk_of tab_ok
def mixed:Tryz.prog.follows .mixedOrders=true:=by kernel_rfl
abbrev FT:Type:=List (Nat×List Ab.Mode×(List Arg→Option Res))
abbrev FK (c:j4):Prop:=∀(fns:FT) {dp:Bool},eN Tryz.prog Gb ⟨C9,fns,dp,Gl⟩→eN Tryz.prog Gb ⟨C9,c.entry::fns,dp,Gl⟩
abbrev EV (C:Cx)(lt:List (Nat×bZ))(f:Func)(ps:List PT)(ws:List Want)(g:jf ps→Option (kY ws×jW ps)):Prop:=∀xs,evT C lt f ps ws xs=g xs
abbrev CO (c:j4):Prop:=ConOk Tryz.prog Gb c
abbrev LT:Type:=List (Nat×bZ)
def g7:LT:=[]
abbrev z0:Nat:=500000000
abbrev z1:Nat:=500000001
abbrev z2:Nat:=500000002
abbrev z3:Nat:=500000003
abbrev I6:Ty:=.int .i64
abbrev I8:Ty:=.int .u8
abbrev I3:Ty:=.int .u32
def nF:eN Tryz.prog Gb ⟨C9,[],false,Gl⟩:=eN.nil C9 false gl_ok
def lq {C:Cx}{lt:LT}{fn:Func}{k:Nat}{sh:Sh}{ex:fF}{y0:ex.den}{r:sh.den→Option (sh.den⊕ex.den)}{l:List bZ}(h3:lD C lt fn (k+1) l)(h:∀x,round C lt (iY fn k) (oP sh ex y0 r) x=r x:=by intro x;kernel_rfl)(h1:find lt (iH (iY fn k))=some (oP sh ex y0 r):=by kernel_rfl)(h4:(find lt (iH (iY fn k)+500000)).isSome=false:=by kernel_rfl):lD C lt fn k (oP sh ex y0 r::l):=loopsC (loopD_ok h) h3 h1 h4
def zx {α β:Type}[Inhabited β](f:α→Option β):∀x y,f x=some y→zog f x=y:=zv
def wl {c:j4}{F:FT}{b:Bool}{fn:Func}{Ls:List bZ}{lt:LT}(hv:∀x y,c.fn x=some y→c.val x=y)(hF:eN Tryz.prog Gb ⟨C9,F,b,Gl⟩)(hf:Tryz.prog.funcs[c.id]?=some fn)(hlo:lD ⟨C9,F,b,Gl⟩ lt fn 0 Ls)(hbx:∀b'∈h_ (jh fn),mj ⟨C9,F,b,Gl⟩ lt b')(jk:∀xs,evT ⟨C9,F,b,Gl⟩ lt fn c.ps c.ws xs=c.fn xs:=by intro xs;kernel_rfl)(he:fnB Tryz.prog c.id=true:=by kernel_rfl):FK c:=fun _ _ h=>h.cons c he hv (con_ok mixed (Sp _ _) hF hf hlo hbx jk)
def UU:j4:=⟨21,[.v (.lst I8)],[.p dj],Ml,zog Ml⟩
def aeM:FK UU:=wl (lt:=g7) (zx Ml) nF Tryz.func21 loopsL_nil boxesL_none
def K_q145:j4:=⟨82,[],[.v (.pair (.own b9) (.pair I6 .unit))],Ib,zog Ib⟩
def XF:FK K_q145:=wl (lt:=g7) (zx Ib) nF Tryz.func82 loopsL_nil boxesL_none
def K_q36:j4:=⟨83,[.v I6],[.v (.own cw)],Ip,zog Ip⟩
def Vz:bZ:=oP ⟨[(4,.leaf I6),(0,.leaf I6),(3,.whole z0 cw)],[(z0,false,.rows cw)]⟩ [((.exit 0),⟨[(3,.whole z0 cw)],[(z0,false,.rows cw)]⟩)] abI MA
def lt_q36:LT:=[(3,Vz)]
def XZ:FK K_q36:=wl (lt:=lt_q36) (Ls:=[Vz]) (zx Ip) nF Tryz.func83 (lq loopsL_nil) boxesL_none
def K_q46:j4:=⟨72,[],[.v (.pair .bool (.pair I6 (.pair .str (.pair (.pair I6 (.pair (.own an) .unit)) (.pair (.pair (.own b9) (.pair I6 .unit)) (.pair (.own cw) (.pair (.own cg) .unit)))))))],q46,zog q46⟩
def fk_q46:FK K_q46:=wl (lt:=g7) (zx q46) (XZ _ (XF _ nF)) Tryz.func72 loopsL_nil boxesL_none
def UX:j4:=⟨31,[.v I6,.v I6,.v I6],[.v .bool],gh,zog gh⟩
def Co:FK UX:=wl (lt:=g7) (zx gh) nF Tryz.func31 loopsL_nil boxesL_none
def K_q44:j4:=⟨73,[.v I6],[.v (.pair I6 (.pair I6 (.pair I6 (.pair .str (.pair I6 (.pair (.pair (.pair I6 (.pair I6 (.pair (.own I6) (.pair (.own I6) .unit)))) (.pair (.pair I6 (.pair I6 (.pair (.own e_) .unit))) .unit)) .unit))))))],q44,zog q44⟩
def fk_q44:FK K_q44:=wl (lt:=g7) (zx q44) (Co _ nF) Tryz.func73 loopsL_nil boxesL_none
def K_q73:j4:=⟨68,[],[.v fk],q73,zog q73⟩
def Vs:bZ:=oP ⟨[(2,.leaf I6),(1,.aR z0 []),(0,.aR z1 [])],[(z0,false,.var fk (.pair (.pair (.leaf .bool) (.pair (.leaf I6) (.pair (.leaf .str) (.pair (.pair (.leaf I6) (.pair (.whole z2 an) (.leaf .unit))) (.pair (.pair (.whole z3 b9) (.leaf (.pair I6 .unit))) (.pair (.whole 500000004 cw) (.pair (.whole 500000005 cg) (.leaf .unit)))))))) (.pair (.whole 500000006 bm) (.pair (.whole 500000007 cp) (.pair (.whole 500000008 an) (.leaf .unit)))))),(z1,false,.var fk (.pair (.pair (.leaf .bool) (.pair (.leaf I6) (.pair (.leaf .str) (.pair (.pair (.leaf I6) (.pair (.whole 500000009 an) (.leaf .unit))) (.pair (.pair (.whole 500000010 b9) (.leaf (.pair I6 .unit))) (.pair (.whole 500000011 cw) (.pair (.whole 500000012 cg) (.leaf .unit)))))))) (.pair (.whole 500000013 bm) (.pair (.whole 500000014 cp) (.pair (.whole 500000015 an) (.leaf .unit)))))),(z2,false,.rows an),(z3,false,.rows b9),(500000004,false,.rows cw),(500000005,false,.rows cg),(500000006,false,.rows bm),(500000007,false,.rows cp),(500000008,false,.rows an),(500000009,false,.rows an),(500000010,false,.rows b9),(500000011,false,.rows cw),(500000012,false,.rows cg),(500000013,false,.rows bm),(500000014,false,.rows cp),(500000015,false,.rows an)]⟩ [((.exit 0),⟨[(0,.aR z0 []),(1,.aR z1 [])],[(z0,false,.var fk (.pair (.pair (.leaf .bool) (.pair (.leaf I6) (.pair (.leaf .str) (.pair (.pair (.leaf I6) (.pair (.whole z2 an) (.leaf .unit))) (.pair (.pair (.whole z3 b9) (.leaf (.pair I6 .unit))) (.pair (.whole 500000004 cw) (.pair (.whole 500000005 cg) (.leaf .unit)))))))) (.pair (.whole 500000006 bm) (.pair (.whole 500000007 cp) (.pair (.whole 500000008 an) (.leaf .unit)))))),(z1,false,.var fk (.pair (.pair (.leaf .bool) (.pair (.leaf I6) (.pair (.leaf .str) (.pair (.pair (.leaf I6) (.pair (.whole 500000009 an) (.leaf .unit))) (.pair (.pair (.whole 500000010 b9) (.leaf (.pair I6 .unit))) (.pair (.whole 500000011 cw) (.pair (.whole 500000012 cg) (.leaf .unit)))))))) (.pair (.whole 500000013 bm) (.pair (.whole 500000014 cp) (.pair (.whole 500000015 an) (.leaf .unit)))))),(z2,false,.rows an),(z3,false,.rows b9),(500000004,false,.rows cw),(500000005,false,.rows cg),(500000006,false,.rows bm),(500000007,false,.rows cp),(500000008,false,.rows an),(500000009,false,.rows an),(500000010,false,.rows b9),(500000011,false,.rows cw),(500000012,false,.rows cg),(500000013,false,.rows bm),(500000014,false,.rows cp),(500000015,false,.rows an)]⟩)] acg Q2
def lt_q73:LT:=[(3,Vs)]
def fk_q73:FK K_q73:=wl (lt:=lt_q73) (Ls:=[Vs]) (zx q73) (fk_q44 _ (fk_q46 _ nF)) Tryz.func68 (lq loopsL_nil) boxesL_none
def R1:j4:=⟨36,[.p dj,.v I6],[.v I6],m5,zog m5⟩
def IQ:FK R1:=wl (lt:=g7) (zx m5) nF Tryz.func36 loopsL_nil boxesL_none
def RY:j4:=⟨37,[.p dj,.v (.lst .str)],[.v .str],KI,zog KI⟩
def Xx:FK RY:=wl (lt:=g7) (zx KI) (IQ _ nF) Tryz.func37 loopsL_nil boxesL_none
def K_q74:j4:=⟨74,[.v I6],[.v I6],Cj,zog Cj⟩
def LI:FK K_q74:=wl (lt:=g7) (zx Cj) nF Tryz.func74 loopsL_nil boxesL_none
def US:j4:=⟨75,[.v .bool],[.v I6],KG,zog KG⟩
def aeD:FK US:=wl (lt:=g7) (zx KG) nF Tryz.func75 loopsL_nil boxesL_none
def K_q83:j4:=⟨76,[.p dj,.v I6],[.v .str],Iu,zog Iu⟩
def V1:bZ:=oP ⟨[(6,.leaf I6),(0,.aR 900 []),(5,.whole z0 I8),(1,.leaf I6)],[(900,false,.var dj (.leaf dj)),(z0,false,.rows I8)]⟩ [((.exit 0),⟨[(5,.whole z0 I8)],[(900,false,.var dj (.leaf dj)),(z0,false,.rows I8)]⟩)] acn Q7
def lt_q83:LT:=[(3,V1)]
def fk_q83:FK K_q83:=wl (lt:=lt_q83) (Ls:=[V1]) (zx Iu) (IQ _ nF) Tryz.func76 (lq loopsL_nil) boxesL_none
def K_q81:j4:=⟨69,[.p dj,.v fk],[.v di],q81,zog q81⟩
def Hw:Cx:=⟨C9,[K_q83.entry,US.entry,K_q74.entry,RY.entry,R1.entry],false,Gl⟩
def VQ:bZ:=boxD ⟨[(0,.aR 900 []),(3,.aR z0 []),(4,.aR z1 []),(5,.leaf I6)],[(900,false,.var dj (.leaf dj)),(z0,false,.var fk (.leaf fk)),(z1,false,.var di (.leaf di))]⟩ [(.norm,⟨[(0,.aR 900 []),(3,.aR z0 []),(4,.aR z1 []),(5,.leaf I6)],[(900,false,.var dj (.leaf dj)),(z0,false,.var fk (.leaf fk)),(z1,false,.var di (.leaf di))]⟩)] q14 QM
def VR:bZ:=boxD ⟨[(0,.aR 900 []),(7,.leaf I6),(3,.aR z0 []),(4,.aR z1 []),(6,.leaf .str),(5,.leaf I6)],[(900,false,.var dj (.leaf dj)),(z0,false,.var fk (.leaf fk)),(z1,false,.var di (.leaf di))]⟩ [(.norm,⟨[(4,.aR z0 []),(0,.aR 900 []),(7,.leaf I6),(6,.leaf .str),(5,.leaf I6),(3,.aR z1 [])],[(900,false,.var dj (.leaf dj)),(z0,false,.var di (.leaf di)),(z1,false,.var fk (.leaf fk))]⟩)] q15 QN
def VS:bZ:=oP ⟨[(8,.leaf I6),(0,.aR 900 []),(7,.leaf I6),(3,.aR z0 []),(4,.aR z1 []),(6,.leaf .str),(5,.leaf I6)],[(900,false,.var dj (.leaf dj)),(z0,false,.var fk (.leaf fk)),(z1,false,.var di (.leaf di))]⟩ [((.exit 0),⟨[(4,.aR z0 []),(0,.aR 900 []),(7,.leaf I6),(6,.leaf .str),(5,.leaf I6),(3,.aR z1 [])],[(900,false,.var dj (.leaf dj)),(z0,false,.var di (.leaf di)),(z1,false,.var fk (.leaf fk))]⟩)] aci OM
def VT:bZ:=boxD ⟨[(4,.aR z0 []),(0,.aR 900 []),(7,.leaf I6),(6,.leaf .str),(5,.leaf I6),(3,.aR z1 [])],[(900,false,.var dj (.leaf dj)),(z0,false,.var di (.leaf di)),(z1,false,.var fk (.leaf fk))]⟩ [(.ret,⟨[(4,.aR z0 [])],[(900,false,.var dj (.leaf dj)),(z0,false,.var di (.leaf di))]⟩),(.norm,⟨[(4,.aR z0 []),(0,.aR 900 []),(6,.leaf .str),(7,.leaf I6),(5,.leaf I6)],[(900,false,.var dj (.leaf dj)),(z0,false,.var di (.leaf di))]⟩)] q16 QS
def VU:bZ:=boxD ⟨[(4,.aR z0 []),(0,.aR 900 []),(6,.leaf .str),(7,.leaf I6),(5,.leaf I6),(100,.leaf I6)],[(900,false,.var dj (.leaf dj)),(z0,false,.var di (.leaf di))]⟩ [(.norm,⟨[(101,.leaf .bool),(4,.aR z0 []),(0,.aR 900 []),(6,.leaf .str),(7,.leaf I6),(5,.leaf I6),(100,.leaf I6)],[(900,false,.var dj (.leaf dj)),(z0,false,.var di (.leaf di))]⟩)] q17 QT
def VV:bZ:=boxD ⟨[(4,.aR z0 []),(6,.leaf .str),(7,.leaf I6),(0,.aR 900 []),(5,.leaf I6),(100,.leaf I6)],[(900,false,.var dj (.leaf dj)),(z0,false,.var di (.leaf di))]⟩ [(.norm,⟨[(131,.leaf .bool),(4,.aR z0 []),(6,.leaf .str),(7,.leaf I6),(0,.aR 900 []),(5,.leaf I6),(100,.leaf I6)],[(900,false,.var dj (.leaf dj)),(z0,false,.var di (.leaf di))]⟩)] q18 QU
def VW:bZ:=boxD ⟨[(4,.aR z0 []),(0,.aR 900 []),(5,.leaf I6),(6,.leaf .str),(100,.leaf I6)],[(900,false,.var dj (.leaf dj)),(z0,false,.var di (.leaf di))]⟩ [(.norm,⟨[(148,.leaf .bool),(4,.aR z0 []),(0,.aR 900 []),(5,.leaf I6),(6,.leaf .str),(100,.leaf I6)],[(900,false,.var dj (.leaf dj)),(z0,false,.var di (.leaf di))]⟩)] q19 QV
def VX:bZ:=boxD ⟨[(4,.aR z0 []),(0,.aR 900 []),(5,.leaf I6),(6,.leaf .str),(100,.leaf I6)],[(900,false,.var dj (.leaf dj)),(z0,false,.var di (.leaf di))]⟩ [(.norm,⟨[(158,.leaf .bool),(4,.aR z0 []),(0,.aR 900 []),(5,.leaf I6),(6,.leaf .str),(100,.leaf I6)],[(900,false,.var dj (.leaf dj)),(z0,false,.var di (.leaf di))]⟩)] q20 QX
def VY:bZ:=boxD ⟨[(4,.aR z0 []),(5,.leaf I6),(100,.leaf I6)],[(900,false,.var dj (.leaf dj)),(z0,false,.var di (.leaf di))]⟩ [(.norm,⟨[(201,.leaf .bool),(4,.aR z0 []),(5,.leaf I6),(100,.leaf I6)],[(900,false,.var dj (.leaf dj)),(z0,false,.var di (.leaf di))]⟩)] q21 QY
def VZ:bZ:=boxD ⟨[(4,.aR z0 []),(5,.leaf I6),(100,.leaf I6)],[(900,false,.var dj (.leaf dj)),(z0,false,.var di (.leaf di))]⟩ [(.norm,⟨[(205,.leaf .bool),(4,.aR z0 []),(5,.leaf I6)],[(900,false,.var dj (.leaf dj)),(z0,false,.var di (.leaf di))]⟩)] q22 QZ
def GU:LT:=[(2000002,VQ),(2000006,VR),(8,VS),(2000013,VT),(2000017,VU),(2000023,VV),(2000031,VW),(2000040,VX),(2000052,VY),(2000055,VZ)]
def ai9:∀x,boxR Hw GU (qD Tryz.f69 2) VQ x=q14 x:=by intro x;kernel_rfl
def ai_:∀x,boxR Hw GU (qD Tryz.f69 6) VR x=q15 x:=by intro x;kernel_rfl
def aja:∀x,boxR Hw GU (qD Tryz.f69 14) VT x=q16 x:=by intro x;kernel_rfl
def ajb:∀x,boxR Hw GU (qD Tryz.f69 20) VU x=q17 x:=by intro x;kernel_rfl
def ajc:∀x,boxR Hw GU (qD Tryz.f69 26) VV x=q18 x:=by intro x;kernel_rfl
def ajd:∀x,boxR Hw GU (qD Tryz.f69 34) VW x=q19 x:=by intro x;kernel_rfl
def aje:∀x,boxR Hw GU (qD Tryz.f69 43) VX x=q20 x:=by intro x;kernel_rfl
def ajf:∀x,boxR Hw GU (qD Tryz.f69 55) VY x=q21 x:=by intro x;kernel_rfl
def ajg:∀x,boxR Hw GU (qD Tryz.f69 58) VZ x=q22 x:=by intro x;kernel_rfl
def fk_q81:FK K_q81:=wl (lt:=GU) (Ls:=[VS]) (zx q81) (fk_q83 _ (aeD _ (LI _ (Xx _ (IQ _ nF))))) Tryz.func69 (lq loopsL_nil) (boxes_of (ks:=[2,6,14,20,26,34,43,55,58]) (by kernel_rfl) (boxesL_cons (by kernel_rfl) ai9 q14_v (boxesL_cons (by kernel_rfl) ai_ q15_v (boxesL_cons (by kernel_rfl) aja q16_v (boxesL_cons (by kernel_rfl) ajb q17_v (boxesL_cons (by kernel_rfl) ajc q18_v (boxesL_cons (by kernel_rfl) ajd q19_v (boxesL_cons (by kernel_rfl) aje q20_v (boxesL_cons (by kernel_rfl) ajf q21_v (boxesL_cons (by kernel_rfl) ajg q22_v boxesL_nil))))))))))
def K_q166:j4:=⟨80,[.v g9],[.v (.pair I6 (.pair (.own an) .unit))],G6,zog G6⟩
def SG:FK K_q166:=wl (lt:=g7) (zx G6) nF Tryz.func80 loopsL_nil boxesL_none
def K_q98:j4:=⟨81,[.v mb],[.v (.pair (.own b9) (.pair I6 .unit))],Gm,zog Gm⟩
def PW:FK K_q98:=wl (lt:=g7) (zx Gm) nF Tryz.func81 loopsL_nil boxesL_none
def K_q103:j4:=⟨71,[.v b7],[.v (.pair .bool (.pair I6 (.pair .str (.pair (.pair I6 (.pair (.own an) .unit)) (.pair (.pair (.own b9) (.pair I6 .unit)) (.pair (.own cw) (.pair (.own cg) .unit)))))))],Ft,zog Ft⟩
def LC:FK K_q103:=wl (lt:=g7) (zx Ft) (PW _ (SG _ nF)) Tryz.func71 loopsL_nil boxesL_none
def K_q161:j4:=⟨63,[.v gT],[.v (.pair I6 (.pair I6 (.pair (.own I6) (.pair (.own I6) .unit))))],Ig,zog Ig⟩
def XP:FK K_q161:=wl (lt:=g7) (zx Ig) nF Tryz.func63 loopsL_nil boxesL_none
def K_q151:j4:=⟨64,[.v ei],[.v (.pair I6 (.pair I6 (.pair (.own e_) .unit)))],Jq,zog Jq⟩
def Wg:bZ:=oP ⟨[(4,.leaf I6),(3,.aR z0 []),(1,.aR z1 []),(2,.aR z2 [])],[(z0,false,.var ei (.pair (.leaf I6) (.pair (.leaf I6) (.pair (.whole z3 e_) (.leaf .unit))))),(z1,false,.var ei (.leaf ei)),(z2,false,.var ei (.pair (.leaf I6) (.pair (.leaf I6) (.pair (.whole 500000004 e_) (.leaf .unit))))),(z3,false,.rows e_),(500000004,false,.rows e_)]⟩ [((.exit 0),⟨[(2,.aR z0 []),(3,.aR z1 [])],[(z0,false,.var ei (.pair (.leaf I6) (.pair (.leaf I6) (.pair (.whole z2 e_) (.leaf .unit))))),(z1,false,.var ei (.pair (.leaf I6) (.pair (.leaf I6) (.pair (.whole z3 e_) (.leaf .unit))))),(z2,false,.rows e_),(z3,false,.rows e_)]⟩)] aay Mm
def agk:LT:=[(3,Wg)]
def XK:FK K_q151:=wl (lt:=agk) (Ls:=[Wg]) (zx Jq) nF Tryz.func64 (lq loopsL_nil) boxesL_none
def K_q160:j4:=⟨51,[.v nT],[.v (.pair (.pair I6 (.pair I6 (.pair (.own I6) (.pair (.own I6) .unit)))) (.pair (.pair I6 (.pair I6 (.pair (.own e_) .unit))) .unit))],KQ,zog KQ⟩
def XO:FK K_q160:=wl (lt:=g7) (zx KQ) (XK _ (XP _ nF)) Tryz.func51 loopsL_nil boxesL_none
def K_q113:j4:=⟨39,[.v bm],[.v (.pair I6 (.pair I6 (.pair I6 (.pair .str (.pair I6 (.pair (.pair (.pair I6 (.pair I6 (.pair (.own I6) (.pair (.own I6) .unit)))) (.pair (.pair I6 (.pair I6 (.pair (.own e_) .unit))) .unit)) .unit))))))],F4,zog F4⟩
def PL:FK K_q113:=wl (lt:=g7) (zx F4) (XO _ nF) Tryz.func39 loopsL_nil boxesL_none
def K_q117:j4:=⟨67,[.v fk],[.v (.pair b7 (.pair (.own bm) (.pair (.own cp) (.pair (.own an) .unit))))],H_,zog H_⟩
def VJ:bZ:=oP ⟨[(4,.leaf I6),(3,.aR z0 []),(1,.aR z1 []),(2,.aR z2 [])],[(z0,false,.var fk (.pair (.pair (.leaf .bool) (.pair (.leaf I6) (.pair (.leaf .str) (.pair (.pair (.leaf I6) (.pair (.whole z3 an) (.leaf .unit))) (.pair (.pair (.whole 500000004 b9) (.leaf (.pair I6 .unit))) (.pair (.whole 500000005 cw) (.pair (.whole 500000006 cg) (.leaf .unit)))))))) (.pair (.whole 500000007 bm) (.pair (.whole 500000008 cp) (.pair (.whole 500000009 an) (.leaf .unit)))))),(z1,false,.var fk (.leaf fk)),(z2,false,.var fk (.pair (.pair (.leaf .bool) (.pair (.leaf I6) (.pair (.leaf .str) (.pair (.pair (.leaf I6) (.pair (.whole 500000010 an) (.leaf .unit))) (.pair (.pair (.whole 500000011 b9) (.leaf (.pair I6 .unit))) (.pair (.whole 500000012 cw) (.pair (.whole 500000013 cg) (.leaf .unit)))))))) (.pair (.whole 500000014 bm) (.pair (.whole 500000015 cp) (.pair (.whole 500000016 an) (.leaf .unit)))))),(z3,false,.rows an),(500000004,false,.rows b9),(500000005,false,.rows cw),(500000006,false,.rows cg),(500000007,false,.rows bm),(500000008,false,.rows cp),(500000009,false,.rows an),(500000010,false,.rows an),(500000011,false,.rows b9),(500000012,false,.rows cw),(500000013,false,.rows cg),(500000014,false,.rows bm),(500000015,false,.rows cp),(500000016,false,.rows an)]⟩ [((.exit 0),⟨[(2,.aR z0 []),(3,.aR z1 [])],[(z0,false,.var fk (.pair (.pair (.leaf .bool) (.pair (.leaf I6) (.pair (.leaf .str) (.pair (.pair (.leaf I6) (.pair (.whole z2 an) (.leaf .unit))) (.pair (.pair (.whole z3 b9) (.leaf (.pair I6 .unit))) (.pair (.whole 500000004 cw) (.pair (.whole 500000005 cg) (.leaf .unit)))))))) (.pair (.whole 500000006 bm) (.pair (.whole 500000007 cp) (.pair (.whole 500000008 an) (.leaf .unit)))))),(z1,false,.var fk (.pair (.pair (.leaf .bool) (.pair (.leaf I6) (.pair (.leaf .str) (.pair (.pair (.leaf I6) (.pair (.whole 500000009 an) (.leaf .unit))) (.pair (.pair (.whole 500000010 b9) (.leaf (.pair I6 .unit))) (.pair (.whole 500000011 cw) (.pair (.whole 500000012 cg) (.leaf .unit)))))))) (.pair (.whole 500000013 bm) (.pair (.whole 500000014 cp) (.pair (.whole 500000015 an) (.leaf .unit)))))),(z2,false,.rows an),(z3,false,.rows b9),(500000004,false,.rows cw),(500000005,false,.rows cg),(500000006,false,.rows bm),(500000007,false,.rows cp),(500000008,false,.rows an),(500000009,false,.rows an),(500000010,false,.rows b9),(500000011,false,.rows cw),(500000012,false,.rows cg),(500000013,false,.rows bm),(500000014,false,.rows cp),(500000015,false,.rows an)]⟩)] ZU QJ
def af6:LT:=[(3,VJ)]
def Xw:FK K_q117:=wl (lt:=af6) (Ls:=[VJ]) (zx H_) (PL _ (LC _ nF)) Tryz.func67 (lq loopsL_nil) boxesL_none
def K_q162:j4:=⟨118,[.v .str,.v I6,.v I8],[.v I6],Cz,zog Cz⟩
def WB:bZ:=oP ⟨[(7,.leaf I6),(2,.leaf I8),(0,.leaf .str)],[]⟩ [(.ret,⟨[(6,.leaf I6)],[]⟩),((.exit 0),⟨[],[]⟩)] aaK F9
def agq:LT:=[(2,WB)]
def SF:FK K_q162:=wl (lt:=agq) (Ls:=[WB]) (zx Cz) nF Tryz.func118 (lq loopsL_nil) boxesL_none
def K_q157:j4:=⟨119,[.v .str,.v I8],[.v (.own .str)],DJ,zog DJ⟩
def Wt:bZ:=oP ⟨[(7,.leaf I6),(6,.leaf I6),(0,.leaf .str),(5,.whole z0 .str),(1,.leaf I8)],[(z0,false,.rows .str)]⟩ [((.exit 0),⟨[(6,.leaf I6),(0,.leaf .str),(5,.whole z0 .str)],[(z0,false,.rows .str)]⟩)] aaE DK
def agn:LT:=[(4,Wt)]
def PN:FK K_q157:=wl (lt:=agn) (Ls:=[Wt]) (zx DJ) nF Tryz.func119 (lq loopsL_nil) boxesL_none
def K_q194:j4:=⟨120,[.v .str],[.v I6],AF,zog AF⟩
def Ww:bZ:=oP ⟨[(4,.leaf I6),(0,.leaf .str),(3,.leaf I6)],[]⟩ [(.ret,⟨[(2,.leaf I6)],[]⟩),((.exit 0),⟨[(3,.leaf I6)],[]⟩)] abr Mx
def agI:LT:=[(5,Ww)]
def NP:FK K_q194:=wl (lt:=agI) (Ls:=[Ww]) (zx AF) (Co _ nF) Tryz.func120 (lq loopsL_nil) boxesL_none
def K_q141:j4:=⟨34,[.v .str],[.v .bool],DX,zog DX⟩
def Vg:bZ:=oP ⟨[(3,.leaf I6),(0,.leaf .str)],[]⟩ [(.ret,⟨[(2,.leaf .bool)],[]⟩),((.exit 0),⟨[(0,.leaf .str)],[]⟩)] aam Fu
def agf:LT:=[(2,Vg)]
def PM:FK K_q141:=wl (lt:=agf) (Ls:=[Vg]) (zx DX) (Co _ nF) Tryz.func34 (lq loopsL_nil) boxesL_none
def K_q144:j4:=⟨23,[.v eL],[.v .bool],EG,zog EG⟩
def NN:FK K_q144:=wl (lt:=g7) (zx EG) (PM _ (Co _ nF)) Tryz.func23 loopsL_nil boxesL_none
def RZ:j4:=⟨139,[.v I6],[.v .str],Aw,zog Aw⟩
def Nr (g:((Int))→Option (((List UInt8))×(Unit)))(g':((Int))→((List UInt8))×(Unit)):j4:=⟨139,[.v I6],[.v .str],g,g'⟩
def C_q183 (g:((Int))→Option (((List UInt8))×(Unit)))(g':((Int))→((List UInt8))×(Unit)):Cx:=⟨C9,[(Nr g g').entry],false,Gl⟩
def e_q183 (g:((Int))→Option (((List UInt8))×(Unit)))(g':((Int))→((List UInt8))×(Unit)):∀xs,evT (C_q183 g g') g7 Tryz.f139 [.v I6] [.v .str] xs=q40 g g' xs:=by intro xs;kernel_rfl
def s_q183 (g:((Int))→Option (((List UInt8))×(Unit)))(g':((Int))→((List UInt8))×(Unit))(hv:∀x y,g x=some y→g' x=y)(h:CO (Nr g g')):CO (Nr (q40 g g') (fun x=>match q40 g g' x with | some y=>y|none=>default)):=con_ok (Ls:=[]) mixed (Sp _ _) (eN.cons nF (Nr g g') (by kernel_rfl) hv h) Tryz.func139 loopsL_nil boxesL_none (e_q183 g g')
def n_q183 (n:Nat):CO (Nr (E0 n) (fun x=>match E0 n x with | some y=>y|none=>default)):=by
 induction n with
 |zero=>intro xs y h;exact absurd (show none=some y from h) (by simp)
 |succ n ih=>
  rw[T7 n]
  exact s_q183 _ _ (fun x y h=>by simp only[h]) ih
def ag5:CO RZ:=n_q183 20
def LF:FK RZ:=fun _ _ h=>h.cons RZ (by kernel_rfl) (zx Aw) ag5
def K_q127:j4:=⟨125,[.v eL],[.v .str],Mg,zog Mg⟩
def aeG:FK K_q127:=wl (lt:=g7) (zx Mg) (LF _ nF) Tryz.func125 loopsL_nil boxesL_none
def K_q196:j4:=⟨126,[.v .str],[.v .str],K5,zog K5⟩
def WC:bZ:=oP ⟨[(4,.leaf I6),(0,.leaf .str),(3,.leaf I6)],[]⟩ [((.exit 0),⟨[(3,.leaf I6)],[]⟩)] abu QW
def WD:bZ:=oP ⟨[(5,.leaf .str)],[]⟩ [((.exit 2),⟨[(5,.leaf .str)],[]⟩)] abw OJ
def agJ:LT:=[(3,WC),(7,WD)]
def ae7:FK K_q196:=wl (lt:=agJ) (Ls:=[WC,WD]) (zx K5) (LF _ nF) Tryz.func126 (lq (lq loopsL_nil)) boxesL_none
def K_q49:j4:=⟨99,[.v eL],[.v .str],Iq,zog Iq⟩
def X1:FK K_q49:=wl (lt:=g7) (zx Iq) (ae7 _ (aeG _ (NN _ nF))) Tryz.func99 loopsL_nil boxesL_none
def K_q72:j4:=⟨95,[.v .str],[.v eL,.v .bool],q72,zog q72⟩
def fk_q72:FK K_q72:=wl (lt:=g7) (zx q72) (X1 _ (NN _ (NP _ (PN _ (SF _ nF))))) Tryz.func95 loopsL_nil boxesL_none
def K_q86:j4:=⟨185,[.v .str],[.v (.own I8)],q86,zog q86⟩
def V7:bZ:=oP ⟨[(3,.whole z0 I8),(0,.leaf .str)],[(z0,false,.rows I8)]⟩ [((.exit 0),⟨[(3,.whole z0 I8),(0,.leaf .str)],[(z0,false,.rows I8)]⟩)] acp MJ
def V8:bZ:=oP ⟨[(5,.leaf I6),(4,.leaf I6),(3,.whole z0 I8)],[(z0,false,.rows I8)]⟩ [((.exit 2),⟨[(3,.whole z0 I8)],[(z0,false,.rows I8)]⟩)] acr ON
def lt_q86:LT:=[(2,V7),(6,V8)]
def fk_q86:FK K_q86:=wl (lt:=lt_q86) (Ls:=[V7,V8]) (zx q86) nF Tryz.func185 (lq (lq loopsL_nil)) boxesL_none
def K_q150:j4:=⟨189,[.v I3,.v I6],[.v I3],z4,zog z4⟩
def XJ:FK K_q150:=wl (lt:=g7) (zx z4) nF Tryz.func189 loopsL_nil boxesL_none
def K_q124:j4:=⟨187,[.v (.lst I8)],[.v (.own I3)],Me,zog Me⟩
def Wa:bZ:=oP ⟨[(4,.leaf I6),(0,.leaf (.lst I8)),(3,.whole z0 I3)],[(z0,false,.rows I3)]⟩ [((.exit 0),⟨[(3,.whole z0 I3)],[(z0,false,.rows I3)]⟩)] Z7 OE
def Wb:bZ:=oP ⟨[(5,.leaf I6),(3,.whole z0 I3)],[(z0,false,.rows I3)]⟩ [((.exit 2),⟨[(3,.whole z0 I3)],[(z0,false,.rows I3)]⟩)] Z9 OF
def af9:LT:=[(3,Wa),(7,Wb)]
def aeF:FK K_q124:=wl (lt:=af9) (Ls:=[Wa,Wb]) (zx Me) (XJ _ nF) Tryz.func187 (lq (lq loopsL_nil)) boxesL_none
def K_q85:j4:=⟨188,[],[.v (.own I3)],q85,zog q85⟩
def fk_q85:FK K_q85:=wl (lt:=g7) (zx q85) nF Tryz.func188 loopsL_nil boxesL_none
def K_q121:j4:=⟨186,[.v (.lst I3),.v (.lst I8)],[.v (.own I3)],KH,zog KH⟩
def V2:bZ:=oP ⟨[(7,.whole z0 I3),(8,.leaf I6),(5,.whole z1 I3),(6,.whole z2 I3),(0,.leaf (.lst I3))],[(z0,false,.rows I3),(z1,false,.rows I3),(z2,false,.rows I3)]⟩ [((.exit 0),⟨[(7,.whole z0 I3),(0,.leaf (.lst I3))],[(z0,false,.rows I3)]⟩)] Z0 OD
def V3:bZ:=oP ⟨[(14,.leaf I6),(7,.whole z0 I3),(5,.whole z1 I3),(6,.whole z2 I3),(0,.leaf (.lst I3)),(8,.leaf I6),(13,.leaf I3),(12,.leaf I3),(11,.leaf I3)],[(z0,false,.rows I3),(z1,false,.rows I3),(z2,false,.rows I3)]⟩ [((.exit 2),⟨[(7,.whole z0 I3),(5,.whole z1 I3),(6,.whole z2 I3),(0,.leaf (.lst I3)),(8,.leaf I6),(13,.leaf I3),(12,.leaf I3),(11,.leaf I3)],[(z0,false,.rows I3),(z1,false,.rows I3),(z2,false,.rows I3)]⟩)] T5 T4
def V4:bZ:=oP ⟨[(16,.leaf I6),(7,.whole z0 I3),(0,.leaf (.lst I3)),(15,.whole z1 I3)],[(z0,false,.rows I3),(z1,false,.rows I3)]⟩ [((.exit 4),⟨[(15,.whole z0 I3)],[(z0,false,.rows I3)]⟩)] Z5 T6
def af8:LT:=[(5,V2),(13,V3),(20,V4)]
def aeE:FK K_q121:=wl (lt:=af8) (Ls:=[V2,V3,V4]) (zx KH) (XJ _ (fk_q85 _ (aeF _ nF))) Tryz.func186 (lq (lq (lq loopsL_nil))) boxesL_none
def K_q185:j4:=⟨183,[.v .str],[.v .str],KY,zog KY⟩
def V9:bZ:=oP ⟨[(5,.leaf I6),(4,.whole z0 I8),(3,.whole z1 I3)],[(z0,false,.rows I8),(z1,false,.rows I3)]⟩ [((.exit 0),⟨[(3,.whole z0 I3)],[(z0,false,.rows I3)]⟩)] aa6 Mr
def V_:bZ:=oP ⟨[(7,.leaf I6),(3,.whole z0 I3),(6,.whole z1 I8)],[(z0,false,.rows I3),(z1,false,.rows I8)]⟩ [((.exit 2),⟨[(6,.whole z0 I8)],[(z0,false,.rows I8)]⟩)] aa8 T8
def agz:LT:=[(4,V9),(9,V_)]
def ae1:FK K_q185:=wl (lt:=agz) (Ls:=[V9,V_]) (zx KY) (aeE _ (fk_q86 _ nF)) Tryz.func183 (lq (lq loopsL_nil)) boxesL_none
def K_q184:j4:=⟨182,[.v .str],[.v .str],Im,zog Im⟩
def V5:bZ:=oP ⟨[(4,.leaf I6),(0,.leaf .str),(3,.whole z0 I8)],[(z0,false,.rows I8)]⟩ [((.exit 0),⟨[(3,.whole z0 I8)],[(z0,false,.rows I8)]⟩)] aa4 Mq
def agy:LT:=[(3,V5)]
def ae0:FK K_q184:=wl (lt:=agy) (Ls:=[V5]) (zx Im) nF Tryz.func182 (lq loopsL_nil) boxesL_none
def K_q94:j4:=⟨174,[.v .str],[.v .str],q94,zog q94⟩
def fk_q94:FK K_q94:=wl (lt:=g7) (zx q94) (ae0 _ (ae1 _ nF)) Tryz.func174 loopsL_nil boxesL_none
def K_q163:j4:=⟨159,[.v I6,.v .str],[.v .str],Ih,zog Ih⟩
def XQ:FK K_q163:=wl (lt:=g7) (zx Ih) (fk_q94 _ (LF _ nF)) Tryz.func159 loopsL_nil boxesL_none
def K_q164:j4:=⟨148,[.v .str,.v I6,.v I6],[.v .str,.v I6],Ju,zog Ju⟩
def aeR:FK K_q164:=wl (lt:=g7) (zx Ju) (XQ _ (Co _ (NP _ (SF _ nF)))) Tryz.func148 loopsL_nil boxesL_none
def K_q165:j4:=⟨116,[.v .str],[.v (.own .str),.v I6],Fw,zog Fw⟩
def WE:bZ:=oP ⟨[(5,.leaf I6),(4,.whole z0 .str),(0,.leaf .str)],[(z0,false,.rows .str)]⟩ [(.ret,⟨[(2,.whole z0 .str),(3,.leaf I6)],[(z0,false,.rows .str)]⟩)] aaM Mn
def agr:LT:=[(3,WE)]
def NO:FK K_q165:=wl (lt:=agr) (Ls:=[WE]) (zx Fw) (aeR _ nF) Tryz.func116 (lq loopsL_nil) boxesL_none
def K_q201:j4:=⟨134,[.v an],[.v .bool],G9,zog G9⟩
def SQ:FK K_q201:=wl (lt:=g7) (zx G9) (PM _ (Co _ nF)) Tryz.func134 loopsL_nil boxesL_none
def K_q43:j4:=⟨103,[.v I6,.v .str,.v .str],[.v .str],E5,zog E5⟩
def PU:FK K_q43:=wl (lt:=g7) (zx E5) (LF _ (SQ _ nF)) Tryz.func103 loopsL_nil boxesL_none
def K_q168:j4:=⟨157,[.v an,.v I6,.v .str],[.v .bool],Jv,zog Jv⟩
def XR:FK K_q168:=wl (lt:=g7) (zx Jv) nF Tryz.func157 loopsL_nil boxesL_none
def K_q128:j4:=⟨136,[.v (.lst an),.v I6],[.v I6],Jn,zog Jn⟩
def WH:bZ:=oP ⟨[(6,.leaf I6),(0,.leaf (.lst an)),(5,.leaf I6),(1,.leaf I6)],[]⟩ [((.exit 0),⟨[(5,.leaf I6)],[]⟩)] aac KJ
def aga:LT:=[(3,WH)]
def Xy:FK K_q128:=wl (lt:=aga) (Ls:=[WH]) (zx Jn) nF Tryz.func136 (lq loopsL_nil) boxesL_none
def K_q174:j4:=⟨133,[.v g9],[.v .bool],Ik,zog Ik⟩
def Vb:bZ:=oP ⟨[(1,.aR z0 []),(3,.leaf I6)],[(z0,false,.var g9 (.leaf g9))]⟩ [(.ret,⟨[(2,.leaf .bool)],[]⟩),((.exit 0),⟨[(1,.aR z0 [])],[(z0,false,.var g9 (.leaf g9))]⟩)] aaS KT
def Vc:bZ:=oP ⟨[(5,.leaf I6),(4,.aR z0 []),(1,.aR z1 []),(3,.leaf I6)],[(z0,false,.var an (.leaf an)),(z1,false,.var g9 (.leaf g9))]⟩ [(.ret,⟨[(2,.leaf .bool)],[]⟩),((.exit 2),⟨[(1,.aR z0 []),(3,.leaf I6)],[(z0,false,.var g9 (.leaf g9))]⟩)] aaU Mp
def Vd:bZ:=oP ⟨[(6,.leaf I6),(1,.aR z0 [])],[(z0,false,.var g9 (.leaf g9))]⟩ [(.ret,⟨[(2,.leaf .bool)],[]⟩),((.exit 4),⟨[],[]⟩)] aaW OI
def agu:LT:=[(4,Vb),(10,Vc),(15,Vd)]
def SL:FK K_q174:=wl (lt:=agu) (Ls:=[Vb,Vc,Vd]) (zx Ik) (Xy _ (XR _ (SQ _ (Co _ nF)))) Tryz.func133 (lq (lq (lq loopsL_nil))) boxesL_none
def K_q200:j4:=⟨135,[.v g9,.v I6,.v .str],[.v I6],Gf,zog Gf⟩
def WG:bZ:=oP ⟨[(7,.leaf I6),(2,.leaf .str),(3,.aR z0 []),(1,.leaf I6)],[(z0,false,.var g9 (.leaf g9))]⟩ [(.ret,⟨[(6,.leaf I6)],[]⟩),((.exit 0),⟨[],[]⟩)] abC K7
def agM:LT:=[(2,WG)]
def SP:FK K_q200:=wl (lt:=agM) (Ls:=[WG]) (zx Gf) nF Tryz.func135 (lq loopsL_nil) boxesL_none
def K_q169:j4:=⟨167,[.v g9,.v I6],[.v (.pair I6 (.pair (.own an) .unit))],Mo,zog Mo⟩
def aeS:FK K_q169:=wl (lt:=g7) (zx Mo) nF Tryz.func167 loopsL_nil boxesL_none
def K_q92:j4:=⟨147,[.v g9,.v I6,.v .str],[.v (.pair I6 (.pair (.own an) .unit)),.v I6],Iv,zog Iv⟩
def fk_q92:FK K_q92:=wl (lt:=g7) (zx Iv) (aeS _ (SG _ (SP _ (SL _ nF)))) Tryz.func147 loopsL_nil boxesL_none
def K_q197:j4:=⟨137,[.v g9,.v an],[.v (.pair I6 (.pair (.own an) .unit))],My,zog My⟩
def WK:bZ:=oP ⟨[(5,.leaf I6),(4,.aR z0 []),(2,.aR z1 []),(3,.aR z2 [])],[(z0,false,.var g9 (.pair (.leaf I6) (.pair (.whole z3 an) (.leaf .unit)))),(z1,false,.var g9 (.leaf g9)),(z2,false,.var an (.leaf an)),(z3,false,.rows an)]⟩ [((.exit 0),⟨[(4,.aR z0 []),(5,.leaf I6),(2,.aR z1 []),(3,.aR z2 [])],[(z0,false,.var g9 (.pair (.leaf I6) (.pair (.whole z3 an) (.leaf .unit)))),(z1,false,.var g9 (.leaf g9)),(z2,false,.var an (.leaf an)),(z3,false,.rows an)]⟩)] aby K6
def agK:LT:=[(2,WK)]
def ae8:FK K_q197:=wl (lt:=agK) (Ls:=[WK]) (zx My) (XR _ nF) Tryz.func137 (lq loopsL_nil) boxesL_none
def K_q137:j4:=⟨101,[.v g9,.v I6,.v .str,.v .str],[.v (.pair I6 (.pair (.own an) .unit)),.v I6],F7,zog F7⟩
def XC:FK K_q137:=wl (lt:=g7) (zx F7) (ae8 _ (Xy _ (SP _ (SG _ (SQ _ (SL _ nF)))))) Tryz.func101 loopsL_nil boxesL_none
def K_q167:j4:=⟨114,[.v g9,.v .str],[.v (.pair I6 (.pair (.own an) .unit)),.v .bool],F_,zog F_⟩
def SH:FK K_q167:=wl (lt:=g7) (zx F_) (XC _ (fk_q92 _ (PU _ (NP _ (PN _ (SF _ nF)))))) Tryz.func114 loopsL_nil boxesL_none
def K_q173:j4:=⟨117,[.v (.lst .str)],[.v (.pair I6 (.pair (.own an) .unit)),.v .bool],Jx,zog Jx⟩
def Va:bZ:=oP ⟨[(2,.aR z0 []),(5,.leaf I6),(4,.aR z1 []),(0,.leaf (.lst .str))],[(z0,false,.var g9 (.pair (.leaf I6) (.pair (.whole z2 an) (.leaf .unit)))),(z1,false,.var g9 (.pair (.leaf I6) (.pair (.whole z3 an) (.leaf .unit)))),(z2,false,.rows an),(z3,false,.rows an)]⟩ [(.ret,⟨[(2,.aR z0 []),(3,.leaf .bool)],[(z0,false,.var g9 (.pair (.leaf I6) (.pair (.whole z1 an) (.leaf .unit)))),(z1,false,.rows an)]⟩),((.exit 0),⟨[(2,.aR z0 []),(4,.aR z1 [])],[(z0,false,.var g9 (.pair (.leaf I6) (.pair (.whole z2 an) (.leaf .unit)))),(z1,false,.var g9 (.pair (.leaf I6) (.pair (.whole z3 an) (.leaf .unit)))),(z2,false,.rows an),(z3,false,.rows an)]⟩)] aaQ KS
def agt:LT:=[(3,Va)]
def SJ:FK K_q173:=wl (lt:=agt) (Ls:=[Va]) (zx Jx) (SH _ nF) Tryz.func117 (lq loopsL_nil) boxesL_none
def K_q109:j4:=⟨127,[.v b7],[.v .bool],Kz,zog Kz⟩
def aey:FK K_q109:=wl (lt:=g7) (zx Kz) (SJ _ (NO _ nF)) Tryz.func127 loopsL_nil boxesL_none
def K_q108:j4:=⟨128,[.v g9,.v g9],[.v .bool],H9,zog H9⟩
def VC:bZ:=oP ⟨[(5,.leaf I6),(3,.aR z0 []),(2,.aR z1 [])],[(z0,false,.var g9 (.leaf g9)),(z1,false,.var g9 (.leaf g9))]⟩ [(.ret,⟨[(4,.leaf .bool)],[]⟩),((.exit 0),⟨[],[]⟩)] ZM Ky
def af3:LT:=[(4,VC)]
def aex:FK K_q108:=wl (lt:=af3) (Ls:=[VC]) (zx H9) nF Tryz.func128 (lq loopsL_nil) boxesL_none
def K_q179:j4:=⟨155,[.v b9],[.v .bool],Jz,zog Jz⟩
def aeX:FK K_q179:=wl (lt:=g7) (zx Jz) (Co _ nF) Tryz.func155 loopsL_nil boxesL_none
def K_q178:j4:=⟨156,[.v mb,.v I6],[.v I6],KV,zog KV⟩
def Vv:bZ:=oP ⟨[(6,.leaf I6),(5,.leaf I6),(1,.leaf I6),(2,.aR z0 [])],[(z0,false,.var mb (.leaf mb))]⟩ [((.exit 0),⟨[(5,.leaf I6)],[]⟩)] aa0 KW
def agw:LT:=[(3,Vv)]
def XT:FK K_q178:=wl (lt:=agw) (Ls:=[Vv]) (zx KV) nF Tryz.func156 (lq loopsL_nil) boxesL_none
def K_q143:j4:=⟨129,[.v mb],[.v .bool],Ia,zog Ia⟩
def Vi:bZ:=oP ⟨[(1,.aR z0 []),(3,.leaf I6)],[(z0,false,.var mb (.leaf mb))]⟩ [(.ret,⟨[(2,.leaf .bool)],[]⟩),((.exit 0),⟨[(1,.aR z0 [])],[(z0,false,.var mb (.leaf mb))]⟩)] aaq Jo
def Vj:bZ:=oP ⟨[(4,.leaf I6),(1,.aR z0 []),(3,.leaf I6)],[(z0,false,.var mb (.leaf mb))]⟩ [(.ret,⟨[(2,.leaf .bool)],[]⟩),((.exit 2),⟨[(1,.aR z0 []),(3,.leaf I6)],[(z0,false,.var mb (.leaf mb))]⟩)] aas Fv
def Vk:bZ:=oP ⟨[(5,.leaf I6),(1,.aR z0 [])],[(z0,false,.var mb (.leaf mb))]⟩ [(.ret,⟨[(2,.leaf .bool)],[]⟩),((.exit 4),⟨[],[]⟩)] aau Jp
def agi:LT:=[(4,Vi),(9,Vj),(14,Vk)]
def XE:FK K_q143:=wl (lt:=agi) (Ls:=[Vi,Vj,Vk]) (zx Ia) (XT _ (aeX _ (Co _ nF))) Tryz.func129 (lq (lq (lq loopsL_nil))) boxesL_none
def K_q60:j4:=⟨110,[.v g9,.v I6],[.v an,.v .bool],Gg,zog Gg⟩
def WJ:bZ:=oP ⟨[(4,.aR z0 []),(6,.leaf I6),(2,.aR z1 []),(1,.leaf I6)],[(z0,false,.var an (.leaf an)),(z1,false,.var g9 (.leaf g9))]⟩ [(.ret,⟨[(4,.aR z0 []),(5,.leaf .bool)],[(z0,false,.var an (.leaf an))]⟩),((.exit 0),⟨[(4,.aR z0 [])],[(z0,false,.var an (.leaf an))]⟩)] abW K_
def lt_q60:LT:=[(2,WJ)]
def PV:FK K_q60:=wl (lt:=lt_q60) (Ls:=[WJ]) (zx Gg) nF Tryz.func110 (lq loopsL_nil) boxesL_none
def K_q51:j4:=⟨130,[.v b7],[.v .bool],q51,zog q51⟩
def VD:bZ:=oP ⟨[(3,.leaf I6),(1,.aR z0 [])],[(z0,false,.var b7 (.leaf b7))]⟩ [(.ret,⟨[(2,.leaf .bool)],[]⟩),((.exit 0),⟨[],[]⟩)] abQ JC
def lt_q51:LT:=[(2,VD)]
def fk_q51:FK K_q51:=wl (lt:=lt_q51) (Ls:=[VD]) (zx q51) (LI _ (PV _ (Co _ nF))) Tryz.func130 (lq loopsL_nil) boxesL_none
def K_q126:j4:=⟨49,[.v gT],[.v I6],Br,zog Br⟩
def HI:FK K_q126:=wl (lt:=g7) (zx Br) nF Tryz.func49 loopsL_nil boxesL_none
def K_q193:j4:=⟨131,[.v I6],[.v (.pair I6 (.pair I6 (.pair (.own I6) (.pair (.own I6) .unit))))],Ci,zog Ci⟩
def Wu:bZ:=oP ⟨[(3,.aR z0 []),(2,.aR z1 [])],[(z0,false,.var gT (.pair (.leaf I6) (.pair (.leaf I6) (.pair (.whole z2 I6) (.pair (.whole z3 I6) (.leaf .unit)))))),(z1,false,.var gT (.pair (.leaf I6) (.pair (.leaf I6) (.pair (.whole 500000004 I6) (.pair (.whole 500000005 I6) (.leaf .unit)))))),(z2,false,.rows I6),(z3,false,.rows I6),(500000004,false,.rows I6),(500000005,false,.rows I6)]⟩ [((.exit 0),⟨[(2,.aR z0 []),(3,.aR z1 [])],[(z0,false,.var gT (.pair (.leaf I6) (.pair (.leaf I6) (.pair (.whole z2 I6) (.pair (.whole z3 I6) (.leaf .unit)))))),(z1,false,.var gT (.pair (.leaf I6) (.pair (.leaf I6) (.pair (.whole 500000004 I6) (.pair (.whole 500000005 I6) (.leaf .unit)))))),(z2,false,.rows I6),(z3,false,.rows I6),(500000004,false,.rows I6),(500000005,false,.rows I6)]⟩)] abp Fy
def agH:LT:=[(2,Wu)]
def PO:FK K_q193:=wl (lt:=agH) (Ls:=[Wu]) (zx Ci) (HI _ nF) Tryz.func131 (lq loopsL_nil) boxesL_none
def K_q67:j4:=⟨132,[.v cw],[.v .bool],q67,zog q67⟩
def fk_q67:FK K_q67:=wl (lt:=g7) (zx q67) (Co _ nF) Tryz.func132 loopsL_nil boxesL_none
def K_q70:j4:=⟨100,[.v b7],[.v .bool],Gi,zog Gi⟩
def Vm:bZ:=oP ⟨[(7,.leaf I6),(1,.aR z0 [])],[(z0,false,.var b7 (.leaf b7))]⟩ [(.ret,⟨[(2,.leaf .bool)],[]⟩),((.exit 0),⟨[(1,.aR z0 [])],[(z0,false,.var b7 (.leaf b7))]⟩)] ab4 Gj
def Vn:bZ:=oP ⟨[(10,.leaf I6),(1,.aR z0 [])],[(z0,false,.var b7 (.leaf b7))]⟩ [(.ret,⟨[(2,.leaf .bool)],[]⟩),((.exit 2),⟨[],[]⟩)] ab6 La
def lt_q70:LT:=[(10,Vm),(16,Vn)]
def LH:FK K_q70:=wl (lt:=lt_q70) (Ls:=[Vm,Vn]) (zx Gi) (fk_q67 _ (HI _ (PO _ (PV _ (fk_q51 _ (XE _ (aex _ (SJ _ (NO _ (aey _ (Co _ nF))))))))))) Tryz.func100 (lq (lq loopsL_nil)) boxesL_none
def UW:j4:=⟨109,[.v b7,.v I6],[.v I6],Gc,zog Gc⟩
def Vx:bZ:=oP ⟨[(5,.leaf I6),(1,.leaf I6),(2,.aR z0 [])],[(z0,false,.var b7 (.leaf b7))]⟩ [(.ret,⟨[(4,.leaf I6)],[]⟩),((.exit 0),⟨[],[]⟩)] aa2 Fx
def agx:LT:=[(2,Vx)]
def SN:FK UW:=wl (lt:=agx) (Ls:=[Vx]) (zx Gc) nF Tryz.func109 (lq loopsL_nil) boxesL_none
def K_q136:j4:=⟨104,[.v g9,.v I6,.v .str],[.v an,.v .bool],Ei,zog Ei⟩
def XB:FK K_q136:=wl (lt:=g7) (zx Ei) (SL _ (SP _ nF)) Tryz.func104 loopsL_nil boxesL_none
def K_q38:j4:=⟨111,[.v b7,.v I6],[.v (.pair .bool (.pair I6 (.pair .str (.pair g9 (.pair mb (.pair (.lst cw) (.pair (.own cg) .unit)))))))],Hf,zog Hf⟩
def VG:bZ:=oP ⟨[(6,.leaf I6),(2,.aR z0 []),(5,.whole z1 cg),(1,.leaf I6),(4,.aR z2 [])],[(z0,false,.var b7 (.leaf b7)),(z1,false,.rows cg),(z2,false,.var b7 (.pair (.leaf .bool) (.pair (.leaf I6) (.pair (.leaf .str) (.pair (.pair (.leaf I6) (.pair (.whole z3 an) (.leaf .unit))) (.pair (.pair (.whole 500000004 b9) (.leaf (.pair I6 .unit))) (.pair (.whole 500000005 cw) (.pair (.whole 500000006 cg) (.leaf .unit))))))))),(z3,false,.rows an),(500000004,false,.rows b9),(500000005,false,.rows cw),(500000006,false,.rows cg)]⟩ [((.exit 0),⟨[(4,.aR z0 []),(2,.aR z1 []),(5,.whole z2 cg)],[(z0,false,.var b7 (.pair (.leaf .bool) (.pair (.leaf I6) (.pair (.leaf .str) (.pair (.pair (.leaf I6) (.pair (.whole z3 an) (.leaf .unit))) (.pair (.pair (.whole 500000004 b9) (.leaf (.pair I6 .unit))) (.pair (.whole 500000005 cw) (.pair (.whole 500000006 cg) (.leaf .unit))))))))),(z1,false,.var b7 (.leaf b7)),(z2,false,.rows cg),(z3,false,.rows an),(500000004,false,.rows b9),(500000005,false,.rows cw),(500000006,false,.rows cg)]⟩)] abK K8
def lt_q38:LT:=[(3,VG)]
def PR:FK K_q38:=wl (lt:=lt_q38) (Ls:=[VG]) (zx Hf) nF Tryz.func111 (lq loopsL_nil) boxesL_none
def K_q104:j4:=⟨112,[.v I6,.v I6,.v I6],[.v (.own eL)],Jm,zog Jm⟩
def Xt:FK K_q104:=wl (lt:=g7) (zx Jm) nF Tryz.func112 loopsL_nil boxesL_none
def K_q111:j4:=⟨168,[.v b7,.v cg],[.v (.pair .bool (.pair I6 (.pair .str (.pair g9 (.pair mb (.pair (.lst cw) (.pair (.own cg) .unit)))))))],Mc,zog Mc⟩
def VF:bZ:=oP ⟨[(5,.leaf I6),(4,.aR z0 []),(2,.aR z1 []),(3,.aR z2 [])],[(z0,false,.var b7 (.pair (.leaf .bool) (.pair (.leaf I6) (.pair (.leaf .str) (.pair (.pair (.leaf I6) (.pair (.whole z3 an) (.leaf .unit))) (.pair (.pair (.whole 500000004 b9) (.leaf (.pair I6 .unit))) (.pair (.whole 500000005 cw) (.pair (.whole 500000006 cg) (.leaf .unit))))))))),(z1,false,.var b7 (.pair (.leaf .bool) (.pair (.leaf I6) (.pair (.leaf .str) (.pair (.leaf g9) (.pair (.leaf mb) (.pair (.leaf (.lst cw)) (.pair (.whole 500000007 cg) (.leaf .unit))))))))),(z2,false,.var cg (.leaf cg)),(z3,false,.rows an),(500000004,false,.rows b9),(500000005,false,.rows cw),(500000006,false,.rows cg),(500000007,false,.rows cg)]⟩ [((.exit 0),⟨[(4,.aR z0 []),(2,.aR z1 []),(5,.leaf I6),(3,.aR z2 [])],[(z0,false,.var b7 (.pair (.leaf .bool) (.pair (.leaf I6) (.pair (.leaf .str) (.pair (.pair (.leaf I6) (.pair (.whole z3 an) (.leaf .unit))) (.pair (.pair (.whole 500000004 b9) (.leaf (.pair I6 .unit))) (.pair (.whole 500000005 cw) (.pair (.whole 500000006 cg) (.leaf .unit))))))))),(z1,false,.var b7 (.pair (.leaf .bool) (.pair (.leaf I6) (.pair (.leaf .str) (.pair (.leaf g9) (.pair (.leaf mb) (.pair (.leaf (.lst cw)) (.pair (.whole 500000007 cg) (.leaf .unit))))))))),(z2,false,.var cg (.leaf cg)),(z3,false,.rows an),(500000004,false,.rows b9),(500000005,false,.rows cw),(500000006,false,.rows cg),(500000007,false,.rows cg)]⟩)] ZS KA
def af5:LT:=[(3,VF)]
def aeA:FK K_q111:=wl (lt:=af5) (Ls:=[VF]) (zx Mc) (PR _ nF) Tryz.func168 (lq loopsL_nil) boxesL_none
def K_q142:j4:=⟨47,[.v gT],[.v .bool],Ej,zog Ej⟩
def Vh:bZ:=oP ⟨[(3,.leaf I6),(1,.aR z0 [])],[(z0,false,.var gT (.leaf gT))]⟩ [(.ret,⟨[(2,.leaf .bool)],[]⟩),((.exit 0),⟨[(1,.aR z0 [])],[(z0,false,.var gT (.leaf gT))]⟩)] aao G5
def agh:LT:=[(4,Vh)]
def SE:FK K_q142:=wl (lt:=agh) (Ls:=[Vh]) (zx Ej) (HI _ (Co _ nF)) Tryz.func47 (lq loopsL_nil) boxesL_none
def K_q158:j4:=⟨171,[.v (.lst I6)],[.v .str],Ic,zog Ic⟩
def Wv:bZ:=oP ⟨[(4,.leaf I6),(0,.leaf (.lst I6)),(3,.leaf .str)],[]⟩ [((.exit 0),⟨[(3,.leaf .str)],[]⟩)] aaG QO
def ago:LT:=[(3,Wv)]
def aeP:FK K_q158:=wl (lt:=ago) (Ls:=[Wv]) (zx Ic) (LF _ nF) Tryz.func171 (lq loopsL_nil) boxesL_none
def K_q45:j4:=⟨152,[.v gT],[.v .str],E6,zog E6⟩
def SR:FK K_q45:=wl (lt:=g7) (zx E6) (aeP _ (LF _ (SE _ nF))) Tryz.func152 loopsL_nil boxesL_none
def UR:j4:=⟨149,[.k (.pair .bool (.pair I6 (.pair .str (.pair (.pair I6 (.pair (.own an) .unit)) (.pair (.pair (.own b9) (.pair I6 .unit)) (.pair (.own cw) (.pair (.own cg) .unit))))))),.v eL],[.v (.pair .bool (.pair I6 (.pair .str (.pair g9 (.pair mb (.pair (.lst cw) (.pair (.own cg) .unit))))))),.v (.own eL)],L_,zog L_⟩
def aew:FK UR:=wl (lt:=g7) (zx L_) (SR _ (PO _ (aeA _ (Xt _ (PR _ (XB _ (LI _ (SN _ nF)))))))) Tryz.func149 loopsL_nil boxesL_none
def K_q105:j4:=⟨121,[.k (.pair .bool (.pair I6 (.pair .str (.pair (.pair I6 (.pair (.own an) .unit)) (.pair (.pair (.own b9) (.pair I6 .unit)) (.pair (.own cw) (.pair (.own cg) .unit))))))),.v eL],[.v (.pair .bool (.pair I6 (.pair .str (.pair g9 (.pair mb (.pair (.lst cw) (.pair (.own cg) .unit))))))),.v (.own eL)],L8,zog L8⟩
def C_q105:Cx:=⟨C9,[K_q38.entry,UW.entry,UR.entry],false,Gl⟩
def VA:bZ:=boxD ⟨[(4,.aR z0 []),(2,.aR z1 []),(3,.aR z2 []),(6,.leaf I6)],[(z0,false,.var b7 (.pair (.leaf .bool) (.pair (.leaf I6) (.pair (.leaf .str) (.pair (.pair (.leaf I6) (.pair (.whole z3 an) (.leaf .unit))) (.pair (.pair (.whole 500000004 b9) (.leaf (.pair I6 .unit))) (.pair (.whole 500000005 cw) (.pair (.whole 500000006 cg) (.leaf .unit))))))))),(z1,false,.var b7 (.pair (.leaf .bool) (.pair (.leaf I6) (.pair (.leaf .str) (.pair (.pair (.leaf I6) (.pair (.whole 500000007 an) (.leaf .unit))) (.pair (.pair (.whole 500000008 b9) (.leaf (.pair I6 .unit))) (.pair (.whole 500000009 cw) (.pair (.whole 500000010 cg) (.leaf .unit))))))))),(z2,false,.var eL (.leaf eL)),(z3,false,.rows an),(500000004,false,.rows b9),(500000005,false,.rows cw),(500000006,false,.rows cg),(500000007,false,.rows an),(500000008,false,.rows b9),(500000009,false,.rows cw),(500000010,false,.rows cg)]⟩ [(.norm,⟨[(4,.aR z0 []),(2,.aR z1 [])],[(z0,false,.var b7 (.pair (.leaf .bool) (.pair (.leaf I6) (.pair (.leaf .str) (.pair (.pair (.leaf I6) (.pair (.whole z2 an) (.leaf .unit))) (.pair (.pair (.whole z3 b9) (.leaf (.pair I6 .unit))) (.pair (.whole 500000004 cw) (.pair (.whole 500000005 cg) (.leaf .unit))))))))),(z1,false,.var b7 (.pair (.leaf .bool) (.pair (.leaf I6) (.pair (.leaf .str) (.pair (.leaf g9) (.pair (.leaf mb) (.pair (.leaf (.lst cw)) (.pair (.whole 500000006 cg) (.leaf .unit))))))))),(z2,false,.rows an),(z3,false,.rows b9),(500000004,false,.rows cw),(500000005,false,.rows cg),(500000006,false,.rows cg)]⟩),(.norm,⟨[(4,.aR z0 []),(2,.aR z1 [])],[(z0,false,.var b7 (.pair (.leaf .bool) (.pair (.leaf I6) (.pair (.leaf .str) (.pair (.pair (.leaf I6) (.pair (.whole z2 an) (.leaf .unit))) (.pair (.pair (.whole z3 b9) (.leaf (.pair I6 .unit))) (.pair (.whole 500000004 cw) (.pair (.whole 500000005 cg) (.leaf .unit))))))))),(z1,false,.var b7 (.pair (.leaf .bool) (.pair (.leaf I6) (.pair (.leaf .str) (.pair (.pair (.leaf I6) (.pair (.whole 500000006 an) (.leaf .unit))) (.pair (.pair (.whole 500000007 b9) (.leaf (.pair I6 .unit))) (.pair (.whole 500000008 cw) (.pair (.whole 500000009 cg) (.leaf .unit))))))))),(z2,false,.rows an),(z3,false,.rows b9),(500000004,false,.rows cw),(500000005,false,.rows cg),(500000006,false,.rows an),(500000007,false,.rows b9),(500000008,false,.rows cw),(500000009,false,.rows cg)]⟩)] q37 Q0
def YU:LT:=[(1000006,VA)]
def ai2:∀x,boxR C_q105 YU (qD Tryz.f121 8) VA x=q37 x:=by intro x;kernel_rfl
def aeu:FK K_q105:=wl (lt:=YU) (Ls:=[]) (zx L8) (PR _ (SN _ (aew _ nF))) Tryz.func121 loopsL_nil (boxes_of (ks:=[8]) (by kernel_rfl) (boxesL_cons (by kernel_rfl) ai2 q37_v boxesL_nil))
def K_q32:j4:=⟨96,[.v b7,.v eL],[.v b7,.v (.own eL)],q32,zog q32⟩
def fk_q32:FK K_q32:=wl (lt:=g7) (zx q32) (aeu _ (NN _ (LC _ (LH _ nF)))) Tryz.func96 loopsL_nil boxesL_none
def RX:j4:=⟨87,[.k (.pair b7 (.pair (.own bm) (.pair (.own cp) (.pair (.own an) .unit)))),.v I6,.v (.lst eL)],[.v (.pair b7 (.pair (.own bm) (.pair (.own cp) (.pair (.own an) .unit))))],G1,zog G1⟩
def C_q119:Cx:=⟨C9,[K_q49.entry],false,Gl⟩
def VO:bZ:=oP ⟨[(7,.leaf I6),(3,.aR z0 []),(2,.leaf (.lst eL)),(1,.leaf I6),(6,.aR z1 [])],[(z0,false,.var fk (.pair (.leaf b7) (.pair (.whole z2 bm) (.pair (.whole z3 cp) (.pair (.whole 500000004 an) (.leaf .unit)))))),(z1,false,.var fk (.pair (.pair (.leaf .bool) (.pair (.leaf I6) (.pair (.leaf .str) (.pair (.pair (.leaf I6) (.pair (.whole 500000005 an) (.leaf .unit))) (.pair (.pair (.whole 500000006 b9) (.leaf (.pair I6 .unit))) (.pair (.whole 500000007 cw) (.pair (.whole 500000008 cg) (.leaf .unit)))))))) (.pair (.whole 500000009 bm) (.pair (.whole 500000010 cp) (.pair (.whole 500000011 an) (.leaf .unit)))))),(z2,false,.rows bm),(z3,false,.rows cp),(500000004,false,.rows an),(500000005,false,.rows an),(500000006,false,.rows b9),(500000007,false,.rows cw),(500000008,false,.rows cg),(500000009,false,.rows bm),(500000010,false,.rows cp),(500000011,false,.rows an)]⟩ [((.exit 0),⟨[(6,.aR z0 []),(3,.aR z1 [])],[(z0,false,.var fk (.pair (.pair (.leaf .bool) (.pair (.leaf I6) (.pair (.leaf .str) (.pair (.pair (.leaf I6) (.pair (.whole z2 an) (.leaf .unit))) (.pair (.pair (.whole z3 b9) (.leaf (.pair I6 .unit))) (.pair (.whole 500000004 cw) (.pair (.whole 500000005 cg) (.leaf .unit)))))))) (.pair (.whole 500000006 bm) (.pair (.whole 500000007 cp) (.pair (.whole 500000008 an) (.leaf .unit)))))),(z1,false,.var fk (.pair (.leaf b7) (.pair (.whole 500000009 bm) (.pair (.whole 500000010 cp) (.pair (.whole 500000011 an) (.leaf .unit)))))),(z2,false,.rows an),(z3,false,.rows b9),(500000004,false,.rows cw),(500000005,false,.rows cg),(500000006,false,.rows bm),(500000007,false,.rows cp),(500000008,false,.rows an),(500000009,false,.rows bm),(500000010,false,.rows cp),(500000011,false,.rows an)]⟩)] ZY Md
def VP:bZ:=boxD ⟨[(3,.aR z0 []),(2,.leaf (.lst eL)),(1,.leaf I6),(6,.aR z1 []),(7,.leaf I6),(8,.leaf I6)],[(z0,false,.var fk (.pair (.leaf b7) (.pair (.whole z2 bm) (.pair (.whole z3 cp) (.pair (.whole 500000004 an) (.leaf .unit)))))),(z1,false,.var fk (.pair (.pair (.leaf .bool) (.pair (.leaf I6) (.pair (.leaf .str) (.pair (.pair (.leaf I6) (.pair (.whole 500000005 an) (.leaf .unit))) (.pair (.pair (.whole 500000006 b9) (.leaf (.pair I6 .unit))) (.pair (.whole 500000007 cw) (.pair (.whole 500000008 cg) (.leaf .unit)))))))) (.pair (.whole 500000009 bm) (.pair (.whole 500000010 cp) (.pair (.whole 500000011 an) (.leaf .unit)))))),(z2,false,.rows bm),(z3,false,.rows cp),(500000004,false,.rows an),(500000005,false,.rows an),(500000006,false,.rows b9),(500000007,false,.rows cw),(500000008,false,.rows cg),(500000009,false,.rows bm),(500000010,false,.rows cp),(500000011,false,.rows an)]⟩ [(.norm,⟨[(3,.aR z0 []),(2,.leaf (.lst eL)),(1,.leaf I6),(6,.aR z1 []),(7,.leaf I6),(8,.leaf I6)],[(z0,false,.var fk (.pair (.leaf b7) (.pair (.whole z2 bm) (.pair (.whole z3 cp) (.pair (.whole 500000004 an) (.leaf .unit)))))),(z1,false,.var fk (.pair (.pair (.leaf .bool) (.pair (.leaf I6) (.pair (.leaf .str) (.pair (.pair (.leaf I6) (.pair (.whole 500000005 an) (.leaf .unit))) (.pair (.pair (.whole 500000006 b9) (.leaf (.pair I6 .unit))) (.pair (.whole 500000007 cw) (.pair (.whole 500000008 cg) (.leaf .unit)))))))) (.pair (.whole 500000009 bm) (.pair (.whole 500000010 cp) (.pair (.whole 500000011 an) (.leaf .unit)))))),(z2,false,.rows bm),(z3,false,.rows cp),(500000004,false,.rows an),(500000005,false,.rows an),(500000006,false,.rows b9),(500000007,false,.rows cw),(500000008,false,.rows cg),(500000009,false,.rows bm),(500000010,false,.rows cp),(500000011,false,.rows an)]⟩)] q39 MB
def YV:LT:=[(2,VO),(2000005,VP)]
def ai8:∀x,boxR C_q119 YV (qD Tryz.f87 7) VP x=q39 x:=by intro x;kernel_rfl
def SC:FK RX:=wl (lt:=YV) (Ls:=[VO]) (zx G1) (X1 _ nF) Tryz.func87 (lq loopsL_nil) (boxes_of (ks:=[7]) (by kernel_rfl) (boxesL_cons (by kernel_rfl) ai8 q39_v boxesL_nil))
def K_q116:j4:=⟨32,[.v bm],[.v .bool],KE,zog KE⟩
def aeB:FK K_q116:=wl (lt:=g7) (zx KE) nF Tryz.func32 loopsL_nil boxesL_none
def K_q177:j4:=⟨59,[.v (.lst I6),.v I6],[.v .bool],Il,zog Il⟩
def Vl:bZ:=oP ⟨[(5,.leaf I6),(0,.leaf (.lst I6)),(1,.leaf I6)],[]⟩ [(.ret,⟨[(4,.leaf .bool)],[]⟩),((.exit 0),⟨[(1,.leaf I6)],[]⟩)] aaY Jy
def agv:LT:=[(2,Vl)]
def aeW:FK K_q177:=wl (lt:=agv) (Ls:=[Vl]) (zx Il) (Co _ nF) Tryz.func59 (lq loopsL_nil) boxesL_none
def K_q190:j4:=⟨60,[.v (.lst I6),.v I6],[.v .bool],EI,zog EI⟩
def Wj:bZ:=oP ⟨[(5,.leaf I6),(1,.leaf I6),(0,.leaf (.lst I6))],[]⟩ [(.ret,⟨[(4,.leaf .bool)],[]⟩),((.exit 0),⟨[],[]⟩)] abh Mu
def agE:LT:=[(2,Wj)]
def SO:FK K_q190:=wl (lt:=agE) (Ls:=[Wj]) (zx EI) nF Tryz.func60 (lq loopsL_nil) boxesL_none
def K_q71:j4:=⟨48,[.v ei],[.v .bool],Gk,zog Gk⟩
def Vp:bZ:=oP ⟨[(3,.leaf I6),(1,.aR z0 [])],[(z0,false,.var ei (.leaf ei))]⟩ [(.ret,⟨[(2,.leaf .bool)],[]⟩),((.exit 0),⟨[(1,.aR z0 [])],[(z0,false,.var ei (.leaf ei))]⟩)] ab8 Lb
def Vq:bZ:=oP ⟨[(5,.leaf I6),(1,.aR z0 [])],[(z0,false,.var ei (.leaf ei))]⟩ [(.ret,⟨[(2,.leaf .bool)],[]⟩),((.exit 2),⟨[],[]⟩)] ab_ MG
def Vr:bZ:=oP ⟨[(6,.leaf I6),(5,.leaf I6),(1,.aR z0 [])],[(z0,false,.var ei (.leaf ei))]⟩ [(.ret,⟨[(2,.leaf .bool)],[]⟩),((.exit 4),⟨[(1,.aR z0 []),(5,.leaf I6)],[(z0,false,.var ei (.leaf ei))]⟩)] ace MH
def lt_q71:LT:=[(4,Vp),(10,Vq),(13,Vr)]
def fk_q71:FK K_q71:=wl (lt:=lt_q71) (Ls:=[Vp,Vq,Vr]) (zx Gk) (SO _ (aeW _ (Co _ nF))) Tryz.func48 (lq (lq (lq loopsL_nil))) boxesL_none
def K_q175:j4:=⟨33,[.v nT],[.v .bool],Ga,zog Ga⟩
def SM:FK K_q175:=wl (lt:=g7) (zx Ga) (HI _ (fk_q71 _ (SE _ nF))) Tryz.func33 loopsL_nil boxesL_none
def K_q93:j4:=⟨35,[.v nT],[.v .bool],E8,zog E8⟩
def X2:FK K_q93:=wl (lt:=g7) (zx E8) (HI _ (SM _ nF)) Tryz.func35 loopsL_nil boxesL_none
def K_q68:j4:=⟨11,[.v bm],[.v .bool],DY,zog DY⟩
def LG:FK K_q68:=wl (lt:=g7) (zx DY) (X2 _ (PM _ (SM _ (aeB _ (Co _ nF))))) Tryz.func11 loopsL_nil boxesL_none
def K_q115:j4:=⟨122,[.v eL],[.v (.own eL)],KD,zog KD⟩
def Xv:FK K_q115:=wl (lt:=g7) (zx KD) nF Tryz.func122 loopsL_nil boxesL_none
def K_q159:j4:=⟨169,[.v .str],[.v (.own I6)],Ie,zog Ie⟩
def Wx:bZ:=oP ⟨[(5,.leaf I6),(4,.whole z0 .str),(3,.whole z1 I6)],[(z0,false,.rows .str),(z1,false,.rows I6)]⟩ [((.exit 0),⟨[(3,.whole z0 I6)],[(z0,false,.rows I6)]⟩)] aaI OH
def agp:LT:=[(4,Wx)]
def aeQ:FK K_q159:=wl (lt:=agp) (Ls:=[Wx]) (zx Ie) (NP _ (PN _ nF)) Tryz.func169 (lq loopsL_nil) boxesL_none
def K_q69:j4:=⟨150,[.v .str],[.v (.pair I6 (.pair I6 (.pair (.own I6) (.pair (.own I6) .unit)))),.v .bool],q69,zog q69⟩
def fk_q69:FK K_q69:=wl (lt:=g7) (zx q69) (SR _ (aeQ _ (NP _ (PN _ nF)))) Tryz.func150 loopsL_nil boxesL_none
def K_q48:j4:=⟨170,[.v I6,.v I6],[.v (.pair I6 (.pair I6 (.pair (.own e_) .unit)))],q48,zog q48⟩
def fk_q48:FK K_q48:=wl (lt:=g7) (zx q48) (Co _ nF) Tryz.func170 loopsL_nil boxesL_none
def K_q139:j4:=⟨151,[.v gT],[.v (.pair (.pair I6 (.pair I6 (.pair (.own I6) (.pair (.own I6) .unit)))) (.pair (.pair I6 (.pair I6 (.pair (.own e_) .unit))) .unit))],Mj,zog Mj⟩
def aeL:FK K_q139:=wl (lt:=g7) (zx Mj) (fk_q48 _ (HI _ (XP _ (SE _ nF)))) Tryz.func151 loopsL_nil boxesL_none
def K_q52:j4:=⟨123,[.v bm,.v eL],[.v bm],q52,zog q52⟩
def fk_q52:FK K_q52:=wl (lt:=g7) (zx q52) (SR _ (aeL _ (fk_q69 _ nF))) Tryz.func123 loopsL_nil boxesL_none
def K_q189:j4:=⟨179,[.v ei,.v I6],[.v .str,.v .bool],KZ,zog KZ⟩
def Wi:bZ:=oP ⟨[(6,.leaf I6),(2,.aR z0 []),(1,.leaf I6)],[(z0,false,.var ei (.leaf ei))]⟩ [(.ret,⟨[(4,.leaf .str),(5,.leaf .bool)],[]⟩),((.exit 0),⟨[],[]⟩)] abf Mt
def agD:LT:=[(2,Wi)]
def ae4:FK K_q189:=wl (lt:=agD) (Ls:=[Wi]) (zx KZ) nF Tryz.func179 (lq loopsL_nil) boxesL_none
def K_q87:j4:=⟨172,[.v ei],[.v I6],q87,zog q87⟩
def Wl:bZ:=oP ⟨[(3,.leaf I6),(1,.aR z0 [])],[(z0,false,.var ei (.leaf ei))]⟩ [(.ret,⟨[(2,.leaf I6)],[]⟩)] acu Q8
def lt_q87:LT:=[(2,Wl)]
def fk_q87:FK K_q87:=wl (lt:=lt_q87) (Ls:=[Wl]) (zx q87) (ae4 _ nF) Tryz.func172 (lq loopsL_nil) boxesL_none
def K_q59:j4:=⟨153,[.v nT],[.v I6],q59,zog q59⟩
def WA:bZ:=oP ⟨[(3,.leaf I6),(4,.leaf I6),(1,.aR z0 [])],[(z0,false,.var nT (.leaf nT))]⟩ [((.exit 0),⟨[(3,.leaf I6)],[]⟩)] abU Q1
def lt_q59:LT:=[(3,WA)]
def fk_q59:FK K_q59:=wl (lt:=lt_q59) (Ls:=[WA]) (zx q59) (fk_q87 _ nF) Tryz.func153 (lq loopsL_nil) boxesL_none
def K_q155:j4:=⟨175,[.v I6],[.v I6],E4,zog E4⟩
def XM:FK K_q155:=wl (lt:=g7) (zx E4) nF Tryz.func175 loopsL_nil boxesL_none
def K_q156:j4:=⟨177,[.v I6,.v I6],[.v I6],EH,zog EH⟩
def XN:FK K_q156:=wl (lt:=g7) (zx EH) nF Tryz.func177 loopsL_nil boxesL_none
def K_q89:j4:=⟨161,[.v gT,.v I6],[.v I6],Hg,zog Hg⟩
def Wy:bZ:=oP ⟨[(6,.leaf I6),(2,.aR z0 []),(5,.leaf I6),(1,.leaf I6)],[(z0,false,.var gT (.leaf gT))]⟩ [((.exit 0),⟨[(2,.aR z0 []),(5,.leaf I6),(1,.leaf I6)],[(z0,false,.var gT (.leaf gT))]⟩)] acz JE
def Wz:bZ:=oP ⟨[(8,.leaf I6),(2,.aR z0 []),(7,.leaf I6)],[(z0,false,.var gT (.leaf gT))]⟩ [(.ret,⟨[(4,.leaf I6)],[]⟩),((.exit 2),⟨[(2,.aR z0 [])],[(z0,false,.var gT (.leaf gT))]⟩)] acB JF
def lt_q89:LT:=[(3,Wy),(8,Wz)]
def fk_q89:FK K_q89:=wl (lt:=lt_q89) (Ls:=[Wy,Wz]) (zx Hg) (HI _ (XN _ (XM _ nF))) Tryz.func161 (lq (lq loopsL_nil)) boxesL_none
def K_q58:j4:=⟨184,[.v I6],[.v (.own I6)],q58,zog q58⟩
def Wn:bZ:=oP ⟨[(5,.leaf I6),(4,.leaf I6),(3,.whole z0 I6),(0,.leaf I6)],[(z0,false,.rows I6)]⟩ [((.exit 0),⟨[(4,.leaf I6),(3,.whole z0 I6)],[(z0,false,.rows I6)]⟩)] abS JD
def lt_q58:LT:=[(4,Wn)]
def fk_q58:FK K_q58:=wl (lt:=lt_q58) (Ls:=[Wn]) (zx q58) nF Tryz.func184 (lq loopsL_nil) boxesL_none
def K_q88:j4:=⟨176,[.v I6,.v I6],[.v I6],q88,zog q88⟩
def Wm:bZ:=oP ⟨[(6,.leaf I6),(5,.whole z0 I6),(1,.leaf I6),(0,.leaf I6)],[(z0,false,.rows I6)]⟩ [(.ret,⟨[(4,.leaf I6)],[]⟩),((.exit 0),⟨[(0,.leaf I6)],[]⟩)] acw Lc
def lt_q88:LT:=[(3,Wm)]
def fk_q88:FK K_q88:=wl (lt:=lt_q88) (Ls:=[Wm]) (zx q88) (fk_q58 _ nF) Tryz.func176 (lq loopsL_nil) boxesL_none
def K_q154:j4:=⟨178,[.v (.lst I6),.v I6],[.v (.own I6)],Js,zog Js⟩
def Wo:bZ:=oP ⟨[(5,.leaf I6),(0,.leaf (.lst I6)),(1,.leaf I6)],[]⟩ [((.exit 0),⟨[(5,.leaf I6),(0,.leaf (.lst I6)),(1,.leaf I6)],[]⟩)] aaC Jt
def agm:LT:=[(2,Wo)]
def aeO:FK K_q154:=wl (lt:=agm) (Ls:=[Wo]) (zx Js) nF Tryz.func178 (lq loopsL_nil) boxesL_none
def K_q191:j4:=⟨160,[.v I6,.v I6],[.v (.own I6)],K0,zog K0⟩
def Wp:bZ:=oP ⟨[(8,.leaf I6),(7,.whole z0 I6),(5,.leaf I6),(6,.leaf I6),(0,.leaf I6)],[(z0,false,.rows I6)]⟩ [((.exit 0),⟨[(7,.whole z0 I6),(5,.leaf I6),(6,.leaf I6)],[(z0,false,.rows I6)]⟩)] abj Mv
def Wq:bZ:=oP ⟨[(10,.leaf I6),(7,.whole z0 I6),(9,.whole z1 I6),(5,.leaf I6),(6,.leaf I6)],[(z0,false,.rows I6),(z1,false,.rows I6)]⟩ [((.exit 2),⟨[(9,.whole z0 I6)],[(z0,false,.rows I6)]⟩)] abl K3
def agF:LT:=[(5,Wp),(10,Wq)]
def ae5:FK K_q191:=wl (lt:=agF) (Ls:=[Wp,Wq]) (zx K0) (aeO _ (fk_q88 _ (XN _ (XM _ nF)))) Tryz.func160 (lq (lq loopsL_nil)) boxesL_none
def K_q195:j4:=⟨142,[.v gT,.v I6],[.v (.own I6)],Fz,zog Fz⟩
def XV:FK K_q195:=wl (lt:=g7) (zx Fz) (ae5 _ (fk_q89 _ (HI _ nF))) Tryz.func142 loopsL_nil boxesL_none
def K_q187:j4:=⟨181,[.v (.lst I6),.v (.lst I6)],[.v (.lst I6)],Io,zog Io⟩
def We:bZ:=oP ⟨[(6,.leaf I6),(0,.leaf (.lst I6)),(5,.whole z0 I6),(7,.leaf I6),(1,.leaf (.lst I6))],[(z0,false,.rows I6)]⟩ [((.exit 0),⟨[(5,.whole z0 I6)],[(z0,false,.rows I6)]⟩)] abb Gd
def agB:LT:=[(4,We)]
def XU:FK K_q187:=wl (lt:=agB) (Ls:=[We]) (zx Io) nF Tryz.func181 (lq loopsL_nil) boxesL_none
def K_q125:j4:=⟨165,[.v .str,.v .str],[.v .str],F5,zog F5⟩
def Wc:bZ:=oP ⟨[(6,.leaf I6),(1,.leaf .str),(0,.leaf .str),(5,.whole z0 I8)],[(z0,false,.rows I8)]⟩ [((.exit 0),⟨[(5,.whole z0 I8)],[(z0,false,.rows I8)]⟩)] aaa Mf
def af_:LT:=[(3,Wc)]
def SD:FK K_q125:=wl (lt:=af_) (Ls:=[Wc]) (zx F5) nF Tryz.func165 (lq loopsL_nil) boxesL_none
def K_q152:j4:=⟨180,[.v ei,.v e_],[.v e_],KO,zog KO⟩
def Wk:bZ:=oP ⟨[(5,.leaf I6),(3,.aR z0 []),(2,.aR z1 []),(4,.aR z2 [])],[(z0,false,.var e_ (.leaf e_)),(z1,false,.var ei (.leaf ei)),(z2,false,.var e_ (.pair (.whole z3 I6) (.leaf (.pair .str .unit)))),(z3,false,.rows I6)]⟩ [((.exit 0),⟨[(4,.aR z0 []),(3,.aR z1 [])],[(z0,false,.var e_ (.pair (.whole z2 I6) (.leaf (.pair .str .unit)))),(z1,false,.var e_ (.leaf e_)),(z2,false,.rows I6)]⟩)] aaA KP
def agl:LT:=[(2,Wk)]
def aeN:FK K_q152:=wl (lt:=agl) (Ls:=[Wk]) (zx KO) (SD _ (XU _ (SO _ nF))) Tryz.func180 (lq loopsL_nil) boxesL_none
def K_q148:j4:=⟨164,[.v .str,.v I6],[.v .str],KN,zog KN⟩
def V6:bZ:=oP ⟨[(1,.leaf I6),(0,.leaf .str),(5,.leaf .str)],[]⟩ [((.exit 0),⟨[(5,.leaf .str)],[]⟩)] aaw Mk
def agj:LT:=[(2,V6)]
def XI:FK K_q148:=wl (lt:=agj) (Ls:=[V6]) (zx KN) nF Tryz.func164 (lq loopsL_nil) boxesL_none
def K_q153:j4:=⟨166,[.v I6],[.v .str],Jr,zog Jr⟩
def XL:FK K_q153:=wl (lt:=g7) (zx Jr) (XI _ nF) Tryz.func166 loopsL_nil boxesL_none
def K_q188:j4:=⟨173,[.v ei,.v (.lst I6),.v .str],[.v (.pair I6 (.pair I6 (.pair (.own e_) .unit))),.v I6],G8,zog G8⟩
def Wf:bZ:=oP ⟨[(12,.leaf I6),(10,.aR z0 []),(8,.aR z1 []),(11,.leaf .bool),(9,.aR z2 []),(6,.aR z3 [])],[(z0,false,.var ei (.pair (.leaf I6) (.pair (.leaf I6) (.pair (.whole 500000004 e_) (.leaf .unit))))),(z1,false,.var e_ (.leaf e_)),(z2,false,.var ei (.pair (.leaf I6) (.pair (.leaf I6) (.pair (.whole 500000005 e_) (.leaf .unit))))),(z3,false,.var ei (.pair (.leaf I6) (.pair (.leaf I6) (.pair (.whole 500000006 e_) (.leaf .unit))))),(500000004,false,.rows e_),(500000005,false,.rows e_),(500000006,false,.rows e_)]⟩ [((.exit 0),⟨[(6,.aR z0 []),(10,.aR z1 []),(8,.aR z2 []),(11,.leaf .bool)],[(z0,false,.var ei (.pair (.leaf I6) (.pair (.leaf I6) (.pair (.whole z3 e_) (.leaf .unit))))),(z1,false,.var ei (.pair (.leaf I6) (.pair (.leaf I6) (.pair (.whole 500000004 e_) (.leaf .unit))))),(z2,false,.var e_ (.leaf e_)),(z3,false,.rows e_),(500000004,false,.rows e_)]⟩)] abd Ge
def agC:LT:=[(10,Wf)]
def ae3:FK K_q188:=wl (lt:=agC) (Ls:=[Wf]) (zx G8) (SD _ (XU _ (SO _ (XL _ (XK _ (aeN _ nF)))))) Tryz.func173 (lq loopsL_nil) boxesL_none
def K_q138:j4:=⟨154,[.v nT,.v I6,.v .str],[.v (.pair (.pair I6 (.pair I6 (.pair (.own I6) (.pair (.own I6) .unit)))) (.pair (.pair I6 (.pair I6 (.pair (.own e_) .unit))) .unit)),.v I6],Mi,zog Mi⟩
def aeK:FK K_q138:=wl (lt:=g7) (zx Mi) (ae3 _ (XV _ (Co _ (XO _ (SM _ nF))))) Tryz.func154 loopsL_nil boxesL_none
def K_q114:j4:=⟨98,[.v bm],[.v (.own eL)],KC,zog KC⟩
def Xu:FK K_q114:=wl (lt:=g7) (zx KC) nF Tryz.func98 loopsL_nil boxesL_none
def K_q53:j4:=⟨124,[.v bm,.v eL],[.v bm,.v (.own eL)],q53,zog q53⟩
def fk_q53:FK K_q53:=wl (lt:=g7) (zx q53) (Xu _ (X2 _ (aeK _ (fk_q59 _ (Xv _ nF))))) Tryz.func124 loopsL_nil boxesL_none
def K_q27:j4:=⟨97,[.v bm,.v eL],[.v bm,.v (.own eL)],q27,zog q27⟩
def fk_q27:FK K_q27:=wl (lt:=g7) (zx q27) (fk_q53 _ (fk_q52 _ (Xv _ (NN _ (PL _ (LG _ nF)))))) Tryz.func97 loopsL_nil boxesL_none
def K_q75:j4:=⟨84,[.k (.pair b7 (.pair (.own bm) (.pair (.own cp) (.pair (.own an) .unit)))),.v di],[.v (.pair b7 (.pair (.own bm) (.pair (.own cp) (.pair (.own an) .unit))))],q75,zog q75⟩
def C_q75:Cx:=⟨C9,[K_q27.entry,RX.entry,K_q32.entry,K_q72.entry],false,Gl⟩
def VH:bZ:=boxD ⟨[(4,.aR z0 []),(2,.aR z1 []),(5,.aR z2 []),(3,.aR z3 [])],[(z0,false,.var fk (.pair (.pair (.leaf .bool) (.pair (.leaf I6) (.pair (.leaf .str) (.pair (.pair (.leaf I6) (.pair (.whole 500000004 an) (.leaf .unit))) (.pair (.pair (.whole 500000005 b9) (.leaf (.pair I6 .unit))) (.pair (.whole 500000006 cw) (.pair (.whole 500000007 cg) (.leaf .unit)))))))) (.pair (.whole 500000008 bm) (.pair (.whole 500000009 cp) (.pair (.whole 500000010 an) (.leaf .unit)))))),(z1,false,.var fk (.pair (.leaf b7) (.pair (.whole 500000011 bm) (.pair (.whole 500000012 cp) (.pair (.whole 500000013 an) (.leaf .unit)))))),(z2,false,.var cp (.leaf cp)),(z3,false,.var di (.leaf di)),(500000004,false,.rows an),(500000005,false,.rows b9),(500000006,false,.rows cw),(500000007,false,.rows cg),(500000008,false,.rows bm),(500000009,false,.rows cp),(500000010,false,.rows an),(500000011,false,.rows bm),(500000012,false,.rows cp),(500000013,false,.rows an)]⟩ [(.norm,⟨[(4,.aR z0 []),(2,.aR z1 []),(5,.aR z2 [])],[(z0,false,.var fk (.pair (.pair (.leaf .bool) (.pair (.leaf I6) (.pair (.leaf .str) (.pair (.pair (.leaf I6) (.pair (.whole z3 an) (.leaf .unit))) (.pair (.pair (.whole 500000004 b9) (.leaf (.pair I6 .unit))) (.pair (.whole 500000005 cw) (.pair (.whole 500000006 cg) (.leaf .unit)))))))) (.pair (.whole 500000007 bm) (.pair (.whole 500000008 cp) (.pair (.whole 500000009 an) (.leaf .unit)))))),(z1,false,.var fk (.pair (.leaf b7) (.pair (.whole 500000010 bm) (.pair (.whole 500000011 cp) (.pair (.whole 500000012 an) (.leaf .unit)))))),(z2,false,.var cp (.leaf cp)),(z3,false,.rows an),(500000004,false,.rows b9),(500000005,false,.rows cw),(500000006,false,.rows cg),(500000007,false,.rows bm),(500000008,false,.rows cp),(500000009,false,.rows an),(500000010,false,.rows bm),(500000011,false,.rows cp),(500000012,false,.rows an)]⟩)] q12 QL
def YX:LT:=[(2000002,VH)]
def ai3:∀x,boxR C_q75 YX (qD Tryz.f84 2) VH x=q12 x:=by intro x;kernel_rfl
def fk_q75:FK K_q75:=wl (lt:=YX) (Ls:=[]) (zx q75) (fk_q27 _ (SC _ (fk_q32 _ (fk_q72 _ nF)))) Tryz.func84 loopsL_nil (boxes_of (ks:=[2]) (by kernel_rfl) (boxesL_cons (by kernel_rfl) ai3 q12_v boxesL_nil))
def K_q80:j4:=⟨85,[.v cp,.v I6],[.v cp],q80,zog q80⟩
def fk_q80:FK K_q80:=wl (lt:=g7) (zx q80) nF Tryz.func85 loopsL_nil boxesL_none
def K_q79:j4:=⟨77,[.k (.pair b7 (.pair (.own bm) (.pair (.own cp) (.pair (.own an) .unit)))),.v di],[.v (.pair b7 (.pair (.own bm) (.pair (.own cp) (.pair (.own an) .unit)))),.v .bool],q79,zog q79⟩
def fk_q79:FK K_q79:=wl (lt:=g7) (zx q79) (fk_q80 _ (fk_q75 _ (Co _ nF))) Tryz.func77 loopsL_nil boxesL_none
def K_q112:j4:=⟨24,[.v bm],[.v (.own eL)],KB,zog KB⟩
def SB:FK K_q112:=wl (lt:=g7) (zx KB) nF Tryz.func24 loopsL_nil boxesL_none
def R0:j4:=⟨14,[.v bm,.v .str],[.v (.pair I6 (.pair I6 (.pair I6 (.pair .str (.pair I6 (.pair (.pair (.pair I6 (.pair I6 (.pair (.own I6) (.pair (.own I6) .unit)))) (.pair (.pair I6 (.pair I6 (.pair (.own e_) .unit))) .unit)) .unit)))))),.v (.own eL)],He,zog He⟩
def XY:FK R0:=wl (lt:=g7) (zx He) (SB _ (PL _ (PM _ (LG _ nF)))) Tryz.func14 loopsL_nil boxesL_none
def K_q11:j4:=⟨19,[.v bm],[.v (.pair I6 (.pair I6 (.pair I6 (.pair .str (.pair I6 (.pair (.pair (.pair I6 (.pair I6 (.pair (.own I6) (.pair (.own I6) .unit)))) (.pair (.pair I6 (.pair I6 (.pair (.own e_) .unit))) .unit)) .unit)))))),.v (.own eL)],q11,zog q11⟩
def fk_q11:FK K_q11:=wl (lt:=g7) (zx q11) (SB _ (PL _ (LG _ nF))) Tryz.func19 loopsL_nil boxesL_none
def K_q29:j4:=⟨86,[.v bm],[.v (.pair I6 (.pair I6 (.pair I6 (.pair .str (.pair I6 (.pair (.pair (.pair I6 (.pair I6 (.pair (.own I6) (.pair (.own I6) .unit)))) (.pair (.pair I6 (.pair I6 (.pair (.own e_) .unit))) .unit)) .unit)))))),.v (.own eL)],q29,zog q29⟩
def fk_q29:FK K_q29:=wl (lt:=g7) (zx q29) (Xu _ (LG _ nF)) Tryz.func86 loopsL_nil boxesL_none
def K_q30:j4:=⟨9,[.v bm],[.v (.own eL)],q30,zog q30⟩
def fk_q30:FK K_q30:=wl (lt:=g7) (zx q30) (SB _ (LG _ nF)) Tryz.func9 loopsL_nil boxesL_none
def K_q54:j4:=⟨78,[.k (.pair b7 (.pair (.own bm) (.pair (.own cp) (.pair (.own an) .unit)))),.v di],[.v (.pair b7 (.pair (.own bm) (.pair (.own cp) (.pair (.own an) .unit)))),.v .bool],q54,zog q54⟩
def C_q54:Cx:=⟨C9,[RX.entry,K_q30.entry,K_q29.entry,K_q11.entry,R0.entry,UX.entry],false,Gl⟩
def VI:bZ:=boxD ⟨[(4,.aR z0 []),(2,.aR z1 []),(3,.aR z2 []),(6,.aR z3 []),(8,.aR 500000004 [])],[(z0,false,.var fk (.pair (.pair (.leaf .bool) (.pair (.leaf I6) (.pair (.leaf .str) (.pair (.pair (.leaf I6) (.pair (.whole 500000005 an) (.leaf .unit))) (.pair (.pair (.whole 500000006 b9) (.leaf (.pair I6 .unit))) (.pair (.whole 500000007 cw) (.pair (.whole 500000008 cg) (.leaf .unit)))))))) (.pair (.whole 500000009 bm) (.pair (.whole 500000010 cp) (.pair (.whole 500000011 an) (.leaf .unit)))))),(z1,false,.var fk (.pair (.leaf b7) (.pair (.whole 500000012 bm) (.pair (.whole 500000013 cp) (.pair (.whole 500000014 an) (.leaf .unit)))))),(z2,false,.var di (.leaf di)),(z3,false,.var bm (.leaf bm)),(500000004,false,.var bm (.leaf bm)),(500000005,false,.rows an),(500000006,false,.rows b9),(500000007,false,.rows cw),(500000008,false,.rows cg),(500000009,false,.rows bm),(500000010,false,.rows cp),(500000011,false,.rows an),(500000012,false,.rows bm),(500000013,false,.rows cp),(500000014,false,.rows an)]⟩ [(.norm,⟨[(4,.aR z0 []),(7,.whole z1 eL),(2,.aR z2 []),(3,.aR z3 []),(6,.aR 500000004 []),(8,.aR 500000005 [])],[(z0,false,.var fk (.pair (.pair (.leaf .bool) (.pair (.leaf I6) (.pair (.leaf .str) (.pair (.pair (.leaf I6) (.pair (.whole 500000006 an) (.leaf .unit))) (.pair (.pair (.whole 500000007 b9) (.leaf (.pair I6 .unit))) (.pair (.whole 500000008 cw) (.pair (.whole 500000009 cg) (.leaf .unit)))))))) (.pair (.whole 500000010 bm) (.pair (.whole 500000011 cp) (.pair (.whole 500000012 an) (.leaf .unit)))))),(z1,false,.rows eL),(z2,false,.var fk (.pair (.leaf b7) (.pair (.whole 500000013 bm) (.pair (.whole 500000014 cp) (.pair (.whole 500000015 an) (.leaf .unit)))))),(z3,false,.var di (.leaf di)),(500000004,false,.var bm (.leaf bm)),(500000005,false,.var bm (.pair (.leaf I6) (.pair (.leaf I6) (.pair (.leaf I6) (.pair (.leaf .str) (.pair (.leaf I6) (.pair (.pair (.pair (.leaf I6) (.pair (.leaf I6) (.pair (.whole 500000016 I6) (.pair (.whole 500000017 I6) (.leaf .unit))))) (.pair (.pair (.leaf I6) (.pair (.leaf I6) (.pair (.whole 500000018 e_) (.leaf .unit)))) (.leaf .unit))) (.leaf .unit)))))))),(500000006,false,.rows an),(500000007,false,.rows b9),(500000008,false,.rows cw),(500000009,false,.rows cg),(500000010,false,.rows bm),(500000011,false,.rows cp),(500000012,false,.rows an),(500000013,false,.rows bm),(500000014,false,.rows cp),(500000015,false,.rows an),(500000016,false,.rows I6),(500000017,false,.rows I6),(500000018,false,.rows e_)]⟩),(.norm,⟨[(4,.aR z0 []),(7,.whole z1 eL),(2,.aR z2 []),(3,.aR z3 []),(6,.aR 500000004 []),(8,.aR 500000005 [])],[(z0,false,.var fk (.pair (.pair (.leaf .bool) (.pair (.leaf I6) (.pair (.leaf .str) (.pair (.pair (.leaf I6) (.pair (.whole 500000006 an) (.leaf .unit))) (.pair (.pair (.whole 500000007 b9) (.leaf (.pair I6 .unit))) (.pair (.whole 500000008 cw) (.pair (.whole 500000009 cg) (.leaf .unit)))))))) (.pair (.whole 500000010 bm) (.pair (.whole 500000011 cp) (.pair (.whole 500000012 an) (.leaf .unit)))))),(z1,false,.rows eL),(z2,false,.var fk (.pair (.leaf b7) (.pair (.whole 500000013 bm) (.pair (.whole 500000014 cp) (.pair (.whole 500000015 an) (.leaf .unit)))))),(z3,false,.var di (.leaf di)),(500000004,false,.var bm (.leaf bm)),(500000005,false,.var bm (.leaf bm)),(500000006,false,.rows an),(500000007,false,.rows b9),(500000008,false,.rows cw),(500000009,false,.rows cg),(500000010,false,.rows bm),(500000011,false,.rows cp),(500000012,false,.rows an),(500000013,false,.rows bm),(500000014,false,.rows cp),(500000015,false,.rows an)]⟩)] Wh.q7 q7'
def YW:LT:=[(2000006,VI)]
def ai4:∀x,boxR C_q54 YW (qD Tryz.f78 7) VI x=Wh.q7 x:=by intro x;kernel_rfl
def fk_q54:FK K_q54:=wl (lt:=YW) (Ls:=[]) (zx q54) (SC _ (fk_q30 _ (fk_q29 _ (fk_q11 _ (XY _ (Co _ nF)))))) Tryz.func78 loopsL_nil (boxes_of (ks:=[7]) (by kernel_rfl) (boxesL_cons (by kernel_rfl) ai4 q7_v boxesL_nil))
def K_q176:j4:=⟨158,[.v .str],[.v .bool],KU,zog KU⟩
def aeV:FK K_q176:=wl (lt:=g7) (zx KU) (NO _ nF) Tryz.func158 loopsL_nil boxesL_none
def K_q140:j4:=⟨138,[.v .str,.v .str],[.v .str,.v .bool],KM,zog KM⟩
def XD:FK K_q140:=wl (lt:=g7) (zx KM) (XQ _ (Co _ (aeV _ (NO _ nF)))) Tryz.func138 loopsL_nil boxesL_none
def K_q147:j4:=⟨102,[.v b7,.v .str],[.v b7,.v I6],F8,zog F8⟩
def XH:FK K_q147:=wl (lt:=g7) (zx F8) (SH _ (XD _ nF)) Tryz.func102 loopsL_nil boxesL_none
def K_q47:j4:=⟨88,[.v b7,.v I6,.v .str,.v .str],[.v b7,.v I6],q47,zog q47⟩
def fk_q47:FK K_q47:=wl (lt:=g7) (zx q47) (XH _ (PU _ (XC _ (LC _ (LH _ nF))))) Tryz.func88 loopsL_nil boxesL_none
def K_q118:j4:=⟨89,[.k (.pair b7 (.pair (.own bm) (.pair (.own cp) (.pair (.own an) .unit))))],[.v (.pair b7 (.pair (.own bm) (.pair (.own cp) (.pair (.own an) .unit))))],KF,zog KF⟩
def VN:bZ:=oP ⟨[(3,.leaf I6),(1,.aR z0 []),(2,.aR z1 [])],[(z0,false,.var fk (.pair (.leaf b7) (.pair (.whole z2 bm) (.pair (.whole z3 cp) (.pair (.whole 500000004 an) (.leaf .unit)))))),(z1,false,.var fk (.pair (.pair (.leaf .bool) (.pair (.leaf I6) (.pair (.leaf .str) (.pair (.pair (.leaf I6) (.pair (.whole 500000005 an) (.leaf .unit))) (.pair (.pair (.whole 500000006 b9) (.leaf (.pair I6 .unit))) (.pair (.whole 500000007 cw) (.pair (.whole 500000008 cg) (.leaf .unit)))))))) (.pair (.whole 500000009 bm) (.pair (.whole 500000010 cp) (.pair (.whole 500000011 an) (.leaf .unit)))))),(z2,false,.rows bm),(z3,false,.rows cp),(500000004,false,.rows an),(500000005,false,.rows an),(500000006,false,.rows b9),(500000007,false,.rows cw),(500000008,false,.rows cg),(500000009,false,.rows bm),(500000010,false,.rows cp),(500000011,false,.rows an)]⟩ [((.exit 0),⟨[(2,.aR z0 []),(1,.aR z1 [])],[(z0,false,.var fk (.pair (.pair (.leaf .bool) (.pair (.leaf I6) (.pair (.leaf .str) (.pair (.pair (.leaf I6) (.pair (.whole z2 an) (.leaf .unit))) (.pair (.pair (.whole z3 b9) (.leaf (.pair I6 .unit))) (.pair (.whole 500000004 cw) (.pair (.whole 500000005 cg) (.leaf .unit)))))))) (.pair (.whole 500000006 bm) (.pair (.whole 500000007 cp) (.pair (.whole 500000008 an) (.leaf .unit)))))),(z1,false,.var fk (.pair (.leaf b7) (.pair (.whole 500000009 bm) (.pair (.whole 500000010 cp) (.pair (.whole 500000011 an) (.leaf .unit)))))),(z2,false,.rows an),(z3,false,.rows b9),(500000004,false,.rows cw),(500000005,false,.rows cg),(500000006,false,.rows bm),(500000007,false,.rows cp),(500000008,false,.rows an),(500000009,false,.rows bm),(500000010,false,.rows cp),(500000011,false,.rows an)]⟩)] ZW QK
def af7:LT:=[(2,VN)]
def aeC:FK K_q118:=wl (lt:=af7) (Ls:=[VN]) (zx KF) nF Tryz.func89 (lq loopsL_nil) boxesL_none
def K_q99:j4:=⟨105,[.v mb,.v I6],[.v (.pair (.own b9) (.pair I6 .unit))],q99,zog q99⟩
def Vt:bZ:=oP ⟨[(6,.leaf I6),(5,.aR z0 []),(1,.leaf I6),(4,.aR z1 [])],[(z0,false,.var mb (.pair (.whole z2 b9) (.leaf (.pair I6 .unit)))),(z1,false,.var mb (.pair (.whole z3 b9) (.leaf (.pair I6 .unit)))),(z2,false,.rows b9),(z3,false,.rows b9)]⟩ [((.exit 0),⟨[(4,.aR z0 []),(5,.aR z1 [])],[(z0,false,.var mb (.pair (.whole z2 b9) (.leaf (.pair I6 .unit)))),(z1,false,.var mb (.pair (.whole z3 b9) (.leaf (.pair I6 .unit)))),(z2,false,.rows b9),(z3,false,.rows b9)]⟩)] acI ML
def lt_q99:LT:=[(3,Vt)]
def fk_q99:FK K_q99:=wl (lt:=lt_q99) (Ls:=[Vt]) (zx q99) (PW _ nF) Tryz.func105 (lq loopsL_nil) boxesL_none
def K_q34:j4:=⟨90,[.v b7,.v I6,.v .str],[.v b7,.v I6],q34,zog q34⟩
def fk_q34:FK K_q34:=wl (lt:=g7) (zx q34) (fk_q99 _ (XH _ (PU _ (XB _ (LC _ (LH _ nF)))))) Tryz.func90 loopsL_nil boxesL_none
def K_q180:j4:=⟨106,[.v cw,.v I6],[.v cw],G7,zog G7⟩
def aeY:FK K_q180:=wl (lt:=g7) (zx G7) nF Tryz.func106 loopsL_nil boxesL_none
def K_q146:j4:=⟨141,[.v cg],[.v BX],E3,zog E3⟩
def XG:FK K_q146:=wl (lt:=g7) (zx E3) nF Tryz.func141 loopsL_nil boxesL_none
def K_q95:j4:=⟨108,[.v (.lst BX),.v I6],[.v I6],q95,zog q95⟩
def Vf:bZ:=oP ⟨[(6,.leaf I6),(5,.leaf I6),(0,.leaf (.lst BX)),(1,.leaf I6)],[]⟩ [(.ret,⟨[(4,.leaf I6)],[]⟩),((.exit 0),⟨[(5,.leaf I6)],[]⟩)] acG Ld
def lt_q95:LT:=[(3,Vf)]
def X3:FK K_q95:=wl (lt:=lt_q95) (Ls:=[Vf]) (zx q95) (Co _ nF) Tryz.func108 (lq loopsL_nil) boxesL_none
def K_q102:j4:=⟨140,[.v b7,.v I6],[.v .bool],G0,zog G0⟩
def Vy:bZ:=oP ⟨[(6,.leaf I6),(2,.aR z0 []),(5,.whole z1 BX),(1,.leaf I6)],[(z0,false,.var b7 (.leaf b7)),(z1,false,.rows BX)]⟩ [((.exit 0),⟨[(1,.leaf I6),(5,.whole z0 BX),(2,.aR z1 [])],[(z0,false,.rows BX),(z1,false,.var b7 (.leaf b7))]⟩)] ZI Kx
def af1:LT:=[(3,Vy)]
def aet:FK K_q102:=wl (lt:=af1) (Ls:=[Vy]) (zx G0) (X3 _ (XG _ (LI _ nF))) Tryz.func140 (lq loopsL_nil) boxesL_none
def K_q106:j4:=⟨107,[.v b7],[.v (.own BX)],L9,zog L9⟩
def VB:bZ:=oP ⟨[(4,.leaf I6),(3,.whole z0 BX),(1,.aR z1 [])],[(z0,false,.rows BX),(z1,false,.var b7 (.leaf b7))]⟩ [((.exit 0),⟨[(3,.whole z0 BX)],[(z0,false,.rows BX)]⟩)] ZK H8
def af2:LT:=[(3,VB)]
def aev:FK K_q106:=wl (lt:=af2) (Ls:=[VB]) (zx L9) (XG _ (LI _ (aet _ (PO _ (PV _ nF))))) Tryz.func107 (lq loopsL_nil) boxesL_none
def K_q100:j4:=⟨162,[.v mb,.v I6,.v I6],[.v I6],L7,zog L7⟩
def Vu:bZ:=oP ⟨[(7,.leaf I6),(2,.leaf I6),(3,.aR z0 []),(1,.leaf I6)],[(z0,false,.var mb (.leaf mb))]⟩ [(.ret,⟨[(6,.leaf I6)],[]⟩),((.exit 0),⟨[],[]⟩)] ZG Kw
def af0:LT:=[(2,Vu)]
def aer:FK K_q100:=wl (lt:=af0) (Ls:=[Vu]) (zx L7) nF Tryz.func162 (lq loopsL_nil) boxesL_none
def K_q50:j4:=⟨163,[.k (.pair (.own b9) (.pair I6 .unit)),.v I6],[.v (.pair (.own b9) (.pair I6 .unit)),.v I6],q50,zog q50⟩
def Vw:bZ:=oP ⟨[(7,.leaf I6),(2,.aR z0 []),(4,.aR z1 []),(1,.leaf I6),(6,.leaf .bool)],[(z0,false,.var mb (.pair (.whole z2 b9) (.leaf (.pair I6 .unit)))),(z1,false,.var mb (.pair (.whole z3 b9) (.leaf (.pair I6 .unit)))),(z2,false,.rows b9),(z3,false,.rows b9)]⟩ [(.ret,⟨[(4,.aR z0 []),(5,.leaf I6)],[(z0,false,.var mb (.pair (.whole z1 b9) (.leaf (.pair I6 .unit)))),(z1,false,.rows b9)]⟩),((.exit 0),⟨[(4,.aR z0 []),(2,.aR z1 [])],[(z0,false,.var mb (.pair (.whole z2 b9) (.leaf (.pair I6 .unit)))),(z1,false,.var mb (.pair (.whole z3 b9) (.leaf (.pair I6 .unit)))),(z2,false,.rows b9),(z3,false,.rows b9)]⟩)] abO K9
def lt_q50:LT:=[(3,Vw)]
def fk_q50:FK K_q50:=wl (lt:=lt_q50) (Ls:=[Vw]) (zx q50) (XT _ nF) Tryz.func163 (lq loopsL_nil) boxesL_none
def K_q101:j4:=⟨143,[.v mb,.v I6,.v I6,.v I6],[.v (.pair (.own b9) (.pair I6 .unit)),.v I6,.v I6],H7,zog H7⟩
def aes:FK K_q101:=wl (lt:=g7) (zx H7) (fk_q50 _ (aer _ (PW _ nF))) Tryz.func143 loopsL_nil boxesL_none
def K_q97:j4:=⟨144,[.v mb,.v I6],[.v (.pair (.own b9) (.pair I6 .unit)),.v .bool],q97,zog q97⟩
def fk_q97:FK K_q97:=wl (lt:=g7) (zx q97) (Co _ (PW _ (XE _ nF))) Tryz.func144 loopsL_nil boxesL_none
def K_q192:j4:=⟨146,[.v gT,.v .str],[.v (.own .str)],K4,zog K4⟩
def Wr:bZ:=oP ⟨[(7,.leaf I6),(2,.aR z0 []),(5,.leaf .str),(6,.whole z1 .str)],[(z0,false,.var gT (.leaf gT)),(z1,false,.rows .str)]⟩ [((.exit 0),⟨[(6,.whole z0 .str)],[(z0,false,.rows .str)]⟩)] abn Mw
def agG:LT:=[(4,Wr)]
def ae6:FK K_q192:=wl (lt:=agG) (Ls:=[Wr]) (zx K4) (XL _ (HI _ nF)) Tryz.func146 (lq loopsL_nil) boxesL_none
def K_q186:j4:=⟨145,[.v (.lst .str),.v (.lst I6),.v I6],[.v .str],JA,zog JA⟩
def Wd:bZ:=oP ⟨[(8,.leaf I6),(1,.leaf (.lst I6)),(0,.leaf (.lst .str)),(7,.leaf .str)],[]⟩ [((.exit 0),⟨[(7,.leaf .str)],[]⟩)] aa_ Ms
def agA:LT:=[(3,Wd)]
def ae2:FK K_q186:=wl (lt:=agA) (Ls:=[Wd]) (zx JA) (SD _ (XI _ nF)) Tryz.func145 (lq loopsL_nil) boxesL_none
def K_q110:j4:=⟨113,[.k (.pair .bool (.pair I6 (.pair .str (.pair (.pair I6 (.pair (.own an) .unit)) (.pair (.pair (.own b9) (.pair I6 .unit)) (.pair (.own cw) (.pair (.own cg) .unit))))))),.v I6,.v an],[.v (.pair .bool (.pair I6 (.pair .str (.pair (.pair I6 (.pair (.own an) .unit)) (.pair (.pair (.own b9) (.pair I6 .unit)) (.pair (.own cw) (.pair (.own cg) .unit))))))),.v (.own eL)],Mb,zog Mb⟩
def VE:bZ:=oP ⟨[(11,.leaf I6),(3,.aR z0 []),(10,.whole z1 I6),(5,.aR z2 []),(6,.aR z3 []),(9,.aR 500000004 []),(8,.aR 500000005 []),(1,.leaf I6)],[(z0,false,.var b7 (.pair (.leaf .bool) (.pair (.leaf I6) (.pair (.leaf .str) (.pair (.pair (.leaf I6) (.pair (.whole 500000006 an) (.leaf .unit))) (.pair (.pair (.whole 500000007 b9) (.leaf (.pair I6 .unit))) (.pair (.whole 500000008 cw) (.pair (.whole 500000009 cg) (.leaf .unit))))))))),(z1,false,.rows I6),(z2,false,.var an (.leaf an)),(z3,false,.var b7 (.pair (.leaf .bool) (.pair (.leaf I6) (.pair (.leaf .str) (.pair (.pair (.leaf I6) (.pair (.whole 500000010 an) (.leaf .unit))) (.pair (.pair (.whole 500000011 b9) (.leaf (.pair I6 .unit))) (.pair (.whole 500000012 cw) (.pair (.whole 500000013 cg) (.leaf .unit))))))))),(500000004,false,.var gT (.pair (.leaf I6) (.pair (.leaf I6) (.pair (.whole 500000014 I6) (.pair (.whole 500000015 I6) (.leaf .unit)))))),(500000005,false,.var cg (.leaf cg)),(500000006,false,.rows an),(500000007,false,.rows b9),(500000008,false,.rows cw),(500000009,false,.rows cg),(500000010,false,.rows an),(500000011,false,.rows b9),(500000012,false,.rows cw),(500000013,false,.rows cg),(500000014,false,.rows I6),(500000015,false,.rows I6)]⟩ [((.exit 0),⟨[(6,.aR z0 []),(9,.aR z1 []),(10,.whole z2 I6),(5,.aR z3 []),(8,.aR 500000004 []),(3,.aR 500000005 []),(1,.leaf I6)],[(z0,false,.var b7 (.pair (.leaf .bool) (.pair (.leaf I6) (.pair (.leaf .str) (.pair (.pair (.leaf I6) (.pair (.whole 500000006 an) (.leaf .unit))) (.pair (.pair (.whole 500000007 b9) (.leaf (.pair I6 .unit))) (.pair (.whole 500000008 cw) (.pair (.whole 500000009 cg) (.leaf .unit))))))))),(z1,false,.var gT (.pair (.leaf I6) (.pair (.leaf I6) (.pair (.whole 500000010 I6) (.pair (.whole 500000011 I6) (.leaf .unit)))))),(z2,false,.rows I6),(z3,false,.var an (.leaf an)),(500000004,false,.var cg (.leaf cg)),(500000005,false,.var b7 (.pair (.leaf .bool) (.pair (.leaf I6) (.pair (.leaf .str) (.pair (.pair (.leaf I6) (.pair (.whole 500000012 an) (.leaf .unit))) (.pair (.pair (.whole 500000013 b9) (.leaf (.pair I6 .unit))) (.pair (.whole 500000014 cw) (.pair (.whole 500000015 cg) (.leaf .unit))))))))),(500000006,false,.rows an),(500000007,false,.rows b9),(500000008,false,.rows cw),(500000009,false,.rows cg),(500000010,false,.rows I6),(500000011,false,.rows I6),(500000012,false,.rows an),(500000013,false,.rows b9),(500000014,false,.rows cw),(500000015,false,.rows cg)]⟩)] ZQ OC
def af4:LT:=[(5,VE)]
def aez:FK K_q110:=wl (lt:=af4) (Ls:=[VE]) (zx Mb) (ae2 _ (ae6 _ (LI _ (fk_q97 _ (aes _ (XV _ (PO _ nF))))))) Tryz.func113 (lq loopsL_nil) boxesL_none
def K_q35:j4:=⟨91,[.v b7],[.v b7,.v (.own eL)],q35,zog q35⟩
def Vo:bZ:=oP ⟨[(5,.leaf I6),(4,.aR z0 []),(2,.aR z1 [])],[(z0,false,.var b7 (.pair (.leaf .bool) (.pair (.leaf I6) (.pair (.leaf .str) (.pair (.pair (.leaf I6) (.pair (.whole z2 an) (.leaf .unit))) (.pair (.pair (.whole z3 b9) (.leaf (.pair I6 .unit))) (.pair (.whole 500000004 cw) (.pair (.whole 500000005 cg) (.leaf .unit))))))))),(z1,false,.var b7 (.pair (.leaf .bool) (.pair (.leaf I6) (.pair (.leaf .str) (.pair (.pair (.leaf I6) (.pair (.whole 500000006 an) (.leaf .unit))) (.pair (.pair (.whole 500000007 b9) (.leaf (.pair I6 .unit))) (.pair (.whole 500000008 cw) (.pair (.whole 500000009 cg) (.leaf .unit))))))))),(z2,false,.rows an),(z3,false,.rows b9),(500000004,false,.rows cw),(500000005,false,.rows cg),(500000006,false,.rows an),(500000007,false,.rows b9),(500000008,false,.rows cw),(500000009,false,.rows cg)]⟩ [((.exit 0),⟨[(2,.aR z0 []),(4,.aR z1 [])],[(z0,false,.var b7 (.pair (.leaf .bool) (.pair (.leaf I6) (.pair (.leaf .str) (.pair (.pair (.leaf I6) (.pair (.whole z2 an) (.leaf .unit))) (.pair (.pair (.whole z3 b9) (.leaf (.pair I6 .unit))) (.pair (.whole 500000004 cw) (.pair (.whole 500000005 cg) (.leaf .unit))))))))),(z1,false,.var b7 (.pair (.leaf .bool) (.pair (.leaf I6) (.pair (.leaf .str) (.pair (.pair (.leaf I6) (.pair (.whole 500000006 an) (.leaf .unit))) (.pair (.pair (.whole 500000007 b9) (.leaf (.pair I6 .unit))) (.pair (.whole 500000008 cw) (.pair (.whole 500000009 cg) (.leaf .unit))))))))),(z2,false,.rows an),(z3,false,.rows b9),(500000004,false,.rows cw),(500000005,false,.rows cg),(500000006,false,.rows an),(500000007,false,.rows b9),(500000008,false,.rows cw),(500000009,false,.rows cg)]⟩)] abG OL
def lt_q35:LT:=[(8,Vo)]
def fk_q35:FK K_q35:=wl (lt:=lt_q35) (Ls:=[Vo]) (zx q35) (aez _ (Xt _ (PR _ (PV _ (SN _ (X3 _ (aev _ (aeY _ (LC _ (LH _ nF)))))))))) Tryz.func91 (lq loopsL_nil) boxesL_none
def K_q55:j4:=⟨93,[.v di],[.v .str],q55,zog q55⟩
def fk_q55:FK K_q55:=wl (lt:=g7) (zx q55) (PU _ nF) Tryz.func93 loopsL_nil boxesL_none
def K_q96:j4:=⟨115,[.v .str,.v .str,.v I6],[.v .str],q96,zog q96⟩
def fk_q96:FK K_q96:=wl (lt:=g7) (zx q96) (XD _ nF) Tryz.func115 loopsL_nil boxesL_none
def K_q31:j4:=⟨92,[.v b7,.v .str,.v I6],[.v b7],q31,zog q31⟩
def fk_q31:FK K_q31:=wl (lt:=g7) (zx q31) (fk_q96 _ (SH _ (LH _ nF))) Tryz.func92 loopsL_nil boxesL_none
def K_q33:j4:=⟨94,[.v b7],[.v b7],q33,zog q33⟩
def fk_q33:FK K_q33:=wl (lt:=g7) (zx q33) (XZ _ (XF _ (SJ _ (NO _ (LC _ (LH _ nF)))))) Tryz.func94 loopsL_nil boxesL_none
def K_q56:j4:=⟨79,[.k (.pair b7 (.pair (.own bm) (.pair (.own cp) (.pair (.own an) .unit)))),.v di],[.v (.pair b7 (.pair (.own bm) (.pair (.own cp) (.pair (.own an) .unit)))),.v .bool],q56,zog q56⟩
def fk_q56:FK K_q56:=wl (lt:=g7) (zx q56) (fk_q33 _ (fk_q31 _ (fk_q55 _ (SC _ (fk_q35 _ (fk_q34 _ (aeC _ (fk_q47 _ nF)))))))) Tryz.func79 loopsL_nil boxesL_none
def K_q182:j4:=⟨70,[.k (.pair b7 (.pair (.own bm) (.pair (.own cp) (.pair (.own an) .unit)))),.v di],[.v fk,.v .bool],KX,zog KX⟩
def RW:Cx:=⟨C9,[K_q56.entry,K_q54.entry,K_q79.entry],false,Gl⟩
def VK:bZ:=boxD ⟨[(4,.aR z0 []),(3,.aR z1 []),(2,.aR z2 []),(7,.leaf I6)],[(z0,false,.var fk (.pair (.pair (.leaf .bool) (.pair (.leaf I6) (.pair (.leaf .str) (.pair (.pair (.leaf I6) (.pair (.whole z3 an) (.leaf .unit))) (.pair (.pair (.whole 500000004 b9) (.leaf (.pair I6 .unit))) (.pair (.whole 500000005 cw) (.pair (.whole 500000006 cg) (.leaf .unit)))))))) (.pair (.whole 500000007 bm) (.pair (.whole 500000008 cp) (.pair (.whole 500000009 an) (.leaf .unit)))))),(z1,false,.var di (.leaf di)),(z2,false,.var fk (.pair (.leaf b7) (.pair (.whole 500000010 bm) (.pair (.whole 500000011 cp) (.pair (.whole 500000012 an) (.leaf .unit)))))),(z3,false,.rows an),(500000004,false,.rows b9),(500000005,false,.rows cw),(500000006,false,.rows cg),(500000007,false,.rows bm),(500000008,false,.rows cp),(500000009,false,.rows an),(500000010,false,.rows bm),(500000011,false,.rows cp),(500000012,false,.rows an)]⟩ [(.norm,⟨[(8,.leaf .bool),(4,.aR z0 []),(3,.aR z1 []),(2,.aR z2 []),(7,.leaf I6)],[(z0,false,.var fk (.pair (.pair (.leaf .bool) (.pair (.leaf I6) (.pair (.leaf .str) (.pair (.pair (.leaf I6) (.pair (.whole z3 an) (.leaf .unit))) (.pair (.pair (.whole 500000004 b9) (.leaf (.pair I6 .unit))) (.pair (.whole 500000005 cw) (.pair (.whole 500000006 cg) (.leaf .unit)))))))) (.pair (.whole 500000007 bm) (.pair (.whole 500000008 cp) (.pair (.whole 500000009 an) (.leaf .unit)))))),(z1,false,.var di (.leaf di)),(z2,false,.var fk (.pair (.leaf b7) (.pair (.whole 500000010 bm) (.pair (.whole 500000011 cp) (.pair (.whole 500000012 an) (.leaf .unit)))))),(z3,false,.rows an),(500000004,false,.rows b9),(500000005,false,.rows cw),(500000006,false,.rows cg),(500000007,false,.rows bm),(500000008,false,.rows cp),(500000009,false,.rows an),(500000010,false,.rows bm),(500000011,false,.rows cp),(500000012,false,.rows an)]⟩)] q76 Q3
def VL:bZ:=boxD ⟨[(4,.aR z0 []),(3,.aR z1 []),(2,.aR z2 []),(7,.leaf I6)],[(z0,false,.var fk (.pair (.pair (.leaf .bool) (.pair (.leaf I6) (.pair (.leaf .str) (.pair (.pair (.leaf I6) (.pair (.whole z3 an) (.leaf .unit))) (.pair (.pair (.whole 500000004 b9) (.leaf (.pair I6 .unit))) (.pair (.whole 500000005 cw) (.pair (.whole 500000006 cg) (.leaf .unit)))))))) (.pair (.whole 500000007 bm) (.pair (.whole 500000008 cp) (.pair (.whole 500000009 an) (.leaf .unit)))))),(z1,false,.var di (.leaf di)),(z2,false,.var fk (.pair (.leaf b7) (.pair (.whole 500000010 bm) (.pair (.whole 500000011 cp) (.pair (.whole 500000012 an) (.leaf .unit)))))),(z3,false,.rows an),(500000004,false,.rows b9),(500000005,false,.rows cw),(500000006,false,.rows cg),(500000007,false,.rows bm),(500000008,false,.rows cp),(500000009,false,.rows an),(500000010,false,.rows bm),(500000011,false,.rows cp),(500000012,false,.rows an)]⟩ [(.norm,⟨[(17,.leaf .bool),(4,.aR z0 []),(3,.aR z1 []),(2,.aR z2 []),(7,.leaf I6)],[(z0,false,.var fk (.pair (.pair (.leaf .bool) (.pair (.leaf I6) (.pair (.leaf .str) (.pair (.pair (.leaf I6) (.pair (.whole z3 an) (.leaf .unit))) (.pair (.pair (.whole 500000004 b9) (.leaf (.pair I6 .unit))) (.pair (.whole 500000005 cw) (.pair (.whole 500000006 cg) (.leaf .unit)))))))) (.pair (.whole 500000007 bm) (.pair (.whole 500000008 cp) (.pair (.whole 500000009 an) (.leaf .unit)))))),(z1,false,.var di (.leaf di)),(z2,false,.var fk (.pair (.leaf b7) (.pair (.whole 500000010 bm) (.pair (.whole 500000011 cp) (.pair (.whole 500000012 an) (.leaf .unit)))))),(z3,false,.rows an),(500000004,false,.rows b9),(500000005,false,.rows cw),(500000006,false,.rows cg),(500000007,false,.rows bm),(500000008,false,.rows cp),(500000009,false,.rows an),(500000010,false,.rows bm),(500000011,false,.rows cp),(500000012,false,.rows an)]⟩)] q77 Q4
def VM:bZ:=boxD ⟨[(4,.aR z0 []),(3,.aR z1 []),(2,.aR z2 []),(7,.leaf I6)],[(z0,false,.var fk (.pair (.pair (.leaf .bool) (.pair (.leaf I6) (.pair (.leaf .str) (.pair (.pair (.leaf I6) (.pair (.whole z3 an) (.leaf .unit))) (.pair (.pair (.whole 500000004 b9) (.leaf (.pair I6 .unit))) (.pair (.whole 500000005 cw) (.pair (.whole 500000006 cg) (.leaf .unit)))))))) (.pair (.whole 500000007 bm) (.pair (.whole 500000008 cp) (.pair (.whole 500000009 an) (.leaf .unit)))))),(z1,false,.var di (.leaf di)),(z2,false,.var fk (.pair (.leaf b7) (.pair (.whole 500000010 bm) (.pair (.whole 500000011 cp) (.pair (.whole 500000012 an) (.leaf .unit)))))),(z3,false,.rows an),(500000004,false,.rows b9),(500000005,false,.rows cw),(500000006,false,.rows cg),(500000007,false,.rows bm),(500000008,false,.rows cp),(500000009,false,.rows an),(500000010,false,.rows bm),(500000011,false,.rows cp),(500000012,false,.rows an)]⟩ [(.norm,⟨[(27,.leaf .bool),(4,.aR z0 []),(3,.aR z1 []),(2,.aR z2 [])],[(z0,false,.var fk (.pair (.pair (.leaf .bool) (.pair (.leaf I6) (.pair (.leaf .str) (.pair (.pair (.leaf I6) (.pair (.whole z3 an) (.leaf .unit))) (.pair (.pair (.whole 500000004 b9) (.leaf (.pair I6 .unit))) (.pair (.whole 500000005 cw) (.pair (.whole 500000006 cg) (.leaf .unit)))))))) (.pair (.whole 500000007 bm) (.pair (.whole 500000008 cp) (.pair (.whole 500000009 an) (.leaf .unit)))))),(z1,false,.var di (.leaf di)),(z2,false,.var fk (.pair (.leaf b7) (.pair (.whole 500000010 bm) (.pair (.whole 500000011 cp) (.pair (.whole 500000012 an) (.leaf .unit)))))),(z3,false,.rows an),(500000004,false,.rows b9),(500000005,false,.rows cw),(500000006,false,.rows cg),(500000007,false,.rows bm),(500000008,false,.rows cp),(500000009,false,.rows an),(500000010,false,.rows bm),(500000011,false,.rows cp),(500000012,false,.rows an)]⟩)] q78 Q5
def Qr:LT:=[(2000002,VK),(2000006,VL),(2000011,VM)]
def ai5:∀x,boxR RW Qr (qD Tryz.f70 3) VK x=q76 x:=by intro x;kernel_rfl
def ai6:∀x,boxR RW Qr (qD Tryz.f70 7) VL x=q77 x:=by intro x;kernel_rfl
def ai7:∀x,boxR RW Qr (qD Tryz.f70 12) VM x=q78 x:=by intro x;kernel_rfl
def aeZ:FK K_q182:=wl (lt:=Qr) (Ls:=[]) (zx KX) (fk_q56 _ (fk_q54 _ (fk_q79 _ nF))) Tryz.func70 loopsL_nil (boxes_of (ks:=[3,7,12]) (by kernel_rfl) (boxesL_cons (by kernel_rfl) ai5 q76_v (boxesL_cons (by kernel_rfl) ai6 q77_v (boxesL_cons (by kernel_rfl) ai7 q78_v boxesL_nil))))
def K_q82:j4:=⟨66,[.p dj,.v I6],[.v (.own di),.v (.pair b7 (.pair (.own bm) (.pair (.own cp) (.pair (.own an) .unit))))],q82,zog q82⟩
def V0:bZ:=oP ⟨[(8,.leaf I6),(6,.aR z0 []),(7,.whole z1 di),(0,.aR 900 []),(5,.aR z2 [])],[(900,false,.var dj (.leaf dj)),(z0,false,.var fk (.leaf fk)),(z1,false,.rows di),(z2,false,.var fk (.pair (.pair (.leaf .bool) (.pair (.leaf I6) (.pair (.leaf .str) (.pair (.pair (.leaf I6) (.pair (.whole z3 an) (.leaf .unit))) (.pair (.pair (.whole 500000004 b9) (.leaf (.pair I6 .unit))) (.pair (.whole 500000005 cw) (.pair (.whole 500000006 cg) (.leaf .unit)))))))) (.pair (.whole 500000007 bm) (.pair (.whole 500000008 cp) (.pair (.whole 500000009 an) (.leaf .unit)))))),(z3,false,.rows an),(500000004,false,.rows b9),(500000005,false,.rows cw),(500000006,false,.rows cg),(500000007,false,.rows bm),(500000008,false,.rows cp),(500000009,false,.rows an)]⟩ [((.exit 0),⟨[(5,.aR z0 []),(6,.aR z1 []),(7,.whole z2 di)],[(900,false,.var dj (.leaf dj)),(z0,false,.var fk (.pair (.pair (.leaf .bool) (.pair (.leaf I6) (.pair (.leaf .str) (.pair (.pair (.leaf I6) (.pair (.whole z3 an) (.leaf .unit))) (.pair (.pair (.whole 500000004 b9) (.leaf (.pair I6 .unit))) (.pair (.whole 500000005 cw) (.pair (.whole 500000006 cg) (.leaf .unit)))))))) (.pair (.whole 500000007 bm) (.pair (.whole 500000008 cp) (.pair (.whole 500000009 an) (.leaf .unit)))))),(z1,false,.var fk (.leaf fk)),(z2,false,.rows di),(z3,false,.rows an),(500000004,false,.rows b9),(500000005,false,.rows cw),(500000006,false,.rows cg),(500000007,false,.rows bm),(500000008,false,.rows cp),(500000009,false,.rows an)]⟩)] ack Q6
def lt_q82:LT:=[(4,V0)]
def fk_q82:FK K_q82:=wl (lt:=lt_q82) (Ls:=[V0]) (zx q82) (aeZ _ (Xw _ (fk_q81 _ (IQ _ (fk_q73 _ nF))))) Tryz.func66 (lq loopsL_nil) boxesL_none
def K_q84:j4:=⟨55,[.p dj],[.v (.pair b7 (.pair (.own bm) (.pair (.own cp) (.pair (.own an) .unit))))],q84,zog q84⟩
def fk_q84:FK K_q84:=wl (lt:=g7) (zx q84) (fk_q82 _ nF) Tryz.func55 loopsL_nil boxesL_none
def K_q4:j4:=⟨56,[.p dj,.v fk],[.v (.pair b7 (.pair (.lst bm) (.pair (.own cp) (.pair (.own an) .unit))))],Wh.q4,zog Wh.q4⟩
def fk_q4:FK K_q4:=wl (lt:=g7) (zx Wh.q4) (IQ _ (Xw _ nF)) Tryz.func56 loopsL_nil boxesL_none
def K_q13:j4:=⟨42,[.p dj],[.v (.pair b7 (.pair (.lst bm) (.pair (.own cp) (.pair (.own an) .unit))))],q13,zog q13⟩
def fk_q13:FK K_q13:=wl (lt:=g7) (zx q13) (fk_q4 _ (IQ _ (fk_q84 _ nF))) Tryz.func42 loopsL_nil boxesL_none
def K_q8:j4:=⟨20,[.p dj],[.v bm],MI,zog MI⟩
def fk_q8:FK K_q8:=wl (lt:=g7) (zx MI) (IQ _ (fk_q13 _ nF)) Tryz.func20 loopsL_nil boxesL_none
def K_q132:j4:=⟨26,[.v I6,.v I6,.v I6],[.v .bool],A7,zog A7⟩
def LD:FK K_q132:=wl (lt:=g7) (zx A7) nF Tryz.func26 loopsL_nil boxesL_none
def K_q63:j4:=⟨25,[.v I6],[.v .bool],q63,zog q63⟩
def fk_q63:FK K_q63:=wl (lt:=g7) (zx q63) (LD _ nF) Tryz.func25 loopsL_nil boxesL_none
def K_q172:j4:=⟨27,[.v nT],[.v .bool],KR,zog KR⟩
def aeU:FK K_q172:=wl (lt:=g7) (zx KR) nF Tryz.func27 loopsL_nil boxesL_none
def K_q25:j4:=⟨45,[.v gT],[.v I6],Ek,zog Ek⟩
def XW:FK K_q25:=wl (lt:=g7) (zx Ek) nF Tryz.func45 loopsL_nil boxesL_none
def K_q130:j4:=⟨43,[.v gT],[.v .bool],EE,zog EE⟩
def U0:bZ:=oP ⟨[(50,.leaf I6),(1,.aR z0 []),(48,.leaf (.lst I6)),(49,.leaf I6)],[(z0,false,.var gT (.leaf gT))]⟩ [(.ret,⟨[(2,.leaf .bool)],[]⟩),((.exit 0),⟨[],[]⟩)] aag G3
def agc:LT:=[(6,U0)]
def aeH:FK K_q130:=wl (lt:=agc) (Ls:=[U0]) (zx EE) (XW _ (LD _ nF)) Tryz.func43 (lq loopsL_nil) boxesL_none
def K_q171:j4:=⟨57,[.v (.lst I6),.v I6],[.v .bool],Ij,zog Ij⟩
def U1:bZ:=oP ⟨[(9,.leaf I6),(0,.leaf (.lst I6)),(1,.leaf I6),(7,.leaf (.lst I6)),(8,.leaf I6)],[]⟩ [(.ret,⟨[(4,.leaf .bool)],[]⟩),((.exit 0),⟨[(1,.leaf I6)],[]⟩)] aaO Jw
def ags:LT:=[(2,U1)]
def aeT:FK K_q171:=wl (lt:=ags) (Ls:=[U1]) (zx Ij) (LD _ nF) Tryz.func57 (lq loopsL_nil) boxesL_none
def K_q198:j4:=⟨58,[.v (.lst I6)],[.v I3],JB,zog JB⟩
def U7:bZ:=oP ⟨[(8,.leaf I6),(3,.leaf I3),(6,.leaf (.lst I6)),(7,.leaf I6)],[]⟩ [((.exit 0),⟨[(3,.leaf I3)],[]⟩)] abA OK
def agL:LT:=[(3,U7)]
def ae9:FK K_q198:=wl (lt:=agL) (Ls:=[U7]) (zx JB) nF Tryz.func58 (lq loopsL_nil) boxesL_none
def K_q62:j4:=⟨44,[.v ei],[.v .bool],Gh,zog Gh⟩
def U2:bZ:=oP ⟨[(21,.leaf I6),(3,.leaf I3),(1,.aR z0 []),(19,.leaf (.lst e_)),(20,.leaf I6)],[(z0,false,.var ei (.leaf ei))]⟩ [(.ret,⟨[(2,.leaf .bool)],[]⟩),((.exit 0),⟨[(3,.leaf I3),(1,.aR z0 [])],[(z0,false,.var ei (.leaf ei))]⟩)] abY Ir
def U3:bZ:=oP ⟨[(77,.leaf I6),(3,.leaf I3),(75,.leaf (.lst e_)),(76,.leaf I6)],[]⟩ [(.ret,⟨[(2,.leaf .bool)],[]⟩),((.exit 2),⟨[],[]⟩)] ab0 MD
def lt_q62:LT:=[(5,U2),(12,U3)]
def fk_q62:FK K_q62:=wl (lt:=lt_q62) (Ls:=[U2,U3]) (zx Gh) (ae9 _ (aeT _ (LD _ nF))) Tryz.func44 (lq (lq loopsL_nil)) boxesL_none
def K_q170:j4:=⟨28,[.v nT],[.v .bool],Ii,zog Ii⟩
def XS:FK K_q170:=wl (lt:=g7) (zx Ii) (XW _ (fk_q62 _ (aeH _ nF))) Tryz.func28 loopsL_nil boxesL_none
def K_q129:j4:=⟨29,[.v .str],[.v .bool],G2,zog G2⟩
def UZ:bZ:=oP ⟨[(6,.leaf I6),(0,.leaf .str),(5,.leaf I6)],[]⟩ [(.ret,⟨[(2,.leaf .bool)],[]⟩),((.exit 0),⟨[(0,.leaf .str)],[]⟩)] aae KK
def agb:LT:=[(2,UZ)]
def Xz:FK K_q129:=wl (lt:=agb) (Ls:=[UZ]) (zx G2) (LD _ nF) Tryz.func29 (lq loopsL_nil) boxesL_none
def K_q26:j4:=⟨54,[.v ei,.v I6],[.v .str,.v .bool],q26,zog q26⟩
def U4:bZ:=oP ⟨[(11,.leaf I6),(1,.leaf I6),(9,.leaf (.lst e_)),(10,.leaf I6)],[]⟩ [(.ret,⟨[(4,.leaf .str),(5,.leaf .bool)],[]⟩),((.exit 0),⟨[],[]⟩)] abE Mz
def lt_q26:LT:=[(2,U4)]
def XX:FK K_q26:=wl (lt:=lt_q26) (Ls:=[U4]) (zx q26) nF Tryz.func54 (lq loopsL_nil) boxesL_none
def K_q3:j4:=⟨46,[.v ei],[.v I6],Wh.q3,zog Wh.q3⟩
def U5:bZ:=oP ⟨[(3,.leaf I6),(1,.aR z0 [])],[(z0,false,.var ei (.leaf ei))]⟩ [((.exit 0),⟨[(3,.leaf I6)],[]⟩)] abM MC
def lt_q3:LT:=[(2,U5)]
def fk_q3:FK K_q3:=wl (lt:=lt_q3) (Ls:=[U5]) (zx Wh.q3) (XX _ nF) Tryz.func46 (lq loopsL_nil) boxesL_none
def K_q5:j4:=⟨30,[.v nT],[.v .bool],Wh.q5,zog Wh.q5⟩
def fk_q5:FK K_q5:=wl (lt:=g7) (zx Wh.q5) (fk_q3 _ nF) Tryz.func30 loopsL_nil boxesL_none
def K_q61:j4:=⟨10,[.v bm],[.v .bool],E7,zog E7⟩
def SS:FK K_q61:=wl (lt:=g7) (zx E7) (fk_q5 _ (Xz _ (XS _ (aeU _ (LD _ (fk_q63 _ nF)))))) Tryz.func10 loopsL_nil boxesL_none
def K_q1:j4:=⟨22,[.v bm],[.v (.own eL)],Wh.q1,zog Wh.q1⟩
def fk_q1:FK K_q1:=wl (lt:=g7) (zx Wh.q1) nF Tryz.func22 loopsL_nil boxesL_none
def UT:j4:=⟨8,[.v (.lst eL),.v (.lst eL)],[.v .bool],G4,zog G4⟩
def U9:bZ:=oP ⟨[(5,.leaf I6),(0,.leaf (.lst eL)),(1,.leaf (.lst eL))],[]⟩ [(.ret,⟨[(4,.leaf .bool)],[]⟩),((.exit 0),⟨[],[]⟩)] aak OG
def age:LT:=[(4,U9)]
def aeI:FK UT:=wl (lt:=age) (Ls:=[U9]) (zx G4) (NN _ nF) Tryz.func8 (lq loopsL_nil) boxesL_none
def K_q2:j4:=⟨12,[.v (.lst I8)],[.v bm,.v .str],Wh.q2,zog Wh.q2⟩
def C_q2:Cx:=⟨C9,[RY.entry,R1.entry,K_q8.entry,UU.entry],false,Gl⟩
def Ve:bZ:=boxD ⟨[(2,.aR z0 []),(4,.aR z1 []),(5,.aR z2 [])],[(z0,false,.var bm (.pair (.leaf I6) (.pair (.leaf I6) (.pair (.leaf I6) (.pair (.leaf .str) (.pair (.leaf I6) (.pair (.pair (.pair (.leaf I6) (.pair (.leaf I6) (.pair (.whole z3 I6) (.pair (.whole 500000004 I6) (.leaf .unit))))) (.pair (.pair (.leaf I6) (.pair (.leaf I6) (.pair (.whole 500000005 e_) (.leaf .unit)))) (.leaf .unit))) (.leaf .unit)))))))),(z1,false,.var dj (.leaf dj)),(z2,false,.var bm (.leaf bm)),(z3,false,.rows I6),(500000004,false,.rows I6),(500000005,false,.rows e_)]⟩ [(.norm,⟨[(2,.aR z0 []),(4,.aR z1 []),(5,.aR z2 [])],[(z0,false,.var bm (.pair (.leaf I6) (.pair (.leaf I6) (.pair (.leaf I6) (.pair (.leaf .str) (.pair (.leaf I6) (.pair (.pair (.pair (.leaf I6) (.pair (.leaf I6) (.pair (.whole z3 I6) (.pair (.whole 500000004 I6) (.leaf .unit))))) (.pair (.pair (.leaf I6) (.pair (.leaf I6) (.pair (.whole 500000005 e_) (.leaf .unit)))) (.leaf .unit))) (.leaf .unit)))))))),(z1,false,.var dj (.leaf dj)),(z2,false,.var bm (.leaf bm)),(z3,false,.rows I6),(500000004,false,.rows I6),(500000005,false,.rows e_)]⟩)] Wh.q0 Wh.q0'
def lt_q2:LT:=[(2000003,Ve)]
def ai1:∀x,boxR C_q2 lt_q2 (qD Tryz.f12 3) Ve x=Wh.q0 x:=by intro x;kernel_rfl
def fk_q2:FK K_q2:=wl (lt:=lt_q2) (Ls:=[]) (zx Wh.q2) (Xx _ (IQ _ (fk_q8 _ (aeM _ nF)))) Tryz.func12 loopsL_nil (boxes_of (ks:=[3]) (by kernel_rfl) (boxesL_cons (by kernel_rfl) ai1 q0_v boxesL_nil))
def K_q41:j4:=⟨61,[.v gT],[.v (.pair I6 (.pair I6 (.pair (.own I6) (.pair (.own I6) .unit))))],q41,zog q41⟩
def fk_q41:FK K_q41:=wl (lt:=g7) (zx q41) nF Tryz.func61 loopsL_nil boxesL_none
def K_q10:j4:=⟨62,[.v ei],[.v (.pair I6 (.pair I6 (.pair (.own e_) .unit)))],q10,zog q10⟩
def U6:bZ:=oP ⟨[(15,.leaf I6),(3,.aR z0 []),(13,.leaf (.lst e_)),(2,.aR z1 []),(14,.leaf I6)],[(z0,false,.var ei (.pair (.leaf I6) (.pair (.leaf I6) (.pair (.whole z2 e_) (.leaf .unit))))),(z1,false,.var ei (.pair (.leaf I6) (.pair (.leaf I6) (.pair (.whole z3 e_) (.leaf .unit))))),(z2,false,.rows e_),(z3,false,.rows e_)]⟩ [((.exit 0),⟨[(2,.aR z0 []),(3,.aR z1 [])],[(z0,false,.var ei (.pair (.leaf I6) (.pair (.leaf I6) (.pair (.whole z2 e_) (.leaf .unit))))),(z1,false,.var ei (.pair (.leaf I6) (.pair (.leaf I6) (.pair (.whole z3 e_) (.leaf .unit))))),(z2,false,.rows e_),(z3,false,.rows e_)]⟩)] ZO Ma
def lt_q10:LT:=[(3,U6)]
def fk_q10:FK K_q10:=wl (lt:=lt_q10) (Ls:=[U6]) (zx q10) nF Tryz.func62 (lq loopsL_nil) boxesL_none
def K_q64:j4:=⟨50,[.v nT],[.v (.pair (.pair I6 (.pair I6 (.pair (.own I6) (.pair (.own I6) .unit)))) (.pair (.pair I6 (.pair I6 (.pair (.own e_) .unit))) .unit))],q64,zog q64⟩
def fk_q64:FK K_q64:=wl (lt:=g7) (zx q64) (fk_q10 _ (fk_q41 _ nF)) Tryz.func50 loopsL_nil boxesL_none
def K_q9:j4:=⟨38,[.v bm],[.v (.pair I6 (.pair I6 (.pair I6 (.pair .str (.pair I6 (.pair (.pair (.pair I6 (.pair I6 (.pair (.own I6) (.pair (.own I6) .unit)))) (.pair (.pair I6 (.pair I6 (.pair (.own e_) .unit))) .unit)) .unit))))))],MK,zog MK⟩
def fk_q9:FK K_q9:=wl (lt:=g7) (zx MK) (fk_q64 _ nF) Tryz.func38 loopsL_nil boxesL_none
def K_q23:j4:=⟨13,[.v bm,.v .str],[.v (.pair I6 (.pair I6 (.pair I6 (.pair .str (.pair I6 (.pair (.pair (.pair I6 (.pair I6 (.pair (.own I6) (.pair (.own I6) .unit)))) (.pair (.pair I6 (.pair I6 (.pair (.own e_) .unit))) .unit)) .unit)))))),.v (.own eL)],q23,zog q23⟩
def fk_q23:FK K_q23:=wl (lt:=g7) (zx q23) (fk_q1 _ (fk_q9 _ (Xz _ (SS _ nF)))) Tryz.func13 loopsL_nil boxesL_none
def K_q133:j4:=⟨65,[.v (.lst I6),.v (.lst I6)],[.v .bool],F6,zog F6⟩
def U8:bZ:=oP ⟨[(5,.leaf I6),(1,.leaf (.lst I6)),(0,.leaf (.lst I6))],[]⟩ [(.ret,⟨[(4,.leaf .bool)],[]⟩),((.exit 0),⟨[],[]⟩)] aai Mh
def agd:LT:=[(4,U8)]
def XA:FK K_q133:=wl (lt:=agd) (Ls:=[U8]) (zx F6) nF Tryz.func65 (lq loopsL_nil) boxesL_none
def K_q135:j4:=⟨52,[.v gT,.v gT],[.v .bool],KL,zog KL⟩
def aeJ:FK K_q135:=wl (lt:=g7) (zx KL) (XA _ nF) Tryz.func52 loopsL_nil boxesL_none
def K_q66:j4:=⟨53,[.v ei,.v ei],[.v .bool],q66,zog q66⟩
def U_:bZ:=oP ⟨[(5,.leaf I6),(3,.aR z0 []),(2,.aR z1 [])],[(z0,false,.var ei (.leaf ei)),(z1,false,.var ei (.leaf ei))]⟩ [(.ret,⟨[(4,.leaf .bool)],[]⟩),((.exit 0),⟨[],[]⟩)] ab2 ME
def lt_q66:LT:=[(4,U_)]
def fk_q66:FK K_q66:=wl (lt:=lt_q66) (Ls:=[U_]) (zx q66) (XA _ nF) Tryz.func53 (lq loopsL_nil) boxesL_none
def K_q42:j4:=⟨40,[.v nT,.v nT],[.v .bool],q42,zog q42⟩
def fk_q42:FK K_q42:=wl (lt:=g7) (zx q42) (fk_q66 _ (aeJ _ nF)) Tryz.func40 loopsL_nil boxesL_none
def K_q65:j4:=⟨15,[.v bm,.v bm],[.v .bool],Is,zog Is⟩
def fk_q65:FK K_q65:=wl (lt:=g7) (zx Is) (fk_q42 _ nF) Tryz.func15 loopsL_nil boxesL_none
def K_q90:j4:=⟨41,[.v nT],[.v .str],q90,zog q90⟩
def UY:bZ:=oP ⟨[(13,.leaf I6),(3,.leaf .str),(1,.aR z0 []),(12,.leaf I6)],[(z0,false,.var nT (.leaf nT))]⟩ [((.exit 0),⟨[(1,.aR z0 []),(3,.leaf .str)],[(z0,false,.var nT (.leaf nT))]⟩)] acD OO
def lt_q90:LT:=[(5,UY)]
def fk_q90:FK K_q90:=wl (lt:=lt_q90) (Ls:=[UY]) (zx q90) (XX _ (fk_q3 _ (XS _ nF))) Tryz.func41 (lq loopsL_nil) boxesL_none
def K_q24:j4:=⟨16,[.v bm],[.v .str],G_,zog G_⟩
def fk_q24:FK K_q24:=wl (lt:=g7) (zx G_) (fk_q90 _ (SS _ nF)) Tryz.func16 loopsL_nil boxesL_none
def K_q6:j4:=⟨4,[.v (.lst I8)],[.v .bool],Wh.q6,zog Wh.q6⟩
def C_q6:Cx:=⟨C9,[K_q24.entry,K_q68.entry,K_q61.entry,UT.entry,K_q65.entry,R0.entry,K_q23.entry,K_q2.entry],false,Gl⟩
def e_q6:EV C_q6 g7 Tryz.f4 [.v (.lst I8)] [.v .bool] Wh.q6:=by intro xs;kernel_rfl
def ok_q6:CO K_q6:=con_ok (Ls:=[]) mixed (Sp _ _) (fk_q24 _ (LG _ (SS _ (aeI _ (fk_q65 _ (XY _ (fk_q23 _ (fk_q2 _ nF)))))))) Tryz.func4 loopsL_nil boxesL_none e_q6
end
end Go.Proofs.Walk
