import Derived.Test.YthanhdmbelbfcaaGreatX1
import Derived.Laws.Slices
import Derived.Laws.Tables
import Derived.Great.BuildSlice
import Derived.Laws.MakeOwn
import Derived.Laws.Append
import Derived.Laws.IdiomStrings
import Derived.Laws.BytesArg
import Derived.Laws.Strings
set_option linter.defProp false
namespace Go.Ab
section
variable {P:Program} {F:Fix} {C:Cx} {o:Oper} {a:Act} {w:World} {m:MF} {I:Nat→Prop} {ρ:Pl} {d:aD}
def uK {ad:Option Addr}{cap l sz:Nat}(h:l=0):(if cap=l then ad else ad.map (·.add (l*sz)))=ad:=by
 simp_all [Addr.add]
def qP {isSlice:Bool}{len cap:Nat}{lo hi:Option Operand}{ρf:Operand→AT}{l h:Int}
  (hlo:∀x,lo=some x→aj w I m ρ (ρf x) (a.eval x)) (hhi:∀x,hi=some x→aj w I m ρ (ρf x) (a.eval x))
  (hl:mz 0 (lo.map ρf)=some l) (hh:mz len (hi.map ρf)=some h) (h0:0≤l) (h1:l≤h) (h2:h≤cap) (_hc:len≤cap) :
  (Instr.sliceBounds isSlice len cap (lo.map a.eval) (hi.map a.eval) none).run P w = .ok (l.toNat,h.toNat,cap) w:=by
 unfold Instr.sliceBounds
 cases lo with
 |none=>
  simp[mz] at hl
  subst hl
  cases hi with
  |none=>
   simp[mz] at hh
   subst hh
   rfl
  |some y=>
   obtain⟨k,hk⟩:=js hh (hhi y rfl)
   have:h≤(cap:Int):=by omega
   have hb:=run_sliceBound (P:=P) w k h cap (if isSlice then BoundsCode.sliceAcap else BoundsCode.sliceAlen) (by omega) this
   simp_all
 |some x=>
  obtain⟨k,hk⟩:=js hl (hlo x rfl)
  cases hi with
  |none=>
   simp[mz] at hh
   subst hh
   have hb:=run_sliceBound (P:=P) w k l len BoundsCode.sliceB h0 (by omega)
   simp_all
  |some y=>
   obtain⟨k',hk'⟩:=js hh (hhi y rfl)
   have:h≤(cap:Int):=by omega
   have hb':=run_sliceBound (P:=P) w k' h cap (if isSlice then BoundsCode.sliceAcap else BoundsCode.sliceAlen) (by omega) this
   have hb:=run_sliceBound (P:=P) w k l h.toNat BoundsCode.sliceB h0 (by omega)
   simp_all
def x9 {T:Nat}{x:Operand}{lo hi:Option Operand}{ρf:Operand→AT}(hC:bR P C)(ho:o.op = .slice T x lo hi none)(hm:aC F m w I ρ)
  (hx:aj w I m ρ (ρf x) (a.eval x)) (hlo:∀x,lo=some x→aj w I m ρ (ρf x) (a.eval x)) (hhi:∀x,hi=some x→aj w I m ρ (ρf x) (a.eval x))
  (hd:tu C m T (ρf x) (lo.map ρf) (hi.map ρf)=some d) (hok:∀b∈d.ok,b=true):az P F o a w m I ρ d:=by
 unfold tu at hd
 split at hd
 ·grind
 ·rename_i n hn
  split at hd
  ·rename_i l h hl hh
   generalize ρf x=ax at *
   split at hd
   ·rename_i s hu
    have hT:=hC.ty hu
    cases hd
    simp only[bN,zl46,or_false,pP,forall_eq,mS] at hok
    simp only[lP,aX] at hn
    subst hn
    have e1:=jF.1 hx
    have hb:=qP (P:=P) (isSlice:=false) (len:=s.length) (cap:=s.length) hlo hhi hl hh hok.1 hok.2.1 hok.2.2 (bA _)
    have hsz:(⟨s.toArray⟩:ByteArray).size=s.length:=by simp[ByteArray.size]
    refine az.value hm (v:=.string ⟨((s.drop l.toNat).take (h-l).toNat).toArray⟩) ?_ (jF.2 rfl)
    have hex:(⟨s.toArray⟩:ByteArray).extract l.toNat h.toNat=⟨((s.drop l.toNat).take (h-l).toNat).toArray⟩:=by
     rw[ByteArray.ext_iff]
     simp
     omega
    simp[execOp,ho,e1,Instr.sliceAt,run_underlying hT.2,Instr.slice,hsz,hb,hex]
   ·rename_i t xs u hu
    have hT:=hC.ty hu
    cases bG:t.is u with
    |false=>simp[bG] at hd
    |true=>
     simp only[bG,dW,aX] at hd
     subst hd
     have:=Ty.cX bG
     subst this
     simp only[bN,pP,mS] at hok
     simp only[lP,aX] at hn
     subst hn
     obtain⟨E,h1,h2,h3⟩:=jI hT
     have hx':=cj (a:=.leaf (.lst t) xs) rfl hx (by simp) (by simp) (by simp) (by simp)
     simp only[aq,af,jY] at hx'
     obtain⟨ad,cap,e1,e2,e3⟩:=hx'
     have hb:=qP (P:=P) (isSlice:=true) (len:=xs.length) (cap:=cap) hlo hhi hl hh hok.1 hok.2.1 (by omega) e2
     refine az.value hm (v:=.slice (if cap=l.toNat then ad else ad.map (·.add (l.toNat*t.size))) (h.toNat-l.toNat) (cap-l.toNat)) ?_ ?_
     ·simp[execOp,ho,e1,Instr.sliceAt,run_underlying h1,Instr.slice,hb,h3.info.run_sizeOf]
     ·rw[qV]
      unfold aG
      have hlen:((xs.drop l.toNat).take (h-l).toNat).length=h.toNat-l.toNat:=by
       simp only[zl3,zl4]
       omega
      refine⟨_,cap-l.toNat,by rw[hlen],by omega,?_⟩
      by_cases hz:h.toNat-l.toNat=0
      ·left
       rw[←eC,hlen,hz]
      ·right
       rcases e3 with e3|⟨B,off,e3,e4,e5⟩
       ·subst e3;simp at hok;omega
       ·have hne:¬cap=l.toNat:=by omega
        refine⟨B,off+l.toNat*t.size,by simp[hne,e3,Addr.j6],e4,fun i y hy=>?_⟩
        rw[List.getElem?_take] at hy
        split at hy
        ·rw[zl5] at hy
         obtain⟨cs,f1,f2,f3⟩:=e5 _ _ hy
         refine⟨cs,f1,fun j hj=>?_,f3⟩
         rw[←f2 j hj]
         congr 2
         rw[cC]
         omega
        ·simp at hy
   ·rename_i id st t u hu
    have hT:=hC.ty hu
    cases bG:t.is u with
    |false=>simp[bG] at hd
    |true=>
     simp only[bG,dW,aX] at hd
     subst hd
     have:=Ty.cX bG
     subst this
     simp only[bN,pP,mS] at hok
     simp only[lP] at hn
     split at hn
     ·rename_i xs hr
      simp only[aX] at hn
      subst hn
      obtain⟨E,h1,h2,h3⟩:=jI hT
      obtain⟨b0,hb',oG,cA⟩:=nv hr
      obtain⟨ad,cap,e1,e2,e3w⟩:=nt hx hb' oG cA
      have e3:=e3w.weak
      have hb:=qP (P:=P) (isSlice:=true) (len:=xs.length) (cap:=cap) hlo hhi hl hh hok.1 hok.2.1 (by omega) e2
      refine az.value hm (v:=.slice (if cap=l.toNat then ad else ad.map (·.add (l.toNat*t.size))) (h.toNat-l.toNat) (cap-l.toNat)) ?_ ?_
      ·simp[execOp,ho,e1,Instr.sliceAt,run_underlying h1,Instr.slice,hb,h3.info.run_sizeOf]
      ·show aG _ _ _ _ _ _
       unfold aG
       refine⟨⟨_,rfl,rfl⟩,cy.of hb' oG,fun b hbb hs u ys hc=>?_⟩
       rw[hb'] at hbb
       cases hbb
       rw[cA] at hc
       cases hc
       refine⟨_,_,by rw[show(h-l).toNat=h.toNat-l.toNat by omega],by omega,by omega,?_⟩
       refine⟨?_,fun h0=>by rw[uK h0,h0];exact e3w⟩
       by_cases hne:cap=l.toNat
       ·exact .inl (by omega)
       ·rcases e3.1 with e3|⟨B,o',cs,e3,e4,e5,e6⟩
        ·exact .inl (by omega)
        ·refine .inr ⟨B,o',cs,e3,by simp[hne,e4,Addr.j6],e5,?_⟩
         have:l.toNat*t.size+(cap-l.toNat)*t.size=cap*t.size:=by rw[←cC];congr 1;omega
         omega
     ·simp at hn
   ·rename_i id st off len t u hu
    have hT:=hC.ty hu
    cases bG:t.is u with
    |false=>simp[bG] at hd
    |true=>
     simp only[bG,dW] at hd
     have:=Ty.cX bG
     subst this
     split at hd
     ·rename_i r hr
      cases hd
      simp only[bN,zl46,or_false,pP,forall_eq,mS] at hok
      simp only[lP,hr,aX] at hn
      subst hn
      obtain⟨E,h1,h2,h3⟩:=jI hT
      obtain⟨ad,cap,e1,e2,e20,e3⟩:=nr hx hr
      have hb:=qP (P:=P) (isSlice:=true) (len:=len) (cap:=cap) hlo hhi hl hh hok.1 hok.2.1 (by omega) e2
      refine az.value hm (v:=.slice (if cap=l.toNat then ad else ad.map (·.add (l.toNat*t.size))) (h.toNat-l.toNat) (cap-l.toNat)) ?_ ?_
      ·simp[execOp,ho,e1,Instr.sliceAt,run_underlying h1,Instr.slice,hb,h3.info.run_sizeOf]
      ·show aG _ _ _ _ _ _
       unfold aG
       have hb':=gW hr
       refine⟨⟨_,rfl,rfl⟩,cy.of hb' rfl,fun b hbb hs u ys hc=>?_⟩
       rw[hb'] at hbb
       cases hbb
       cases hc
       refine⟨_,_,by rw[show(h-l).toNat=h.toNat-l.toNat by omega],by omega,by omega,?_⟩
       refine⟨?_,fun h0=>by rw[uK (by omega),show l.toNat=0 by omega];exact e3.2 (by omega)⟩
       by_cases hne:cap=l.toNat
       ·exact .inl (by omega)
       ·rcases e3.1 with e3|⟨B,o',cs,e3,e4,e5,e6⟩
        ·exact .inl (by omega)
        ·refine .inr ⟨B,o',cs,e3,by simp[hne,e4,Addr.j6,cC,iM],e5,?_⟩
         have:l.toNat*t.size+(cap-l.toNat)*t.size=cap*t.size:=by rw[←cC];congr 1;omega
         rw[cC]
         omega
     ·simp at hd
   ·simp at hd
  ·simp at hd
end
section
variable {P:Program} {F:Fix} {C:Cx} {o:Oper} {a:Act} {w:World} {m:MF} {I:Nat→Prop} {ρ:Pl} {d:aD}
def dV (m:MF)(ρ:Pl)(I:Nat→Prop)(ids:List Nat):Nat→Prop:=fun B=>I B∨(∃id,id∈ids∧∃b o,m id=some b∧b.live∧ρ id=some (B,o)) ∨
 ∃id,id∈ids∧∃b,m id=some b∧b.bI∧B∈ρ.d id
def bO (ρ:Pl)(id:Nat)(b:aa)(B:Nat):Prop:=(∃o,ρ id=some (B,o))∨(b.bI∧B∈ρ.d id)
def aC.jC (h:aC F m w I ρ){id id':Nat}{b b':aa}{B:Nat}(h1:m id=some b)(l1:b.live)(o1:bO ρ id b B)(h2:m id'=some b')(l2:b'.live)(o2:bO ρ id' b' B):id=id':=by
 rcases o1 with⟨x,o1⟩|⟨d1,o1⟩
 ·rcases o2 with⟨y,o2⟩|⟨d2,o2⟩
  ·exact h.inj id id' b b' B x y h1 h2 l1 l2 o1 o2
  ·exact absurd o1 (((h.dp id' b' h2 d2).2 B o2).2.1 id b x h1 l1)
 ·rcases o2 with⟨y,o2⟩|⟨d2,o2⟩
  ·exact absurd o2 (((h.dp id b h1 d1).2 B o1).2.1 id' b' y h2 l2)
  ·exact(((h.dp id b h1 d1).2 B o1).2.2 id' b' h2 d2 o2).symm
def aa.qf (b:aa):(b.bI∧b.bD=⟨b.st+1,false,.dead⟩)∨(¬b.bI∧b.bD=⟨b.st,true,b.c⟩):=by
 obtain⟨st,fz,c⟩:=b
 grind [aa.bD,aa.bI]
def r6 (m:MF)(i:Nat):∀ids,find (bD m ids) i=if i∈ids then(m i).map aa.bD else none
 | []=>by simp[bD,dY,find]
 |j::l=>by
  have ih:=r6 m i l
  unfold bD at ih ⊢
  simp[dY]
  cases hm:m j with
  |none=>
   grind
  |some b=>
   simp[aF]
   grind
def rq (m:MF)(ids:List Nat)(i:Nat):m.ag (bD m ids) i=if i∈ids then(m i).map aa.bD else m i:=by
 unfold MF.ag
 rw[r6]
 by_cases h:i∈ids
 ·simp[h]
  cases m i<;>rfl
 ·simp[h]
def aC.lt (h:aC F m w I ρ){id:Nat}{b:aa}{B o':Nat}(hm:m id=some b)(hl:b.live)(hρ:ρ id=some (B,o')):B<w.heap.size:=by
 have:=h.aN id b hm
 unfold cM at this
 unfold aa.live at hl
 cases hc:b.c with
 |dead=>grind
 |var t a=>simp only[hc] at this;obtain⟨_,B',cs,e1,e2,_⟩:=this;rw[hρ] at e1;cases e1;exact e2.lt
 |rows t xs=>
  simp only[hc] at this
  rcases this.2 with⟨_,e1⟩|⟨B',o',cs,e1,e2,_⟩
  ·grind
  ·rw[hρ] at e1;cases e1;exact e2.lt
 |deep rs t xs=>
  simp only[hc] at this
  rcases this.2 with⟨_,e1,_⟩|⟨B',o',cs,e1,e2,_⟩
  ·grind
  ·rw[hρ] at e1;cases e1;exact e2.lt
def aB.freeze (h:aC F m w I ρ)(ids:List Nat):aB F m (m.ag (bD m ids)) w w I (dV m ρ I ids) ρ ρ:=by
 have ha:bH I (dV m ρ I ids) w w:=⟨fun _ h=>.inl h,fun _ _=>rfl⟩
 have hk:c_ m (m.ag (bD m ids)) ρ ρ w w:=by
  refine⟨fun id b hb=>?_,fun _ _ _ _ _ _ _ _ _ _ _ _ _ _ _ _=>rfl⟩
  rw[rq]
  by_cases hi:id∈ids
  ·rcases b.qf with⟨_,hf⟩|⟨_,hf⟩
   ·exact⟨b.bD,by simp[hi,hb],.inl (by rw[hf];simp)⟩
   ·exact⟨b.bD,by simp[hi,hb],.inr ⟨by rw[hf],by rw[hf];exact bX.refl _,rfl,fun _ _ _ _ cs hc=>⟨cs,hc,bA _⟩⟩⟩
  ·exact⟨b,by simp[hi,hb],.inr ⟨rfl,bX.refl _,rfl,fun _ _ _ _ cs hc=>⟨cs,hc,bA _⟩⟩⟩
 have back:∀id b,m.ag (bD m ids) id=some b→b.live→∃b0,m id=some b0∧b0.c=b.c∧(id∈ids∧b.fz=true∧¬b0.bI∨¬id∈ids∧b0=b):=by
  intro id b hb hl
  rw[rq] at hb
  by_cases hi:id∈ids
  ·simp[hi] at hb
   obtain⟨b0,h1,h2⟩:=hb
   subst h2
   rcases b0.qf with⟨_,hf⟩|⟨hd,hf⟩
   ·rw[hf] at hl;simp[aa.live] at hl
   ·exact⟨b0,h1,by rw[hf],.inl ⟨hi,by rw[hf],hd⟩⟩
  ·simp[hi] at hb
   exact⟨b,hb,rfl,.inr ⟨hi,rfl⟩⟩
 have live:∀{b0 b:aa},b0.c=b.c→b.live→b0.live:=by
  intro b0 b e hl
  unfold aa.live at *
  rw[e]
  exact hl
 refine⟨ha,hk,⟨fun id b hb=>?_,fun id id' b1 b2 B o1 o2 h1 h2 l1 l2 r1 r2=>?_,?_,fun B hB=>.inl (h.iJ B hB),?_,fun id b B o1 hb hl hr=>?_,?_,h.frame,h.size,h.os,h.tape,h.output,F.G.mono ha h.fU⟩⟩
 ·by_cases hbl:b.live
  case neg=>
   unfold aa.live at hbl
   unfold cM
   cases hc:b.c<;>simp[hc] at hbl
   trivial
  obtain⟨b0,hb0,hc,hf⟩:=back id b hb hbl
  have aA:=h.aN id b0 hb0
  have fV:=live hc hbl
  have noI:¬id∈ids→∀B,bO ρ id b0 B→dV m ρ I ids B→I B:=by
   rintro hi B hO (h'|⟨id',hi',b',de,h1,h2,h3⟩|⟨id',hi',b',h1,h2,h3⟩)
   ·exact h'
   ·have:=h.jC hb0 fV hO h1 h2 (.inl ⟨_,h3⟩)
    subst this
    exact absurd hi' hi
   ·have:=h.jC hb0 fV hO h1 (fj h2) (.inr ⟨h2,h3⟩)
    subst this
    exact absurd hi' hi
  have fzz:∀B o',ρ id=some (B,o')→b0.live→(b0.fz=true↔I B)→(b.fz=true↔dV m ρ I ids B):=by
   intro B o' hr hl hfz
   rcases hf with⟨hi,hf,_⟩|⟨hi,hf⟩
   ·simp[hf,true_iff]
    exact .inr (.inl ⟨id,hi,b0,o',hb0,hl,hr⟩)
   ·subst hf
    rw[hfz]
    exact⟨.inl,noI hi B (.inl ⟨_,hr⟩)⟩
  unfold cM at aA ⊢
  rw[←hc]
  split at aA
  ·trivial
  ·rename_i t a e
   obtain⟨h1,B,cs,h2,h3,h4,h5⟩:=aA
   exact⟨h1,B,cs,h2,h3,h4.mono ha hk,fzz B 0 h2 (kz e) h5⟩
  ·rename_i t xs e
   obtain⟨h0,aA⟩:=aA
   refine⟨h0,aA.imp (fun h=>h) ?_⟩
   rintro⟨B,o',cs,h2,h3,h4,h5,h6⟩
   exact⟨B,o',cs,h2,h3,h4,h5.mono (fun _=>rfl) (fun x vs h=>af.mono ha h),fzz B o' h2 (fC e) h6⟩
  ·rename_i rs t xs e
   have kg:b0.bI:=by unfold aa.bI;rw[e];trivial
   rcases hf with⟨_,_,aE⟩|⟨hi,hf⟩
   ·exact absurd kg aE
   ·subst hf
    obtain⟨h0,aA⟩:=aA
    refine⟨h0,aA.imp (fun h=>h) ?_⟩
    rintro⟨B,o',cs,h2,h3,h4,h5,h6⟩
    exact⟨B,o',cs,h2,h3,h4,h5.mono (fun _=>rfl) (fun x vs D hD h=>au.mono ha (fun B hB=>⟨rfl,noI hi B (.inr ⟨kg,hD B hB⟩)⟩) h),fun hI=>h6 (noI hi B (.inl ⟨_,h2⟩) hI)⟩
 ·obtain⟨c1,k1,e1,_⟩:=back id b1 h1 l1
  obtain⟨c2,k2,e2,_⟩:=back id' b2 h2 l2
  exact h.inj id id' c1 c2 B o1 o2 k1 k2 (live e1 l1) (live e2 l2) r1 r2
 ·rintro B (hB|⟨id,_,b,o',h1,h2,h3⟩|⟨id,_,b,h1,h2,h3⟩)
  ·exact h.aS B hB
  ·exact h.lt h1 h2 h3
  ·exact(h.dlt h1 h2 h3).1
 ·rintro B (hB|⟨id,_,b,o',h1,h2,h3⟩|⟨id,_,b,h1,h2,h3⟩)
  ·exact h.iu B hB
  ·exact .inr (h.mine id b B o' h1 h2 h3)
  ·exact .inr ((h.dp id b h1 h2).2 B h3).1
 ·obtain⟨c1,k1,e1,_⟩:=back id b hb hl
  exact h.mine id c1 B o1 k1 (live e1 hl) hr
 ·intro id b hb hd
  obtain⟨c1,k1,e1,_⟩:=back id b hb (fj hd)
  have deep:∀{b0 b:aa},b0.c=b.c→b.bI→b0.bI:=by
   intro b0 b e hl
   unfold aa.bI at *
   rw[e]
   exact hl
  obtain⟨q1,q2⟩:=h.dp id c1 k1 (deep e1 hd)
  refine⟨q1,fun B hB=>?_⟩
  obtain⟨g1,g2,g3⟩:=q2 B hB
  refine⟨g1,fun id' b' o h1 h2=>?_,fun id' b' h1 h2 h3=>?_⟩
  ·obtain⟨c2,k2,e2,_⟩:=back id' b' h1 h2
   exact g2 id' c2 o k2 (live e2 h2)
  ·obtain⟨c2,k2,e2,_⟩:=back id' b' h1 (fj h2)
   exact g3 id' c2 k2 (deep e2 h2) h3
def fQ.piece {α:Type}{B off sz:Nat}{R:α→List Value→Prop}{xs:List α}(h:fQ w B off sz R xs)(k n:Nat):fQ w B (off+k*sz) sz R ((xs.drop k).take n):=by
 intro i y hy
 rw[List.getElem?_take] at hy
 split at hy
 ·rw[zl5] at hy
  obtain⟨cs,f1,f2,f3⟩:=h _ _ hy
  refine⟨cs,f1,fun j hj=>?_,f3⟩
  rw[←f2 j hj]
  congr 2
  rw[cC]
  omega
 ·simp at hy
def q9 {I':Nat→Prop}(hm:aC F m w I ρ)(hI:∀B,I B→I' B):∀{a:AT} {d:DV} {vs:List Value},
  (∀id,id∈a.ids→∀b B o,m id=some b→b.live→ρ id=some (B,o)→I' B)→cR m a=some d→aq w I m ρ a vs→af w I' d.t d.x vs:=by
 have ha:bH I I' w w:=⟨hI,fun _ _=>rfl⟩
 have hap:∀{α:Type} (l l':List α) (x:α),x∈l∨x∈l'→x∈app l l':=by
  intro α l l' x h
  induction l with
  |nil=>simpa[app] using h
  |cons y l ih=>
   simp[app]
   grind
 intro a
 induction a with
 |leaf t x=>intro d vs _ h hr;simp[cR] at h;subst h;exact af.mono ha hr
 |nil t=>
  intro d vs _ h hr
  simp[cR] at h
  subst h
  subst hr
  simp only[af]
  simp
 |whole id st t=>
  intro d vs hf h hr
  simp only[cR,cq] at h
  obtain⟨⟨fz,xs⟩,hro,rfl⟩:=h
  have hb:=gW hro
  obtain⟨_,_,h3⟩:=hr
  obtain⟨ad,cap,e1,e2,e3⟩:=h3 _ hb rfl t xs.length rfl
  simp
  refine⟨ad,cap,e1,e2,?_⟩
  have aA:=hm.aN id _ hb
  obtain⟨h0,aA⟩:=aA
  rcases aA with⟨eF,_⟩|⟨B,o',cs,f1,f2,f3,f4,_⟩
  ·grind
  ·rcases e3 with e3|⟨B',de,cs',g1,g2,g3,g4⟩
   ·rw[←eC]
    omega
   ·right
    rw[f1] at g1
    cases g1
    exact⟨B,o',by simpa using g2,hf id (by simp[AT.ids]) _ B o' hb (fC rfl) f1,f4.mono (fun _=>rfl) (fun x vs h=>af.mono ha h)⟩
 |piece id st off len t=>
  intro d vs hf h hr
  simp only[cR,cq] at h
  obtain⟨⟨fz,xs⟩,hro,rfl⟩:=h
  have hb:=gW hro
  obtain⟨_,_,h3⟩:=hr
  obtain⟨ad,cap,e1,e2,e20,e3⟩:=h3 _ hb rfl t xs.length rfl
  simp
  have hl:((xs.drop off).take len).length=len:=by simp;omega
  refine⟨ad,cap,by rw[hl];exact e1,by rw[hl];exact e2,?_⟩
  have aA:=hm.aN id _ hb
  obtain⟨h0,aA⟩:=aA
  rcases aA with⟨eF,_⟩|⟨B,o',cs,f1,f2,f3,f4,_⟩
  ·subst eF;simp
  ·rcases e3 with e3|⟨B',de,cs',g1,g2,g3,g4⟩
   ·rw[←eC]
    omega
   ·right
    rw[f1] at g1
    cases g1
    exact⟨B,o'+off*t.size,by simpa using g2,hf id (by simp[AT.ids]) _ B o' hb (fC rfl) f1,(f4.piece off len).mono (fun _=>rfl) (fun x vs h=>af.mono ha h)⟩
 |pair l r ihl ihr=>
  intro d vs hf h hr
  simp[cR] at h
  split at h
  ·rename_i x y hx hy
   simp at h
   subst h
   obtain⟨v1,v2,rfl,h1,h2⟩:=hr
   exact⟨v1,v2,rfl,ihl (fun id hi=>hf id (hap _ _ _ (.inl hi))) hx h1,ihr (fun id hi=>hf id (hap _ _ _ (.inr hi))) hy h2⟩
  ·simp at h
 |_=>intro d vs _ h hr;simp[cR] at h
def lS {n:Nat}{b0:aa}(h:m n=some b0):b0.st<aP m n:=by grind [aP]
def aB.var {T:Nat}{t:Ty}{av:AT}{vs:List Value}(hm:aC F m w I ρ)(n:Nat)(ht:Typed av t)(hr:aq w I m ρ av vs) :
  let m':=m.put n ⟨aP m n,false,.var t av⟩
  let ρ':=ρ.put n (some (w.heap.size,0))
  aB F m m' w (w.alloc (.cells vs.toArray T)) I I ρ ρ'∧aj (w.alloc (.cells vs.toArray T)) I m' ρ' (.aR n (aP m n) []) (.pointer (some ⟨w.heap.size,0,none⟩)):=by
 have hd:=aB.new (F:=F) (m:=m) (w:=w) (I:=I) (ρ:=ρ) hm n ⟨aP m n,false,.var t av⟩ vs.toArray T (0,0) (by simp) (fun b0 h=>lS h) (fun hk hc=>by
  refine⟨ht,w.heap.size,vs,by simp[Pl.put],hc,hr.mono ⟨fun _ h=>h,fun B hB=>heap_alloc_old w _ B (hm.aS B hB)⟩ hk,?_⟩
  simp
  intro hI
  exact absurd (hm.aS _ hI) (lz _))
 refine⟨hd,?_⟩
 refine⟨gJ.pointer _,cy.of (b:=⟨aP m n,false,.var t av⟩) (by simp[MF.put]) rfl,fun b hb hs t' a' hc=>?_⟩
 exact⟨trivial,w.heap.size,by simp[Pl.put],rfl⟩
def xD {T:Nat}(hC:bR P C)(ho:o.op = .alloc T)(hm:aC F m w I ρ){dst:Nat}{t:Ty}(ht:C.ty T=some t) :
  az P F o a w m I ρ ⟨.aR dst (aP m dst) [],[(dst,⟨aP m dst,false,.var t (jL t)⟩)],[]⟩:=by
 have hT:=hC.ty ht
 obtain⟨h1,h2⟩:=lu (w:=w) (I:=I) (m:=m) (ρ:=ρ) hT
 obtain⟨hd,hs⟩:=aB.var (T:=T) hm dst h1 h2
 refine az.world (v:=.pointer (some ⟨w.heap.size,0,none⟩)) (w':=w.alloc (.cells (bg t).toArray T)) ?_ (by rw[MF.dG];omega) (by rw[MF.dG];omega)
 have:=gK hT (h1.length h2) (aq.cB h1 h2)
 simp[execOp,ho,Instr.alloc,hT.info.v8,newVar,newRow,this]
def xG {T:Nat}{x:Operand}{av:AT}(hC:bR P C)(ho:o.op = .box T x)(hm:aC F m w I ρ)(hx:aj w I m ρ av (a.eval x)){dst:Nat}{t:Ty}(ht:C.ty T=some t)(hf:av.fits t=true) :
  az P F o a w m I ρ ⟨.aR dst (aP m dst) [],[(dst,⟨aP m dst,false,.var t av⟩)],[]⟩:=by
 have hT:=hC.ty ht
 have h1:=j8 hf
 obtain⟨vs,hv,h2⟩:=aG.pack h1 ((gX h1).1 hx)
 obtain⟨hd,hs⟩:=aB.var (T:=T) hm dst h1 h2
 refine az.world (v:=.pointer (some ⟨w.heap.size,0,none⟩)) (w':=w.alloc (.cells vs.toArray T)) ?_ (by rw[MF.dG];omega) (by rw[MF.dG];omega)
 have:=gK hT (h1.length h2) (aq.cB h1 h2)
 simp_all [execOp,Instr.box,newVar,newRow]
end
section
variable {P:Program} {F:Fix} {C:Cx} {o:Oper} {a:Act} {w:World} {m:MF} {I:Nat→Prop} {ρ:Pl} {d:aD}
def rZ {place:Nat→Option (Nat×Nat)}{pre mid post aL:List Value}{i n:Nat}{v:Value}{rest:List (Nat×Value)}(hp:place i=some (pre.length,n))(hv:v.cells=aL.toArray)
  (h1:mid.length=n) (h2:aL.length=n) :
  Instr.fill place (pre++mid++post).toArray ((i,v)::rest)=Instr.fill place (pre++aL++post).toArray rest:=by
 conv=>lhs;unfold Instr.fill
 obtain⟨g1,g2⟩:=Great.foldl_set pre.length aL 0 (pre++mid++post).toArray
 have:(aL.toArray.zipIdx.foldl (fun cs (x:Value×Nat)=>cs.setIfInBounds (pre.length+x.2) x.1) (pre++mid++post).toArray)=(pre++aL++post).toArray:=by
  grind
 grind
def og {x:AT}{u:Option Ty}{v:Value}(h:aj w I m ρ x v):aj w I m ρ (cI u x) v:=by
 unfold cI
 split
 ·exact h
 ·grind
def rM {t:Ty}{place:Nat→Option (Nat×Nat)}{ρf:Operand→AT}
  (uM:∀i u,t.at (kZ t i)=some u→s6 t i=true→place i=some (t.off (kZ t i),u.size)∧(∃T',bh P u T')∧dX (kZ t i) t) :
  ∀(ps:List (Nat×Operand)) {b b':AT} {cs:List Value},Typed b t→aq w I m ρ b cs→(∀p∈ps,aj w I m ρ (ρf p.2) (a.eval p.2)) →
   mB t b (bu (fun p=>(p.1,ρf p.2)) ps)=some b' →
   ∃cs',Instr.fill place cs.toArray (ps.map fun p=>(p.1,a.eval p.2))=some cs'.toArray∧Typed b' t∧aq w I m ρ b' cs'
 | [],b,b',cs,ht,hr,_,h=>by
  simp[bu,mB] at h
  subst h
  exact⟨cs,rfl,ht,hr⟩
 | (i,x)::ps,b,b',cs,ht,hr,hs,h=>by
  simp[bu,mB] at h
  split at h
  ·rename_i u hu
   cases hf:(cI (some u) (ρf x)).fits u&&s6 t i with
   |false=>simp[hf] at h
   |true=>
    simp[hf] at h
    simp[] at hf
    split at h
    ·rename_i b2 cE
     obtain⟨hp,⟨T',hT'⟩,hpo⟩:=uM i u hu hf.2
     have aW:=j8 hf.1
     have hx:=og (u:=some u) (hs (i,x) (by simp))
     obtain⟨aL,hv,hmid⟩:=aG.pack aW ((gX aW).1 hx)
     have hlen:=aW.length hmid
     have hone:=aq.cB aW hmid
     have cV:(a.eval x).cells=aL.toArray:=by rw[hv];exact gK hT' hlen hone
     obtain⟨kn,pre,mid,post,e1,e2,e3,e4⟩:=lY _ ht hr hpo cE hu aW hmid
     obtain⟨cs',f1,f2,f3⟩:=rM uM ps kn e4 (fun p hp=>hs p (by simp[hp])) h
     refine⟨cs',?_,f2,f3⟩
     subst e1
     simp only[mT]
     rw[rZ (n:=u.size) (by rw[e2];exact hp) cV e3 hlen]
     exact f1
    ·simp at h
  ·simp at h
def xA {b:Ty}:∀{fs:List Field} {off:Nat},dO P b fs off→∃places,fs.mapM (fun f=>(P.info? f.type).map fun i=>(f.offset,i.size))=some places ∧
  ∀i u,b.at (bF i)=some u→places[i]?=some (off+b.off (bF i),u.size):=by
 induction b with
 |unit=>
  intro fs off h
  subst h
  exact⟨[],rfl,fun i u hu=>by cases i<;>simp[bF,Ty.at] at hu⟩
 |pair x y _ jr=>
  intro fs off h
  obtain⟨f,l,rfl,h1,h2,h3⟩:=h
  obtain⟨pl,e1,e2⟩:=jr (off:=off+x.size) h3
  obtain⟨i0,g1,g2,_⟩:=(bh.info (P:=P) (t:=x) h2).info
  refine⟨(f.offset,i0.size)::pl,by simp_all,fun i u hu=>?_⟩
  cases i<;>simp_all [bF,Ty.at,Ty.off,iM]
 |_=>intro fs off h;trivial
def xH {T:Nat}{parts:Array (Nat×Operand)}{ρf:Operand→AT}(hC:bR P C)(ho:o.op = .build T parts)(hm:aC F m w I ρ)(hs:∀p∈parts.toList,aj w I m ρ (ρf p.2) (a.eval p.2))
  (hd:rL C T (bu (fun p=>(p.1,ρf p.2)) parts.toList)=some d):az P F o a w m I ρ d:=by
 unfold rL at hd
 split at hd
 ·rename_i t ht
  have hT:=hC.ty ht
  cases cS:t.isAgg with
  |false=>simp[cS] at hd
  |true=>
  simp[cS] at hd
  obtain⟨b',hb',rfl⟩:=hd
  obtain⟨z1,z2⟩:=lu (w:=w) (I:=I) (m:=m) (ρ:=ρ) hT
  obtain⟨i0,g1,g2,g3,_⟩:=hT.info.info
  have ir:=gK hT (z1.length z2) (aq.cB z1 z2)
  have fin:∀cs',t.isAgg=true→P.built T (parts.map fun(i,x)=>(i,a.eval x)).toList=some cs'.toArray→Typed b' t→aq w I m ρ b' cs'→az P F o a w m I ρ ⟨b',[],[]⟩:=by
   intro cs' kP hb ht' hr'
   refine az.value hm (v:=.agg cs'.toArray) ?_ ((gX ht').2 ?_)
   ·simp[execOp,ho,run_build w T _ _ hb]
   ·unfold aG
    rw[ht'.isAgg,kP]
    exact⟨_,rfl,by simpa using hr'⟩
  cases t with
  |pair x y=>
   obtain⟨hinfo,fs,h1,f,l,h2,h3,h4,h5⟩:=hT
   have hF:dO P (.pair x y) fs.toList 0:=⟨f,l,h2,h3,h4,by simpa using h5⟩
   obtain⟨places,p1,p2⟩:=xA hF
   obtain⟨cs',q1,q2,q3⟩:=rM (P:=P) (t:=.pair x y) (place:=(places.toArray[·]?)) (fun i u hu _=>⟨by have:=p2 i u hu;simpa[kZ] using this,(by obtain⟨g,_,_,e⟩:=hF.field i hu;exact⟨_,e⟩),nM i hu⟩) parts.toList z1 z2 hs hb'
   refine fin cs' rfl ?_ q2 q3
   unfold Program.built
   simp[g1,h1,g3,p1,ir]
   rw[←q1]
   simp
  |arr n u=>
   obtain⟨hinfo,E,h1,h2,⟨k,rfl⟩,h4⟩:=hT
   obtain⟨ie,j1,j2,_⟩:=(bh.info (P:=P) (t:=.int k) h4).info
   obtain⟨cs',q1,q2,q3⟩:=rM (P:=P) (t:=.arr n (.int k)) (place:=fun i=>some (i*ie.size,ie.size)) (fun i u hu hok=>by
    simp[kZ,Ty.at] at hu
    subst hu
    refine⟨by simp[kZ,Ty.off,j2],⟨_,h4⟩,?_,trivial⟩
    exact fc hok) parts.toList z1 z2 hs hb'
   refine fin cs' rfl ?_ q2 q3
   unfold Program.built
   simp only[g1,h1,g3,j1,ir]
   rw[←q1]
   simp
  |unit=>
   obtain⟨hinfo,fs,h1,h2⟩:=hT
   cases hps:parts.toList with
   |nil=>
    rw[hps] at hb'
    simp[bu,mB] at hb'
    subst hb'
    refine fin (bg .unit) rfl ?_ z1 z2
    unfold Program.built
    simp[g1,h1,g3,h2]
    simp[hps,Instr.fill]
    exact ir
   |cons p l=>
    rw[hps] at hb'
    obtain⟨i,x⟩:=p
    simp[bu,mB] at hb'
    cases i<;>simp[kZ,bF,Ty.at] at hb'
  |_=>simp[Ty.isAgg] at cS
 ·simp at hd
end
section
variable {P:Program} {F:Fix} {C:Cx} {o:Oper} {a:Act} {w:World} {m:MF} {I:Nat→Prop} {ρ:Pl} {d:aD}
def bw {α:Type}{l l':List α}{x:α}:x∈app l l'↔x∈l∨x∈l':=by
 induction l with
 |nil=>simp[app]
 |cons y l ih=>simp[app,ih,or_assoc]
def vq {α β:Type}{f:α→List β}{l:List α}{y:β}:y∈fG f l↔∃x∈l,y∈f x:=by
 induction l with
 |nil=>simp[fG]
 |cons z l ih=>simp[fG,bw,ih]
def jw {α β:Type}(f:α→β)(l:List α):bu f l=l.map f:=by
 induction l with
 |nil=>rfl
 |cons x l ih=>simp[bu,ih]
def aT.rowsAt {α:Type}{R:α→List Value→Prop}{n:Nat}(hR:∀x vs,R x vs→vs.length=n){B off:Nat}{xs:List α}{cs:List Value}(h:aT R xs cs)
  (hc:∀j,j<cs.length→w.cell? ⟨B,off+j,none⟩=cs[j]?):fQ w B off n R xs:=by
 intro i x hx
 obtain⟨pre,mid,post,e1,e2,e3,_⟩:=h.split hR hx
 have hl:=hR _ _ e3
 refine⟨mid,hl,fun j hj=>?_,e3⟩
 have:=hc (i*n+j) (by grind)
 grind
def aT.replicate {α:Type}{R:α→List Value→Prop}{x:α}{vs:List Value}(h:R x vs):∀n,aT R (List.replicate n x) (List.replicate n vs).flatten
 |0=>rfl
 |n+1=>⟨vs,_,rfl,h,aT.replicate h n⟩
def aT.append {α:Type}{R:α→List Value→Prop}:∀{xs ys:List α} {cs ds:List Value},aT R xs cs→aT R ys ds→aT R (xs++ys) (cs++ds)
 | [],_,_,_,h,k=>by cases h;grind
 |_::_,_,_,_,⟨v1,v2,e,h1,h2⟩,k=>⟨v1,v2++_,by grind,h1,h2.append k⟩
def oQ (z:List Value)(n:Nat):(madeCells z.toArray (n*z.length)).toList=(List.replicate n z).flatten:=by
 induction n with
 |zero=>simp[madeCells]
 |succ n ih=>
  rw[List.replicate_succ',List.flatten_append,←ih]
  simp[madeCells]
  rw[show(n+1)*z.length=n*z.length+z.length by grind,List.range_add,zl54]
  congr 1
  apply List.ext_getElem?
  intro j
  by_cases hj:j<z.length
  ·simp[hj,Nat.mod_eq_of_lt hj]
  ·grind
def ru:∀{t:Ty},t.j3=true→(∀{T:Nat},bh P t T→af w I t t.dflt (bg t))∧(∀{fs off},dO P t fs off→af w I t t.dflt (bg t)):=by
 intro t
 induction t with
 |lst u _=>intro _;exact⟨fun _=>⟨none,0,rfl,bA _,.inl rfl⟩,fun _=>⟨none,0,rfl,bA _,.inl rfl⟩⟩
 |own u _=>intro h;trivial
 |pair x y iV jr=>
  intro h
  simp[Ty.j3] at h
  refine⟨fun {T} hT=>?_,fun {fs off} hF=>?_⟩
  ·obtain⟨_,fs,_,f,l,_,_,h1,h2⟩:=hT
   exact⟨_,_,rfl,(iV h.1).1 h1,(jr h.2).2 h2⟩
  ·obtain⟨f,l,_,_,h1,h2⟩:=hF
   exact⟨_,_,rfl,(iV h.1).1 h1,(jr h.2).2 h2⟩
 |arr n u ih=>
  intro h
  refine⟨fun {T} hT=>?_,fun {fs off} hF=>by unfold dO at hF;simp[TO] at hF⟩
  obtain⟨_,E,_,_,⟨k,rfl⟩,hT⟩:=hT
  exact⟨by simp[Ty.dflt],rJ k n⟩
 |ref u _=>intro h;simp[Ty.j3] at h
 |_=>intro _;exact⟨fun _=>rfl,fun _=>rfl⟩
def aB.rows {T:Nat}{t:Ty}{xs:List t.den}{cs rest:List Value}(hm:aC F m w I ρ)(n s:Nat)(hst:∀b0,m n=some b0→b0.st<s)(_hsz:0<t.size)(hr:aT (af w I t) xs cs)(len cap:Nat)(hl:len=xs.length)(bK:len≤cap)
  (hcap:cap*t.size≤(cs++rest).length) (fr:Nat×Nat:=(0,0)) (hfr:∀j,j<(cs++rest).toArray.size→¬(fr.1≤j∧j<fr.2):=by simp) :
  let m':=m.put n ⟨s,false,.rows t xs⟩
  let ρ':=ρ.put n (some (w.heap.size,0))
  let w':=w.alloc (.cells (cs++rest).toArray T fr)
  aB F m m' w w' I I ρ ρ'∧aj w' I m' ρ' (.whole n s t) (.slice (some ⟨w.heap.size,0,none⟩) len cap):=by
 subst hl
 have hRl:∀(x:t.den) vs,af w I t x vs→vs.length=t.size:=fun x vs h=>af.length h
 have hcs:=aT.length hRl hr
 have hd:=aB.new (F:=F) (m:=m) (w:=w) (I:=I) (ρ:=ρ) hm n ⟨s,false,.rows t xs⟩ (cs++rest).toArray T fr hfr hst (fun hk hc=>by
  refine⟨trivial,.inr ⟨w.heap.size,0,_,by simp[Pl.put],hc,by simp;omega,?_,?_⟩⟩
  ·have ha:bH I I w (w.alloc (.cells (cs++rest).toArray T fr)):=⟨fun _ h=>h,fun B hB=>heap_alloc_old w _ B (hm.aS B hB)⟩
   refine(aT.mono (fun x vs h=>af.mono ha h) hr).rowsAt (fun x vs h=>af.length h) fun j hj=>?_
   rw[hc.cell]
   simp[eM hj]
  ·simp
   intro hI
   exact absurd (hm.aS _ hI) (lz _))
 refine⟨hd,?_⟩
 refine⟨⟨_,rfl,rfl⟩,cy.of (b:=⟨s,false,.rows t xs⟩) (by simp[MF.put]) rfl,fun b hb hs t' xs' hc=>?_⟩
 simp[MF.put] at hb
 subst hb
 cases hc
 refine⟨_,cap,rfl,bK,.inr ⟨w.heap.size,0,(cs++rest),by simp[Pl.put],by simp,?_,by omega⟩⟩
 have:=Cells.alloc w (cs++rest).toArray T fr hfr
 simpa using this
def xZ {T:Nat}{xl xc:Operand}{al ac:AT}{l c:Int}{dst:Nat}(hC:bR P C)(ho:o.op = .makeSlice T xl xc)(hm:aC F m w I ρ)(hl:aj w I m ρ al (a.eval xl))(hc:aj w I m ρ ac (a.eval xc))
  (hil:gS al=some l) (hic:gS ac=some c) (mE:∀t,C.el T=some t→(C.dp&&t.aV)=false) (hd:nB C m dst T l c=some d) (hok:∀b∈d.ok,b=true):az P F o a w m I ρ d:=by
 obtain⟨kl,hkl⟩:=js hil hl
 obtain⟨kc,hkc⟩:=js hic hc
 unfold nB at hd
 split at hd
 ·rename_i t ht
  obtain⟨hz,hd⟩:=aU hd
  simp at hz
  obtain⟨hz,_⟩:=hz
  ·rw[mE t ht] at hd
   cases hd
   simp at hok
   obtain⟨h0,hlc,jU⟩:=hok
   obtain⟨E,h1,h2,h3⟩:=hC.el ht
   obtain⟨i0,g1,g2,g3,g4⟩:=h3.info.info
   obtain⟨z1,z2⟩:=lu (w:=w) (I:=I) (m:=m) (ρ:=ρ) h3
   have ir:=gK h3 (z1.length z2) (aq.cB z1 z2)
   have hzl:=z1.length z2
   have hmx:c≤34359738368:=by unfold eV at jU;omega
   have hb:(i0.bytes:Int)*c≤281474976710656:=by
    have h5:(i0.bytes:Int)≤4096:=by omega
    have:=Int.mul_le_mul h5 hmx (by omega) (by omega)
    omega
   have hrun:=run_make (P:=P) w T E i0 _ h1 g1 g3 kl kc l c h0 hlc hb (by omega)
   have cV:madeCells (aQ t (bg t)).cells (c.toNat*i0.size)=((List.replicate l.toNat (bg t)).flatten++(List.replicate (c.toNat-l.toNat) (bg t)).flatten).toArray:=by
    apply j0
    rw[ir,g2,←hzl,oQ,←List.flatten_append,List.replicate_append_replicate,show l.toNat+(c.toNat-l.toNat)=c.toNat by omega]
   rw[cV] at hrun
   have hz':=(ru (P:=P) (w:=w) (I:=I) hz).1 h3
   obtain⟨hd,hs⟩:=aB.rows (T:=E) (rest:=(List.replicate (c.toNat-l.toNat) (bg t)).flatten) hm dst _ (fun b0 h=>lS h) h2 (aT.replicate hz' l.toNat) l.toNat c.toNat (by simp) (by omega) (by
    simp[hzl]
    rw[←cC]
    apply Nat.le_of_eq
    congr 1
    omega)
   exact az.world (v:=.slice (some ⟨w.heap.size,0,none⟩) l.toNat c.toNat) (w':=w.alloc (.cells ((List.replicate l.toNat (bg t)).flatten++(List.replicate (c.toNat-l.toNat) (bg t)).flatten).toArray E)) (by simp only[execOp,ho,hkl,hkc,Sem.run_bind,hrun];rfl) (by rw[MF.dG];exact hd) (by rw[MF.dG];exact hs)
 ·simp at hd
def vf {I':Nat→Prop}{t:Ty}{T':Nat}{len:Nat}{ρf:Operand→AT}(hT:bh P t T')(hm:aC F m w I ρ)(hI:∀B,I B→I' B) :
  ∀(ps:List (Nat×Operand)) {xs ys:List t.den} {cs:List Value},xs.length=len→aT (af w I' t) xs cs→(∀p∈ps,aj w I m ρ (ρf p.2) (a.eval p.2)) →
   (∀p∈ps,∀id∈(ρf p.2).ids,∀b B o,m id=some b→b.live→ρ id=some (B,o)→I' B) →
   ny m t len xs (bu (fun p=>(p.1,ρf p.2)) ps)=some ys →
   ∃cs',Instr.fill (fun i=>some (i*t.size,t.size)) cs.toArray (ps.map fun p=>(p.1,a.eval p.2))=some cs'.toArray∧ys.length=len∧aT (af w I' t) ys cs'
 | [],xs,ys,cs,hl,hr,_,_,h=>by
  simp[bu,ny] at h
  subst h
  exact⟨cs,rfl,hl,hr⟩
 | (i,x)::ps,xs,ys,cs,hl,hr,hs,hf,h=>by
  simp[bu,ny] at h
  cases hb:Nat.ble (i+1) len&&(cI (some t) (ρf x)).fits t with
  |false=>grind
  |true=>
   simp[hb] at h
   simp only[bB] at hb
   have hi:=fc hb.1
   split at h
   ·rename_i d0 hd0
    split at h
    ·rename_i y hy
     have aW:=j8 hb.2
     have hx:=og (u:=some t) (hs (i,x) (by simp))
     obtain⟨aL,hv,hmid⟩:=aG.pack aW ((gX aW).1 hx)
     have hlen:=aW.length hmid
     have cV:(a.eval x).cells=aL.toArray:=by rw[hv];exact gK hT hlen (aq.cB aW hmid)
     have lI:∀id∈(cI (some t) (ρf x)).ids,∀b B o,m id=some b→b.live→ρ id=some (B,o)→I' B:=by
      intro id hid
      refine hf (i,x) (by simp) id ?_
      revert hid
      unfold cI
      split
      ·intro h;simp[AT.ids] at h
      ·exact fun h=>h
     have iq:=q9 hm hI lI hd0 hmid
     obtain⟨e,he⟩:=DV.cz hy
     cases d0 with
     |mk dt dx=>
      subst e
      subst he
      obtain⟨pre,mid,post,e1,e2,e3,e4⟩:=aT.split (fun x vs h=>af.length h) hr (nk (z:=dt.dflt) (i:=i) (by omega))
      obtain⟨cs',f1,f2,f3⟩:=vf hT hm hI ps (by simpa using hl) (e4 _ _ iq) (fun p hp=>hs p (by simp[hp])) (fun p hp=>hf p (by simp[hp])) h
      refine⟨cs',?_,f2,f3⟩
      subst e1
      simp only[mT]
      rw[rZ (n:=dt.size) (by rw[e2]) cV (af.length e3) hlen]
      exact f1
    ·simp at h
   ·simp at h
def aB.rows' {T:Nat}{t:Ty}{xs:List t.den}{cs:List Value}{ids:List Nat}(hm:aC F m w I ρ)(n:Nat)(hsz:0<t.size)(hr:aT (af w (dV m ρ I ids) t) xs cs)(len:Nat)(hl:len=xs.length)(hni:¬n∈ids) :
  let I':=dV m ρ I ids
  let m':=(m.ag (bD m ids)).put n ⟨aP m n,false,.rows t xs⟩
  let ρ':=ρ.put n (some (w.heap.size,0))
  let w':=w.alloc (.cells cs.toArray T)
  aB F m m' w w' I I' ρ ρ'∧aj w' I' m' ρ' (.whole n (aP m n) t) (.slice (some ⟨w.heap.size,0,none⟩) len len):=by
 have h1:=aB.freeze hm ids
 have hst:aP (m.ag (bD m ids)) n=aP m n:=by
  unfold aP
  rw[rq]
  grind
 have hcs:=aT.length (fun(x:t.den) vs (h:af w (dV m ρ I ids) t x vs)=>af.length h) hr
 obtain⟨h2,h3⟩:=aB.rows (T:=T) (rest:=[]) h1.mem n _ (fun b0 h=>lS h) hsz hr len len hl (bA _) (by grind)
 rw[hst] at h2 h3
 simp at h2 h3
 exact⟨h1.trans h2,h3⟩
def xK {T len:Nat}{parts:Array (Nat×Operand)}{ρf:Operand→AT}{dst:Nat}(hC:bR P C)(ho:o.op = .buildSlice T len parts)(hm:aC F m w I ρ)
  (hs:∀p∈parts.toList,aj w I m ρ (ρf p.2) (a.eval p.2)) (mE:∀t,C.el T=some t→(C.dp&&t.aV)=false) (hd:m9 C m dst T len (bu (fun p=>(p.1,ρf p.2)) parts.toList)=some d):az P F o a w m I ρ d:=by
 unfold m9 at hd
 split at hd
 ·rename_i t ht
  rw[mE t ht] at hd
  cases hz0:t.j3&&Nat.ble (len*t.size) 16777216 && !(bW (Nat.beq dst) (fG (fun p=>p.2.ids) (bu (fun p=>(p.1,ρf p.2)) parts.toList))) with
  |false=>simp[hz0] at hd
  |true=>
   simp[hz0] at hd
   simp only[bB] at hz0
   obtain⟨hz,aE⟩:=hz0
   have hni:¬dst∈fG (fun p=>p.2.ids) (bu (fun p=>(p.1,ρf p.2)) parts.toList):=by
    intro hmem
    have:bW (Nat.beq dst) (fG (fun p=>p.2.ids) (bu (fun p=>(p.1,ρf p.2)) parts.toList))=true:=by
     revert hmem
     generalize fG (fun p=>p.2.ids) (bu (fun p=>(p.1,ρf p.2)) parts.toList)=l
     intro hmem
     induction l with
     |nil=>simp at hmem
     |cons x l ih=>
      simp only[bW,rz]
      rcases bN.1 hmem with h|h
      ·exact .inl (by subst h;exact Nat.beq_refl _)
      ·exact .inr (ih h)
    rw[this] at aE
    cases aE
   have hsm:=fc hz.2
   obtain⟨ys,hys,rfl⟩:=hd
   obtain⟨E,h1,h2,h3⟩:=hC.el ht
   obtain⟨i0,g1,g2,g3,g4⟩:=h3.info.info
   obtain⟨z1,z2⟩:=lu (w:=w) (I:=I) (m:=m) (ρ:=ρ) h3
   have ir:=gK h3 (z1.length z2) (aq.cB z1 z2)
   have hzl:=z1.length z2
   let ids:=fG (fun p=>p.2.ids) (bu (fun p=>(p.1,ρf p.2)) parts.toList)
   have hz':=(ru (P:=P) (w:=w) (I:=dV m ρ I ids) hz.1).1 h3
   obtain⟨cs',q1,q2,q3⟩:=vf (P:=P) (I':=dV m ρ I ids) h3 hm (fun _ h=>.inl h) parts.toList (by simp) (aT.replicate hz' len) hs (fun p hp id hid b B o' h1 h2 h3=>.inr (.inl ⟨id,by
    refine vq.2 ⟨(p.1,ρf p.2),?_,hid⟩
    rw[jw]
    exact gG.2 ⟨p,hp,rfl⟩,b,o',h1,h2,h3⟩)) hys
   obtain⟨hd,hsl⟩:=aB.rows' (T:=E) hm dst h2 q3 len q2.symm hni
   have hrun:(Instr.buildSlice T len (parts.map fun(i,x)=>(i,a.eval x))).run P w = .ok (.slice (some ⟨w.heap.size,0,none⟩) len len) (w.alloc (.cells cs'.toArray E)):=by
    by_cases fV:len=0
    ·subst fV
     cases hps:parts.toList with
     |nil=>
      rw[hps] at q1
      simp[Instr.fill] at q1
      have:=by simpa using hps
      subst this
      simp[Instr.buildSlice,run_underlying h1,h3.info.run_sizeOf,Instr.fill,newRow,q1,Array.range_zero']
     |cons p l=>
      rw[hps] at hys
      obtain⟨i,x⟩:=p
      have:Nat.ble (i+1) 0=false:=rfl
      simp[bu,ny,this] at hys
    ·have hne:¬len*i0.size=0:=by
      rw[g2]
      exact Nat.ne_of_gt (Nat.mul_pos (by omega) h2)
     refine run_buildSlice w T E len _ _ i0 _ h1 g1 g3 (by rw[g2];omega) hne ?_
     have cV:((Array.range (len*i0.size)).map ((aQ t (bg t)).cells[· % (aQ t (bg t)).cells.size]!))=(List.replicate len (bg t)).flatten.toArray:=by
      apply j0
      have:=oQ (bg t) len
      unfold madeCells at this
      rw[ir,g2,←hzl,this]
     rw[cV,g2,←q1]
     simp
   exact az.world (v:=.slice (some ⟨w.heap.size,0,none⟩) len len) (w':=w.alloc (.cells cs'.toArray E)) (by simp only[execOp,ho,Sem.run_bind,hrun];rfl) (by rw[MF.pM];exact hd) (by rw[MF.pM];exact hsl)
 ·simp at hd
end
section
variable {P:Program} {F:Fix} {C:Cx} {o:Oper} {a:Act} {w:World} {m:MF} {I:Nat→Prop} {ρ:Pl} {d:aD}
def fQ.cells {α:Type}{R:α→List Value→Prop}{B sz:Nat}:∀{xs:List α} {off:Nat},fQ w B off sz R xs →
  ∃cs,aT R xs cs∧cs.length=xs.length*sz∧∀j,j<cs.length→w.cell? ⟨B,off+j,none⟩=cs[j]?
 | [],off,_=>⟨[],rfl,by simp,fun j hj=>by grind⟩
 |x::xs,off,h=>by
  obtain⟨cs,h1,h2,h3⟩:=h 0 x rfl
  obtain⟨ds,k1,k2,k3⟩:=fQ.cells (xs:=xs) (off:=off+sz) (fun i y hy=>by
   obtain⟨es,e1,e2,e3⟩:=h (i+1) y (by grind)
   refine⟨es,e1,fun j hj=>?_,e3⟩
   rw[←e2 j hj]
   congr 2
   grind)
  refine⟨cs++ds,⟨cs,ds,rfl,h3,k1⟩,by grind,fun j hj=>?_⟩
  grind
def ListAt (w:World)(I:Nat→Prop)(t:Ty)(xs:List t.den)(v:Value):Prop:=
 ∃ad cap,v = .slice ad xs.length cap∧xs.length≤cap∧(xs = []∨∃B off,ad=some ⟨B,off,none⟩∧fQ w B off t.size (af w I t) xs)
def sM {y:AT}{v:Value}{t:Ty}{dv:DV}{ys:List t.den}(hm:aC F m w I ρ)(hs:aj w I m ρ y v)(hv:cR m y=some dv)(ht:dv.as (.lst t)=some ys):ListAt w I t ys v:=by
 obtain⟨e,he⟩:=DV.cz ht
 cases dv with
 |mk dt dx=>
  simp at e
  subst e
  subst he
  cases y<;>simp only[cR,reduceCtorEq] at hv
  case leaf u x=>
   cases hv
   have:=cj (a:=.leaf (.lst t) dx) rfl hs (by simp) (by simp) (by simp) (by simp)
   simp[aq,af] at this
   obtain⟨ad,cap,e1,e2,e3⟩:=this
   exact⟨ad,cap,e1,e2,e3.imp (fun h=>h) fun⟨B,off,h1,_,h2⟩=>⟨B,off,h1,h2⟩⟩
  case nil u=>
   cases hv
   have:=cj (a:=.nil t) rfl hs (by simp) (by simp) (by simp) (by simp)
   simp[aq] at this
   exact⟨none,0,by grind,by simp,.inl rfl⟩
  case whole id st u=>
   simp only[cq] at hv
   obtain⟨⟨fz,xs⟩,hro,hv⟩:=hv
   cases hv
   have hb:=gW hro
   obtain⟨ad,cap,e1,e2,e3⟩:=yj hs hro
   refine⟨ad,cap,e1,e2,?_⟩
   have aA:=hm.aN id _ hb
   obtain⟨h0,aA⟩:=aA
   rcases aA with⟨eF,_⟩|⟨B,o',cs,f1,f2,f3,f4,_⟩
   ·grind
   ·rcases e3 with e3|⟨B',de,cs',g1,g2,g3,g4⟩
    ·left
     show xs = []
     rw[←eC]
     omega
    ·right
     rw[f1] at g1
     cases g1
     exact⟨B,o',by simpa using g2,f4⟩
  case piece id st off len u=>
   simp only[cq] at hv
   obtain⟨⟨fz,xs⟩,hro,hv⟩:=hv
   cases hv
   have hb:=gW hro
   obtain⟨ad,cap,e1,e2,e20,e3⟩:=nr hs hro
   have hl:((xs.drop off).take len).length=len:=by simp;omega
   refine⟨ad,cap,by rw[hl];exact e1,by rw[hl];exact e2,?_⟩
   have aA:=hm.aN id _ hb
   obtain⟨h0,aA⟩:=aA
   rcases aA with⟨eF,_⟩|⟨B,o',cs,f1,f2,f3,f4,_⟩
   ·subst eF;simp
   ·rcases e3 with e3|⟨B',de,cs',g1,g2,g3,g4⟩
    ·rw[←eC,hl]
     omega
    ·right
     rw[f1] at g1
     cases g1
     exact⟨B,o'+off*t.size,by simpa using g2,f4.piece off len⟩
  case pair l r=>
   split at hv<;>simp at hv
def n8 (P:Program)(w:World)(size:Nat)(x:Value)(n:Nat)(news:List Value):Prop:=
 (Builtin.lenOf x).run P w = .ok n w∧∀w':World,w'.heap=w.heap→(Builtin.firstCells size n x).run P w' = .ok news.toArray w'
def rI:∀s,aT (fun(x:Int) (vs:List Value)=>vs = [.int .u8 x]) (bytesOf s) (s.map fun b=>Value.int .u8 b.toNat)
 | []=>rfl
 |b::s=>⟨[.int .u8 b.toNat],_,rfl,rfl,rI s⟩
def zZ {y:AT}{v:Value}{t:Ty}{ys:List t.den}(hm:aC F m w I ρ)(hs:aj w I m ρ y v)(hd:tailD m t y=some ys) :
  ∃news,n8 P w t.size v ys.length news∧aT (af w I t) ys news:=by
 unfold tailD at hd
 split at hd
 ·rename_i s
  simp at hd
  subst hd
  have e:=jF.1 hs
  subst e
  refine⟨s.map fun b=>Value.int .u8 b.toNat,⟨by simp[Builtin.lenOf,ByteArray.size,bytesOf],fun w' _=>?_⟩,by have:=rI s;exact aT.mono (fun x vs h=>by simpa[af] using h) this⟩
  simp[Builtin.firstCells]
  simp[bytesOf]
  rw[zl57 (by simp)]
 ·obtain⟨dv,hv,ht⟩:=l9.1 hd
  obtain⟨ad,cap,e1,e2,e3⟩:=sM hm (og (u:=some (.lst t)) hs) hv ht
  subst e1
  rcases e3 with e3|⟨B,off,e3,e4⟩
  ·subst e3
   refine⟨[],⟨by simp[Builtin.lenOf],fun w' _=>?_⟩,rfl⟩
   cases ad<;>simp[Builtin.firstCells,loadCells,loadCellsFrom]
  ·subst e3
   obtain⟨cs,f1,f2,f3⟩:=e4.cells
   refine⟨cs,⟨by simp[Builtin.lenOf],fun w' hw=>?_⟩,f1⟩
   have:(loadCells ⟨B,off,none⟩ cs.length).run P w' = .ok cs.toArray w':=qR fun j hj=>by
    rw[←f3 j hj]
    simp[World.cell?,hw]
   simp[Builtin.firstCells,←f2,this]
def vP {α:Type}{xs ys:List α}{k:Nat}(h:k+ys.length≤xs.length):(fZ xs k ys).length=xs.length:=by
 simp[fZ];omega
def zf {α:Type}{xs ys:List α}{k:Nat}(h:k+ys.length≤xs.length)(j:Nat):(fZ xs k ys)[j]?=if k≤j∧j<k+ys.length then ys[j-k]? else xs[j]? :=by
 grind [fZ]
def aB.fZ {t:Ty}{id st:Nat}{xs ys:List t.den}{news:List Value}(P:Program)(hm:aC F m w I ρ)(hb:m id=some ⟨st,false,.rows t xs⟩)(hn:aT (af w I t) ys news)(k:Nat)(hk:k+ys.length≤xs.length) :
  (xs = []∧ρ id=none∧aB F m (m.put id ⟨st,false,.rows t (fZ xs k ys)⟩) w w I I ρ ρ) ∨
  ∃B o' w',ρ id=some (B,o')∧(storeCells ⟨B,o'+k*t.size,none⟩ news 0).run P w = .ok () w'∧aB F m (m.put id ⟨st,false,.rows t (fZ xs k ys)⟩) w w' I I ρ ρ ∧
   (∀cs,Cells w B cs→∃cs',Cells w' B cs'∧cs'.length=cs.length):=by
 have jm:=aT.length (fun(x:t.den) vs (h:af w I t x vs)=>af.length h) hn
 have aA:=hm.aN id _ hb
 obtain⟨h0,aA⟩:=aA
 rcases aA with⟨eF,hno⟩|⟨B,o',cs,k1,k2,k3,k4,k5⟩
 ·left
  refine⟨eF,hno,?_⟩
  subst eF
  have hy:ys = []:=by rw[←eC];have:=hk;rw[rA] at this;omega
  subst hy
  have e:m.put id ⟨st,false,.rows t (Go.Ab.fZ [] k [])⟩=m:=by
   funext j
   simp only[MF.put]
   by_cases hj:id=j
   ·subst hj;rw[hb];simp[Go.Ab.fZ]
   ·rw[cT hj]
  rw[e]
  exact aB.refl hm
 ·right
  have hle:o'+k*t.size+news.length≤cs.length:=by
   rw[jm,iM,←cC]
   have:=gH t.size hk
   omega
  obtain⟨w',hr,aI,hsame,hsize,hos,gB,hout⟩:=pE P B (o'+k*t.size) news 0 cs w k2 (by simpa using hle) (aT.cB (fun x vs h=>af.cB h) hn)
  simp at aI
  have cW:=by simpa using k5
  have hlen':=pn hle
  have hol:=vP hk
  refine⟨B,o',w',k1,hr,?_,fun ds hds=>⟨_,aI,by rw[hlen',k2.unique hds]⟩⟩
  refine aB.write hm id ⟨st,false,.rows t xs⟩ ⟨st,false,.rows t (Go.Ab.fZ xs k ys)⟩ B o' cs _ hb (fC rfl) (.inr ⟨rfl,?_⟩) k1 cW k2 aI (by omega) hsame hsize hos gB hout (fun ha hk'=>?_)
  ·exact⟨rfl,hol.symm⟩
  ·refine⟨h0,.inr ⟨B,o',_,k1,aI,by rw[hol];omega,?_,by simpa using cW⟩⟩
   intro j x hj
   rw[zf hk] at hj
   split at hj
   ·obtain⟨pre,mid,post,q1,q2,q3,_⟩:=hn.split (fun x vs h=>af.length h) hj
    have hml:=af.length q3
    refine⟨mid,hml,fun j' hj'=>?_,af.mono ha q3⟩
    have hjm:j*t.size=k*t.size+(j-k)*t.size:=by rw[←cC];congr 1;omega
    have hnews:news[(j-k)*t.size+j']?=mid[j']? :=by
     rw[q1,cZ,gj (by omega),eM (by omega)]
     congr 1
     omega
    have hnl':(j-k)*t.size+j'<news.length:=by rw[q1];simp;omega
    rw[aI.cell,jD hle,bQ (by omega),←hnews]
    congr 1
    omega
   ·obtain⟨es,q1,q2,q3⟩:=k4 j x hj
    refine⟨es,q1,fun j' hj'=>?_,af.mono ha q3⟩
    rw[←q2 j' hj',aI.cell,k2.cell,jD hle,cT]
    by_cases hjk:j<k
    ·have:(j+1)*t.size≤k*t.size:=gH _ hjk
     rw[cC] at this
     omega
    ·have:(k+ys.length)*t.size≤j*t.size:=gH _ (by omega)
     rw[cC] at this
     omega
section
variable {T T2 E:TypeId} {jj:TypeDesc} {ty:TypeId} {i:TypeInfo} {z:Value}
def k7 {base:Option Addr}{sLen sCap n:Nat}{x:Value}{news:List Value}{w':World}(hT:P.underlying T=some (.slice E))(fo:P.underlying T2=some jj)(hk:∀k,jj ≠ .int k)(hi:P.info? E=some i)
  (ht:n8 P w i.size x n news) (h:sLen+n≤sCap)
  (hst:match base with | some ad=>(storeCells (ad.add (sLen*i.size)) news 0).run P w = .ok () w'|none=>w'=w) :
  (Builtin.append_ #[T,T2] ty #[.slice base sLen sCap,x]).run P w = .ok (.slice base (sLen+n) sCap) w':=by
 have hz:(jj matches .int _)=false:=by
  cases jj<;>first|rfl|exact absurd rfl (hk _)
 have hf:=ht.2 w rfl
 cases base with
 |none=>
  subst hst
  simp[Builtin.append_,run_underlying hT,run_underlying fo,sizeOf,typeInfo,hi,ht.1,h,hf]
 |some ad=>
  simp[Builtin.append_,run_underlying hT,run_underlying fo,sizeOf,typeInfo,hi,ht.1,h,hf,hst]
def qO {base:Option Addr}{sLen sCap n:Nat}{x:Value}{olds news:List Value}(hT:P.underlying T=some (.slice E))(fo:P.underlying T2=some jj)(hk:∀k,jj ≠ .int k)(hi:P.info? E=some i)
  (hz0:i.zero=some z) (ht:n8 P w i.size x n news) (h:sCap<sLen+n) (ho:∀w',w'.heap=w.heap→(Builtin.firstCells i.size sLen (.slice base sLen sCap)).run P w' = .ok olds.toArray w')
  (h63:sLen+n≤34359738368) (hby:i.bytes≤4096) :
  (Builtin.append_ #[T,T2] ty #[.slice base sLen sCap,x]).run P w = .ok (.slice (some ⟨w.heap.size,0,none⟩) (sLen+n) (grownCap w (sLen+n) sCap E))
   (w.drew.alloc (.cells (olds++news++(Builtin.zeroCells z.cells (grownCap w (sLen+n) sCap E-(sLen+n))).toList).toArray E)):=by
 have hn:¬(sLen+n≤sCap):=by omega
 have h63':¬(9223372036854775807<((sLen:Int)+(n:Int))):=by omega
 have hb:=by
  have:=Nat.mul_le_mul h63 hby
  omega
 have h48':¬(281474976710656<Builtin.nextslicecap (sLen+n) sCap*i.bytes):=by have:=growslice_fits h hb;omega
 have hf:=ht.2 w.drew rfl
 have hfo:=ho w.drew rfl
 simp[Builtin.append_,run_underlying hT,run_underlying fo,sizeOf,typeInfo,zeroValue,hi,hz0,ht.1,hn,h63',h48',Question.forced,hf,hfo,newRow,grownCap]
 apply congrArg
 simp[]
end
def qT (z:Array Value)(n:Nat):(Builtin.zeroCells z n).toList.length=n*z.size:=by simp[Builtin.zeroCells]
def pI {t:Ty}{v:Value}{y:AT}(hy:y = .nil t∨y = .dU)(h:aj w I m ρ y v):v = .slice none 0 0:=by
 rcases hy with rfl|rfl
 ·have:=cj (a:=.nil t) rfl h (by simp) (by simp) (by simp) (by simp)
  simpa[aq] using this
 ·have:=cj (a:=.dU) rfl h (by simp) (by simp) (by simp) (by simp)
  simpa[aq] using this
def aB.empty {t:Ty}(hm:aC F m w I ρ)(n s:Nat)(hst:∀b0,m n=some b0→b0.st<s)(_hsz:0<t.size) :
  let m':=m.put n ⟨s,false,.rows t []⟩
  aB F m m' w w I I ρ (ρ.put n none)∧aj w I m' (ρ.put n none) (.whole n s t) (.slice none 0 0):=by
 refine⟨aB.stale hm n _ hst (.inr ⟨t,rfl⟩),?_⟩
 refine⟨⟨_,rfl,rfl⟩,cy.of (b:=⟨s,false,.rows t []⟩) (by simp[MF.put]) rfl,fun b hb hs t' xs' hc=>?_⟩
 simp[MF.put] at hb
 subst hb
 cases hc
 exact⟨none,0,rfl,bA _,.inl ⟨rfl,rfl,by simp[Pl.put]⟩⟩
def aB.grown {E:TypeId}{t:Ty}{xs:List t.den}{cs rest:List Value}(hm:aC F m w I ρ)(n s:Nat)(hst:∀b0,m n=some b0→b0.st<s)(hsz:0<t.size)(hr:aT (af w I t) xs cs)(len cap:Nat)(hl:len=xs.length)(bK:len≤cap)
  (hcap:cap*t.size≤(cs++rest).length) (fr:Nat×Nat:=(0,0)) (hfr:∀j,j<(cs++rest).toArray.size→¬(fr.1≤j∧j<fr.2):=by simp) :
  let m':=m.put n ⟨s,false,.rows t xs⟩
  let ρ':=ρ.put n (some (w.heap.size,0))
  let w':=w.drew.alloc (.cells (cs++rest).toArray E fr)
  aB F m m' w w' I I ρ ρ'∧aj w' I m' ρ' (.whole n s t) (.slice (some ⟨w.heap.size,0,none⟩) len cap):=by
 have h1:=aB.drew hm
 have hr':=aT.mono (fun x vs h=>af.mono h1.j7 h) hr
 obtain⟨h2,h3⟩:=aB.rows (T:=E) h1.mem n s hst hsz hr' len cap hl bK hcap fr hfr
 exact⟨h1.trans h2,h3⟩
def xE {T T2:Nat}{xo yo:Operand}{ax ay:AT}{dst:Nat}{t:Ty}{jj:TypeDesc}(hC:bR P C)(ho:o.op = .call ⟨.builtin .append,#[xo,yo],#[T,T2]⟩)(hm:aC F m w I ρ)
  (hx:aj w I m ρ ax (a.eval xo)) (hy:aj w I m ρ ay (a.eval yo)) (ht:C.el T=some t) (fo:P.underlying T2=some jj) (hk:∀k,jj ≠ .int k)
  (mE:sK m ay=false) (hd:oa C m dst t ax ay=some d) (hok:∀b∈d.ok,b=true):az P F o a w m I ρ d:=by
 obtain⟨E,h1,h2,h3⟩:=hC.el ht
 obtain⟨i0,g1,g2,g3,g4⟩:=h3.info.info
 obtain⟨z1,z2⟩:=lu (w:=w) (I:=I) (m:=m) (ρ:=ρ) h3
 have ir:=gK h3 (z1.length z2) (aq.cB z1 z2)
 have hzl:=z1.length z2
 have hzs:(aQ t (bg t)).cells.size=t.size:=by grind
 have fI:∀{v:Value} {w':World},(Builtin.append_ #[T,T2] o.type #[a.eval xo,a.eval yo]).run P w = .ok v w'→(execOp a.eval o).run P w = .ok (.value v) w':=by
  intro v w' h
  simp[execOp,ho,resolve,invoke,builtin,h]
 unfold oa at hd
 rw[mE,pO] at hd
 split at hd
 ·grind
 ·rename_i ys hys
  obtain⟨news,gQ,kn⟩:=zZ hm hy hys
  have jm:=aT.length (fun(x:t.den) vs (h:af w I t x vs)=>af.length h) kn
  rw[←g2] at gQ
  have fresh:∀{y:AT},y=ax→(y = .nil t∨y = .dU)→ys.length≤eV →
    az P F o a w m I ρ ⟨.whole dst (aP m dst) t,[(dst,⟨aP m dst,false,.rows t ys⟩)],[decide (ys.length≤eV)]⟩:=by
   intro y hya hyn jU
   subst hya
   have hv:=pI hyn hx
   cases lK:ys with
   |nil=>
    subst lK
    have hn0:news = []:=by rw[←eC,jm];simp
    obtain⟨hd,hs⟩:=aB.empty (t:=t) hm dst (aP m dst) (fun b0 h=>lS h) h2
    refine az.world (v:=.slice none 0 0) (w':=w) (fI ?_) (by rw[MF.dG];exact hd) (by rw[MF.dG];exact hs)
    rw[hv]
    exact k7 h1 fo hk g1 gQ (bA _) rfl
   |cons y0 ys0=>
    have hpos:0<ys.length:=by rw[lK];simp
    rw[←lK]
    have hrun:=qO (ty:=o.type) (base:=none) (sLen:=0) (sCap:=0) (olds:=[]) h1 fo hk g1 g3 gQ (by omega) (fun w' _=>by simp[Builtin.firstCells]) (by simpa[eV] using jU) g4
    have hge:=grownCap_ge w (0+ys.length) 0 E
    obtain⟨hd,hs⟩:=aB.grown (E:=E) (rest:=(Builtin.zeroCells (aQ t (bg t)).cells (grownCap w (0+ys.length) 0 E-(0+ys.length))).toList) hm dst (aP m dst) (fun b0 h=>lS h) h2 kn (0+ys.length) (grownCap w (0+ys.length) 0 E) (by omega) hge (by
     rw[eY,qT,hzs,jm,←cC]
     apply gH
     omega)
    rw[←hv] at hrun
    exact az.world (fI hrun) (by rw[MF.dG];exact hd) (by rw[MF.dG];exact hs)
  split at hd
  ·split at hd
   ·rename_i zz hzz
    obtain⟨e,_⟩:=DV.cz hzz
    simp only[Ty.lst.injEq] at e
    subst e
    cases hd
    exact fresh rfl (.inl rfl) (by simpa using hok)
   ·simp at hd
  ·cases hd
   exact fresh rfl (.inr rfl) (by simpa using hok)
  ·rename_i id st u
   split at hd
   ·rename_i xs hro
    cases kU:u.is t with
    |false=>simp[kU] at hd
    |true=>
    have:=Ty.cX kU
    subst this
    simp only[kU,dW,aX] at hd
    subst hd
    have jU:xs.length+ys.length≤eV:=by simpa using hok
    have hb:=gW hro
    obtain⟨ad,cap,e1,e2,e3⟩:=uJ hx hro
    have aA:=hm.aN id _ hb
    obtain⟨h0,aA⟩:=aA
    have hlt:∀b0,m id=some b0→b0.st<st+1:=by intro b0 h;rw[hb] at h;cases h;exact Nat.lt_succ_self _
    by_cases hroom:xs.length+ys.length≤cap
    ·rcases e3 with e3|⟨B,o',cs,f1,f2,f3,f4⟩
     ·obtain⟨e31,e32,e33⟩:=e3
      subst e31 e32
      have kq:xs = []:=by rw[←eC];omega
      have hy0:ys = []:=by rw[←eC];omega
      subst kq hy0
      have hn0:news = []:=by rw[←eC,jm];simp
      obtain⟨hd,hs⟩:=aB.empty (t:=u) hm id (st+1) hlt h2
      refine az.world (v:=.slice none 0 0) (w':=w) (fI ?_) (by rw[MF.dG];exact hd) (by rw[MF.dG];exact hs)
      rw[e1]
      exact k7 h1 fo hk g1 gQ (bA _) rfl
     ·subst f2
      rcases aA with⟨_,hno⟩|⟨B',de,cs',k1,k2,k3,k4,k5⟩
      ·rw[f1] at hno;cases hno
      ·rw[f1] at k1
       cases k1
       have:=f3.unique k2
       have hle:o'+xs.length*u.size+news.length≤cs.length:=by
        rw[jm,iM,←cC]
        have:=gH u.size hroom
        omega
       obtain⟨w',hr,aI,hsame,hsize,hos,gB,hout⟩:=pE P B (o'+xs.length*u.size) news 0 cs w f3 (by simpa using hle) (aT.cB (fun x vs h=>af.cB h) kn)
       simp only[zl50] at aI
       have cW:¬I B:=by simpa using k5
       have hlen':=pn hle
       have hd:=aB.write hm id ⟨st,false,.rows u xs⟩ ⟨st+1,false,.rows u (xs++ys)⟩ B o' cs _ hb (fC rfl) (.inl (Nat.lt_succ_self _)) f1 cW f3 aI (by omega) hsame hsize hos gB hout (fun ha hk'=>by
        refine⟨h0,.inr ⟨B,o',_,f1,aI,by simp only[eY,cC];omega,?_,by simpa using cW⟩⟩
        intro j x hj
        by_cases hjx:j<xs.length
        ·rw[eM hjx] at hj
         obtain⟨es,q1,q2,q3⟩:=k4 j x hj
         refine⟨es,q1,fun j' hj'=>?_,af.mono ha q3⟩
         rw[←q2 j' hj',aI.cell,f3.cell,jD hle,cT]
         have:(j+1)*u.size≤xs.length*u.size:=gH _ hjx
         rw[cC] at this
         omega
        ·rw[gj (by omega)] at hj
         obtain⟨pre,mid,post,q1,q2,q3,_⟩:=kn.split (fun x vs h=>af.length h) hj
         have hml:=af.length q3
         refine⟨mid,hml,fun j' hj'=>?_,af.mono ha q3⟩
         have hjj:j*u.size=xs.length*u.size+(j-xs.length)*u.size:=by rw[←cC];congr 1;omega
         have hnews:news[(j-xs.length)*u.size+j']?=mid[j']? :=by
          rw[q1,cZ,gj (by omega),eM (by omega)]
          congr 1
          omega
         have hnl':(j-xs.length)*u.size+j'<news.length:=by rw[q1];simp;omega
         rw[aI.cell,jD hle,bQ (by omega),←hnews]
         congr 1
         omega)
       refine az.world (v:=.slice (some ⟨B,o',none⟩) (xs.length+ys.length) cap) (w':=w') (fI ?_) (by rw[MF.dG];exact hd) ?_
       ·rw[e1]
        exact k7 h1 fo hk g1 gQ hroom (by simp only[Addr.j6,g2];exact hr)
       ·rw[MF.dG]
        show aG _ _ _ _ _ _
        refine⟨⟨_,rfl,rfl⟩,cy.of (b:=⟨st+1,false,.rows u (xs++ys)⟩) (by simp[MF.put]) rfl,fun b hb' hs' t' xs' hc=>?_⟩
        simp only[MF.put,fE,aX] at hb'
        subst hb'
        cases hc
        exact⟨some ⟨B,o',none⟩,cap,by simp,by simpa using hroom,.inr ⟨B,o',_,f1,rfl,aI,by omega⟩⟩
    ·
     have holds:∃olds,aT (af w I u) xs olds∧∀w':World,w'.heap=w.heap→(Builtin.firstCells i0.size xs.length (.slice ad xs.length cap)).run P w' = .ok olds.toArray w':=by
      obtain⟨ad',cap',q1,q2,q3⟩:=sM (t:=u) (ys:=xs) (dv:=⟨.lst u,xs⟩) hm hx (by simp[cR,hro]) (by simp[DV.as])
      rw[e1] at q1
      cases q1
      rcases q3 with q3|⟨B,off,q3,q4⟩
      ·subst q3
       exact⟨[],rfl,fun w' _=>by cases ad<;>simp[Builtin.firstCells,loadCells,loadCellsFrom]⟩
      ·subst q3
       obtain⟨cs,r1,r2,r3⟩:=q4.cells
       refine⟨cs,r1,fun w' hw=>?_⟩
       have:(loadCells ⟨B,off,none⟩ cs.length).run P w' = .ok cs.toArray w':=qR fun j hj=>by
        rw[←r3 j hj]
        simp[World.cell?,hw]
       simp[Builtin.firstCells,g2,←r2,this]
     obtain⟨olds,ho1,ho2⟩:=holds
     have hol:=aT.length (fun(x:u.den) vs (h:af w I u x vs)=>af.length h) ho1
     have hrun:=qO (ty:=o.type) h1 fo hk g1 g3 gQ (by omega) ho2 (by simpa[eV] using jU) g4
     have hge:=grownCap_ge w (xs.length+ys.length) cap E
     obtain⟨hd,hs⟩:=aB.grown (E:=E) (rest:=(Builtin.zeroCells (aQ u (bg u)).cells (grownCap w (xs.length+ys.length) cap E-(xs.length+ys.length))).toList) hm id (st+1) hlt h2 (ho1.append kn) (xs.length+ys.length) (grownCap w (xs.length+ys.length) cap E) (by simp) hge (by
      rw[eY,qT,hzs,eY,hol,jm,←cC,←cC]
      apply gH
      omega)
     rw[←e1] at hrun
     exact az.world (fI hrun) (by rw[MF.dG];exact hd) (by rw[MF.dG];exact hs)
   ·simp at hd
  ·rename_i id st off len u
   split at hd
   ·rename_i xs hro
    cases kU:u.is t with
    |false=>simp[kU] at hd
    |true=>
    have:=Ty.cX kU
    subst this
    simp only[kU,dW,aX] at hd
    subst hd
    have hroom:off+len+ys.length≤xs.length:=by simpa using hok
    have hb:=gW hro
    obtain⟨ad,cap,e1,e2,e20,e3⟩:=nr hx hro
    have qq:len+ys.length≤cap:=by omega
    have sD:∀(w':World) (e:iN w' ρ id u.size off ad cap),aj w' I (m.put id ⟨st,false,.rows u (Go.Ab.fZ xs (off+len) ys)⟩) ρ (.piece id st off (len+ys.length) u) (.slice ad (len+ys.length) cap):=by
     intro w' e
     show aG _ _ _ _ _ _
     unfold aG
     refine⟨⟨_,rfl,rfl⟩,cy.of (b:=⟨st,false,.rows u (Go.Ab.fZ xs (off+len) ys)⟩) (by simp[MF.put]) rfl,fun b hb' hs' t' xs' hc=>?_⟩
     simp only[MF.put,fE,aX] at hb'
     subst hb'
     cases hc
     exact⟨ad,cap,rfl,qq,by rw[vP hroom];omega,e⟩
    rcases aB.fZ P hm hb kn (off+len) hroom with⟨q1,q2,q3⟩|⟨B,o',w',q1,q2,q3,q4⟩
    ·subst q1
     have hy0:ys = []:=by rw[←eC];have:=hroom;rw[rA] at this;omega
     subst hy0
     have hn0:news = []:=by rw[←eC,jm];simp
     subst hn0
     refine az.world (v:=.slice ad (len+0) cap) (w':=w) (fI ?_) (by rw[MF.dG];exact q3) (by rw[MF.dG];exact sD w e3)
     rw[e1]
     refine k7 h1 fo hk g1 gQ qq ?_
     cases ad with
     |_=>rfl
    ·by_cases hn0:news = []
     ·
      subst hn0
      have lK:ys = []:=by
       rw[←eC]
       have:ys.length*u.size=0:=by rw[←jm];rfl
       rcases Nat.mul_eq_zero.1 this with h|h
       ·exact h
       ·omega
      subst lK
      have hw:w'=w:=by
       simp[storeCells] at q2
       exact q2.symm
      subst hw
      refine az.world (v:=.slice ad (len+0) cap) (w':=w') (fI ?_) (by rw[MF.dG];exact q3) (by rw[MF.dG];exact sD w' e3)
      rw[e1]
      refine k7 h1 fo hk g1 gQ qq ?_
      cases ad with
      |_=>rfl
     ·have e30:=e3
      rcases e3.1 with e3|⟨B',de,cs,r1,r2,r3,r4⟩
      ·exfalso
       have:ys.length=0:=by omega
       apply hn0
       rw[←eC,jm,this]
       simp
      ·rw[q1] at r1
       cases r1
       subst r2
       obtain⟨cs',s1,s2⟩:=q4 cs r3
       refine az.world (v:=.slice (some ⟨B,o'+off*u.size,none⟩) (len+ys.length) cap) (w':=w') (fI ?_) (by rw[MF.dG];exact q3) (by rw[MF.dG];exact sD w' (e30.mono rfl fun B2 o2 h2 cs hcs=>by rw[q1] at h2;cases h2;obtain⟨cs',s1,s2⟩:=q4 cs hcs;exact⟨cs',s1,by omega⟩))
       rw[e1]
       refine k7 h1 fo hk g1 gQ qq ?_
       simp only[Addr.j6,g2]
       rw[←q2]
       congr 3
       rw[cC]
       omega
   ·simp at hd
  ·simp at hd
end
section
variable {P:Program} {F:Fix} {C:Cx} {o:Oper} {a:Act} {w:World} {m:MF} {I:Nat→Prop} {ρ:Pl} {d:aD}
def Ae:∀{v:AT} {u:Ty} {d:DV},Typed v u→cR m v=some d→d.t=u:=by
 intro v
 induction v with
 |leaf t x=>intro u d h hv;simp[cR] at hv;subst hv;exact h
 |nil t=>intro u d h hv;simp[cR] at hv;subst hv;exact h.symm
 |whole id st t=>intro u d h hv;simp only[cR,cq] at hv;obtain⟨r,_,rfl⟩:=hv;exact h.symm
 |piece id st off len t=>intro u d h hv;simp only[cR,cq] at hv;obtain⟨r,_,rfl⟩:=hv;exact h.symm
 |pair l r ihl ihr=>
  intro u d h hv
  obtain⟨a,b,rfl,h1,h2⟩:=h
  simp[cR] at hv
  grind
 |_=>intro u d h hv;trivial
def zm {pre mid post aL:List Value}(h:mid.length=aL.length):putAt (pre++mid++post) pre.length aL=pre++aL++post:=by
 grind [putAt]
def tj {T:Nat}{t:Ty}{v:Value}{vs cs:List Value}{B off:Nat}(hT:bh P t T)(hv:v.cells=vs.toArray)(hl:vs.length=t.size)(h1:∀v∈vs,v.oneCell'=true)(hc:Cells w B cs)(hfit:off+vs.length≤cs.length) :
  ∃w',(Instr.storeAt T (.pointer (some ⟨B,off,none⟩)) v).run P w = .ok () w'∧Cells w' B (putAt cs off vs)∧(∀k,k≠B→w'.heap[k]?=w.heap[k]?)∧w'.heap.size=w.heap.size ∧
   w'.os=w.os∧w'.tape=w.tape∧w'.output=w.output:=by
 obtain⟨w',hr,aI,h2⟩:=pE P B off vs 0 cs w hc (by omega) h1
 simp_all [Instr.storeAt,Instr.sureAddr,storeVar,hT.info.run_sizeOf]
def ye {T:Nat}{xo vo:Operand}{ax av:AT}(hC:bR P C)(ho:o.op = .store T xo vo)(hm:aC F m w I ρ)(hx:aj w I m ρ ax (a.eval xo))(hv:aj w I m ρ av (a.eval vo))
  (mE:∀id st row p,ax = .ptr id st row p→∀s fz rs t xs,cur m id st≠some ⟨s,fz,.deep rs t xs⟩) (hd:mP C m T ax av=some d):az P F o a w m I ρ d:=by
 unfold mP at hd
 split at hd
 ·rename_i id st p u hu
  have hT:=hC.ty hu
  split at hd
  ·rename_i st' t b hc
   obtain⟨hb,hst⟩:=cN hc
   subst hst
   cases hi:dL (t.at p) u&&av.fits u with
   |false=>simp[hi] at hd
   |true=>
    simp[hi] at hd
    simp at hi
    have dJ:=iw hi.1
    have aW:=j8 hi.2
    split at hd
    ·rename_i b' hset
     cases hd
     have hx':=cj (a:=.aR id st' p) rfl hx (by simp) (by simp) (by simp) (by simp)
     obtain⟨_,_,h3⟩:=hx'
     obtain⟨e0,B,e1,e2⟩:=h3 _ hb rfl t b rfl
     simp at e2
     have aA:=hm.aN id _ hb
     obtain⟨ht,B',cs,k1,k2,k3,k4⟩:=aA
     rw[e1] at k1
     cases k1
     obtain⟨aL,fJ,hmid⟩:=aG.pack aW ((gX aW).1 hv)
     have hlen:=aW.length hmid
     have hone:=aq.cB aW hmid
     have cV:(a.eval vo).cells=aL.toArray:=by rw[fJ];exact gK hT hlen hone
     obtain⟨kn,pre,mid,post,q1,q2,q3,q4⟩:=lY p ht k3 e0 hset dJ aW hmid
     obtain⟨w',hr,aI,hsame,hsize,hos,gB,hout⟩:=tj hT cV hlen hone k2 (off:=t.off p) (by rw[q1];simp;omega)
     rw[q1,←q2,zm (by omega)] at aI
     have cW:=by simpa using k4
     have hd:=aB.write hm id _ ⟨st',false,.var t b'⟩ B 0 cs _ hb (kz rfl) (.inr ⟨rfl,rfl⟩) e1 cW k2 aI (by rw[q1];simp;omega) hsame hsize hos gB hout (fun ha hk=>⟨kn,B,_,e1,aI,q4.mono ha hk,by simpa using cW⟩)
     exact az.skip (w':=w') (by simp[execOp,ho,e2,hr]) (by rw[MF.dG];exact hd) rfl
    ·simp at hd
  ·simp at hd
 ·rename_i id st row p u hu
  have hT:=hC.ty hu
  split at hd
  ·rename_i st' t xs hc
   obtain⟨hb,hst⟩:=cN hc
   subst hst
   cases hi:dL (t.at p) u&&av.fits u && !(bW (Nat.beq id) av.ids) with
   |false=>simp[hi] at hd
   |true=>
    simp[hi] at hd
    simp at hi
    have dJ:=iw hi.1.1
    have aW:=j8 hi.1.2
    have hnot:¬id∈av.ids:=by
     have h2:=hi.2
     intro hin
     have:∀l,id∈l→bW (Nat.beq id) l=true:=by
      intro l
      induction l with
      |nil=>simp
      |cons x l ih=>
       intro h
       simp only[bW,rz]
       rcases bN.1 h with h|h
       ·subst h;exact .inl (Nat.beq_refl id)
       ·exact .inr (ih h)
     simp[this _ hin] at h2
    split at hd
    ·rename_i s y hvv
     split at hd
     ·rename_i r hr0
      split at hd
      ·rename_i z hz
       cases hd
       have hsu:=Ae aW hvv
       subst hsu
       have hx':=cj (a:=.ptr id st' row p) rfl hx (by simp) (by simp) (by simp) (by simp)
       obtain⟨_,_,h3⟩:=hx'
       obtain⟨e0,kN,B,o',e1,e2⟩:=h3 _ hb rfl t xs.length rfl
       simp at e2
       obtain⟨aL,fJ,hmid⟩:=aG.pack aW ((gX aW).1 hv)
       have hlen:=aW.length hmid
       have hone:=aq.cB aW hmid
       have cV:(a.eval vo).cells=aL.toArray:=by rw[fJ];exact gK hT hlen hone
       have h1:=aB.freeze hm av.ids
       have iq:af w (dV m ρ I av.ids) s y aL:=q9 hm (fun _ h=>.inl h) (fun i hi b B o' h1 h2 h3=>.inr (.inl ⟨i,hi,b,o',h1,h2,h3⟩)) hvv hmid
       have cU:m.ag (bD m av.ids) id=some ⟨st',false,.rows t xs⟩:=by rw[rq];simp[hnot,hb]
       have aA:=h1.mem.aN id _ cU
       obtain⟨h0,aA⟩:=aA
       rcases aA with⟨eF,_⟩|⟨B',de,cs,k1,k2,k3,k4,k5⟩
       ·subst eF;simp at kN
       ·rw[e1] at k1
        cases k1
        obtain⟨rs,g1,g2,g3⟩:=k4 row _ (nk (z:=t.dflt) kN)
        obtain⟨b2,cE,hbp⟩:=l9.1 hr0
        obtain⟨_,pre,mid,post,q1,q2,q3,q4⟩:=lY (w:=w) (I:=dV m ρ I av.ids) (m:=m) (ρ:=ρ) p (a:=.leaf t (xs.getD row t.dflt)) (v:=.leaf s y) rfl g3 e0 cE dJ rfl iq
        have q5:=o_ hbp q4
        obtain⟨ze,hze⟩:=DV.cz hz
        have hrz:af w (dV m ρ I av.ids) t z (pre++aL++post):=by
         cases r with
         |mk rt rx=>
          subst ze
          subst hze
          exact q5
        have hrow:(row+1)*t.size≤xs.length*t.size:=gH _ kN
        rw[cC] at hrow
        have hrs:rs.length=pre.length+mid.length+post.length:=by rw[q1];simp;omega
        have hfit:o'+row*t.size+t.off p+aL.length≤cs.length:=by omega
        obtain⟨w',hr,aI,hsame,hsize,hos,gB,hout⟩:=tj hT cV hlen hone k2 hfit
        have cW:=by simpa using k5
        have hlen':=pn hfit
        have hd:=aB.write h1.mem id _ ⟨st',false,.rows t (xs.set row z)⟩ B o' cs _ cU (fC rfl) (.inr ⟨rfl,by simp[bX]⟩) e1 cW k2 aI (by omega) hsame hsize hos gB hout (fun ha hk=>by
         refine⟨h0,.inr ⟨B,o',_,e1,aI,by rw[hlen'];simpa using k3,?_,by simpa using cW⟩⟩
         intro j x hj
         by_cases hjr:row=j
         ·subst hjr
          simp[kN] at hj
          subst hj
          refine⟨pre++aL++post,by simp;omega,fun j' hj'=>?_,af.mono ha hrz⟩
          rw[aI.cell,jD hfit]
          by_cases hin:t.off p≤j'∧j'<t.off p+aL.length
          ·rw[bQ (by omega),cZ,gj (by omega),eM (by omega)]
           congr 1
           omega
          ·rw[cT (by omega),←k2.cell,g2 j' hj',q1]
           by_cases hlo:j'<pre.length
           ·rw[cZ,cZ,eM hlo,eM hlo]
           ·rw[gj (by simp;omega),gj (by simp;omega)]
            simp
            congr 1
            omega
         ·rw[List.getElem?_set_ne hjr] at hj
          obtain⟨es,r1,r2,r3⟩:=k4 j x hj
          refine⟨es,r1,fun j' hj'=>?_,af.mono ha r3⟩
          rw[←r2 j' hj',aI.cell,k2.cell,jD hfit,cT]
          rcases Nat.lt_or_ge j row with hlt|hge
          ·have:(j+1)*t.size≤row*t.size:=gH _ hlt
           rw[cC] at this
           omega
          ·have:(row+1)*t.size≤j*t.size:=gH _ (by omega)
           rw[cC] at this
           omega)
        exact az.skip (w':=w') (by simp[execOp,ho,e2,hr]) (by rw[MF.pM];exact h1.trans hd) rfl
      ·simp at hd
     ·simp at hd
    ·simp at hd
  ·rename_i hc
   exact absurd hc (mE _ _ _ _ rfl _ _ _ _ _)
  ·simp at hd
 ·simp at hd
end
section
variable {P:Program} {F:Fix} {C:Cx} {o:Oper} {a:Act} {w:World} {m:MF} {I:Nat→Prop} {ρ:Pl} {d:aD}
def bh.under {t:Ty}{T:TypeId}(hT:bh P t T):∃d,P.underlying T=some d:=by
 unfold bh at hT
 cases t<;>simp[TO] at hT<;>first|exact hT.elim|skip
 case unit=>grind
 case bool=>grind
 case int k=>grind
 case str=>grind
 case lst u=>grind
 case pair a b=>grind
 case arr n u=>grind
 grind
def tF {k:IntKind}{T:Nat}(hT:bh P (.int k) T):P.underlying T=some (.int k):=by grind [bh,TO]
def pL {T:Nat}(hT:bh P .str T):P.underlying T=some .string:=by grind [bh,TO]
def zN {xs:List Int}{B off:Nat}(h:fQ w B off 1 (af w I (.int .u8)) xs):∀i,i<xs.length→w.cell? ⟨B,off+i,none⟩=some (.int .u8 (xs.getD i 0)):=by
 intro i hi
 obtain⟨cs,h1,h2,h3⟩:=h i _ (nk (z:=(0:Int)) hi)
 simp[af] at h3
 grind
def xO {S T:Nat}{x:Operand}{ax:AT}{dst:Nat}(hC:bR P C)(ho:o.op = .convert S T x)(hm:aC F m w I ρ)(hx:aj w I m ρ ax (a.eval x))
  (hd:rS C m dst S T ax=some d) (hok:∀b∈d.ok,b=true):az P F o a w m I ρ d:=by
 unfold rS at hd
 split at hd
 ·rename_i k' n sS k hS hT
  cases hd
  have e:=dD.1 hx
  obtain⟨dS,hdS⟩:=(hC.ty hS).under
  have hdT:=tF (hC.ty hT)
  exact az.value hm (by simp[execOp,ho,e,convert,run_underlying hdS,run_underlying hdT,Conv.intToInt]) (dD.2 rfl)
 ·rename_i s sS hS hT
  cases hd
  have e:=jF.1 hx
  obtain⟨dS,hdS⟩:=(hC.ty hS).under
  have hdT:=pL (hC.ty hT)
  refine az.value hm (v:=.string ⟨s.toArray⟩) ?_ (jF.2 rfl)
  simp[execOp,ho,e,convert,run_underlying hdS,run_underlying hdT]
 ·rename_i s hS hT
  cases hd
  have e:=jF.1 hx
  have hdS:=pL (hC.ty hS)
  obtain⟨E,h1,h2,h3⟩:=jI (hC.ty hT)
  have hdE:=tF h3
  have hrun:=run_bytes_of_string (P:=P) w S T E ⟨s.toArray⟩ hdS h1 hdE
  have hsz:(⟨s.toArray⟩:ByteArray).size=s.length:=by simp[ByteArray.size]
  have hge:=grownCap_ge w s.length 0 E
  rw[hsz] at hrun
  have hrow:bytesRow ⟨s.toArray⟩ (grownCap w s.length 0 E)=((s.map fun b=>Value.int .u8 b.toNat)++List.replicate (grownCap w s.length 0 E-s.length) (Value.int .u8 0)).toArray:=by
   simp[bytesRow,hsz]
  rw[hrow] at hrun
  have hr:=aT.mono (fun x vs h=>by simpa[af] using h) (rI s)
  obtain⟨hd,hs⟩:=aB.grown (E:=E) (t:=.int .u8) (rest:=List.replicate (grownCap w s.length 0 E-s.length) (Value.int .u8 0)) hm dst (aP m dst) (fun b0 h=>lS h) (by simp[Ty.size]) hr s.length (grownCap w s.length 0 E) (by simp[bytesOf]) hge (by simp[Ty.size];omega)
   (((s.map fun b=>Value.int .u8 b.toNat)++List.replicate (grownCap w s.length 0 E-s.length) (Value.int .u8 0)).toArray.size,((s.map fun b=>Value.int .u8 b.toNat)++List.replicate (grownCap w s.length 0 E-s.length) (Value.int .u8 0)).toArray.size+1) (fun j hj=>by omega)
  exact az.world (by simp only[execOp,ho,e,Sem.run_bind,hrun];rfl) (by rw[MF.dG];exact hd) (by rw[MF.dG];exact hs)
 ·rename_i hS hT
  split at hd
  ·rename_i dv hv
   simp[] at hd
   obtain⟨xs,hxs,rfl⟩:=hd
   obtain⟨E,h1,h2,h3⟩:=jI (hC.ty hS)
   have hdE:=tF h3
   have hdT:=pL (hC.ty hT)
   obtain⟨ad,cap,e1,e2,e3⟩:=sM hm hx hv hxs
   have key:(convert S T (.slice ad xs.length cap)).run P w = .ok (.string ⟨(tv xs).toArray⟩) w:=by
    rcases e3 with e3|⟨B,off,e3,e4⟩
    ·subst e3
     cases ad with
     |none=>exact run_convert_bytes_nil w S E h1 hdE 0 cap T hdT
     |some ad=>
      rw[run_convert_bytes_string w S T E _ _ cap h1 hdE hdT]
      have:(loadCells ad 0).run P w = .ok (([]:List Int).map (Value.int .u8)).toArray w:=by simp[loadCells,loadCellsFrom]
      exact run_bytesToString w ad 0 cap [] this
    ·subst e3
     have:=run_convert_bytes_arg w S E h1 hdE B off xs.length cap xs rfl (zN e4) T hdT
     rw[this]
     rfl
   exact az.value hm (v:=.string ⟨(tv xs).toArray⟩) (by simp[execOp,ho,e1,key]) (jF.2 rfl)
  ·simp at hd
 ·simp at hd
def xV {T:Nat}{x:Operand}{ax:AT}{n:Int}(hC:bR P C)(ho:o.op = .call ⟨.builtin .len,#[x],#[T]⟩)(hm:aC F m w I ρ)(hx:aj w I m ρ ax (a.eval x))
  (hlt:qx C T ax=true) (hn:lP m ax=some n):az P F o a w m I ρ ⟨.leaf (.int .i64) n,[],[]⟩:=by
 have fin:∀{v:Value},a.eval x=v→(Builtin.len_ #[T] o.type #[v]).run P w = .ok (goInt n) w→az P F o a w m I ρ ⟨.leaf (.int .i64) n,[],[]⟩:=by
  intro v hv hr
  refine az.value hm (v:=.int .i64 n) ?_ (dD.2 rfl)
  simp[execOp,ho,resolve,invoke,builtin,hv,hr,goInt]
 have sl:∀{ad:Option Addr} {l c:Nat},(∃t,C.ty T=some (.lst t))→n=(l:Int)→(Builtin.len_ #[T] o.type #[.slice ad l c]).run P w = .ok (goInt n) w:=by
  rintro ad l c ⟨t,ht⟩ rfl
  obtain⟨E,h1,h2,h3⟩:=jI (hC.ty ht)
  simp[Builtin.len_,run_underlying h1]
 have lt:(∀s,ax ≠ .leaf .str s)→∃t,C.ty T=some (.lst t):=by
  unfold qx at hlt
  grind
 unfold lP at hn
 split at hn<;>try simp at hn
 ·subst hn
  have e:=jF.1 hx
  have ht:=pL (hC.ty (iw hlt))
  rename_i s
  exact fin e (by have:=run_len_string (P:=P) w T o.type ⟨s.toArray⟩ ht;rw[this];rfl)
 ·rename_i t xs
  have hx':=cj (a:=.leaf (.lst t) xs) rfl hx (by simp) (by simp) (by simp) (by simp)
  simp[aq,af] at hx'
  obtain⟨ad,cap,e1,_⟩:=hx'
  exact fin e1 (sl (lt (by simp)) hn.symm)
 ·have e:=pI (.inl rfl) hx
  exact fin e (sl (lt (by simp)) hn.symm)
 ·have e:=pI (t:=.unit) (.inr rfl) hx
  exact fin e (sl (lt (by simp)) hn.symm)
 ·split at hn
  ·rename_i xs hr
   obtain⟨b,hb,hst,cA⟩:=nv hr
   obtain⟨ad,cap,e1,_⟩:=nt hx hb hst cA
   exact fin e1 (sl (lt (by simp)) (by simpa using hn.symm))
  ·simp at hn
 ·split at hn
  ·rename_i r hr
   obtain⟨ad,cap,e1,_⟩:=nr hx hr
   exact fin e1 (sl (lt (by simp)) (by simpa using hn.symm))
  ·simp at hn
end
inductive dI {α β:Type} (R:α→β→Prop):List α→List β→Prop where
 |nil:dI R [] []
 |cons {a:α} {b:β} {l:List α} {l':List β}:R a b→dI R l l'→dI R (a::l) (b::l')
section
variable {P:Program} {F:Fix} {C:Cx} {o:Oper} {a:Act} {w:World} {m:MF} {I:Nat→Prop} {ρ:Pl} {d:aD}
def x6 {args:Array Operand}{ts:Array Nat}{as:List AT}(ho:o.op = .call ⟨.builtin .min,args,ts⟩)(hm:aC F m w I ρ)(hs:dI (aj w I m ρ) as (args.toList.map a.eval))
  (hd:minD as=some d):az P F o a w m I ρ d:=by
 unfold minD at hd
 split at hd
 ·rename_i k x k' y
  cases hd
  generalize e0:args.toList.map a.eval=vs at hs
  cases hs with
  |cons h1 h2=>
  cases h2 with
  |cons h3 h4=>
  cases h4
  have e1:=dD.1 h1
  have e2:=dD.1 h3
  subst e1 e2
  refine az.value hm (v:=.int k (if y<x then y else x)) ?_ (dD.2 rfl)
  simp[execOp,ho,resolve,invoke,builtin,Builtin.min_,e0,Builtin.min2]
 ·simp at hd
def x5 {args:Array Operand}{ts:Array Nat}{as:List AT}(ho:o.op = .call ⟨.builtin .max,args,ts⟩)(hm:aC F m w I ρ)(hs:dI (aj w I m ρ) as (args.toList.map a.eval))
  (hd:maxD as=some d):az P F o a w m I ρ d:=by
 unfold maxD at hd
 split at hd
 ·rename_i k x k' y
  cases hd
  generalize e0:args.toList.map a.eval=vs at hs
  cases hs with
  |cons h1 h2=>
  cases h2 with
  |cons h3 h4=>
  cases h4
  have e1:=dD.1 h1
  have e2:=dD.1 h3
  subst e1 e2
  refine az.value hm (v:=.int k (if x<y then y else x)) ?_ (dD.2 rfl)
  simp[execOp,ho,resolve,invoke,builtin,Builtin.max_,e0,Builtin.max2]
 ·simp at hd
def lZ {x:AT}{v:Value}(h:x.slot=true):aj w I m ρ x v↔aG w I m ρ x v:=by
 cases x<;>first|rfl|grind [AT.slot,AT.one]
def zb {x:AT}{v:Value}(h:x.one=true)(hs:aj w I m ρ x v):=by
 have ha:x.isAgg=false:=by
  cases x with
  |leaf t y=>
   show t.isAgg=false
   grind [AT.one]
  |nest _ _ _ _ _ u=>
   show u.isAgg=false
   grind [AT.one]
  |pair l r=>trivial
  |_=>rfl
 refine cj ha hs ?_ ?_ ?_ ?_<;>grind [AT.one]
def Af:∀{x y:AT} {i:Nat} {vs:List Value},eD w I m ρ x vs→cY (k9 x) i=some y→∃v,vs[i]?=some v∧aG w I m ρ y v:=by
 intro x
 induction x with
 |bJ l r _ ihr=>
  intro y i vs h hn
  obtain⟨v,vs',rfl,h1,h2⟩:=h
  cases i<;>simp_all [k9,cY]
 |_=>intro y i vs h hn;trivial
def xQ {x:Operand}{i:Nat}{ax:AT}(ho:o.op = .extract x i)(hm:aC F m w I ρ)(hx:aj w I m ρ ax (a.eval x))(hd:rX ax i=some d):az P F o a w m I ρ d:=by
 unfold rX at hd
 split at hd
 ·rename_i y hy
  cases hs:y.slot with
  |false=>simp[hs] at hd
  |true=>
   simp[hs] at hd
   subst hd
   cases ax<;>try (simp[k9,cY] at hy)
   obtain⟨arr,e,ht⟩:=hx
   obtain⟨v,hv,gC⟩:=Af ht hy
   refine az.value hm (v:=v) ?_ ((lZ hs).2 gC)
   have:=by simpa using hv
   simp[execOp,ho,e,Instr.extract,this]
 ·simp at hd
def wG:∀{as:List AT} {vs:List Value},dI (aj w I m ρ) as vs→cH AT.one as=true→aq w I m ρ (nR as) vs
 | [],_,h,_=>by cases h;rfl
 |x::as,_,h,hall=>by
  cases h with
  |cons h1 h2=>
  simp[cH] at hall
  exact⟨_,_,rfl,zb hall.1 h1,wG h2 hall.2⟩
def xX {g:Nat}{first caps:Array Operand}{as:List AT}(ho:o.op = .makeFunc (.func g) first caps)(hm:aC F m w I ρ)(hf:first.toList.isEmpty=true)(hs:dI (aj w I m ρ) as (caps.toList.map a.eval))(hall:cH AT.one as=true) :
  az P F o a w m I ρ ⟨.fn g (nR as),[],[]⟩:=by
 have h0:first = #[]:=by
  grind
 subst h0
 refine az.value hm (v:=.func (.func g) #[] (caps.map a.eval)) (by simp[execOp,ho,Instr.makeFunc]) ?_
 show aG _ _ _ _ _ _
 simp_all [aG,AT.isAgg,aq,wG]
def x7 {x:Operand}{ax:AT}(ho:o.op = .nilCheck x)(hm:aC F m w I ρ)(hx:aj w I m ρ ax (a.eval x))(hd:lT m ax=some d):az P F o a w m I ρ d:=by
 have fin:∀{ad:Addr},a.eval x = .pointer (some ad)→az P F o a w m I ρ ⟨ax,[],[]⟩:=fun e=>az.value hm (v:=a.eval x) (by simp[execOp,ho,e]) hx
 unfold lT at hd
 split at hd
 ·rename_i id st row p
  split at hd
  ·rename_i st' fz t xs hc
   cases hd
   obtain⟨hb,hst⟩:=cN hc
   have hx':=cj (a:=.ptr id st row p) rfl hx (by simp) (by simp) (by simp) (by simp)
   obtain⟨_,_,h3⟩:=hx'
   obtain⟨_,_,B,o',_,e2⟩:=h3 _ hb hst t xs.length rfl
   exact fin (by simpa using e2)
  ·rename_i st' fz rs t xs hc
   cases hd
   obtain⟨hb,hst⟩:=cN hc
   have hx':=cj (a:=.ptr id st row p) rfl hx (by simp) (by simp) (by simp) (by simp)
   obtain⟨_,_,h3⟩:=hx'
   obtain⟨_,_,B,o',_,e2⟩:=h3 _ hb hst t xs.length rfl
   exact fin (by simpa using e2)
  ·simp at hd
 ·rename_i id st p
  split at hd
  ·rename_i st' fz t b hc
   cases hd
   obtain⟨hb,hst⟩:=cN hc
   have hx':=cj (a:=.aR id st p) rfl hx (by simp) (by simp) (by simp) (by simp)
   obtain⟨_,_,h3⟩:=hx'
   obtain⟨_,B,_,e2⟩:=h3 _ hb hst t b rfl
   exact fin (by simpa using e2)
  ·simp at hd
 ·rename_i t y
  cases hd
  have hx':=cj (a:=.leaf (.ref t) y) rfl hx (by simp) (by simp) (by simp) (by simp)
  simp[aq,af] at hx'
  obtain⟨B,off,e,_⟩:=hx'
  exact fin e
 ·simp at hd
def x8 {c x y:Operand}{ac ax ay:AT}(ho:o.op = .pick c x y)(hm:aC F m w I ρ)(hc:aj w I m ρ ac (a.eval c))(hx:a.eval c = .bool true→aj w I m ρ ax (a.eval x))(hy:a.eval c = .bool false→aj w I m ρ ay (a.eval y))
  (hd:o9 ac ax ay=some d):az P F o a w m I ρ d:=by
 unfold o9 at hd
 split at hd
 ·rename_i g t u t' u'
  have e:=f_.1 hc
  split at hd
  ·rename_i ht
   subst ht
   cases hd
   cases g with
   |true=>exact az.value hm (v:=a.eval x) (by simp[execOp,ho,e,asBool]) (hx e)
   |false=>exact az.value hm (v:=a.eval y) (by simp[execOp,ho,e,asBool]) (hy e)
  ·simp at hd
 ·simp at hd
end
section
variable {P:Program} {F:Fix} {C:Cx} {o:Oper} {a:Act} {w:World} {m:MF} {I:Nat→Prop} {ρ:Pl} {d:aD}
def x_ {T:Nat}{x l h k:Operand}{ax al ah ak:AT}(hC:bR P C)(ho:o.op = .slice T x (some l) (some h) (some k))(hm:aC F m w I ρ)
  (hx:aj w I m ρ ax (a.eval x)) (hl:aj w I m ρ al (a.eval l)) (hh:aj w I m ρ ah (a.eval h)) (hk:aj w I m ρ ak (a.eval k))
  (hd:tq C m T ax al ah ak=some d) (hok:∀b∈d.ok,b=true):az P F o a w m I ρ d:=by
 unfold tq at hd
 split at hd
 ·rename_i id st t u a0 b0 c0 hu h1 h2 h3
  split at hd
  ·rename_i xs hr
   obtain⟨bG,hd⟩:=aU hd
   cases hd
   have:=Ty.cX bG
   subst this
   simp at hok
   obtain⟨E,e1,e2,e3⟩:=jI (hC.ty hu)
   obtain⟨bb,hb',oG,cA⟩:=nv hr
   obtain⟨ad,cap,f1,f2,_⟩:=nt hx hb' oG cA
   obtain⟨ka,hka⟩:=js h1 hl
   obtain⟨kb,hkb⟩:=js h2 hh
   obtain⟨kc,hkc⟩:=js h3 hk
   have b1:=run_sliceBound (P:=P) w kc c0 cap BoundsCode.slice3Acap (by omega) (by omega)
   have b2:=run_sliceBound (P:=P) w kb b0 c0.toNat BoundsCode.slice3B (by omega) (by omega)
   have b3:=run_sliceBound (P:=P) w ka a0 b0.toNat BoundsCode.slice3C (by omega) (by omega)
   refine az.value hm (v:=.slice (if c0.toNat=a0.toNat then ad else ad.map (·.add (a0.toNat*t.size))) (b0.toNat-a0.toNat) (c0.toNat-a0.toNat)) ?_ ?_
   ·simp[execOp,ho,f1,Instr.sliceAt,run_underlying e1,Instr.slice,Instr.sliceBounds,hka,hkb,hkc,b1,b2,b3,e3.info.run_sizeOf]
   ·exact⟨rfl,fun v hv=>by simp at hv;subst hv;rfl⟩
  ·cases hd
 ·cases hd
def Ap (z:List Value)(n:Nat):(Builtin.zeroCells z.toArray n).toList=(List.replicate n z).flatten:=by
 have:=oQ z n
 trivial
def xN {T:Nat}{xo:Operand}{ax:AT}(hC:bR P C)(ho:o.op = .call ⟨.builtin .clear,#[xo],#[T]⟩)(hm:aC F m w I ρ)
  (hx:aj w I m ρ ax (a.eval xo)) (hd:rP C m T ax=some d):az P F o a w m I ρ d:=by
 unfold rP at hd
 split at hd
 ·rename_i t id st off len u ht
  split at hd
  ·rename_i xs hro
   obtain⟨hb0,hd⟩:=aU hd
   cases hd
   simp at hb0
   have:=Ty.cX hb0.2
   subst this
   obtain⟨E,h1,h2,h3⟩:=hC.el ht
   obtain⟨z1,z2⟩:=lu (w:=w) (I:=I) (m:=m) (ρ:=ρ) h3
   have ir:=gK h3 (z1.length z2) (aq.cB z1 z2)
   have hb:=gW hro
   obtain⟨ad,cap,e1,e2,e20,e3⟩:=nr hx hro
   have hrun0:(zeroValue E).run P w = .ok (aQ u (bg u)) w:=h3.info.v8
   have hz:=(ru (w:=w) (I:=I) hb0.1).1 h3
   have hys:=aT.replicate hz len
   have hk:off+(List.replicate len u.dflt).length≤xs.length:=by simp;omega
   have fI:∀{w':World},(Builtin.clear_ #[T] o.type #[a.eval xo]).run P w = .ok (.tuple #[]) w'→(execOp a.eval o).run P w = .ok (.value (.tuple #[])) w':=by
    intro w' h
    simp[execOp,ho,resolve,invoke,builtin,h]
   by_cases fV:len=0
   ·subst fV
    have:Go.Ab.fZ xs off (List.replicate 0 u.dflt)=xs:=by simp[Go.Ab.fZ]
    rw[this]
    have e:m.put id ⟨st,false,.rows u xs⟩=m:=by
     funext j
     simp only[MF.put]
     by_cases hj:id=j
     ·subst hj;rw[bQ rfl,hb]
     ·rw[cT hj]
    refine az.world (v:=.tuple #[]) (w':=w) (fI ?_) (by rw[MF.dG,e];exact aB.refl hm) rfl
    rw[e1]
    cases ad<;>simp[Builtin.clear_,run_underlying h1]
   ·rcases aB.fZ P hm hb hys off hk with⟨q1,q2,q3⟩|⟨B,o',w',q1,q2,q3,q4⟩
    ·subst q1;simp at hk;omega
    ·rcases e3.1 with e3|⟨B',de,cs,r1,r2,r3,r4⟩
     ·omega
     ·rw[q1] at r1
      cases r1
      subst r2
      refine az.world (v:=.tuple #[]) (w':=w') (fI ?_) (by rw[MF.dG];exact q3) rfl
      rw[e1]
      have hzz:(Builtin.zeroCells (aQ u (bg u)).cells len).toList=(List.replicate len (bg u)).flatten:=by
       rw[ir];exact Ap _ _
      cases len with
      |zero=>exact absurd rfl fV
      |succ k=>simp[Builtin.clear_,run_underlying h1,hrun0,hzz,q2]
  ·cases hd
 ·cases hd
end
section
variable {P:Program} {F:Fix} {C:Cx} {o:Oper} {a:Act} {w:World} {m:MF} {I:Nat→Prop} {ρ:Pl} {d:aD}
def MF.on (m:MF)(p:Nat→Bool):MF:=fun i=>bif p i then m i else none
def MF.lV {p:Nat→Bool}{i:Nat}{b:aa}(h:m.on p i=some b):p i=true∧m i=some b:=by
 grind [MF.on]
def MF.kX {p:Nat→Bool}{i:Nat}(h:p i=true):m.on p i=m i:=by grind [MF.on]
def aq.sub {m':MF}{ρ':Pl}(hs:∀id b,m id=some b→m' id=some b∧ρ' id=ρ id):∀{x:AT} {vs:List Value},aq w I m ρ x vs→aq w I m' ρ' x vs:=by
 have ref:∀{id st:Nat},cy m id st→cy m' id st∧m' id=m id∧ρ' id=ρ id:=by
  rintro id st ⟨b,hb,h⟩
  obtain⟨h1,h2⟩:=hs id b hb
  exact⟨⟨b,h1,h⟩,by grind,h2⟩
 intro x
 induction x with
 |whole id st t=>
  intro vs h
  obtain⟨h1,h2,h3⟩:=h
  obtain⟨r1,r2,r3⟩:=ref h2
  simp_all [aq,fP]
 |piece id st off len t=>
  intro vs h
  obtain⟨h1,h2,h3⟩:=h
  obtain⟨r1,r2,r3⟩:=ref h2
  simp_all [aq,fP,iN]
 |pair l r ihl ihr=>
  grind [aq]
 |aR id st p=>
  grind [aq]
 |ptr id st row p=>
  grind [aq]
 |nest id st rs row p u=>
  grind [aq]
 |fn f c ih=>
  grind [aq]
 |bJ l r ihl ihr=>
  grind [aq]
 |_=>simp[aq]
def aq.cut {p:Nat→Bool}:∀{x:AT} {vs:List Value},(∀id∈x.ids,p id=true)→aq w I m ρ x vs→aq w I (m.on p) ρ x vs:=by
 have ref:∀{id st:Nat},p id=true→cy m id st→cy (m.on p) id st:=by
  rintro id st hp ⟨b,hb,h⟩
  exact⟨b,by rw[MF.kX hp,hb],h⟩
 intro x
 induction x with
 |whole id st t=>
  intro vs hp h
  obtain⟨h1,h2,h3⟩:=h
  have aJ:=hp id (by simp[AT.ids])
  exact⟨h1,ref aJ h2,fun b hb=>h3 b (by rwa[MF.kX aJ] at hb)⟩
 |piece id st off len t=>
  intro vs hp h
  obtain⟨h1,h2,h3⟩:=h
  have aJ:=hp id (by simp[AT.ids])
  exact⟨h1,ref aJ h2,fun b hb=>h3 b (by rwa[MF.kX aJ] at hb)⟩
 |pair l r ihl ihr=>
  intro vs hp h
  obtain⟨v1,v2,e,h1,h2⟩:=h
  exact⟨v1,v2,e,ihl (fun id hi=>hp id (bw.2 (.inl hi))) h1,ihr (fun id hi=>hp id (bw.2 (.inr hi))) h2⟩
 |aR id st q=>
  intro vs hp h
  obtain⟨h1,h2,h3⟩:=h
  have aJ:=hp id (by simp[AT.ids])
  exact⟨h1,ref aJ h2,fun b hb=>h3 b (by rwa[MF.kX aJ] at hb)⟩
 |ptr id st row q=>
  intro vs hp h
  obtain⟨h1,h2,h3⟩:=h
  have aJ:=hp id (by simp[AT.ids])
  exact⟨h1,ref aJ h2,fun b hb=>h3 b (by rwa[MF.kX aJ] at hb)⟩
 |nest id st rs row q u=>
  intro vs hp h
  obtain⟨h1,h10,h2,h3⟩:=h
  have aJ:=hp id (by simp[AT.ids])
  exact⟨h1,h10,ref aJ h2,fun b hb=>h3 b (by rwa[MF.kX aJ] at hb)⟩
 |fn f c ih=>
  grind [aq,AT.ids]
 |bJ l r ihl ihr=>
  intro vs hp h
  obtain⟨v,vs',e,h1,h2⟩:=h
  exact⟨v,vs',e,ihl (fun id hi=>hp id (bw.2 (.inl hi))) h1,ihr (fun id hi=>hp id (bw.2 (.inr hi))) h2⟩
 |_=>simp[aq]
def aG.sub {m':MF}{ρ':Pl}(hs:∀id b,m id=some b→m' id=some b∧ρ' id=ρ id){x:AT}{v:Value}(h:aG w I m ρ x v):aG w I m' ρ' x v:=by
 unfold aG at *
 split
 ·rename_i hh;rw[bQ hh] at h;obtain⟨arr,e,h⟩:=h;exact⟨arr,e,h.sub hs⟩
 ·rename_i hh;rw[cT hh] at h;exact h.sub hs
def aG.cut {p:Nat→Bool}{x:AT}{v:Value}(hp:∀id∈x.ids,p id=true)(h:aG w I m ρ x v):aG w I (m.on p) ρ x v:=by
 unfold aG at *
 split
 ·rename_i hh;rw[bQ hh] at h;obtain⟨arr,e,h⟩:=h;exact⟨arr,e,h.cut hp⟩
 ·rename_i hh;rw[cT hh] at h;exact h.cut hp
def eD.sub {m':MF}{ρ':Pl}(hs:∀id b,m id=some b→m' id=some b∧ρ' id=ρ id):∀{x:AT} {vs:List Value},eD w I m ρ x vs→eD w I m' ρ' x vs:=by
 intro x
 induction x with
 |bJ l r _ ih=>intro vs h;obtain⟨v,vs',e,h1,h2⟩:=h;exact⟨v,vs',e,h1.sub hs,ih h2⟩
 |_=>simp[eD]
def eD.cut {p:Nat→Bool}:∀{x:AT} {vs:List Value},(∀id∈x.ids,p id=true)→eD w I m ρ x vs→eD w I (m.on p) ρ x vs:=by
 intro x
 induction x with
 |bJ l r _ ih=>
  intro vs hp h
  obtain⟨v,vs',e,h1,h2⟩:=h
  exact⟨v,vs',e,h1.cut (fun id hi=>hp id (bw.2 (.inl hi))),ih (fun id hi=>hp id (bw.2 (.inr hi))) h2⟩
 |_=>simp[eD]
def aj.sub {m':MF}{ρ':Pl}(hs:∀id b,m id=some b→m' id=some b∧ρ' id=ρ id){x:AT}{v:Value}(h:aj w I m ρ x v):aj w I m' ρ' x v:=by
 cases x<;>simp[aj] at h ⊢ <;>first
  |grind
  | (obtain⟨arr,e,h⟩:=h;exact⟨arr,e,h.sub hs⟩)
  |exact aG.sub hs h
def aj.cut {p:Nat→Bool}{x:AT}{v:Value}(hp:∀id∈x.ids,p id=true)(h:aj w I m ρ x v):aj w I (m.on p) ρ x v:=by
 cases x<;>simp[aj] at h ⊢ <;>first
  |grind
  | (obtain⟨arr,e,h⟩:=h;exact⟨arr,e,h.cut hp⟩)
  |exact aG.cut hp h
def mW (m:MF)(p:Nat→Bool):Prop:=∀id b t x,p id=true→m id=some b→b.c = .var t x→∀j∈x.ids,p j=true
def aC.cut {p:Nat→Bool}(hm:aC F m w I ρ)(bK:mW m p) :
  aC ⟨w,I,fun B=>∃id b,p id=true∧m id=some b∧b.live∧bO ρ id b B,F.G⟩ (m.on p) w I ρ:=by
 refine⟨fun id b hb=>?_,fun id id' b b' B o o' h1 h2=>hm.inj id id' b b' B o o' (MF.lV h1).2 (MF.lV h2).2,hm.aS,fun B h=>h,fun B h=>.inl h,fun id b B o' hb hl hr=>.inr ⟨id,b,(MF.lV hb).1,(MF.lV hb).2,hl,.inl ⟨_,hr⟩⟩,fun id b hb hd=>?dp,fun B _ _=>rfl,bA _,rfl,rfl,rfl,hm.fU⟩
 obtain⟨hp,hb0⟩:=MF.lV hb
 have h:=hm.aN id b hb0
 unfold cM at h ⊢
 split
 ·simp
 ·rename_i t x e
  simp only[e] at h
  obtain⟨h1,B,cs,h2,h3,h4,h5⟩:=h
  exact⟨h1,B,cs,h2,h3,h4.cut (bK id b t x hp hb0 e),h5⟩
 ·rename_i t xs e
  simp only[e] at h
  exact h
 ·rename_i rs t xs e
  simp only[e] at h
  exact h
 case dp=>
  obtain⟨hp,hb0⟩:=MF.lV hb
  obtain⟨k1,k2⟩:=hm.dp id b hb0 hd
  refine⟨k1,fun B hB=>?_⟩
  obtain⟨q1,q2,q3⟩:=k2 B hB
  exact⟨.inr ⟨id,b,hp,hb0,fj hd,.inr ⟨hd,hB⟩⟩,fun id' b' o h1 h2=>q2 id' b' o (MF.lV h1).2 h2,fun id' b' h1 h2 h3=>q3 id' b' (MF.lV h1).2 h2 h3⟩
def wP {p:Nat→Bool}{l:List (Nat×aa)}(_hp:∀x∈l,p x.1=true)(i:Nat)(h:p i=true):(m.on p).ag l i=m.ag l i:=by
 unfold MF.ag
 rw[MF.kX h]
def eS {α:Type}:∀{l:List (Nat×α)} {i:Nat} {x:α},find l i=some x→(i,x)∈l
 | [],i,x,h=>by trivial
 | (j,y)::l,i,x,h=>by
  rw[aF] at h
  split at h
  ·grind
  ·exact gZ _ (eS h)
def wO {p:Nat→Bool}{l:List (Nat×aa)}(hp:∀x∈l,p x.1=true)(i:Nat)(h:p i=false):m.ag l i=m i∧(m.on p).ag l i=none:=by
 have:find l i=none:=by
  cases hf:find l i with
  |none=>rfl
  |some b=>have:=hp _ (eS hf);grind
 simp[MF.ag,this,MF.on,h]
def Pl.on (p:Nat→Bool)(ρ' ρ:Pl):Pl:=⟨fun id=>bif p id then ρ' id else ρ id,fun id=>bif p id then ρ'.d id else ρ.d id⟩
def aB.lift {p:Nat→Bool}{l:List (Nat×aa)}{w':World}{I':Nat→Prop}{ρ':Pl}(hm:aC F m w I ρ)(hp:∀x∈l,p x.1=true)
  (hd:aB ⟨w,I,fun B=>∃id b,p id=true∧m id=some b∧b.live∧bO ρ id b B,F.G⟩ (m.on p) ((m.on p).ag l) w w' I I' ρ ρ') :
  aB F m (m.ag l) w w' I I' ρ (Pl.on p ρ' ρ)∧(∀id b,(m.on p).ag l id=some b→m.ag l id=some b∧(Pl.on p ρ' ρ) id=ρ' id):=by
 have hsub:∀id b,(m.on p).ag l id=some b→m.ag l id=some b∧(Pl.on p ρ' ρ) id=ρ' id:=by
  intro id b hb
  cases aJ:p id with
  |true=>rw[wP hp id aJ] at hb;exact⟨hb,by simp[Pl.on,aJ]⟩
  |false=>rw[(wO hp id aJ).2] at hb;trivial
 have hin:∀id,p id=true→∀b,m.ag l id=some b→(m.on p).ag l id=some b:=fun id aJ b hb=>by rw[wP hp id aJ];omega
 have hout:∀id,p id=false→m.ag l id=m id:=fun id aJ=>(wO hp id aJ).1
 have e1:∀id,p id=true→(Pl.on p ρ' ρ) id=ρ' id∧(Pl.on p ρ' ρ).d id=ρ'.d id:=fun id h=>by simp[Pl.on,h]
 have e2:∀id,p id=false→(Pl.on p ρ' ρ) id=ρ id∧(Pl.on p ρ' ρ).d id=ρ.d id:=fun id h=>by simp[Pl.on,h]
 have hkeep:∀id b B,p id=false→m id=some b→b.live→bO ρ id b B→w'.heap[B]?=w.heap[B]?∧(I' B→I B)∧B<w.heap.size ∧
   ¬∃id b,p id=true∧m id=some b∧b.live∧bO ρ id b B:=by
  intro id b B aJ hb hl hr
  have hlt:B<w.heap.size:=by
   rcases hr with⟨o,hr⟩|⟨cF,hr⟩
   ·exact hm.lt hb hl hr
   ·exact(hm.dlt hb cF hr).1
  have hnx:¬∃id b,p id=true∧m id=some b∧b.live∧bO ρ id b B:=by
   rintro⟨id2,b2,h1,h2,h3,h4⟩
   have:=hm.jC hb hl hr h2 h3 h4
   simp_all
  refine⟨hd.mem.frame B hlt hnx,fun hI=>?_,hlt,hnx⟩
  rcases hd.mem.iu B hI with h|h|h
  ·omega
  ·exact absurd hlt (Nat.not_lt.2 h)
  ·trivial
 have hk:c_ m (m.ag l) ρ (Pl.on p ρ' ρ) w w':=by
  refine⟨fun id b hb=>?_,fun id b b' rs t u xs ys hb hb' hst hc aI B o hB=>?_⟩
  ·cases aJ:p id with
   |true=>
    obtain⟨b',h1,h2⟩:=hd.keep.keep id b (by rw[MF.kX aJ];omega)
    grind
   |false=>
    refine⟨b,by simp_all,?_⟩
    exact .inr ⟨rfl,bX.refl _,(e2 id aJ).1,fun hl B o' hr cs hc=>⟨cs,hc.of_same (hkeep id b B aJ hb hl (.inl ⟨_,hr⟩)).1,bA _⟩⟩
  ·cases aJ:p id with
   |true=>exact hd.keep.nest id b b' rs t u xs ys (by rw[MF.kX aJ];omega) (hin id aJ b' hb') hst hc aI B o hB
   |false=>exact(hkeep id b B aJ hb (by unfold aa.live;simp_all) (.inl ⟨_,hB⟩)).1
 have mixed:∀i j bi bj B,p i=true→p j=false→m.ag l i=some bi→m.ag l j=some bj→bi.live→bj.live→bO ρ' i bi B→bO ρ j bj B→False:=by
  intro i j bi bj B aJ cJ jS hbj hli hlj hri hrj
  rw[hout j cJ] at hbj
  obtain⟨_,_,hlt,hnx⟩:=hkeep j bj B cJ hbj hlj hrj
  have:w.heap.size≤B∨∃id b,p id=true∧m id=some b∧b.live∧bO ρ id b B:=by
   rcases hri with⟨o,hri⟩|⟨cF,hri⟩
   ·exact hd.mem.mine i bi B o (hin i aJ bi jS) hli hri
   ·exact((hd.mem.dp i bi (hin i aJ bi jS) cF).2 B hri).1
  rcases this with h|h
  ·exact absurd hlt (Nat.not_lt.2 h)
  ·trivial
 have up:∀B,(w.heap.size≤B∨∃id b,p id=true∧m id=some b∧b.live∧bO ρ id b B)→F.w0.heap.size≤B∨F.X0 B:=by
  rintro B (h|⟨id2,b2,h1,h2,h3,⟨o,h4⟩|⟨h4,h5⟩⟩)
  ·exact .inl (nV hm.size h)
  ·exact hm.mine id2 b2 B o h2 h3 h4
  ·exact((hm.dp id2 b2 h2 h4).2 B h5).1
 refine⟨⟨hd.j7,hk,?_⟩,hsub⟩
 refine { aN:=?_,inj:=?_,aS:=hd.mem.aS,iJ:=fun B h=>hd.mem.iJ B (hm.iJ B h),iu:=?_,mine:=?_,dp:=?_,frame:=?_,size:=nV hm.size hd.mem.size,os:=hd.mem.os.trans hm.os,tape:=hd.mem.tape.trans hm.tape,output:=hd.mem.output.trans hm.output,fU:=F.G.mono hd.j7 hm.fU }
 ·intro id b hb
  cases aJ:p id with
  |true=>
   have h:=hd.mem.aN id b (hin id aJ b hb)
   obtain⟨hρ,oH⟩:=e1 id aJ
   unfold cM at h ⊢
   split
   ·trivial
   ·rename_i t x e
    simp only[e] at h
    obtain⟨h1,B,cs,h2,h3,h4,h5⟩:=h
    exact⟨h1,B,cs,hρ.trans h2,h3,h4.sub hsub,h5⟩
   ·rename_i t xs e
    simp only[e] at h
    obtain⟨h0,h⟩:=h
    refine⟨h0,h.imp (fun⟨h1,h2⟩=>⟨h1,hρ.trans h2⟩) ?_⟩
    rintro⟨B,o',cs,h2,h3⟩
    exact⟨B,o',cs,hρ.trans h2,h3⟩
   ·rename_i rs t xs e
    simp only[e] at h
    obtain⟨h0,h⟩:=h
    refine⟨h0,h.imp (fun⟨h1,h2,h3⟩=>⟨h1,hρ.trans h2,oH.trans h3⟩) ?_⟩
    rintro⟨B,o',cs,h2,h3⟩
    exact⟨B,o',cs,hρ.trans h2,by rw[oH];exact h3⟩
  |false=>
   rw[hout id aJ] at hb
   refine(hm.aN id b hb).mono hd.j7 hk (e2 id aJ).1 (e2 id aJ).2 (fun B o' hr hl=>?_) fun cF B hB=>?_
   ·obtain⟨h1,h2,_⟩:=hkeep id b B aJ hb hl (.inl ⟨_,hr⟩)
    exact⟨h1,h2⟩
   ·obtain⟨h1,h2,_⟩:=hkeep id b B aJ hb (fj cF) (.inr ⟨cF,hB⟩)
    exact⟨h1,h2⟩
 ·intro id id' b b' B o1 o2 hb hb' hl hl' hr hr'
  cases aJ:p id with
  |true=>
   rw[(e1 id aJ).1] at hr
   cases cJ:p id' with
   |true=>
    rw[(e1 id' cJ).1] at hr'
    exact hd.mem.inj id id' b b' B o1 o2 (hin id aJ b hb) (hin id' cJ b' hb') hl hl' hr hr'
   |false=>
    rw[(e2 id' cJ).1] at hr'
    exact(mixed id id' b b' B aJ cJ hb hb' hl hl' (.inl ⟨_,hr⟩) (.inl ⟨_,hr'⟩)).elim
  |false=>
   rw[(e2 id aJ).1] at hr
   cases cJ:p id' with
   |true=>
    rw[(e1 id' cJ).1] at hr'
    exact(mixed id' id b' b B cJ aJ hb' hb hl' hl (.inl ⟨_,hr'⟩) (.inl ⟨_,hr⟩)).elim
   |false=>
    rw[(e2 id' cJ).1] at hr'
    rw[hout id aJ] at hb
    rw[hout id' cJ] at hb'
    exact hm.inj id id' b b' B o1 o2 hb hb' hl hl' hr hr'
 ·intro B hB
  rcases hd.mem.iu B hB with h|h|h
  ·exact hm.iu B h
  ·exact .inr (up B (.inl h))
  ·exact .inr (up B (.inr h))
 ·intro id b B o' hb hl hr
  cases aJ:p id with
  |true=>
   rw[(e1 id aJ).1] at hr
   exact up B (hd.mem.mine id b B o' (hin id aJ b hb) hl hr)
  |false=>
   rw[(e2 id aJ).1] at hr
   rw[hout id aJ] at hb
   exact hm.mine id b B o' hb hl hr
 ·intro id b hb cF
  cases aJ:p id with
  |true=>
   rw[(e1 id aJ).2]
   obtain⟨k1,k2⟩:=hd.mem.dp id b (hin id aJ b hb) cF
   refine⟨k1,fun B hB=>⟨up B (k2 B hB).1,fun id' b' o h1 h2 h3=>?_,fun id' b' h1 h2 h3=>?_⟩⟩
   ·cases cJ:p id' with
    |true=>rw[(e1 id' cJ).1] at h3;exact(k2 B hB).2.1 id' b' o (hin id' cJ b' h1) h2 h3
    |false=>rw[(e2 id' cJ).1] at h3;exact mixed id id' b b' B aJ cJ hb h1 (fj cF) h2 (.inr ⟨cF,hB⟩) (.inl ⟨_,h3⟩)
   ·cases cJ:p id' with
    |true=>rw[(e1 id' cJ).2] at h3;exact(k2 B hB).2.2 id' b' (hin id' cJ b' h1) h2 h3
    |false=>rw[(e2 id' cJ).2] at h3;exact(mixed id id' b b' B aJ cJ hb h1 (fj cF) (fj h2) (.inr ⟨cF,hB⟩) (.inr ⟨h2,h3⟩)).elim
  |false=>
   rw[(e2 id aJ).2]
   have hb0:=hb
   rw[hout id aJ] at hb0
   obtain⟨k1,k2⟩:=hm.dp id b hb0 cF
   refine⟨k1,fun B hB=>⟨(k2 B hB).1,fun id' b' o h1 h2 h3=>?_,fun id' b' h1 h2 h3=>?_⟩⟩
   ·cases cJ:p id' with
    |true=>rw[(e1 id' cJ).1] at h3;exact mixed id' id b' b B cJ aJ h1 hb h2 (fj cF) (.inl ⟨_,h3⟩) (.inr ⟨cF,hB⟩)
    |false=>rw[(e2 id' cJ).1] at h3;rw[hout id' cJ] at h1;exact(k2 B hB).2.1 id' b' o h1 h2 h3
   ·cases cJ:p id' with
    |true=>rw[(e1 id' cJ).2] at h3;exact(mixed id' id b' b B cJ aJ h1 hb (fj h2) (fj cF) (.inr ⟨h2,h3⟩) (.inr ⟨cF,hB⟩)).elim
    |false=>rw[(e2 id' cJ).2] at h3;rw[hout id' cJ] at h1;exact(k2 B hB).2.2 id' b' h1 h2 h3
 ·intro B hB hX
  have hlt:=Nat.lt_of_lt_of_le hB hm.size
  refine(hd.mem.frame B hlt ?_).trans (hm.frame B hB hX)
  intro h
  rcases up B (.inr h) with h|h
  ·exact absurd hB (Nat.not_lt.2 h)
  ·exact hX h
def az.lift {p:Nat→Bool}(hm:aC F m w I ρ)(bK:mW m p)(hp:∀x∈d.ag,p x.1=true)(hg:∀F',F'.G=F.G→aC F' (m.on p) w I ρ→az P F' o a w (m.on p) I ρ d):az P F o a w m I ρ d:=by
 intro K Q h
 refine hg ⟨w,I,fun B=>∃id b,p id=true∧m id=some b∧b.live∧bO ρ id b B,F.G⟩ rfl (hm.cut bK) K Q fun v w' I' ρ' hd hs=>?_
 obtain⟨h1,h2⟩:=aB.lift hm hp hd
 exact h v w' I' _ h1 (hs.sub h2)
end
def cD (w:World)(I:Nat→Prop):(t:Ty)→t.den→List Value→List Nat→Prop
 |.own t,xs,vs,Bs=>∃a cap,vs = [.slice a xs.length cap]∧xs.length≤cap∧((a=none∧cap=0∧Bs = []) ∨
  ∃B o cs,a=some ⟨B,o,none⟩∧Cells w B cs∧o+cap*t.size≤cs.length∧fQ w B o t.size (af w I t) xs∧¬I B∧Bs = [B])
 |.pair a b,x,vs,Bs=>∃v1 v2 B1 B2,vs=v1++v2∧Bs=B1++B2∧cD w I a x.1 v1 B1∧cD w I b x.2 v2 B2
 |.unit,x,vs,Bs=>Bs = []∧af w I .unit x vs
 |.bool,x,vs,Bs=>Bs = []∧af w I .bool x vs
 |.int k,x,vs,Bs=>Bs = []∧af w I (.int k) x vs
 |.str,x,vs,Bs=>Bs = []∧af w I .str x vs
 |.lst t,x,vs,Bs=>Bs = []∧af w I (.lst t) x vs
 |.arr n t,x,vs,Bs=>Bs = []∧af w I (.arr n t) x vs
 |.ref t,x,vs,Bs=>Bs = []∧af w I (.ref t) x vs
section
variable {P:Program} {F:Fix} {C:Cx} {o:Oper} {a:Act} {w:World} {m:MF} {I:Nat→Prop} {ρ:Pl} {d:aD}
def cD.fY:∀{t:Ty} {x:t.den} {vs:List Value},af w I t x vs→cD w I t x vs []:=by
 intro t
 induction t with
 |own t _=>simp[af]
 |pair a b aO aK=>
  intro x vs h
  obtain⟨v1,v2,e,h1,h2⟩:=h
  exact⟨v1,v2,[],[],e,rfl,aO h1,aK h2⟩
 |_=>intro x vs h;trivial
def cD.rep:∀{t:Ty} {x:t.den} {vs:List Value} {Bs:List Nat},t.fu=false→cD w I t x vs Bs→af w I t x vs∧Bs = []:=by
 intro t
 induction t with
 |own t _=>simp[Ty.fu]
 |pair a b aO aK=>
  intro x vs Bs h hr
  simp[Ty.fu] at h
  obtain⟨v1,v2,B1,B2,e,eb,h1,h2⟩:=hr
  simp[af]
  grind
 |_=>intro x vs Bs _ hr;exact⟨hr.2,hr.1⟩
def cD.length:∀{t:Ty} {x:t.den} {vs:List Value} {Bs:List Nat},cD w I t x vs Bs→vs.length=t.size:=by
 intro t
 induction t with
 |own t _=>intro x vs Bs h;obtain⟨a,cap,e,_⟩:=h;simp[e,Ty.size]
 |pair a b aO aK=>
  intro x vs Bs h
  obtain⟨v1,v2,B1,B2,e,eb,h1,h2⟩:=h
  simp[e,Ty.size,aO h1,aK h2]
 |_=>intro x vs Bs h;exact af.length h.2
def cD.cB:∀{t:Ty} {x:t.den} {vs:List Value} {Bs:List Nat},cD w I t x vs Bs→∀v∈vs,v.oneCell'=true:=by
 intro t
 induction t with
 |own t _=>intro x vs Bs h;obtain⟨a,cap,e,_⟩:=h;grind [Value.oneCell']
 |pair a b aO aK=>
  intro x vs Bs h v hv
  obtain⟨v1,v2,B1,B2,e,eb,h1,h2⟩:=h
  grind
 |_=>intro x vs Bs h;exact af.cB h.2
def aH (m:MF)(ρ:Pl)(id B:Nat):Prop:=∃b,m id=some b∧b.live∧b.fz=false∧bO ρ id b B
def aH.inj (hm:aC F m w I ρ){i j B:Nat}(hi:aH m ρ i B)(hj:aH m ρ j B):i=j:=by
 obtain⟨b,h1,h2,_,h4⟩:=hi
 obtain⟨b',h1',h2',_,h4'⟩:=hj
 exact hm.jC h1 h2 h4 h1' h2' h4'
def aH.iX (hm:aC F m w I ρ){i B:Nat}(h:aH m ρ i B):¬I B:=by
 obtain⟨b,h1,h2,h3,h4⟩:=h
 intro hI
 rcases h4 with⟨o,h4⟩|⟨h4,h5⟩
 ·have aA:=hm.aN i b h1
  unfold cM at aA
  unfold aa.live at h2
  cases hc:b.c with
  |dead=>simp[hc] at h2
  |var t x=>
   simp only[hc] at aA
   obtain⟨_,B',cs,e1,_,_,e2⟩:=aA
   rw[h4] at e1;cases e1
   rw[e2.2 hI] at h3;cases h3
  |rows t ys=>
   simp only[hc] at aA
   rcases aA.2 with⟨_,e1⟩|⟨B',de,cs,e1,_,_,_,e2⟩
   ·rw[h4] at e1;cases e1
   ·rw[h4] at e1;cases e1
    rw[e2.2 hI] at h3;cases h3
  |deep rs t ys=>
   simp only[hc] at aA
   rcases aA.2 with⟨_,e1,_⟩|⟨B',de,cs,e1,_,_,_,e2⟩
   ·rw[h4] at e1;cases e1
   ·rw[h4] at e1;cases e1
    exact e2 hI
 ·exact(hm.dlt h1 h4 h5).2 hI
def aH.lt (hm:aC F m w I ρ){i B:Nat}(h:aH m ρ i B):B<w.heap.size:=by
 obtain⟨b,h1,h2,h3,h4⟩:=h
 rcases h4 with⟨o,h4⟩|⟨h4,h5⟩
 ·exact hm.lt h1 h2 h4
 ·exact(hm.dlt h1 h4 h5).1
def aH.up (hm:aC F m w I ρ){i B:Nat}(h:aH m ρ i B):F.w0.heap.size≤B∨F.X0 B:=by
 obtain⟨b,h1,h2,h3,h4⟩:=h
 rcases h4 with⟨o,h4⟩|⟨h4,h5⟩
 ·exact hm.mine i b B o h1 h2 h4
 ·exact((hm.dp i b h1 h4).2 B h5).1
def jA (hm:aC F m w I ρ){l l' Bs Bs':List Nat}(hn:(l++l').Nodup)(h:Bs.Nodup)(h':Bs'.Nodup)(hl:∀B∈Bs,∃id∈l,aH m ρ id B)(hl':∀B∈Bs',∃id∈l',aH m ρ id B):(Bs++Bs').Nodup:=by
 rw[cL]
 refine⟨h,h',fun x hx y hy e=>?_⟩
 subst e
 obtain⟨i,hi,h1⟩:=hl x hx
 obtain⟨j,hj,h2⟩:=hl' x hy
 have:=h1.inj hm h2
 grind
def sZ {id st:Nat}{t:Ty}{xs:List t.den}{vs:List Value}{I':Nat→Prop}(hm:aC F m w I ρ)(hr:aq w I m ρ (.whole id st t) vs)(hro:rowsOf m id st t=some (false,xs))
  (hI:∀B,I B→I' B) (hn:∀B,aH m ρ id B→¬I' B):∃Bs,cD w I' (.own t) xs vs Bs∧(Bs = []∨∃B,Bs = [B]∧aH m ρ id B):=by
 have hb:=gW hro
 obtain⟨_,_,h3⟩:=hr
 obtain⟨ad,cap,e1,e2,e3⟩:=h3 _ hb rfl t xs.length rfl
 have aA:=hm.aN id _ hb
 obtain⟨h0,aA⟩:=aA
 rcases e3 with e3|⟨B',de,cs',g1,g2,g3,g4⟩
 ·exact⟨[],⟨ad,cap,e1,e2,.inl ⟨e3.1,e3.2.1,rfl⟩⟩,.inl rfl⟩
 ·rcases aA with⟨_,hno⟩|⟨B,o',cs,f1,f2,f3,f4,f5⟩
  ·rw[hno] at g1;cases g1
  ·rw[f1] at g1
   cases g1
   have bP:aH m ρ id B':=⟨_,hb,fC rfl,rfl,.inl ⟨de,f1⟩⟩
   refine⟨[B'],⟨ad,cap,e1,e2,.inr ⟨B',de,cs',g2,g3,g4,f4.mono (fun _=>rfl) (fun x vs h=>af.mono ⟨hI,fun _ _=>rfl⟩ h),hn B' bP,rfl⟩⟩,.inr ⟨B',rfl,bP⟩⟩
def wC {I':Nat→Prop}(hm:aC F m w I ρ)(hI:∀B,I B→I' B):∀{x:AT} {d:DV} {vs:List Value},jH m x=some d→aq w I m ρ x vs→(∀id∈x.ids,∀B,aH m ρ id B→¬I' B)→x.ids.Nodup →
  ∃Bs,cD w I' d.t d.x vs Bs∧Bs.Nodup∧∀B∈Bs,∃id∈x.ids,aH m ρ id B:=by
 intro x
 induction x with
 |leaf t x=>intro d vs h hr _ _;simp[jH] at h;subst h;exact⟨[],cD.fY (af.mono ⟨hI,fun _ _=>rfl⟩ hr),by simp,by simp⟩
 |nil t=>
  intro d vs h hr _ _
  simp[jH] at h
  subst h
  subst hr
  exact⟨[],⟨none,0,rfl,by simp,.inl ⟨rfl,rfl,rfl⟩⟩,by simp,by simp⟩
 |whole id st t=>
  intro d vs h hr hn _
  simp[jH] at h
  split at h
  ·rename_i xs hro
   simp at h
   subst h
   obtain⟨Bs,h1,h2⟩:=sZ hm hr hro hI (hn id (by simp[AT.ids]))
   refine⟨Bs,h1,?_,?_⟩
   ·rcases h2 with rfl|⟨B,rfl,_⟩<;>simp
   ·rcases h2 with rfl|⟨B,rfl,h2⟩
    ·simp
    ·intro B' br
     simp at br
     subst br
     exact⟨id,by simp[AT.ids],h2⟩
  ·simp at h
 |pair l r ihl ihr=>
  intro d vs h hr hn aE
  simp[jH] at h
  split at h
  ·rename_i x y hx hy
   simp at h
   subst h
   obtain⟨v1,v2,rfl,h1,h2⟩:=hr
   have happ:(app l.ids r.ids)=l.ids++r.ids:=by
    generalize l.ids=q
    induction q with
    |nil=>rfl
    |cons z q ih=>simp[app,ih]
   simp[AT.ids,happ,cL] at aE
   obtain⟨B1,k1,k2,k3⟩:=ihl hx h1 (fun id hi=>hn id (bw.2 (.inl hi))) aE.1
   obtain⟨B2,k4,k5,k6⟩:=ihr hy h2 (fun id hi=>hn id (bw.2 (.inr hi))) aE.2.1
   refine⟨B1++B2,⟨v1,v2,B1,B2,rfl,rfl,k1,k4⟩,?_,?_⟩
   ·exact jA hm (cL.2 aE) k2 k5 k3 k6
   ·intro B hB
    rcases bU.1 hB with hB|hB
    ·obtain⟨i,j,k⟩:=k3 B hB;exact⟨i,bw.2 (.inl j),k⟩
    ·obtain⟨i,j,k⟩:=k6 B hB;exact⟨i,bw.2 (.inr j),k⟩
  ·simp at h
 |_=>intro d vs h hr _ _;simp[jH] at h
def bE.vH {t:Ty}(ht:t.aV=false){B:Nat}:∀{xs:List t.den} {off:Nat},fQ w B off t.size (af w I t) xs→bE w B t.size (au w I t) off xs []
 | [],_,_=>rfl
 |x::xs,off,h=>by
  obtain⟨cs,h1,h2,h3⟩:=h 0 x rfl
  refine⟨cs,[],[],rfl,h1,fun j hj=>by grind,au.fY ht h3,bE.vH ht fun i y hy=>?_⟩
  obtain⟨ds,k1,k2,k3⟩:=h (i+1) y (by grind)
  grind
def qJ {id st:Nat}{t:Ty}{xs:List t.den}(h:o7 m id st t=some xs):(m id=some ⟨st,false,.rows t xs⟩∧t.aV=false)∨∃fz rs,m id=some ⟨st,fz,.deep rs t xs⟩:=by
 unfold o7 at h
 split at h
 ·rename_i st' u ys hc
  obtain⟨hb,hst⟩:=cN hc
  cases hl:u.aV with
  |true=>simp[hl] at h
  |false=>
   rw[hl] at h
   obtain⟨e,he⟩:=DV.cz h
   simp at e
   subst e
   subst he hst
   exact .inl ⟨hb,hl⟩
 ·rename_i st' fz rs u ys hc
  obtain⟨hb,hst⟩:=cN hc
  obtain⟨e,he⟩:=DV.cz h
  simp at e
  subst e
  subst he hst
  exact .inr ⟨fz,rs,hb⟩
 ·simp at h
def vQ {id st:Nat}{t:Ty}{xs:List t.den}{vs:List Value}{I':Nat→Prop}(hm:aC F m w I ρ)(hr:aq w I m ρ (.whole id st t) vs)(hro:o7 m id st t=some xs)
  (hI:∀B,I B→I' B) (hn:∀B,aH m ρ id B→¬I' B):∃Bs,au w I' (.lst t) xs vs Bs∧Bs.Nodup∧∀B∈Bs,aH m ρ id B:=by
 have ha:bH I I' w w:=⟨hI,fun _ _=>rfl⟩
 obtain⟨b,hb,hst,cA⟩:∃b,m id=some b∧b.st=st∧b.c.arr=some (t,xs.length):=by
  rcases qJ hro with⟨h,_⟩|⟨fz,rs,h⟩
  ·exact⟨_,h,rfl,rfl⟩
  ·exact⟨_,h,rfl,rfl⟩
 obtain⟨_,_,h3⟩:=hr
 obtain⟨ad,cap,e1,e2,e3⟩:=h3 _ hb hst t xs.length cA
 rcases e3 with e3|⟨B',de,cs',g1,g2,g3,g4⟩
 ·exact⟨[],⟨ad,cap,e1,e2,.inl ⟨e3.1,e3.2.1,rfl⟩⟩,by simp,by simp⟩
 ·rcases qJ hro with⟨h,hl⟩|⟨fz,rs,h⟩
  ·have aA:=hm.aN id _ h
   rcases aA.2 with⟨_,hno⟩|⟨B,o',cs,f1,f2,f3,f4,f5⟩
   ·rw[hno] at g1;cases g1
   ·rw[f1] at g1
    cases g1
    have bP:aH m ρ id B':=⟨_,h,fC rfl,rfl,.inl ⟨_,f1⟩⟩
    exact⟨[B'],⟨ad,cap,e1,e2,.inr ⟨B',de,cs',[],g2,g3,g4,bE.vH hl (f4.mono (fun _=>rfl) (fun x vs h=>af.mono ha h)),hn B' bP,rfl⟩⟩,by simp,by simpa using bP⟩
  ·have aA:=hm.aN id _ h
   obtain⟨hfz,aA⟩:=aA
   subst hfz
   rcases aA with⟨_,hno,_⟩|⟨B,o',cs,f1,f2,f3,f4,f5⟩
   ·rw[hno] at g1;cases g1
   ·rw[f1] at g1
    cases g1
    have bP:aH m ρ id B':=⟨_,h,trivial,rfl,.inl ⟨_,f1⟩⟩
    have hmd:∀B∈ρ.d id,aH m ρ id B:=fun B hB=>⟨_,h,trivial,rfl,.inr ⟨trivial,hB⟩⟩
    obtain⟨q1,q2⟩:=hm.dp id _ h trivial
    refine⟨B'::ρ.d id,⟨ad,cap,e1,e2,.inr ⟨B',de,cs',_,g2,g3,g4,f4.mono (fun _=>rfl) (fun x vs D hD h=>au.mono ha (fun B hB=>⟨rfl,fun kO=>absurd kO (hn B (hmd B (hD B hB)))⟩) h),hn B' bP,rfl⟩⟩,?_,?_⟩
    ·rw[dN]
     exact⟨fun hin=>(q2 B' hin).2.1 id _ _ h trivial f1,q1⟩
    ·intro B hB
     rcases bN.1 hB with e|hB
     ·subst e;exact bP
     ·exact hmd B hB
end
section
variable {P:Program} {F:Fix} {C:Cx} {o:Oper} {a:Act} {w:World} {m:MF} {I:Nat→Prop} {ρ:Pl} {d:aD}
structure hJ (w:World) (I:Nat→Prop) (m:MF) (l:List (Nat×aa)) (n e:Nat) (Bs:List Nat) (pl:Pl):Prop where
 le:n≤e
 gV:∀i b,find l i=some b→n≤i∧i<e
 all:∀i,n≤i→i<e→∃b,find l i=some b
 aN:∀i b,find l i=some b→b.fz=false∧(∃u ys,b.c = .rows u ys)∧b.st=aP m i∧∀m' ρ',ρ' i=pl i→cM w I m' ρ' i b
 src:∀i B o,n≤i→i<e→pl i=some (B,o)→B∈Bs
 one:∀i j B o o',n≤i→i<e→n≤j→j<e→pl i=some (B,o)→pl j=some (B,o')→i=j
def hJ.nil (n:Nat)(pl:Pl):hJ w I m [] n n [] pl:=
 ⟨bA _,fun i b h=>by trivial,fun i h h'=>by omega,fun i b h=>by trivial,fun i B o h h'=>by omega,fun i j B o o' h h'=>by omega⟩
def hJ.congr {l:List (Nat×aa)}{n e:Nat}{Bs:List Nat}{pl eJ:Pl}(h:hJ w I m l n e Bs pl)(hp:∀i,n≤i→i<e→eJ i=pl i):hJ w I m l n e Bs eJ:=by
 refine⟨h.le,h.gV,h.all,fun i b hb=>?_,fun i B o h1 h2 h3=>h.src i B o h1 h2 (by grind),fun i j B o o' h1 h2 h3 h4 h5 h6=>h.one i j B o o' h1 h2 h3 h4 (by grind) (by grind)⟩
 obtain⟨k1,k2,k3,k4⟩:=h.aN i b hb
 obtain⟨r1,r2⟩:=h.gV i b hb
 grind
def hJ.app {l1 l2:List (Nat×aa)}{n k e:Nat}{B1 B2:List Nat}{pl:Pl}(h1:hJ w I m l1 n k B1 pl)(h2:hJ w I m l2 k e B2 pl)(aE:(B1++B2).Nodup) :
  hJ w I m (app l1 l2) n e (B1++B2) pl:=by
 have hle:=h1.le
 have qp:=h2.le
 have hf:∀i b,find (Ab.app l1 l2) i=some b→find l1 i=some b∨find l2 i=some b:=by
  intro i b h
  rw[cO] at h
  grind
 rw[cL] at aE
 have mix:∀i j B o o',n≤i→i<k→k≤j→j<e→pl i=some (B,o)→pl j=some (B,o')→False:=by
  intro i j B o o' a1 a2 a3 a4 a5 a6
  exact aE.2.2 B (h1.src i B o a1 a2 a5) B (h2.src j B o' a3 a4 a6) rfl
 refine⟨by omega,fun i b h=>?_,fun i hi hi'=>?_,fun i b h=>?_,fun i B o hi hi' h=>?_,fun i j B o o' a1 a2 a3 a4 a5 a6=>?_⟩
 ·rcases hf i b h with h|h
  ·have:=h1.gV i b h;omega
  ·have:=h2.gV i b h;omega
 ·rw[cO]
  by_cases hik:i<k
  ·obtain⟨b,hb⟩:=h1.all i hi hik
   exact⟨b,by simp[hb]⟩
  ·obtain⟨b,hb⟩:=h2.all i (by omega) hi'
   cases hf1:find l1 i with
   |some b'=>exact⟨b',rfl⟩
   |none=>exact⟨b,hb⟩
 ·rcases hf i b h with h|h
  ·exact h1.aN i b h
  ·exact h2.aN i b h
 ·rw[bU]
  by_cases hik:i<k
  ·exact .inl (h1.src i B o hi hik h)
  ·exact .inr (h2.src i B o (by omega) hi' h)
 ·by_cases hi:i<k<;>by_cases hj:j<k
  ·exact h1.one i j B o o' a1 hi a3 hj a5 a6
  ·exact(mix i j B o o' a1 hi (by omega) a4 a5 a6).elim
  ·exact(mix j i B o' o a3 hj (by omega) a2 a6 a5).elim
  ·exact h2.one i j B o o' (by omega) a2 (by omega) a4 a5 a6
def oJ (m:MF):∀{t:Ty} {x:t.den} {vs:List Value} {Bs:List Nat} (n:Nat),cD w I t x vs Bs→Bs.Nodup →
  ∃pl:Pl,hJ w I m (aZ m t x n).2.1 n (aZ m t x n).2.2 Bs pl ∧
   ∀m' ρ',(∀i b,find (aZ m t x n).2.1 i=some b→m' i=some b∧ρ' i=pl i)→aq w I m' ρ' (aZ m t x n).1 vs:=by
 intro t
 induction t with
 |own t _=>
  intro x vs Bs n h aE
  obtain⟨ad,cap,e,hl,h⟩:=h
  simp[aZ]
  rcases h with⟨hn0,h0,hB⟩|⟨B,o',cs,e1,e2,e3,e4,e5,e6⟩
  ·refine⟨⟨fun _=>none,fun _=>[]⟩,⟨by simp,fun i b h=>?_,fun i h1 h2=>⟨_,by rw[aF,bQ (show n=i by omega)]⟩,fun i b h=>?_,fun i B o h1 h2 h=>by grind,fun i j B o o' h1 h2 h3 h4=>by simp⟩,fun m' ρ' h=>?_⟩
   ·rw[aF] at h;split at h
    ·omega
    ·simp[find] at h
   ·rw[aF] at h
    split at h
    ·rename_i hni
     subst hni
     cases h
     have kq:x = []:=by rw[←eC];omega
     refine⟨rfl,⟨_,_,rfl⟩,rfl,fun m' ρ' hρ=>?_⟩
     exact⟨trivial,.inl ⟨kq,hρ⟩⟩
    ·simp[find] at h
   ·obtain⟨h1,h2⟩:=h n _ (by rw[aF,bQ rfl])
    refine⟨⟨_,e,rfl⟩,cy.of h1 rfl,fun b hb hs u ys hc=>?_⟩
    rw[h1] at hb
    cases hb
    cases hc
    exact⟨ad,cap,e,hl,.inl ⟨hn0,h0,h2⟩⟩
  ·subst e6
   refine⟨⟨fun _=>some (B,o'),fun _=>[]⟩,⟨by omega,fun i b h=>?_,fun i h1 h2=>⟨_,by rw[aF,bQ (show n=i by omega)]⟩,fun i b h=>?_,fun i B' o h1 h2 h=>by cases h;simp,fun i j B o o' h1 h2 h3 h4=>by omega⟩,fun m' ρ' h=>?_⟩
   ·rw[aF] at h;split at h
    ·omega
    ·simp[find] at h
   ·rw[aF] at h
    split at h
    ·rename_i hni
     subst hni
     cases h
     refine⟨rfl,⟨_,_,rfl⟩,rfl,fun m' ρ' hρ=>?_⟩
     have:=gH t.size hl
     exact⟨trivial,.inr ⟨B,o',cs,hρ,e2,by omega,e4,by simpa using e5⟩⟩
    ·simp[find] at h
   ·obtain⟨h1,h2⟩:=h n _ (by rw[aF,bQ rfl])
    refine⟨⟨_,e,rfl⟩,cy.of h1 rfl,fun b hb hs u ys hc=>?_⟩
    rw[h1] at hb
    cases hb
    cases hc
    exact⟨ad,cap,e,hl,.inr ⟨B,o',cs,h2,e1,e2,e3⟩⟩
 |pair t u iht ihu=>
  intro x vs Bs n h aE
  cases ho:(Ty.pair t u).fu with
  |false=>
   obtain⟨h1,h2⟩:=h.rep ho
   subst h2
   simp[aZ,ho]
   exact⟨⟨fun _=>none,fun _=>[]⟩,hJ.nil n _,fun m' ρ' _=>h1⟩
  |true=>
   obtain⟨v1,v2,B1,B2,e,eb,h1,h2⟩:=h
   subst eb
   simp[aZ,ho]
   have dc:=cL.1 aE
   obtain⟨p1,k1,k2⟩:=iht n h1 dc.1
   obtain⟨p2,k3,k4⟩:=ihu (aZ m t x.1 n).2.2 h2 dc.2.1
   refine⟨⟨fun i=>if i<(aZ m t x.1 n).2.2 then p1 i else p2 i,fun i=>if i<(aZ m t x.1 n).2.2 then p1.d i else p2.d i⟩,hJ.app (k1.congr fun i _ hi=>by simp[hi]) (k3.congr fun i hi _=>by simp[Nat.not_lt.2 hi]) aE,fun m' ρ' h=>?_⟩
   refine⟨v1,v2,e,k2 m' ρ' fun i b hb=>?_,k4 m' ρ' fun i b hb=>?_⟩
   ·have hr:=k1.gV i b hb
    have:=h i b (by rw[cO,hb])
    simpa[hr.2] using this
   ·have hr:=k3.gV i b hb
    have:find (aZ m t x.1 n).2.1 i=none:=by
     cases hf:find (aZ m t x.1 n).2.1 i with
     |none=>rfl
     |some b'=>have:=k1.gV i b' hf;omega
    have:=h i b (by rw[cO,this];exact hb)
    simpa[Nat.not_lt.2 hr.1] using this
 |_=>
  intro x vs Bs n h aE
  obtain⟨hb,h⟩:=h
  subst hb
  exact⟨⟨fun _=>none,fun _=>[]⟩,hJ.nil n _,fun m' ρ' _=>h⟩
end
def nZ (w:World)(I:Nat→Prop):(t:Ty)→t.den→List Value→Prop
 |.pair a b,x,vs=>∃v l,vs=v::l∧a.isAgg=false∧af w I a x.1 [v]∧nZ w I b x.2 l
 |.unit,_,vs=>vs = []
 |_,_,_=>False
def ArgO (w:World)(I:Nat→Prop):Arg→Value→List Nat→Prop
 |.v d,v,Bs=>∃cs,v=aQ d.t cs∧cD w I d.t d.x cs Bs
 |.d y,v,Bs=>∃cs,v=aQ y.t cs∧au w I y.t y.x cs Bs
 |.p d,v,Bs=>∃B cs B1,v = .pointer (some ⟨B,0,none⟩)∧Cells w B cs∧¬I B∧cD w I d.t d.x cs B1∧Bs=B::B1
 |.m t xs,v,Bs=>cD w I (.own t) xs [v] Bs
 |.f g d,v,Bs=>Bs = []∧∃caps:Array Value,v = .func (.func g) #[] caps∧nZ w I d.t d.x caps.toList
def mV (w:World)(I:Nat→Prop):List Arg→List Value→List Nat→Prop
 | [],[],Bs=>Bs = []
 |x::l,v::vs,Bs=>∃B1 B2,Bs=B1++B2∧ArgO w I x v B1∧mV w I l vs B2
 |_,_,_=>False
def mY (w:World)(I:Nat→Prop):RV→Value→List Nat→Prop
 |.v d,v,Bs=>∃cs,v=aQ d.t cs∧cD w I d.t d.x cs Bs
 |.d y,v,Bs=>∃cs,v=aQ y.t cs∧au w I y.t y.x cs Bs
 |.p d,v,Bs=>∃B cs B1,v = .pointer (some ⟨B,0,none⟩)∧Cells w B cs∧¬I B∧cD w I d.t d.x cs B1∧Bs=B::B1
def ja (w:World)(I:Nat→Prop):List RV→List Value→List Nat→Prop
 | [],[],Bs=>Bs = []
 |x::l,v::vs,Bs=>∃B1 B2,Bs=B1++B2∧mY w I x v B1∧ja w I l vs B2
 |_,_,_=>False
def mu (w:World)(I:Nat→Prop)(outs:List RV)(v:Value)(Bs:List Nat):Prop:=
 match outs with
 | [x]=>mY w I x v Bs
 |l=>∃arr,v = .tuple arr∧ja w I l arr.toList Bs
def Grown (w w':World)(cs:List Value):Prop:=∀B o n cap,Value.slice (some ⟨B,o,none⟩) n cap∈cs→∀ds,Cells w B ds→∃ds',Cells w' B ds'∧ds.length≤ds'.length
def eR (w w':World)(I:Nat→Prop):List Arg→List Value→List DV→List Nat→Prop
 | [],_,[],Bs=>Bs = []
 |.p d::l,v::vs,u::us,Bs=>∃B cs B1 B2,v = .pointer (some ⟨B,0,none⟩)∧Cells w' B cs∧¬I B∧u.t=d.t∧cD w' I u.t u.x cs B1∧Bs=B::(B1++B2)∧eR w w' I l vs us B2
 |.m t xs::l,v::vs,u::us,Bs=>∃ys B1 B2,u=⟨.own t,ys⟩∧ys.length=xs.length∧cD w' I (.own t) ys [v] B1∧Bs=B1++B2 ∧
  (∀B∈B1,∀cs,Cells w B cs→∃cs',Cells w' B cs'∧cs.length≤cs'.length)∧eR w w' I l vs us B2
 |.d y::l,v::vs,u::us,Bs=>∃cs B1 B2,v=aQ y.t cs∧u.t=y.t∧au w' I u.t u.x cs B1∧Bs=B1++B2∧Grown w w' cs∧eR w w' I l vs us B2
 |.v _::l,_::vs,us,Bs=>eR w w' I l vs us Bs
 |.f _ _::l,_::vs,us,Bs=>eR w w' I l vs us Bs
 |_,_,_,_=>False
def mq (P:Program)(G:jN)(f:FuncId)(args:List Arg)(r:Res):Prop:=
 ∀(w:World) (I:Nat→Prop) (vals:List Value) (Bs:List Nat),(∀B,I B→B<w.heap.size)→G.ok w I→mV w I args vals Bs→Bs.Nodup→(∀B∈Bs,¬I B) →
  Calls P f vals.toArray w fun e w'=>∃v I' Ys Zs,e = .returned v∧mu w' I' r.outs v Ys∧eR w w' I' args vals r.kK Zs∧(Ys++Zs).Nodup ∧
   (∀B∈Ys++Zs,(B∈Bs∨w.heap.size≤B)∧¬I' B)∧bH I I' w w'∧(∀B,I' B→B<w'.heap.size∧(I B∨w.heap.size≤B∨B∈Bs)) ∧
   (∀B,B<w.heap.size→¬B∈Bs→w'.heap[B]?=w.heap[B]?)∧w.heap.size≤w'.heap.size∧w'.os=w.os∧w'.tape=w.tape∧w'.output=w.output
section
variable {P:Program} {F:Fix} {C:Cx} {o:Oper} {a:Act} {w:World} {m:MF} {I:Nat→Prop} {ρ:Pl} {d:aD}
def qK:∀(p:Path) {t:Ty},dX p t→∃u,t.at p=some u
 | [],t,_=>⟨t,rfl⟩
 |.fst::p,t,h=>by cases t<;>simp[dX] at h;exact qK p h
 |.snd::p,t,h=>by cases t<;>simp[dX] at h;exact qK p h
 |.idx i::p,t,h=>by cases t<;>simp[dX] at h;exact qK p h.2
def wB {I':Nat→Prop}(hm:aC F m w I ρ)(hI:∀B,I B→I' B):∀{a:AT} {d:DV} {vs:List Value},
  (∀id,id∈a.ids→∀b B,m id=some b→b.live→bO ρ id b B→I' B)→iK m a=some d→aq w I m ρ a vs→af w I' d.t d.x vs:=by
 have ha:bH I I' w w:=⟨hI,fun _ _=>rfl⟩
 have rows:∀{id st:Nat} {t:Ty} {xs:List t.den},gU m id st t=some xs→(∀b B,m id=some b→b.live→bO ρ id b B→I' B) →
   xs = []∨∃B o,ρ id=some (B,o)∧I' B∧fQ w B o t.size (af w I' t) xs:=by
  intro id st t xs hl hf
  rcases uX hl with⟨fz,hb⟩|⟨fz,rs,hb⟩
  ·have aA:=hm.aN id _ hb
   rcases aA.2 with⟨eF,_⟩|⟨B,o',cs,f1,f2,f3,f4,_⟩
   ·exact .inl eF
   ·exact .inr ⟨B,o',f1,hf _ B hb (fC rfl) (.inl ⟨o',f1⟩),f4.mono (fun _=>rfl) (fun x vs h=>af.mono ha h)⟩
  ·have aA:=hm.aN id _ hb
   rcases aA.2 with⟨eF,_⟩|⟨B,o',cs,f1,f2,f3,f4,_⟩
   ·exact .inl eF
   ·refine .inr ⟨B,o',f1,hf _ B hb trivial (.inl ⟨o',f1⟩),f4.at fun x vs D hD h=>au.lend hI (fun B hB=>hf _ B hb trivial (.inr ⟨trivial,hD B hB⟩)) h⟩
 intro a
 induction a with
 |leaf t x=>intro d vs _ h hr;simp[iK] at h;subst h;exact af.mono ha hr
 |nil t=>
  intro d vs _ h hr
  simp[iK] at h
  subst h
  subst hr
  simp only[af]
  exact⟨none,0,rfl,by simp,.inl trivial⟩
 |whole id st t=>
  intro d vs hf h hr
  simp[iK] at h
  obtain⟨xs,hro,rfl⟩:=h
  obtain⟨b,hb,hst,cA⟩:=nv hro
  obtain⟨_,_,h3⟩:=hr
  obtain⟨ad,cap,e1,e2,e3⟩:=h3 _ hb hst t xs.length cA
  simp
  refine⟨ad,cap,e1,e2,?_⟩
  rcases rows hro (hf id (by simp[AT.ids])) with eF|⟨B,o',f1,f2,f3⟩
  ·exact .inl eF
  ·rcases e3 with e3|⟨B',de,cs',g1,g2,g3,g4⟩
   ·rw[←eC]
    omega
   ·right
    rw[f1] at g1
    cases g1
    exact⟨B,o',by simpa using g2,f2,f3⟩
 |piece id st off len t=>
  intro d vs hf h hr
  simp[iK] at h
  obtain⟨xs,hro,rfl⟩:=h
  obtain⟨b,hb,hst,cA⟩:=nv hro
  obtain⟨_,_,h3⟩:=hr
  obtain⟨ad,cap,e1,e2,e20,e3⟩:=h3 _ hb hst t xs.length cA
  simp
  have hl:((xs.drop off).take len).length=len:=by simp;omega
  refine⟨ad,cap,by rw[hl];exact e1,by rw[hl];exact e2,?_⟩
  rcases rows hro (hf id (by simp[AT.ids])) with eF|⟨B,o',f1,f2,f3⟩
  ·subst eF;simp
  ·rcases e3 with e3|⟨B',de,cs',g1,g2,g3,g4⟩
   ·rw[←eC]
    omega
   ·right
    rw[f1] at g1
    cases g1
    exact⟨B,o'+off*t.size,by simpa using g2,f2,f3.piece off len⟩
 |pair l r ihl ihr=>
  intro d vs hf h hr
  simp[iK] at h
  split at h
  ·rename_i x y hx hy
   simp at h
   subst h
   obtain⟨v1,v2,rfl,h1,h2⟩:=hr
   exact⟨v1,v2,rfl,ihl (fun id hi=>hf id (bw.2 (.inl hi))) hx h1,ihr (fun id hi=>hf id (bw.2 (.inr hi))) hy h2⟩
  ·simp at h
 |_=>intro d vs _ h hr;simp[iK] at h
def wE {I':Nat→Prop}(hm:aC F m w I ρ)(hI:∀B,I B→I' B){x:AT}{d:DV}{v:Value}(hf:∀id∈dR m x.ids,∀b B,m id=some b→b.live→bO ρ id b B→I' B)
  (h:toR m x=some d) (hs:x.slot=true) (hv:aj w I m ρ x v):∃cs,v=aQ d.t cs∧af w I' d.t d.x cs∧(d.t.isAgg=false→cs = [v]):=by
 have hsub:∀(l:List Nat) (id:Nat),id∈l→id∈dR m l:=by
  intro l
  induction l with
  |nil=>simp
  |cons x l ih=>
   intro id h
   simp[dR]
   rcases bN.1 h with h|h
   ·grind
   ·exact .inr (bw.2 (.inr (ih id h)))
 have main:∀{x:AT},x.slot=true→aj w I m ρ x v→(∀id∈dR m x.ids,∀b B,m id=some b→b.live→bO ρ id b B→I' B)→iK m x=some d→∃cs,v=aQ d.t cs∧af w I' d.t d.x cs∧(d.t.isAgg=false→cs = [v]):=by
  intro x hs hv hf h
  have cS:x.isAgg=d.t.isAgg:=by
   cases x<;>simp only[iK,reduceCtorEq,aX] at h
   case leaf t y=>subst h;rfl
   case nil t=>subst h;rfl
   case whole id st t=>simp at h;obtain⟨_,_,rfl⟩:=h;rfl
   case piece id st off len t=>simp at h;obtain⟨_,_,rfl⟩:=h;rfl
   case pair l r=>
    split at h
    ·simp at h;subst h;rfl
    ·grind
  have gC:=(lZ hs).1 hv
  unfold aG at gC
  rw[cS] at gC
  cases hd:d.t.isAgg with
  |true=>
   rw[hd] at gC
   obtain⟨arr,e,hr⟩:=gC
   exact⟨arr.toList,by simp[aQ,hd,e],wB hm hI (fun id hi=>hf id (hsub _ id hi)) h hr,fun h=>by grind⟩
  |false=>
   simp[hd] at gC
   exact⟨[v],by simp[aQ,hd],wB hm hI (fun id hi=>hf id (hsub _ id hi)) h gC,fun _=>rfl⟩
 unfold toR at h
 split at h
 ·rename_i id st p
  split at h
  ·rename_i st' fz t b hc
   obtain⟨hb,hst⟩:=cN hc
   split at h
   ·rename_i dv gO
    cases hz:Nat.ble 1 dv.t.size with
    |false=>simp[hz] at h
    |true=>
     simp[hz] at h
     subst h
     obtain⟨c,gN,iS⟩:=l9.1 gO
     have hx':=cj (a:=.aR id st p) rfl hv (by simp) (by simp) (by simp) (by simp)
     obtain⟨_,_,h3⟩:=hx'
     obtain⟨e0,B,e1,e2⟩:=h3 _ hb hst t b rfl
     have aA:=hm.aN id _ hb
     obtain⟨ht,B',cs,k1,k2,k3,k4⟩:=aA
     rw[e1] at k1
     cases k1
     have hIB:=hf id (hsub _ id (by simp[AT.ids])) _ B hb (kz rfl) (.inl ⟨0,e1⟩)
     have lI:∀j∈b.ids,j∈dR m (AT.aR id st p).ids:=by
      intro j hj
      simp[AT.ids,dR,hb]
      exact .inr (bw.2 (.inl hj))
     have hsubid:∀(p:Path) {a b:AT},a.get p=some b→∀j∈b.ids,j∈a.ids:=by
      intro p
      induction p with
      |nil=>intro a b h;simp[AT.get] at h;subst h;exact fun j hj=>hj
      |cons s p ih=>
       intro a b h j hj
       cases s<;>cases a<;>try (simp[AT.get] at h)
       case fst.pair l r=>exact bw.2 (.inl (ih h j hj))
       case snd.pair l r=>exact bw.2 (.inr (ih h j hj))
       case fst.leaf t x=>cases t<;>try (simp[AT.get] at h)
                          have:=ih h j hj;simp[AT.ids] at this
       case snd.leaf t x=>cases t<;>try (simp[AT.get] at h)
                          have:=ih h j hj;simp[AT.ids] at this
       case idx.leaf i t x=>cases t<;>try (simp[AT.get] at h)
                            have:=ih h j hj;simp[AT.ids] at this
     obtain⟨u,hu⟩:=qK p e0
     obtain⟨f0,pre,mid,post,f1,f2,f3,f4⟩:=j9 p ht k3 e0 gN hu
     have iq:=q9 hm hI (fun id hi b B o h1 h2 h3=>hf id (lI id (hsubid p gN id hi)) b B h1 h2 (.inl ⟨o,h3⟩)) iS f4
     have hml:=af.length iq
     refine⟨[v],by simp[aQ,Ty.isAgg],?_,fun _=>rfl⟩
     refine⟨B,t.off p,by simp[e2],hIB,fc hz,mid,hml,fun j hj=>?_,iq⟩
     rw[f1] at k2
     exact um k2 f2 j (by omega)
   ·simp at h
  ·simp at h
 ·exact main hs hv hf h
end
section
variable {P:Program} {F:Fix} {C:Cx} {o:Oper} {a:Act} {w:World} {m:MF} {I:Nat→Prop} {ρ:Pl} {d:aD}
def bY {α:Type}(l l':List α):app l l'=l++l':=by
 induction l with
 |nil=>rfl
 |cons x l ih=>simp[app,ih]
def Ad {x:AT}{d:DV}(h:cR m x=some d):x.slot=true∧x.isAgg=d.t.isAgg:=by
 cases x<;>simp only[cR,reduceCtorEq,aX] at h
 case leaf t y=>subst h;trivial
 case nil t=>subst h;trivial
 case whole id st t=>simp only[cq] at h;obtain⟨_,_,rfl⟩:=h;trivial
 case piece id st off len t=>simp only[cq] at h;obtain⟨_,_,rfl⟩:=h;trivial
 case pair l r=>
  split at h
  ·simp at h;subst h;trivial
  ·grind
def z8 {x:AT}{d:DV}(h:iK m x=some d):x.slot=true∧x.isAgg=d.t.isAgg:=by
 cases x<;>simp only[iK,reduceCtorEq,aX] at h
 case leaf t y=>subst h;trivial
 case nil t=>subst h;trivial
 case whole id st t=>simp at h;obtain⟨_,_,rfl⟩:=h;trivial
 case piece id st off len t=>simp at h;obtain⟨_,_,rfl⟩:=h;trivial
 case pair l r=>
  split at h
  ·simp at h;subst h;trivial
  ·grind
def sW {t u:Ty}{x:t.den}{p:Path}{d:DV}(hp:t.at p=some u)(hpp:p.pairs=true)(h:(AT.get p (.leaf t x)).bind AT.pure=some d):∃y,d=⟨u,y⟩∧AT.get p (.leaf t x)=some (.leaf u y):=by
 have main:∀(p:Path) {t u:Ty} {x:t.den},t.at p=some u→p.pairs=true→∃y,AT.get p (.leaf t x)=some (.leaf u y):=by
  intro p
  induction p with
  |nil=>intro t u x h _;simp[Ty.at] at h;subst h;exact⟨x,rfl⟩
  |cons s p ih=>
   intro t u x h hpp
   cases s with
   |idx i=>trivial
   |_=>cases t<;>simp[Ty.at] at h;exact ih h (by trivial)
 obtain⟨y,hy⟩:=main p (x:=x) hp hpp
 simp_all [AT.pure]
def wA {x:AT}{d:DV}(h:eK m x=some d):x.slot=true∧x.isAgg=d.t.isAgg:=by
 cases x<;>simp only[eK,reduceCtorEq,aX] at h
 case leaf t y=>cases hl:t.aV<;>rw[hl] at h<;>simp at h;subst h;trivial
 case nil t=>subst h;trivial
 case whole id st t=>simp at h;obtain⟨_,_,rfl⟩:=h;trivial
 case pair l r=>
  split at h
  ·simp at h;subst h;trivial
  ·grind
 case nest id st rs row p u=>
  split at h
  ·obtain⟨h1,h⟩:=aU h
   simp at h1
   obtain⟨y,e,_⟩:=sW (iw h1.2) h1.1.2 h
   subst e
   exact⟨rfl,rfl⟩
  ·simp at h
def wF {x:AT}{d:DV}(h:toR m x=some d):x.slot=true∧x.isAgg=d.t.isAgg:=by
 unfold toR at h
 split at h
 ·split at h
  ·split at h
   ·rename_i dv _
    cases hz:Nat.ble 1 dv.t.size with
    |false=>simp[hz] at h
    |true=>simp[hz] at h;subst h;exact⟨rfl,rfl⟩
   ·simp at h
  ·simp at h
 ·exact z8 h
def z_ {x:AT}{d:DV}(h:jH m x=some d):x.slot=true∧x.isAgg=d.t.isAgg:=by
 cases x<;>simp[jH] at h
 case leaf t y=>subst h;trivial
 case nil t=>subst h;trivial
 case whole id st t=>split at h<;>simp at h;subst h;trivial
 case pair l r=>
  split at h
  ·simp at h;subst h;trivial
  ·grind
def qW {x:AT}{t:Ty}{v:Value}(hs:x.slot=true)(ha:x.isAgg=t.isAgg)(hv:aj w I m ρ x v):∃cs,v=aQ t cs∧aq w I m ρ x cs:=by
 have gC:=(lZ hs).1 hv
 unfold aG at gC
 rw[ha] at gC
 cases hd:t.isAgg with
 |true=>
  rw[hd] at gC
  obtain⟨arr,e,hr⟩:=gC
  exact⟨arr.toList,by simp[aQ,hd,e],hr⟩
 |false=>
  simp[hd] at gC
  exact⟨[v],by simp[aQ,hd],gC⟩
def toC_ok {I':Nat→Prop}(hm:aC F m w I ρ)(hI:∀B,I B→I' B):∀{x:AT} {d:DV} {vs:List Value},(∀id∈dR m x.ids,∀b B,m id=some b→b.live→bO ρ id b B→I' B)→toC m x=some d→aq w I m ρ x vs→nZ w I' d.t d.x vs:=by
 have hsplit:∀(l l':List Nat) (id:Nat),id∈dR m l∨id∈dR m l'→id∈dR m (app l l'):=by
  intro l l' id
  induction l with
  |nil=>all_goals simp[dR,app]
  |cons x l ih=>
   intro h
   simp[app,dR,bw] at h ⊢
   grind
 intro x
 induction x with
 |bJ l r _ ihr=>
  intro d vs hf h hr
  simp[toC] at h
  split at h
  ·rename_i x y hx hy
   cases cS:x.t.isAgg with
   |true=>simp[cS] at h
   |false=>
    simp[cS] at h
    subst h
    obtain⟨v,vs',rfl,h1,h2⟩:=hr
    obtain⟨hs,ha⟩:=wF hx
    have hsl:=(lZ hs).2 (by unfold aG;rw[ha,cS];simpa using h1)
    obtain⟨cs,_,k2,k3⟩:=wE hm hI (fun id hi=>hf id (hsplit _ _ id (.inl hi))) hx hs hsl
    rw[k3 cS] at k2
    exact⟨v,vs',rfl,cS,k2,ihr (fun id hi=>hf id (hsplit _ _ id (.inr hi))) hy h2⟩
  ·simp at h
 |dM=>intro d vs _ h hr;simp[toC] at h;subst h;exact hr
 |_=>intro d vs _ h hr;simp[toC] at h
end
section
variable {P:Program} {F:Fix} {C:Cx} {o:Oper} {a:Act} {w:World} {m:MF} {I:Nat→Prop} {ρ:Pl} {d:aD}
def Fits (l:List (Nat×aa))(pl:Pl)(m':MF)(ρ':Pl):Prop:=∀j c,find l j=some c→m' j=some c∧ρ' j=pl j∧ρ'.d j=pl.d j
structure bf (w:World) (I:Nat→Prop) (l:List (Nat×aa)) (Bs:List Nat) (pl:Pl):Prop where
 aN:∀i b,find l i=some b→b.fz=false∧b.live∧∀m' ρ',Fits l pl m' ρ'→cM w I m' ρ' i b
 src:∀i b B,find l i=some b→bO pl i b B→B∈Bs
 one:∀i j b c B,find l i=some b→find l j=some c→bO pl i b B→bO pl j c B→i=j
 dn:∀i b,find l i=some b→b.bI→(pl.d i).Nodup∧∀B∈pl.d i,∀o,pl i≠some (B,o)
def bO.plain {ρ:Pl}{i B:Nat}{b:aa}(h:bO ρ i b B)(hd:¬b.bI):∃o,ρ i=some (B,o):=h.resolve_right fun h=>hd h.1
def hJ.new {l:List (Nat×aa)}{n e:Nat}{Bs:List Nat}{pl:Pl}(h:hJ w I m l n e Bs pl):bf w I l Bs pl:=by
 have aE:∀i b,find l i=some b→¬b.bI:=by
  intro i b hb
  obtain⟨k1,⟨u,ys,k2⟩,k3,k4⟩:=h.aN i b hb
  grind [aa.bI]
 refine⟨fun i b hb=>?_,fun i b B hb hp=>?_,fun i j b c B hb hc hp hq=>?_,fun i b hb hd=>absurd hd (aE i b hb)⟩
 ·obtain⟨k1,⟨u,ys,k2⟩,k3,k4⟩:=h.aN i b hb
  exact⟨k1,fC k2,fun m' ρ' hf=>k4 m' ρ' (hf i b hb).2.1⟩
 ·obtain⟨o,hp⟩:=hp.plain (aE i b hb)
  obtain⟨r1,r2⟩:=h.gV i b hb
  exact h.src i B o r1 r2 hp
 ·obtain⟨o,hp⟩:=hp.plain (aE i b hb)
  obtain⟨o',hq⟩:=hq.plain (aE j c hc)
  obtain⟨r1,r2⟩:=h.gV i b hb
  obtain⟨r3,r4⟩:=h.gV j c hc
  exact h.one i j B o o' r1 r2 r3 r4 hp hq
def bf.nil (pl:Pl):bf w I [] [] pl:=⟨fun i b h=>by trivial,fun i b B h=>by trivial,fun i j b c B h=>by trivial,fun i b h=>by trivial⟩
def bM (l:List (Nat×aa))(p q:Pl):Pl:=⟨fun i=>match find l i with | some _=>p i|none=>q i,fun i=>match find l i with | some _=>p.d i|none=>q.d i⟩
def Fits.left {l1 l2:List (Nat×aa)}{p q:Pl}{m':MF}{ρ':Pl}(h:Fits (app l1 l2) (bM l1 p q) m' ρ'):Fits l1 p m' ρ':=by
 intro j c hc
 have:=h j c (by rw[cO,hc])
 simp_all [bM]
def Fits.right {l1 l2:List (Nat×aa)}{p q:Pl}{m':MF}{ρ':Pl}(hd:∀i b c,find l1 i=some b→find l2 i=some c→False)(h:Fits (app l1 l2) (bM l1 p q) m' ρ'):Fits l2 q m' ρ':=by
 intro j c hc
 have hn:find l1 j=none:=by
  cases hf:find l1 j<;>grind
 have:=h j c (by rw[cO,hn];omega)
 simp_all [bM]
def bf.app {l1 l2:List (Nat×aa)}{B1 B2:List Nat}{p q:Pl}(h1:bf w I l1 B1 p)(h2:bf w I l2 B2 q)(aE:∀B∈B1,∀B'∈B2,B≠B')(hd:∀i b c,find l1 i=some b→find l2 i=some c→False) :
  bf w I (app l1 l2) (B1++B2) (bM l1 p q):=by
 have hf:∀i b,find (Ab.app l1 l2) i=some b→(find l1 i=some b∧bM l1 p q i=p i∧(bM l1 p q).d i=p.d i)∨(find l2 i=some b∧bM l1 p q i=q i∧(bM l1 p q).d i=q.d i):=by
  intro i b h
  rw[cO] at h
  split at h<;>simp_all [bM]
 have tr:∀{ρ ρ':Pl} {i B:Nat} {b:aa},ρ i=ρ' i∧ρ.d i=ρ'.d i→bO ρ i b B→bO ρ' i b B:=by
  intro ρ ρ' i B b e h
  exact h.imp (fun⟨o,h⟩=>⟨o,e.1▸h⟩) (fun⟨h1,h2⟩=>⟨h1,e.2▸h2⟩)
 refine⟨fun i b h=>?_,fun i b B h hp=>?_,fun i j b c B hb hc hp hq=>?_,fun i b hb cF=>?_⟩
 ·rcases hf i b h with⟨h,_⟩|⟨h,_⟩
  ·obtain⟨k1,k2,k3⟩:=h1.aN i b h
   exact⟨k1,k2,fun m' ρ' kQ=>k3 m' ρ' kQ.left⟩
  ·obtain⟨k1,k2,k3⟩:=h2.aN i b h
   exact⟨k1,k2,fun m' ρ' kQ=>k3 m' ρ' (kQ.right hd)⟩
 ·rw[bU]
  rcases hf i b h with⟨h,e⟩|⟨h,e⟩
  ·exact .inl (h1.src i b B h (tr e hp))
  ·exact .inr (h2.src i b B h (tr e hp))
 ·rcases hf i b hb with⟨h,e⟩|⟨h,e⟩<;>rcases hf j c hc with⟨h',e'⟩|⟨h',e'⟩
  ·exact h1.one i j b c B h h' (tr e hp) (tr e' hq)
  ·exact(aE B (h1.src i b B h (tr e hp)) B (h2.src j c B h' (tr e' hq)) rfl).elim
  ·exact(aE B (h1.src j c B h' (tr e' hq)) B (h2.src i b B h (tr e hp)) rfl).elim
  ·exact h2.one i j b c B h h' (tr e hp) (tr e' hq)
 ·rcases hf i b hb with⟨h,e⟩|⟨h,e⟩
  ·rw[e.1,e.2];exact h1.dn i b h cF
  ·rw[e.1,e.2];exact h2.dn i b h cF
def rD (c:BC)(t:Ty)(xs:List t.den):Prop:=(c = .rows t xs∧t.aV=false)∨∃rs,c = .deep rs t xs
def vv (t:Ty)(xs:List t.den):rD (lR t xs) t xs:=by
 unfold lR
 cases h:t.aV with
 |true=>exact .inr ⟨0,rfl⟩
 |false=>exact .inl ⟨rfl,h⟩
def hdrPl:List Value→Option (Nat×Nat)
 | [.slice (some a) _ _]=>some (a.block,a.off)
 |_=>none
def bf.list {n st:Nat}{c:BC}{t:Ty}{xs:List t.den}{vs:List Value}{Bs:List Nat}(hc:rD c t xs)(h:au w I (.lst t) xs vs Bs)(aE:Bs.Nodup) :
  ∃pl:Pl,bf w I [(n,⟨st,false,c⟩)] Bs pl∧pl n=hdrPl vs∧∀m' ρ',Fits [(n,⟨st,false,c⟩)] pl m' ρ'→aq w I m' ρ' (.whole n st t) vs:=by
 have cA:c.arr=some (t,xs.length):=by rcases hc with⟨rfl,_⟩|⟨rs,rfl⟩<;>rfl
 have dA:(⟨st,false,c⟩:aa).live:=by rcases hc with⟨rfl,_⟩|⟨rs,rfl⟩<;>trivial
 have one:∀i b,find [(n,(⟨st,false,c⟩:aa))] i=some b→n=i∧(⟨st,false,c⟩:aa)=b:=by
  intro i b h
  rw[aF] at h
  grind [find]
 have lJ:find [(n,(⟨st,false,c⟩:aa))] n=some ⟨st,false,c⟩:=by rw[aF,bQ rfl]
 obtain⟨ad,cap,e,hl,h⟩:=h
 rcases h with⟨h1,h2,h3⟩|⟨B,o,cs,Ds,h1,h2,h3,h4,h5,h6⟩
 ·have kq:xs = []:=by simp_all
  refine⟨⟨fun _=>none,fun _=>[]⟩,⟨fun i b hb=>?_,fun i b B hb hO=>?_,fun i j b c B hb hc _ _=>(one i b hb).1.symm.trans (one j c hc).1,fun i b hb hd=>⟨by simp,by simp⟩⟩,by rw[e,h1];rfl,fun m' ρ' hf=>?_⟩
  ·obtain⟨rfl,rfl⟩:=one i b hb
   refine⟨rfl,dA,fun m' ρ' hf=>?_⟩
   obtain⟨_,k2,k3⟩:=hf n _ lJ
   rcases hc with⟨rfl,_⟩|⟨rs,rfl⟩
   ·exact⟨trivial,.inl ⟨kq,k2⟩⟩
   ·exact⟨rfl,.inl ⟨kq,k2,k3⟩⟩
  ·rcases hO with⟨o,hO⟩|⟨_,hO⟩
   ·cases hO
   ·simp at hO
  ·obtain⟨k1,k2,k3⟩:=hf n _ lJ
   refine⟨⟨_,e,rfl⟩,cy.of k1 rfl,fun b hb hs u k hc=>?_⟩
   rw[k1] at hb
   cases hb
   rw[cA] at hc
   cases hc
   exact⟨ad,cap,e,hl,.inl ⟨h1,h2,k2⟩⟩
 ·subst h6
  have hnc:=dN.1 aE
  have hmul:=gH t.size hl
  refine⟨⟨fun _=>some (B,o),fun _=>Ds⟩,⟨fun i b hb=>?_,fun i b B' hb hO=>?_,fun i j b c B hb hc _ _=>(one i b hb).1.symm.trans (one j c hc).1,fun i b hb hd=>⟨hnc.2,fun B' br o' he=>?_⟩⟩,by rw[e,h1];rfl,fun m' ρ' hf=>?_⟩
  ·obtain⟨rfl,rfl⟩:=one i b hb
   refine⟨rfl,dA,fun m' ρ' hf=>?_⟩
   obtain⟨_,k2,k3⟩:=hf n _ lJ
   rcases hc with⟨rfl,hh⟩|⟨rs,rfl⟩
   ·exact⟨trivial,.inr ⟨B,o,cs,k2,h2,by omega,h4.at fun x vs D _ h=>(au.rep hh h).1,by simpa using h5⟩⟩
   ·exact⟨rfl,.inr ⟨B,o,cs,k2,h2,by omega,by rw[k3];exact h4,h5⟩⟩
  ·rcases hO with⟨o',hO⟩|⟨_,hO⟩
   ·cases hO;exact me
   ·exact gZ _ hO
  ·cases he
   exact hnc.1 br
  ·obtain⟨k1,k2,k3⟩:=hf n _ lJ
   refine⟨⟨_,e,rfl⟩,cy.of k1 rfl,fun b hb hs u k hc=>?_⟩
   rw[k1] at hb
   cases hb
   rw[cA] at hc
   cases hc
   exact⟨ad,cap,e,hl,.inr ⟨B,o,cs,k2,h1,h2,h3⟩⟩
def oI (m:MF):∀(t:Ty) (x:t.den) (n:Nat),n≤(aY m t x n).2.2:=by
 intro t
 induction t with
 |pair a b aO aK=>
  cases ho:(Ty.pair a b).aV with
  |false=>simp[aY,ho]
  |true=>
   simp[aY]
   grind
 |_=>simp[aY]
def yz (m:MF):∀{t:Ty} {x:t.den} {vs:List Value} {Bs:List Nat} (n:Nat),au w I t x vs Bs→Bs.Nodup →
  ∃pl:Pl,bf w I (aY m t x n).2.1 Bs pl∧(∀i b,find (aY m t x n).2.1 i=some b→n≤i∧i<(aY m t x n).2.2∧b.st=aP m i) ∧
   ∀m' ρ',Fits (aY m t x n).2.1 pl m' ρ'→aq w I m' ρ' (aY m t x n).1 vs:=by
 intro t
 have mJ:∀{vs:List Value} {Bs:List Nat} {n:Nat} {av:AT},Bs = []→(∀m' ρ',aq w I m' ρ' av vs)→∃pl:Pl,bf w I [] Bs pl∧(∀i b,find ([]:Mem) i=some b→n≤i∧i<n∧b.st=aP m i)∧∀m' ρ',Fits [] pl m' ρ'→aq w I m' ρ' av vs:=by
  intro vs Bs n av e h
  subst e
  exact⟨⟨fun _=>none,fun _=>[]⟩,bf.nil _,fun i b h=>by trivial,fun m' ρ' _=>h m' ρ'⟩
 induction t with
 |lst t _=>
  intro x vs Bs n h aE
  obtain⟨pl,h1,_,h2⟩:=bf.list (n:=n) (st:=aP m n) (vv t x) h aE
  refine⟨pl,h1,fun i b hb=>?_,h2⟩
  simp[aY,aF] at hb
  split at hb
  ·rename_i e
   subst e
   cases hb
   exact⟨bA _,by simp[aY],rfl⟩
  ·simp[find] at hb
 |pair a b aO aK=>
  intro x vs Bs n h aE
  cases ho:(Ty.pair a b).aV with
  |false=>
   obtain⟨h1,h2⟩:=au.rep ho h
   simp[aY,ho]
   exact mJ h2 fun _ _=>h1
  |true=>
   obtain⟨v1,v2,B1,B2,e,eb,h1,h2⟩:=h
   subst eb
   simp[aY,ho]
   have dc:=cL.1 aE
   obtain⟨p1,k1,k2,k3⟩:=aO n h1 dc.1
   obtain⟨p2,q1,q2,q3⟩:=aK (aY m a x.1 n).2.2 h2 dc.2.1
   have hle:=oI m a x.1 n
   have qp:=oI m b x.2 (aY m a x.1 n).2.2
   have ij:∀i b' c,find (aY m a x.1 n).2.1 i=some b'→find (aY m b x.2 (aY m a x.1 n).2.2).2.1 i=some c→False:=by
    intro i b' c hb hc
    have:=(k2 i b' hb).2.1
    have:=(q2 i c hc).1
    omega
   refine⟨bM (aY m a x.1 n).2.1 p1 p2,bf.app k1 q1 dc.2.2 ij,fun i b' hb=>?_,fun m' ρ' hf=>?_⟩
   ·rw[cO] at hb
    split at hb
    ·rename_i c hc
     cases hb
     obtain⟨r1,r2,r3⟩:=k2 i _ hc
     exact⟨r1,by omega,r3⟩
    ·obtain⟨r1,r2,r3⟩:=q2 i b' hb
     exact⟨by omega,r2,r3⟩
   ·exact⟨v1,v2,e,k3 m' ρ' hf.left,q3 m' ρ' (hf.right ij)⟩
 |own t _=>intro x vs Bs n h;simp[au] at h
 |ref t _=>intro x vs Bs n h;simp[au] at h
 |arr k t _=>intro x vs Bs n h aE;exact mJ h.1 fun _ _=>h.2.2
 |_=>intro x vs Bs n h aE;exact mJ h.1 fun _ _=>h.2
def sJ (m:MF):∀(t:Ty) (x:t.den) (n:Nat),Typed (aY m t x n).1 t:=by
 intro t
 induction t with
 |pair a b aO aK=>
  intro x n
  cases ho:(Ty.pair a b).aV with
  |false=>simp[aY,ho];rfl
  |true=>
   simp[aY,ho]
   exact⟨_,_,rfl,aO x.1 n,aK x.2 _⟩
 |_=>intro x n;rfl
def bf.var {l:List (Nat×aa)}{n st B:Nat}{B1:List Nat}{pl:Pl}{t:Ty}{av:AT}{cs:List Value}(h:bf w I l B1 pl)(hc:Cells w B cs)(hI:¬I B)(hB:¬B∈B1)(hn:find l n=none)(ht:Typed av t)
  (hr:∀m' ρ',Fits l pl m' ρ'→aq w I m' ρ' av cs):bf w I ((n,⟨st,false,.var t av⟩)::l) (B::B1) (pl.put n (some (B,0))):=by
 have hfit:∀m' ρ',Fits ((n,⟨st,false,.var t av⟩)::l) (pl.put n (some (B,0))) m' ρ'→Fits l pl m' ρ'∧ρ' n=some (B,0):=by
  intro m' ρ' hf
  refine⟨fun j c hc=>?_,?_⟩
  ·have hne:¬n=j:=by grind
   have:=hf j c (by rw[aF,cT hne];exact hc)
   simpa[Pl.put,hne] using this
  ·have:=(hf n _ (by rw[aF,bQ rfl])).2.1
   simpa[Pl.put] using this
 have hput:∀i b B',¬n=i→bO (pl.put n (some (B,0))) i b B'→bO pl i b B':=by
  intro i b B' hne h
  exact h.imp (fun⟨o,h⟩=>⟨o,by simpa[Pl.put,hne] using h⟩) (fun⟨h1,h2⟩=>⟨h1,by simpa[Pl.put,hne] using h2⟩)
 have lJ:∀B',bO (pl.put n (some (B,0))) n ⟨st,false,.var t av⟩ B'→B'=B:=by
  intro B' h
  obtain⟨o,h⟩:=h.plain (by simp[aa.bI])
  simp[Pl.put] at h
  exact h.1.symm
 refine⟨fun i b hb=>?_,fun i b B' hb hp=>?_,fun i j b c B' hb hc hp hq=>?_,fun i b hb cF=>?_⟩
 ·rw[aF] at hb
  split at hb
  ·rename_i e
   subst e
   cases hb
   refine⟨rfl,kz rfl,fun m' ρ' hf=>?_⟩
   obtain⟨k1,k2⟩:=hfit m' ρ' hf
   exact⟨ht,B,cs,k2,hc,hr m' ρ' k1,by simpa using hI⟩
  ·obtain⟨k1,k2,k3⟩:=h.aN i b hb
   exact⟨k1,k2,fun m' ρ' hf=>k3 m' ρ' (hfit m' ρ' hf).1⟩
 ·rw[aF] at hb
  split at hb
  ·rename_i e
   subst e
   cases hb
   simp[lJ B' hp]
  ·rename_i hne
   exact gZ _ (h.src i b B' hb (hput i b B' hne hp))
 ·rw[aF] at hb hc
  split at hb<;>split at hc
  ·omega
  ·rename_i e hne
   subst e
   cases hb
   rw[lJ B' hp] at hq
   exact absurd (h.src j c B hc (hput j c B hne hq)) hB
  ·rename_i hne e
   subst e
   cases hc
   rw[lJ B' hq] at hp
   exact absurd (h.src i b B hb (hput i b B hne hp)) hB
  ·rename_i hne hne'
   exact h.one i j b c B' hb hc (hput i b B' hne hp) (hput j c B' hne' hq)
 ·rw[aF] at hb
  split at hb
  ·cases hb;simp[aa.bI] at cF
  ·rename_i hne
   have:=h.dn i b hb cF
   simpa[Pl.put,hne] using this
def Ty.imm_id:∀{t:Ty},t.fu=false→t.aS=t:=by
 intro t
 induction t with
 |pair a b aO aK=>
  simp_all [Ty.fu,Ty.aS]
 |own t _=>intro h;trivial
 |_=>intro _;rfl
def oK (m:MF):∀(t:Ty) (x:t.den) (n:Nat),Typed (aZ m t x n).1 t.aS:=by
 intro t
 induction t with
 |pair a b aO aK=>
  intro x n
  cases ho:(Ty.pair a b).fu with
  |false=>
   simp[aZ,ho]
   rw[Ty.imm_id ho]
   rfl
  |true=>
   simp[aZ,ho]
   exact⟨_,_,rfl,aO x.1 n,aK x.2 _⟩
 |_=>intro x n;rfl
def yq:∀(t:Ty),t.aS.size=t.size:=by
 intro t
 induction t with
 |pair a b aO aK=>simp[Ty.aS,Ty.size,aO,aK]
 |_=>rfl
def yp:∀(t:Ty),t.aS.isAgg=t.isAgg:=by
 intro t
 cases t<;>rfl
def rf {x:AT}{t:Ty}(h:Typed x t):x.slot=true:=by
 cases x<;>simp[Typed] at h<;>first|rfl|exact h.elim
def uQ (m:MF):∀(t:Ty) (x:t.den) (n:Nat),n≤(aZ m t x n).2.2:=by
 intro t
 induction t with
 |pair a b aO aK=>
  cases ho:(Ty.pair a b).fu with
  |false=>simp[aZ,ho]
  |true=>
   simp[aZ]
   grind
 |_=>simp[aZ]
def tI {m':MF}{ρ':Pl}{av:AT}{t:Ty}{cs:List Value}{v:Value}(aW:Typed av t)(dJ:aq w I m' ρ' av cs)(e:v=aQ t cs):aG w I m' ρ' av v:=by
 unfold aG
 rw[aW.isAgg]
 unfold aQ at e
 cases ha:t.isAgg with
 |true=>grind
 |false=>
  simp only[ha,zl44,l_] at e ⊢
  have hl:=aW.length dJ
  have hone:t.size=1:=by cases t<;>simp[Ty.isAgg] at ha<;>rfl
  obtain⟨u,rfl⟩:∃u,cs = [u]:=by
   match cs,hl with
   | [u],_=>simp
   | [],hl=>grind
   |_::_::_,hl=>grind
  grind
def sY (m:MF):∀{outs:List RV} {vs:List Value} {Bs:List Nat} (n:Nat),ja w I outs vs Bs→Bs.Nodup →
  ∃pl:Pl,bf w I (cP m outs n).2 Bs pl∧(∀i b,find (cP m outs n).2 i=some b→n≤i∧b.st=aP m i) ∧
   ∀m' ρ',Fits (cP m outs n).2 pl m' ρ'→dI (fun x v=>x.slot=true∧aj w I m' ρ' x v) (cP m outs n).1 vs:=by
 intro outs
 induction outs with
 |nil=>
  intro vs Bs n h aE
  cases vs with
  |nil=>simp[ja] at h;subst h;exact⟨⟨fun _=>none,fun _=>[]⟩,bf.nil _,fun i b h=>by trivial,fun m' ρ' _=>.nil⟩
  |cons v vs=>trivial
 |cons r outs ih=>
  intro vs Bs n h aE
  cases vs with
  |nil=>trivial
  |cons v vs=>
  obtain⟨B1,B2,rfl,h1,h2⟩:=h
  have dc:=cL.1 aE
  cases r with
  |v d=>
   obtain⟨cs,e,hr⟩:=h1
   obtain⟨p1,k1,k2⟩:=oJ m n hr dc.1
   obtain⟨p2,k3,k4,k5⟩:=ih (aZ m d.t d.x n).2.2 h2 dc.2.1
   have hle:=uQ m d.t d.x n
   have ij:∀i b c,find (aZ m d.t d.x n).2.1 i=some b→find (cP m outs (aZ m d.t d.x n).2.2).2 i=some c→False:=by
    intro i b c hb hc
    have:=(k1.gV i b hb).2
    grind
   refine⟨bM (aZ m d.t d.x n).2.1 p1 p2,bf.app k1.new k3 dc.2.2 ij,fun i b hb=>?_,fun m' ρ' hf=>?_⟩
   ·simp[cP,cO] at hb
    split at hb
    ·rename_i b' hb'
     cases hb
     exact⟨(k1.gV i b hb').1,(k1.aN i b hb').2.2.1⟩
    ·have:=k4 i b hb
     exact⟨by omega,this.2⟩
   ·have aW:=oK m d.t d.x n
    have dJ:=k2 m' ρ' fun i b h=>⟨(hf.left i b h).1,(hf.left i b h).2.1⟩
    refine .cons ⟨rf aW,(lZ (rf aW)).2 ?_⟩ (k5 m' ρ' (hf.right ij))
    exact tI aW dJ (by rw[e];unfold aQ;rw[yp])
  |d y=>
   obtain⟨cs,e,hr⟩:=h1
   obtain⟨p1,k1,k2,k6⟩:=yz m n hr dc.1
   obtain⟨p2,k3,k4,k5⟩:=ih (aY m y.t y.x n).2.2 h2 dc.2.1
   have hle:=oI m y.t y.x n
   have ij:∀i b c,find (aY m y.t y.x n).2.1 i=some b→find (cP m outs (aY m y.t y.x n).2.2).2 i=some c→False:=by
    intro i b c hb hc
    have:=(k2 i b hb).2.1
    have:=(k4 i c hc).1
    omega
   refine⟨bM (aY m y.t y.x n).2.1 p1 p2,bf.app k1 k3 dc.2.2 ij,fun i b hb=>?_,fun m' ρ' hf=>?_⟩
   ·simp[cP,cO] at hb
    split at hb
    ·rename_i b' hb'
     cases hb
     obtain⟨r1,_,r3⟩:=k2 i b hb'
     exact⟨r1,r3⟩
    ·have:=k4 i b hb
     exact⟨by omega,this.2⟩
   ·have aW:=sJ m y.t y.x n
    have dJ:=k6 m' ρ' hf.left
    refine .cons ⟨rf aW,(lZ (rf aW)).2 ?_⟩ (k5 m' ρ' (hf.right ij))
    exact tI aW dJ e
  |p d=>
   obtain⟨B,cs,B0,e,hc,hI,hr,rfl⟩:=h1
   have hnc:=dN.1 dc.1
   obtain⟨p1,k1,k2⟩:=oJ m (n+1) hr hnc.2
   obtain⟨p2,k3,k4,k5⟩:=ih (aZ m d.t d.x (n+1)).2.2 h2 dc.2.1
   have hle:=uQ m d.t d.x (n+1)
   have hn:find (aZ m d.t d.x (n+1)).2.1 n=none:=by
    cases hf:find (aZ m d.t d.x (n+1)).2.1 n with
    |none=>rfl
    |some b=>have:=(k1.gV n b hf).1;omega
   have aW:=oK m d.t d.x (n+1)
   have hv:=bf.var (st:=aP m n) k1.new hc hI hnc.1 hn aW fun m' ρ' hf=>k2 m' ρ' fun i b h=>⟨(hf i b h).1,(hf i b h).2.1⟩
   have ij:∀i b c,find ((n,⟨aP m n,false,.var d.t.aS (aZ m d.t d.x (n+1)).1⟩)::(aZ m d.t d.x (n+1)).2.1) i=some b→find (cP m outs (aZ m d.t d.x (n+1)).2.2).2 i=some c→False:=by
    intro i b c hb hc
    have:=(k4 i c hc).1
    rw[aF] at hb
    split at hb
    ·omega
    ·have:=(k1.gV i b hb).2
     omega
   refine⟨_,bf.app hv k3 dc.2.2 ij,fun i b hb=>?_,fun m' ρ' hf=>?_⟩
   ·simp[cP,aF,cO] at hb
    split at hb
    ·rename_i e
     subst e
     cases hb
     exact⟨bA _,rfl⟩
    ·split at hb
     ·rename_i b' hb'
      cases hb
      have:=(k1.gV i b hb').1
      exact⟨by omega,(k1.aN i b hb').2.2.1⟩
     ·have:=k4 i b hb
      exact⟨by omega,this.2⟩
   ·refine .cons ⟨rfl,?_⟩ (k5 m' ρ' (hf.right ij))
    obtain⟨q1,q2,_⟩:=Fits.left (l1:=(n,⟨aP m n,false,.var d.t.aS (aZ m d.t d.x (n+1)).1⟩)::(aZ m d.t d.x (n+1)).2.1) (l2:=(cP m outs (aZ m d.t d.x (n+1)).2.2).2) hf n _ (by rw[aF,bQ rfl])
    refine⟨by rw[e];exact gJ.pointer _,cy.of q1 rfl,fun b hb hs t' a' aI=>?_⟩
    exact⟨trivial,B,by rw[q2];simp[Pl.put],by simp[e,Ty.off]⟩
end
section
variable {P:Program} {F:Fix} {C:Cx} {o:Oper} {a:Act} {w w':World} {m:MF} {I I':Nat→Prop} {ρ:Pl} {d:aD}
def kF {l:List (Nat×aa)}{p q:Pl}{i:Nat}{b:aa}(h:find l i=some b):bM l p q i=p i∧(bM l p q).d i=p.d i:=by grind [bM]
def kE {l:List (Nat×aa)}{p q:Pl}{i:Nat}(h:find l i=none):bM l p q i=q i∧(bM l p q).d i=q.d i:=by grind [bM]
def lE {i:Nat}{l:List Nat}:bW (Nat.beq i) l=true↔i∈l:=by
 induction l with
 |nil=>simp[bW]
 |cons x l ih=>
  simp[bW,ih]
def lU {l:List Nat}:nodup l=true↔l.Nodup:=by
 induction l with
 |nil=>trivial
 |cons x l ih=>
  simp[nodup,ih]
  rw[←lE (i:=x) (l:=l)]
  simp
def qc {l:List (Nat×aa)}{i:Nat}{b:aa}(h:find l i=some b):i∈l.map (·.1):=gG.2 ⟨(i,b),eS h,rfl⟩
def qv {l1 l2:List (Nat×aa)}(h:((app l1 l2).map (·.1)).Nodup):(l1.map (·.1)).Nodup∧(l2.map (·.1)).Nodup∧∀i b c,find l1 i=some b→find l2 i=some c→False:=by
 rw[bY,zl54,cL] at h
 exact⟨h.1,h.2.1,fun i b c hb hc=>h.2.2 i (qc hb) i (qc hc) rfl⟩
def iG (m:MF)(ρ:Pl)(w w':World)(pl:Pl)(i:Nat)(b:aa):Prop:=
 ∃b0,m i=some b0∧b0.live∧b0.st=b.st∧bX b0.c b.c∧pl i=ρ i∧(∀B o cs,ρ i=some (B,o)→Cells w B cs→∃cs',Cells w' B cs'∧cs.length≤cs'.length) ∧
  ∀rs t u xs ys,b0.c = .deep rs t xs→b.c = .deep rs u ys→∀B o,ρ i=some (B,o)→w'.heap[B]?=w.heap[B]?
def iG.to {pl eJ:Pl}{i:Nat}{b:aa}(h:iG m ρ w w' pl i b)(e:eJ i=pl i):iG m ρ w w' eJ i b:=by
 obtain⟨b0,h1,h2,h3,h4,h5,h6⟩:=h
 exact⟨b0,h1,h2,h3,h4,e.trans h5,h6⟩
def bf.single {n:Nat}{b:aa}{Bs:List Nat}{p:Option (Nat×Nat)}(h1:b.fz=false)(h2:b.live)(h3:∀m' ρ',ρ' n=p→cM w I m' ρ' n b)(h4:∀B o,p=some (B,o)→B∈Bs)(aE:¬b.bI:=by simp[aa.bI]):bf w I [(n,b)] Bs ⟨fun _=>p,fun _=>[]⟩:=by
 have hf:∀i c,find [(n,b)] i=some c→n=i∧b=c:=by
  intro i c h
  rw[aF] at h
  grind [find]
 refine⟨fun i c h=>?_,fun i c B h hp=>?_,fun i j c c' B h h' _ _=>(hf i c h).1.symm.trans (hf j c' h').1,fun i c h hd=>?_⟩
 ·obtain⟨rfl,rfl⟩:=hf i c h
  exact⟨h1,h2,fun m' ρ' kQ=>h3 m' ρ' (kQ n b h).2.1⟩
 ·obtain⟨rfl,rfl⟩:=hf i c h
  obtain⟨o,hp⟩:=hp.plain aE
  exact h4 B o hp
 ·obtain⟨rfl,rfl⟩:=hf i c h
  exact absurd hd aE
def fB:Mode→AT→List Nat
 |.p,.aR id _ _=>[id]
 |.m,.whole id _ _=>[id]
 |.d,a=>a.ids
 |_,_=>[]
def jt (m:MF):Mode→AT→List Nat
 |.p,.aR id _ _=>tJ m id
 |.k,a=>a.ids
 |_,_=>[]
def sL (m:MF):Mode→AT→List Nat
 |.v,a=>dR m a.ids
 |.f,a=>dR m a.ids
 |_,_=>[]
def Mode.l7:Mode→Bool
 |.p | .m | .d=>true
 |_=>false
def Arg.l7:Arg→Bool
 |.p _ | .m _ _ | .d _=>true
 |_=>false
def mQ (m:MF):Mode→AT→DV→Option (List (Nat×aa))
 |.p,.aR id st [],y=>match cur m id st with
  |some ⟨_,_,.var t _⟩=>bif t.is y.t.aS then
   let n:=aZ m y.t y.x ((id+1)*1000)
   some ((id,⟨st,false,.var t n.1⟩)::n.2.1)
   else none
  |_=>none
 |.m,.whole id st t,y=>match y.as (.own t) with
  |some ys=>some [(id,⟨st,false,.rows t ys⟩)]
  |none=>none
 |.m,.nil _,_=>some []
 |.d,a,y=>kH m a y
 |_,_,_=>none
def tO (w w':World)(I:Nat→Prop):Arg→Value→DV→List Nat→Prop
 |.p y,v,u,Bs=>∃B cs B1,v = .pointer (some ⟨B,0,none⟩)∧Cells w' B cs∧¬I B∧u.t=y.t∧cD w' I u.t u.x cs B1∧Bs=B::B1
 |.m t xs,v,u,Bs=>∃ys,u=⟨.own t,ys⟩∧ys.length=xs.length∧cD w' I (.own t) ys [v] Bs∧∀B∈Bs,∀cs,Cells w B cs→∃cs',Cells w' B cs'∧cs.length≤cs'.length
 |.d y,v,u,Bs=>∃cs,v=aQ y.t cs∧u.t=y.t∧au w' I u.t u.x cs Bs∧Grown w w' cs
 |_,_,_,_=>False
def uU (mo:Mode)(os:List Mode)(x:AT)(as:List AT):eH (mo::os) (x::as)=fB mo x++eH os as:=by
 cases mo<;>cases x<;>simp[eH,fB,bY]
def uV (mo:Mode)(os:List Mode)(x:AT)(as:List AT):fX m (mo::os) (x::as)=jt m mo x++fX m os as:=by
 cases mo<;>cases x<;>simp[fX,jt,bY]
def yI (mo:Mode)(os:List Mode)(x:AT)(as:List AT):gE m (mo::os) (x::as)=sL m mo x++gE m os as:=by
 cases mo<;>simp[gE,sL,bY]
def Aj {mo:Mode}{os:List Mode}{x:AT}{as:List AT}{ds:List DV}{u:List (Nat×aa)}(h:eX m (mo::os) (x::as) ds=some u) :
  (mo.l7=false∧eX m os as ds=some u)∨(mo.l7=true∧∃y ds' u1 u2,ds=y::ds'∧mQ m mo x y=some u1∧eX m os as ds'=some u2∧u=app u1 u2):=by
 cases mo with
 |d=>
  cases ds with
  |nil=>trivial
  |cons y ds=>
   simp[eX] at h
   split at h
   ·rename_i u1 u2 h1 h2
    cases h
    exact .inr ⟨rfl,y,ds,u1,u2,rfl,h1,h2,rfl⟩
   ·cases h
 |m=>
  cases ds with
  |nil=>cases x<;>simp[eX] at h
  |cons y ds=>
   cases x<;>simp[eX] at h
   case nil t=>exact .inr ⟨rfl,y,ds,[],u,rfl,rfl,h,rfl⟩
   case whole id st t=>
    split at h
    ·rename_i ys u' h1 h2
     cases h
     exact .inr ⟨rfl,y,ds,[(id,⟨st,false,.rows t ys⟩)],u',rfl,by simp[mQ,h1],h2,rfl⟩
    ·cases h
 |p=>
  cases ds with
  |nil=>cases x<;>simp[eX] at h
  |cons y ds=>
   cases x<;>try (simp[eX] at h)
   rename_i id st p
   cases p with
   |cons s p=>simp[eX] at h
   |nil=>
    simp[eX] at h
    split at h
    ·rename_i st' fz t a u' h1 h2
     obtain⟨h3,h⟩:=aU h
     cases h
     exact .inr ⟨rfl,y,ds,(id,⟨st,false,.var t (aZ m y.t y.x ((id+1)*1000)).1⟩)::(aZ m y.t y.x ((id+1)*1000)).2.1,u',rfl,by simp[mQ,h1,h3],h2,rfl⟩
    ·cases h
 |_=>exact .inl ⟨rfl,by trivial⟩
def wN {y:Arg}{l:List Arg}{v:Value}{vs:List Value}{us:List DV}{Bs:List Nat}(h:eR w w' I' (y::l) (v::vs) us Bs) :
  (y.l7=false∧eR w w' I' l vs us Bs)∨(y.l7=true∧∃u us' B1 B2,us=u::us'∧Bs=B1++B2∧tO w w' I' y v u B1∧eR w w' I' l vs us' B2):=by
 cases y with
 |d y=>
  cases us with
  |nil=>trivial
  |cons u us=>
   obtain⟨cs,B1,B2,h1,h2,h3,h4,h5,h6⟩:=h
   exact .inr ⟨rfl,u,us,B1,B2,rfl,h4,⟨cs,h1,h2,h3,h5⟩,h6⟩
 |p y=>
  cases us with
  |nil=>trivial
  |cons u us=>
   obtain⟨B,cs,B1,B2,h1,h2,h3,h4,h5,h6,h7⟩:=h
   exact .inr ⟨rfl,u,us,B::B1,B2,rfl,by grind,⟨B,cs,B1,h1,h2,h3,h4,h5,rfl⟩,h7⟩
 |m t xs=>
  cases us with
  |nil=>trivial
  |cons u us=>
   simp only[eR] at h
   obtain⟨ys,B1,B2,h1,h2,h3,h4,h5,h6⟩:=h
   exact .inr ⟨rfl,u,us,B1,B2,rfl,h4,⟨ys,h1,h2,h3,h5⟩,h6⟩
 |_=>exact .inl ⟨rfl,by trivial⟩
def yS {mo:Mode}{x:AT}{y:Arg}(h:mkArg m mo x=some y):y.l7=mo.l7:=by
 cases mo with
 |f=>cases x<;>simp[mkArg,reduceCtorEq] at h;obtain⟨_,_,rfl⟩:=h;rfl
 |m=>cases x<;>simp[mkArg,reduceCtorEq] at h
     ·split at h
      ·cases h;rfl
      ·cases h
     ·cases h;rfl
 |p=>cases x<;>simp[mkArg,reduceCtorEq] at h
     rename_i id st p
     cases p with
     |cons s p=>simp[] at h
     |nil=>
      simp[] at h
      split at h
      ·simp[] at h;obtain⟨_,_,rfl⟩:=h;rfl
      ·cases h
 |_=>simp[mkArg] at h;obtain⟨_,_,rfl⟩:=h;rfl
def rB (m:MF)(ρ:Pl)(w:World)(I:Nat→Prop)(upf:DV→Option (List (Nat×aa)))(updf:World→(Nat→Prop)→DV→List Nat→Prop)(Ks ids:List Nat):Prop:=
 ∀(w':World) (b_:Nat→Prop) (y:DV) (u:List (Nat×aa)) (Z:List Nat),bH I b_ w w'→upf y=some u→updf w' b_ y Z→(Z++Ks).Nodup→(u.map (·.1)).Nodup→(∀B∈Z++Ks,¬b_ B)→(∀B∈Ks,w'.heap[B]?=w.heap[B]?) →
  ∃pl Ws,bf w' b_ u Ws pl∧(∀B∈Ws,B∈Z++Ks)∧(∀i b,find u i=some b→b.st=aP m i∨(i∈ids∧iG m ρ w w' pl i b))∧(∀i∈ids,∃b,find u i=some b∧iG m ρ w w' pl i b)
end
section
variable {P:Program} {F:Fix} {C:Cx} {o:Oper} {a:Act} {w w':World} {m:MF} {I I':Nat→Prop} {ρ:Pl} {d:aD}
def Grown.left {w w':World}{a b:List Value}(h:Grown w w' (a++b)):Grown w w' a:=fun B o n cap hm=>h B o n cap (ee _ hm)
def Grown.right {w w':World}{a b:List Value}(h:Grown w w' (a++b)):Grown w w' b:=fun B o n cap hm=>h B o n cap (dy _ hm)
def mZ {upf:DV→Option (List (Nat×aa))}{updf:World→(Nat→Prop)→DV→List Nat→Prop}(h:∀y u,upf y=some u→u = []):rB m ρ w I upf updf [] []:=by
 intro w' b_ y u Z _ hu _ _ _ _ _
 rw[h y u hu]
 exact⟨ρ,[],bf.nil _,by simp,fun i b h=>by trivial,by simp⟩
def gL {n i:Nat}{b c:aa}(h:find [(n,b)] i=some c):n=i∧b=c:=by
 rw[aF] at h
 grind [find]
def qX {I':Nat→Prop}(hm:aC F m w I ρ)(hI:∀B,I B→I' B):∀{x:AT} {y:DV} {vs:List Value},eK m x=some y→aq w I m ρ x vs→(∀id∈x.ids,∀B,aH m ρ id B→¬I' B)→x.ids.Nodup →
  ∃Bs Ks,au w I' y.t y.x vs Bs∧(Bs++Ks).Nodup∧(∀B∈Bs++Ks,∃id∈x.ids,aH m ρ id B) ∧
   rB m ρ w I (kH m x) (fun w' b_ z Z=>z.t=y.t∧au w' b_ z.t z.x vs Z∧Grown w w' vs) Ks x.ids:=by
 intro x
 induction x with
 |leaf t x=>
  intro d vs h hr _ _
  simp only[eK] at h
  cases hl:t.aV with
  |true=>simp[hl] at h
  |false=>
   rw[hl] at h
   cases h
   exact⟨[],[],au.fY hl (af.mono ⟨hI,fun _ _=>rfl⟩ hr),by simp,by simp,mZ fun y u h=>by simp only[kH,aX] at h;exact h.symm⟩
 |nil t=>
  intro d vs h hr _ _
  simp only[eK,aX] at h
  subst h
  subst hr
  exact⟨[],[],by exact⟨none,0,by simp,by simp,.inl (by simp)⟩,by simp,by simp,mZ fun y u h=>by simp only[kH,aX] at h;exact h.symm⟩
 |whole id st t=>
  intro d vs h hr hn _
  simp only[eK,cq] at h
  obtain⟨xs,hro,rfl⟩:=h
  obtain⟨Bs,h1,h2,h3⟩:=vQ hm hr hro hI (hn id (by simp[AT.ids]))
  refine⟨Bs,[],h1,by simpa using h2,fun B hB=>⟨id,by simp[AT.ids],h3 B (by simpa using hB)⟩,?_⟩
  intro w' b_ y u Z ha hu d_ hZ hk cW _
  obtain⟨aW,iq,hgr⟩:=d_
  have hcase:∃b0 c ys,m id=some b0∧b0.live∧b0.st=st∧b0.c.arr=some (t,xs.length)∧rD c t ys∧y=⟨.lst t,ys⟩∧u = [(id,⟨st,false,c⟩)]∧(ys.length=xs.length→bX b0.c c) ∧
    ∀rs t' u' xs' ys',b0.c = .deep rs t' xs'→c = .deep rs u' ys'→False:=by
   simp only[kH] at hu
   split at hu
   ·rename_i ys hys
    have:=cz hys
    subst this
    rcases qJ hro with⟨hb,hl⟩|⟨fz,rs,hb⟩
    ·have hc:cur m id st=some ⟨st,false,.rows t xs⟩:=by simp[cur,hb]
     rw[hc] at hu
     cases hu
     exact⟨_,_,ys,hb,fC rfl,rfl,rfl,.inl ⟨rfl,hl⟩,rfl,rfl,fun h=>⟨rfl,h.symm⟩,fun rs t' u' xs' ys' h=>by cases h⟩
    ·have hc:cur m id st=some ⟨st,fz,.deep rs t xs⟩:=by simp[cur,hb]
     rw[hc] at hu
     cases hu
     exact⟨_,_,ys,hb,trivial,rfl,rfl,.inr ⟨_,rfl⟩,rfl,rfl,fun h=>⟨Nat.le_succ _,rfl,h.symm⟩,fun rs' t' u' xs' ys' h h'=>by cases h;simp only[BC.deep.injEq] at h';omega⟩
   ·cases hu
  obtain⟨b0,c,ys,hb,dA,hst,cA,hc,rfl,rfl,hsh,hnn⟩:=hcase
  simp only[jM] at hZ cW
  obtain⟨pl,n1,n2,n3⟩:=bf.list (n:=id) (st:=st) hc iq hZ
  obtain⟨_,_,q3⟩:=hr
  obtain⟨ad,cap,e1,e2,e3⟩:=q3 _ hb hst t xs.length cA
  have hlen:ys.length=xs.length:=by
   simp only[au] at iq
   obtain⟨ad',cap',f1,_⟩:=iq
   rw[e1] at f1
   simp only[jY,Value.slice.injEq,jZ] at f1
   exact f1.2.1.symm
  have hpl:pl id=ρ id:=by
   rw[n2,e1]
   rcases e3 with⟨g1,g2,g3⟩|⟨B,o',cs,g1,g2,g3,g4⟩
   ·rw[g1,g3];rfl
   ·rw[g1,g2];rfl
  have iU:iG m ρ w w' pl id ⟨st,false,c⟩:=by
   refine⟨b0,hb,dA,hst,hsh hlen,hpl,fun B o cs hp hcs=>?_,fun rs t' u' xs' ys' h h'=>(hnn rs t' u' xs' ys' h h').elim⟩
   rcases e3 with⟨g1,g2,g3⟩|⟨B',o',cs',g1,g2,g3,g4⟩
   ·rw[g3] at hp;cases hp
   ·rw[g1] at hp
    cases hp
    subst g2
    exact hgr _ _ _ _ (by rw[e1];exact i_.2 rfl) cs hcs
  refine⟨pl,Z,n1,by simp,fun i b hf=>?_,fun i hi=>?_⟩
  ·obtain⟨rfl,rfl⟩:=gL hf
   exact .inr ⟨by simp[AT.ids],iU⟩
  ·simp only[AT.ids,i_] at hi
   subst hi
   exact⟨_,by rw[aF,bQ rfl],iU⟩
 |pair l r ihl ihr=>
  intro d vs h hr hn aE
  simp only[eK] at h
  split at h
  ·rename_i x y hx hy
   cases h
   simp only[aq] at hr
   obtain⟨v1,v2,rfl,h1,h2⟩:=hr
   simp only[AT.ids,bY] at aE hn
   have dc:=cL.1 aE
   obtain⟨B1,K1,k1,k2,k3,k4⟩:=ihl hx h1 (fun id hi=>hn id (by simp[hi])) dc.1
   obtain⟨B2,K2,q1,q2,q3,q4⟩:=ihr hy h2 (fun id hi=>hn id (by simp[hi])) dc.2.1
   have hall:((B1++K1)++(B2++K2)).Nodup:=jA hm aE k2 q2 k3 q3
   have iT:((B1++K1)++(B2++K2)).Perm ((B1++B2)++(K1++K2)):=by
    simp only[cZ]
    refine List.Perm.append_left _ ?_
    rw[←cZ,←cZ]
    exact mg _ mh
   refine⟨B1++B2,K1++K2,by simp only[au];exact⟨v1,v2,B1,B2,rfl,rfl,k1,q1⟩,iT.nodup_iff.1 hall,fun B hB=>?_,?_⟩
   ·simp only[AT.ids,bY]
    rcases bU.1 (iT.mem_iff.2 hB) with hB|hB
    ·obtain⟨i,j,k⟩:=k3 B hB;exact⟨i,by simp[j],k⟩
    ·obtain⟨i,j,k⟩:=q3 B hB;exact⟨i,by simp[j],k⟩
   ·intro w' b_ z u Z ha hu d_ hZ hk cW iR
    obtain⟨aW,iq,hgr⟩:=d_
    obtain⟨zt,zx⟩:=z
    simp only at aW
    subst aW
    simp only[kH] at hu
    split at hu
    ·rename_i u1 u2 hu1 hu2
     cases hu
     simp only[au] at iq
     obtain⟨w1,w2,Z1,Z2,e,eZ,r1,r2⟩:=iq
     subst eZ
     have hl1:v1.length=w1.length:=by rw[au.length k1,au.length r1]
     obtain⟨rfl,rfl⟩:=List.append_inj e hl1
     have hpz:((Z1++Z2)++(K1++K2)).Perm ((Z1++K1)++(Z2++K2)):=by
      simp only[cZ]
      refine List.Perm.append_left _ ?_
      rw[←cZ,←cZ]
      exact mg _ mh
     have hZ':=hpz.nodup_iff.1 hZ
     have hZn:=cL.1 hZ'
     obtain⟨ka1,ka2,ka3⟩:=qv hk
     obtain⟨p1,W1,n1,s1,t1,t2⟩:=k4 w' b_ ⟨x.t,zx.1⟩ u1 Z1 ha hu1 ⟨rfl,r1,hgr.left⟩ hZn.1 ka1 (fun B hB=>cW B (hpz.mem_iff.2 (ee _ hB))) (fun B hB=>iR B (ee _ hB))
     obtain⟨p2,W2,n2,s2,t3,t4⟩:=q4 w' b_ ⟨y.t,zx.2⟩ u2 Z2 ha hu2 ⟨rfl,r2,hgr.right⟩ hZn.2.1 ka2 (fun B hB=>cW B (hpz.mem_iff.2 (dy _ hB))) (fun B hB=>iR B (dy _ hB))
     refine⟨bM u1 p1 p2,W1++W2,bf.app n1 n2 (fun B hB B' br=>hZn.2.2 B (s1 B hB) B' (s2 B' br)) ka3,fun B hB=>?_,fun i b hf=>?_,fun i hi=>?_⟩
     ·refine hpz.mem_iff.2 ?_
      rcases bU.1 hB with hB|hB
      ·exact ee _ (s1 B hB)
      ·exact dy _ (s2 B hB)
     ·rw[cO] at hf
      simp only[AT.ids,bY,bU]
      split at hf
      ·rename_i c hc
       cases hf
       exact(t1 i _ hc).imp id fun h=>⟨.inl h.1,h.2.to (kF hc).1⟩
      ·rename_i hno
       exact(t3 i _ hf).imp id fun h=>⟨.inr h.1,h.2.to (kE hno).1⟩
     ·simp only[AT.ids,bY,bU] at hi
      rcases hi with hi|hi
      ·obtain⟨b,hb,hs⟩:=t2 i hi
       exact⟨b,by rw[cO,hb],hs.to (kF hb).1⟩
      ·obtain⟨b,hb,hs⟩:=t4 i hi
       have hno:find u1 i=none:=by
        cases hf:find u1 i with
        |none=>rfl
        |some c=>exact(ka3 i c b hf hb).elim
       exact⟨b,by rw[cO,hno];exact hb,hs.to (kE hno).1⟩
    ·cases hu
  ·simp at h
 |nest id st rs row p u=>
  intro d vs h hr hn _
  simp only[eK] at h
  split at h
  ·rename_i st' fz rs' t xs hc
   obtain⟨hb,hst⟩:=cN hc
   simp only at hst
   subst hst
   obtain⟨h1,h2⟩:=aU h
   simp only[bB] at h1
   have hrs:rs=rs':=dH h1.1.1
   subst hrs
   have dJ:=iw h1.2
   obtain⟨y,rfl,mG⟩:=sW dJ h1.1.2 h2
   simp only[aq] at hr
   obtain⟨l1,l2,_,l3⟩:=hr
   obtain⟨_,l4⟩:=l3 _ hb rfl rs t xs rfl
   obtain⟨_,_,hrow,B,o',hρ,hcell⟩:=l4 rfl
   obtain⟨B',de,cs,rcs,pre,mid,post,D1,D2,B1,Bm,B2,y',f1,f2,f3,f4,f5,f6,f7,f8,f9,f10,f11,f12,f13⟩:=rT hm hb hrow h1.1.2 dJ
   rw[hρ] at f1
   cases f1
   subst f5
   rw[mG] at f9
   cases f9
   have hml:=au.length f12
   have hrl:rcs.length=t.off p+u.size+post.length:=by rw[f10,eY,eY,f11,hml]
   have hmid:vs=mid:=by
    apply List.ext_getElem?
    intro j
    by_cases hj:j<u.size
    ·rw[←hcell j hj]
     have:=f8 (t.off p+j) (by omega)
     rw[←iM] at this
     rw[this,f10,cZ,gj (by omega),eM (by omega)]
     congr 1
     omega
    ·rw[zl8 (by omega),zl8 (by omega)]
   subst hmid
   have ha:bH I I' w w:=⟨hI,fun _ _=>rfl⟩
   have kR:aH m ρ id B:=⟨_,hb,trivial,rfl,.inl ⟨o',hρ⟩⟩
   have hmD:∀b∈ρ.d id,aH m ρ id b:=fun b hb'=>⟨_,hb,trivial,rfl,.inr ⟨trivial,hb'⟩⟩
   obtain⟨dq1,dq2⟩:=hm.dp id _ hb trivial
   have hBd:¬B∈ρ.d id:=fun hin=>(dq2 B hin).2.1 id _ _ hb trivial hρ
   have iT:(ρ.d id).Perm (Bm++(D1++(B1++B2)++D2)):=by
    rw[f6]
    have:(D1++(B1++Bm++B2)++D2).Perm (Bm++(D1++(B1++B2)++D2)):=by
     have e1:D1++(B1++Bm++B2)++D2=((D1++B1)++Bm)++(B2++D2):=by simp
     have e2:Bm++(D1++(B1++B2)++D2)=(Bm++(D1++B1))++(B2++D2):=by simp
     rw[e1,e2]
     exact mg _ mh
    exact this
   have hnd0:(Bm++(D1++(B1++B2)++D2)).Nodup:=iT.nodup_iff.1 dq1
   refine⟨Bm,B::(D1++(B1++B2)++D2),au.mono ha (fun b hb'=>⟨rfl,fun kO=>absurd kO (hn id (by simp[AT.ids]) b (hmD b (iT.mem_iff.2 (ee _ hb'))))⟩) f12,?_,?_,?_⟩
   ·have:(Bm++B::(D1++(B1++B2)++D2)).Perm (B::(Bm++(D1++(B1++B2)++D2))):=List.perm_middle
    rw[this.nodup_iff,dN]
    exact⟨fun h=>hBd (iT.mem_iff.2 h),hnd0⟩
   ·intro b hb'
    refine⟨id,by simp[AT.ids],?_⟩
    have:b=B∨b∈ρ.d id:=by
     rw[iT.mem_iff]
     simp only[bU,bN] at hb' ⊢
     rcases hb' with h|h|h
     ·exact .inr (.inl h)
     ·exact .inl h
     ·exact .inr (.inr h)
    rcases this with e|h
    ·subst e;exact kR
    ·exact hmD b h
   ·intro w' b_ z uu Z cS hu d_ hZ hk cW iR
    obtain⟨aW,iq,hgr⟩:=d_
    obtain⟨zt,zx⟩:=z
    simp only at aW
    subst aW
    simp only[kH,hc] at hu
    obtain⟨_,hu⟩:=aU hu
    have hKB:w'.heap[B]?=w.heap[B]? :=iR B (by simp)
    have hsameD:∀b∈D1++(B1++B2)++D2,w'.heap[b]?=w.heap[b]?∧(b_ b→I b):=fun b hb'=>⟨iR b (gZ _ hb'),fun h=>absurd h (cW b (dy _ (gZ _ hb')))⟩
    obtain⟨x',g1,g2⟩:=f13 w' b_ zx vs Z cS hsameD (fun k _=>World.cell?_of_block (w:=w) hKB) (fun j hj=>by rw[World.cell?_of_block (w:=w) hKB,f8 j hj,f10]) iq
    rw[g1] at hu
    simp only[DV.as,dif_pos,aX] at hu
    subst hu
    have hWs:∀b∈B::(D1++(B1++Z++B2)++D2),b∈Z++B::(D1++(B1++B2)++D2):=by
     intro b hb'
     simp only[bN,bU] at hb' ⊢
     rcases hb' with h|(h|(h|h)|h)|h<;>simp[h]
    have hZ':(B::(D1++(B1++Z++B2)++D2)).Nodup:=by
     have:(Z++B::(D1++(B1++B2)++D2)).Perm (B::(D1++(B1++Z++B2)++D2)):=by
      refine List.perm_middle.trans (List.Perm.cons _ ?_)
      have e1:D1++(B1++Z++B2)++D2=((D1++B1)++Z)++(B2++D2):=by simp
      have e2:Z++(D1++(B1++B2)++D2)=(Z++(D1++B1))++(B2++D2):=by simp
      rw[e1,e2]
      exact mg _ mh
     exact this.nodup_iff.1 hZ
    have hZc:=dN.1 hZ'
    let pl:Pl:=⟨fun _=>some (B,o'),fun _=>D1++(B1++Z++B2)++D2⟩
    have oC:(xs.set row x').length=xs.length:=zl66
    have iU:iG m ρ w w' pl id ⟨st',false,.deep rs t (xs.set row x')⟩:=by
     refine⟨_,hb,trivial,rfl,⟨bA _,rfl,oC.symm⟩,hρ.symm,fun C o2 cs' hp hcs=>?_,fun _ _ _ _ _ _ _ C o2 hp=>?_⟩
     ·rw[hρ] at hp
      cases hp
      exact⟨cs',hcs.of_same hKB,bA _⟩
     ·rw[hρ] at hp
      cases hp
      exact hKB
    refine⟨pl,B::(D1++(B1++Z++B2)++D2),⟨fun i b hf=>?_,fun i b C hf hO=>?_,fun i j b c C hf hf' _ _=>(gL hf).1.symm.trans (gL hf').1,fun i b hf _=>⟨hZc.2,fun C hC o2 he=>?_⟩⟩,hWs,fun i b hf=>?_,fun i hi=>?_⟩
    ·obtain⟨rfl,rfl⟩:=gL hf
     refine⟨rfl,trivial,fun m' ρ' hfit=>?_⟩
     obtain⟨_,k2,k3⟩:=hfit id _ (by rw[aF,bQ rfl])
     simp only[cM]
     refine⟨trivial,.inr ⟨B,o',cs,k2,f2.of_same hKB,by rw[oC];exact f3,by rw[k3];exact g2,cW B (dy _ me)⟩⟩
    ·obtain⟨rfl,rfl⟩:=gL hf
     rcases hO with⟨o2,hO⟩|⟨_,hO⟩
     ·cases hO;exact me
     ·exact gZ _ hO
    ·cases he
     exact hZc.1 hC
    ·obtain⟨rfl,rfl⟩:=gL hf
     exact .inr ⟨by simp[AT.ids],iU⟩
    ·simp only[AT.ids,i_] at hi
     subst hi
     exact⟨_,by rw[aF,bQ rfl],iU⟩
  ·simp at h
 |_=>intro d vs h hr _ _;simp[eK] at h
end
end Go.Ab
