import Derived.Test.YtfeoanopdlpabaaGreatDoorX4
import Derived.Carry
import Derived.OpenShut
import Derived.JoinedCond
import Derived.KernelRfl
import Derived.Below
import Derived.WideKeyArgs
namespace Go.Ab
open Go.ChangeShapes Go.WideShapes Go.ChangeAt Go.RowKit
section
variable {P:Program} {F:Fix} {C:Cx} {w w':World} {m m':MF} {I I':Nat→Prop} {ρ ρ':Pl}
structure UB {H:Type} (ub:DataW H→Nat) (cN:List (DataW H)→Nat):Prop where
 one:∀d,1≤ub d
 str:∀b,b.length+1≤ub (.lit (.string b))
 slice:∀e s,cN e+cN s+1≤ub (.slice e s)
 agg:∀p,cN p+1≤ub (.agg p)
 cons:∀d r,cN (d::r)=ub d+cN r
def fR:(t:Ty)→t.den→Nat
 |.unit,_=>0
 |.str,s=>s.length+1
 |.lst t,xs=>(xs.map (fR t)).sum+1
 |.pair a b,x=>fR a x.1+fR b x.2
 |_,_=>1
def iV:(t:Ty)→t.den→Prop
 |.int k,n=>k.min≤n∧n≤k.max
 |.lst t,xs=>∀x∈xs,iV t x
 |.pair a b,x=>iV a x.1∧iV b x.2
 |_,_=>True
def Ty.given:Ty→Bool
 |.unit | .bool | .int _ | .str=>true
 |.lst t=>t.given
 |.pair a b=>a.given&&b.given
 |_=>false
theorem nq {t:Ty}{T:TypeId}(h:aF P t T):P.cellsOf T=t.size:=by
 obtain⟨i,h1,h2,_⟩:=h.info.info
 simp[Program.cellsOf,h1,h2]
theorem wv {t:Ty}{T:TypeId}{v:Value}{r:Reach}{base:Nat}(h:aF P t T)(hg:t.given=true)(hv:Value.okWide P w r base T v):v=aL t v.cells.toList:=by
 unfold aF at h
 cases t with
 |unit=>
  simp only[TO] at h
  obtain⟨_,fs,hu,_⟩:=h
  obtain⟨cs,rfl,_⟩:=okWide_struct hu hv
  simp[aL,Ty.isAgg,Value.cells]
 |bool=>
  simp only[TO] at h
  obtain⟨b,rfl⟩:=okWide_bool h.2 hv
  simp[aL,Ty.isAgg,Value.cells]
 |int k=>
  simp only[TO] at h
  obtain⟨b,rfl⟩:=okWide_int h.2 hv
  simp[aL,Ty.isAgg,Value.cells]
 |str=>
  simp only[TO] at h
  obtain⟨b,rfl⟩:=okWide_string h.2 hv
  simp[aL,Ty.isAgg,Value.cells]
 |lst u=>
  simp only[TO] at h
  obtain⟨_,E,hu,_⟩:=h
  obtain⟨a,len,cap,rfl⟩:=okWide_slice hu hv
  simp[aL,Ty.isAgg,Value.cells]
 |pair a b=>
  simp only[TO] at h
  obtain⟨_,fs,hu,_⟩:=h
  obtain⟨cs,rfl,_⟩:=okWide_struct hu hv
  simp[aL,Ty.isAgg,Value.cells]
 |_=>simp[Ty.given] at hg
variable {H:Type} {enc:TypeId×Value→H} {ub:DataW H→Nat} {cN:List (DataW H)→Nat}
theorem xj {α:Type}(l:List α)(o a b:Nat):(l.drop o).take (a+b)=(l.drop o).take a++(l.drop (o+a)).take b:=by
 rw[List.take_add,List.drop_drop]
theorem ur {base:Nat}{ad:Addr}{n:Nat}{cs:List Value}(h:w.cells? base ad n=some cs)(_hn:0<n)(hs:ad.spot=none):cs.length=n∧∀j,j<n→w.cell? ⟨ad.block,ad.off+j,none⟩=cs[j]? :=by
 obtain⟨h1,h2,h3⟩:=World.cells?_some h
 refine⟨h2,fun j hj=>?_⟩
 have:=h3 j hj
 rw[←this]
 congr 1
 unfold Addr.add
 obtain⟨b,o,s⟩:=ad
 simp only at hs
 subst hs
 by_cases e:j=0<;>simp[e]
theorem wY {base:Nat}{ad:Addr}{n:Nat}{cs:List Value}(h:w.cells? base ad n=some cs)(hn:0<n):ad.spot=none∧ad.block<w.heap.size:=by
 obtain⟨h1,h2,h3⟩:=World.cells?_some h
 have h0:=h3 0 hn
 have hc:cs[0]?=some cs[0]:=by simp[show 0<cs.length by omega]
 rw[hc] at h0
 unfold World.cell? at h0
 have ha:ad.add 0=ad:=by simp[Addr.add]
 rw[ha] at h0
 split at h0
 ·rename_i c e fr hb
  refine⟨?_,?_⟩
  ·cases hs:ad.spot with
   |none=>rfl
   |some _=>simp[hs] at h0
  ·rcases Nat.lt_or_ge ad.block w.heap.size with hl|hl
   ·exact hl
   ·simp[Array.getElem?_eq_none hl] at hb
 ·cases h0
theorem tL {α:Type}{f:α→Nat}:∀{xs:List α} {ds:List (DataW H)},UB ub cN→xs.length=ds.length→(∀(i:Nat) (x:α) (d:DataW H),xs[i]?=some x→ds[i]?=some d→f x≤ub d)→(xs.map f).sum≤cN ds
 | [],[],_,_,_=>by simp
 |x::xs,d::ds,hu,hl,h=>by
  rw[hu.cons]
  simp only[List.map_cons,List.sum_cons]
  have h1:=h 0 x d rfl rfl
  have h2:=tL (xs:=xs) (ds:=ds) (f:=f) hu (by simpa using hl) fun i y e hy he=>h (i+1) y e (by simpa using hy) (by simpa using he)
  omega
 | [],_::_,_,h,_=>by simp at h
 |_::_,[],_,h,_=>by simp at h
theorem sn {α:Type}{Q:Nat→α→Prop}:∀(n:Nat),(∀i,i<n→∃x,Q i x)→∃xs:List α,xs.length=n∧∀(i:Nat) (x:α),xs[i]?=some x→Q i x
 |0,_=>⟨[],rfl,fun i x h=>by simp at h⟩
 |n+1,h=>by
  obtain⟨xs,h1,h2⟩:=sn n fun i hi=>h i (by omega)
  obtain⟨x,hx⟩:=h n (by omega)
  refine⟨xs ++ [x],by simp[h1],fun i y hy=>?_⟩
  by_cases e:i<n
  ·rw[List.getElem?_append_left (by omega)] at hy
   exact h2 i y hy
  ·rw[List.getElem?_append_right (by omega)] at hy
   have:i-xs.length=0:=by
    rcases Nat.eq_zero_or_pos (i-xs.length) with h0|h0
    ·exact h0
    ·rw[List.getElem?_eq_none (by simp;omega)] at hy;cases hy
   rw[this] at hy
   simp only[List.getElem?_cons_zero,Option.some.injEq] at hy
   subst hy
   have:i=n:=by omega
   subst this
   exact hx
theorem wF (hu:UB ub cN):∀(t:Ty),t.given=true →
  (∀(T:TypeId) (cs:List Value) (fuel:Nat) (x:DataW H×List MemPlace),aF P t T→DataW.trod enc P w 0 (fun _=>true) true fuel T cs=some x→∃y:t.den,aa w (· < w.heap.size) t y cs∧iV t y∧fR t y≤ub x.1) ∧
  (∀(fs:List Field) (off:Nat) (cs:List Value) (k:Nat) (xs:List (DataW H×List MemPlace)),bO P t fs off→xs.length=fs.length →
   (∀(i:Nat) (f:Field),fs[i]?=some f→DataW.trod enc P w 0 (fun _=>true) true k f.type ((cs.drop f.offset).take (P.cellsOf f.type))=xs[i]?) →
   ∃y:t.den,aa w (· < w.heap.size) t y ((cs.drop off).take t.size)∧iV t y∧fR t y≤cN (xs.map (·.1))):=by
 intro t
 induction t with
 |unit=>
  intro _
  refine⟨fun T cs fuel x hT h=>?_,fun fs off cs k xs hf hl h=>?_⟩
  ·have hc:=nq hT
   simp only[aF,TO] at hT
   obtain⟨_,fs,hu1,hfs⟩:=hT
   obtain⟨xs,n,_,_,hl,_⟩:=DataW.trod_struct hu1 h
   rw[hc] at hl
   refine⟨(),?_,trivial,Nat.zero_le _⟩
   simp only[aa]
   exact List.eq_nil_of_length_eq_zero (by simpa[Ty.size] using hl)
  ·exact⟨(),by simp[aa,Ty.size],trivial,Nat.zero_le _⟩
 |bool=>
  intro _
  refine⟨fun T cs fuel x hT h=>?_,fun fs off cs k xs hf=>by simp[bO,TO] at hf⟩
  simp only[aF,TO] at hT
  obtain⟨b,rfl,rfl⟩:=DataW.trod_bool hT.2 h
  exact⟨b,by simp[aa],trivial,hu.one _⟩
 |int k=>
  intro _
  refine⟨fun T cs fuel x hT h=>?_,fun fs off cs k xs hf=>by simp[bO,TO] at hf⟩
  simp only[aF,TO] at hT
  obtain⟨b,rfl,rfl,hw⟩:=DataW.trod_int hT.2 h
  simp only[Lit.wf,Bool.and_eq_true,decide_eq_true_eq] at hw
  exact⟨b,by simp[aa],hw,hu.one _⟩
 |str=>
  intro _
  refine⟨fun T cs fuel x hT h=>?_,fun fs off cs k xs hf=>by simp[bO,TO] at hf⟩
  simp only[aF,TO] at hT
  obtain⟨b,rfl,rfl,hw⟩:=DataW.trod_string hT.2 h
  exact⟨b.data.toList,by simp[aa],trivial,hu.str _⟩
 |lst u ih=>
  intro hg
  have ih:=(ih (by simpa[Ty.given] using hg)).1
  refine⟨fun T cs fuel x hT h=>?_,fun fs off cs k xs hf=>by simp[bO,TO] at hf⟩
  obtain⟨E,hE,hsz,hTE⟩:=gR hT
  have hcE:=nq hTE
  rcases DataW.trod_slice hE h with⟨rfl,rfl⟩|⟨ad,len,cap,elems,rest,n,_,rfl,rfl,_,hlc,hcap,hel,j5,_⟩
  ·refine⟨[],?_,by intro x hx;simp at hx,?_⟩
   ·simp only[aa]
    exact⟨none,0,by simp,by simp,.inl trivial⟩
   ·simp only[fR,List.map_nil,List.sum_nil];exact hu.one _
  ·have hone:∀i,i<len→∃y:u.den,∃cs d,w.cells? 0 (ad.add (i*u.size)) u.size=some cs∧elems[i]?=some d∧aa w (· < w.heap.size) u y cs∧iV u y∧fR u y≤ub d.1:=by
    intro i hi
    have h1:=j5 i hi
    have h2:elems[i]?=some elems[i]:=by simp[show i<elems.length by omega]
    rw[h2,hcE,Option.bind_eq_some_iff] at h1
    obtain⟨cs,h3,h4⟩:=h1
    obtain⟨y,h5,h6,h7⟩:=ih E cs n _ hTE h4
    exact⟨y,cs,_,h3,h2,h5,h6,h7⟩
   obtain⟨ys,hyl,hys⟩:=sn len hone
   refine⟨ys,?_,?_,?_⟩
   ·simp only[aa]
    refine⟨some ad,cap,by rw[hyl],by omega,?_⟩
    by_cases hz:len=0
    ·exact .inl (List.eq_nil_of_length_eq_zero (by omega))
    ·refine .inr ?_
     obtain⟨_,cs0,_,h0,_⟩:=hone 0 (by omega)
     have ha0:ad.add (0*u.size)=ad:=by simp[Addr.add]
     rw[ha0] at h0
     obtain⟨hsp,hbl⟩:=wY h0 hsz
     obtain⟨B,off,sp⟩:=ad
     simp only at hsp hbl
     subst hsp
     refine⟨B,off,rfl,hbl,fun i y hy=>?_⟩
     obtain⟨cs,d,h1,h2,h3,_⟩:=hys i y hy
     have hadd:(⟨B,off,none⟩:Addr).add (i*u.size)=⟨B,off+i*u.size,none⟩:=Addr.iw _ _ _
     rw[hadd] at h1
     obtain⟨k1,k2⟩:=ur h1 hsz rfl
     exact⟨cs,k1,k2,h3⟩
   ·intro y hy
    obtain⟨i,hi⟩:=List.getElem?_of_mem hy
    obtain⟨_,_,_,_,_,h6,_⟩:=hys i y hi
    exact h6
   ·have hs:=hu.slice (elems.map (·.1)) (rest.map (·.1))
    have:(ys.map (fR u)).sum≤cN (elems.map (·.1)):=by
     refine tL hu (by simp[hyl,hel]) fun i y d hy hd=>?_
     obtain⟨_,d',_,h2,_,_,h7⟩:=hys i y hy
     simp only[List.getElem?_map,h2,Option.map_some,Option.some.injEq] at hd
     subst hd
     exact h7
    simp only[fR]
    omega
 |pair a b aI aH=>
  intro hg
  simp only[Ty.given,Bool.and_eq_true] at hg
  have aI:=(aI hg.1).1
  have aH:=(aH hg.2).2
  have main:∀(f:Field) (l:List Field) (off:Nat) (cs:List Value) (k:Nat) (xs:List (DataW H×List MemPlace)),f.offset=off→aF P a f.type→bO P b l (off+a.size)→xs.length=(f::l).length →
    (∀(i:Nat) (g:Field),(f::l)[i]?=some g→DataW.trod enc P w 0 (fun _=>true) true k g.type ((cs.drop g.offset).take (P.cellsOf g.type))=xs[i]?) →
    ∃y:(Ty.pair a b).den,aa w (· < w.heap.size) (.pair a b) y ((cs.drop off).take (a.size+b.size))∧iV (.pair a b) y∧fR (.pair a b) y≤cN (xs.map (·.1)):=by
   intro f l off cs k xs hfo hfT hl hlen h
   cases xs with
   |nil=>simp at hlen
   |cons x xs=>
    have h0:=h 0 f rfl
    simp only[List.getElem?_cons_zero] at h0
    rw[nq hfT,hfo] at h0
    obtain⟨ya,q1,q2,q3⟩:=aI _ _ _ _ hfT h0
    obtain⟨yb,p1,p2,p3⟩:=aH l (off+a.size) cs k xs hl (by simpa using hlen) fun i g hg=>by
     have:=h (i+1) g (by simpa using hg)
     simpa using this
    refine⟨(ya,yb),?_,⟨q2,p2⟩,?_⟩
    ·simp only[aa]
     exact⟨_,_,xj _ _ _ _,q1,p1⟩
    ·simp only[fR,List.map_cons,hu.cons]
     omega
  refine⟨fun T cs fuel x hT h=>?_,fun fs off cs k xs hf hl h=>?_⟩
  ·have hc:=nq hT
   simp only[aF,TO] at hT
   obtain⟨_,fs,hu1,f,l,hfs,hf0,hfT,hfl⟩:=hT
   obtain⟨xs,n,_,rfl,hl,hxl,hx⟩:=DataW.trod_struct hu1 h
   rw[hc] at hl
   obtain⟨y,h1,h2,h3⟩:=main f l 0 cs n xs hf0 hfT (by simpa[bO] using hfl) (by rw[←hfs];simpa using hxl) (fun i g hg=>hx i g (by rw[←hfs] at hg;simpa using hg))
   refine⟨y,?_,h2,?_⟩
   ·rw[List.drop_zero] at h1
    have e:cs.take (a.size+b.size)=cs:=List.take_of_length_le (by simp only[Ty.size] at hl;omega)
    rwa[e] at h1
   ·have:=hu.agg (xs.map (·.1))
    simp only at h3 ⊢
    omega
  ·simp only[bO,TO] at hf
   obtain⟨f,l,rfl,hfo,hfT,hfl⟩:=hf
   exact main f l off cs k xs hfo hfT hfl hl h
 |_=>intro hg;simp[Ty.given] at hg
end
end Go.Ab
namespace Go.Ab
open Go.ChangeShapes Go.WideShapes Go.ChangeAt Go.RowKit
section
variable {P:Program} {w w':World} {H:Type} {enc:TypeId×Value→H} {ub:DataW H→Nat} {cN:List (DataW H)→Nat}
theorem qh (hu:UB ub cN){base:Nat}{r:Reach}:∀{tys:List Ty} {ts:List TypeId} {vs:List Value} {ds:List (DataW H)} {ps:List MemPlace},cB (aF P) tys ts→(∀t∈tys,t.given=true) →
  DataW.TrodAll enc P w 0 (fun _=>true) true ts vs ds ps→(∀(j:Nat) (t:TypeId) (v:Value),ts[j]?=some t→vs[j]?=some v→Value.okWide P w r base t v) →
  ∃dM:List DV,dM.map (·.t)=tys∧(∀d∈dM,iV d.t d.x)∧(dM.map fun d=>fR d.t d.x).sum≤cN ds∧ku w (· < w.heap.size) (dM.map .v) vs []
 | [],_,vs,ds,ps,hty,_,h,_=>by
  cases hty
  obtain⟨rfl,rfl,_⟩:=trodAll_nil h
  exact⟨[],rfl,by simp,by simp,rfl⟩
 |ty::tys,_,vs,ds,ps,hty,hg,h,hv=>by
  cases hty with
  |cons hT hTs=>
  rename_i T ts
  obtain⟨v,vs',d,ds',p,q,rfl,rfl,rfl,h1,h2⟩:=trodAll_cons h
  obtain⟨fuel,hf⟩:=h1
  have hg1:=hg ty (by simp)
  obtain⟨y,k1,k2,k3⟩:=(wF (P:=P) (w:=w) (enc:=enc) hu ty hg1).1 T _ fuel _ hT hf
  obtain⟨dM,q1,q2,q3,q4⟩:=qh hu hTs (fun t ht=>hg t (by simp[ht])) h2 fun j t v hj hjv=>hv (j+1) t v (by simpa using hj) (by simpa using hjv)
  have hp:=wv hT hg1 (hv 0 T v rfl rfl)
  refine⟨⟨ty,y⟩::dM,by simp[q1],?_,?_,?_⟩
  ·intro d hd
   rcases List.mem_cons.1 hd with e|hd
   ·subst e;exact k2
   ·exact q2 d hd
  ·simp only[List.map_cons,List.sum_cons,hu.cons]
   simp only at k3
   omega
  ·exact⟨[],[],rfl,⟨_,hp,bX.eF k1⟩,q4⟩
theorem oN (hl:laidOutB P=true)(hb:Below w.heap.size w w'):∀{ts:List TypeId} {vs:List Value} {ds:List (DataW H)} {ps:List MemPlace},(∀t∈ts,P.readableRec t=true∧t<P.types.size) →
  DataW.TrodAll enc P w 0 (fun _=>true) true ts vs ds ps→(∀x∈ps,x.block<w.heap.size)→DataW.TrodAll enc P w' 0 (fun b=>decide (b<w.heap.size)) true ts vs ds ps
 | [],vs,ds,ps,_,h,_=>by
  obtain⟨rfl,rfl,rfl⟩:=trodAll_nil h
  exact rfl
 |T::ts,vs,ds,ps,hr,h,hlt=>by
  obtain⟨v,vs',d,ds',p,q,rfl,rfl,rfl,h1,h2⟩:=trodAll_cons h
  have:=hr T (by simp)
  exact trodAll_cons_mk (Below.trod hl this.1 this.2 h1 hb fun x hx=>hlt x (by simp[hx])) (oN hl hb (fun t ht=>hr t (by simp[ht])) h2 fun x hx=>hlt x (by simp[hx]))
theorem law_ok {G:gC}{f:FuncId}{fn:Func}{tys:List Ty}{TB:TypeId}{s:ChangeSpec}(hu:UB ub cN)(hl:laidOutB P=true)(lV:cB (aF P) tys fn.params.toList)(hg:∀t∈tys,t.given=true)
  (hr:∀t∈fn.params.toList,P.readableRec t=true∧t<P.types.size) (hres:fn.resultTypes = #[TB]) (hTB:P.underlying TB=some .bool) (hvars:s.vars = [])
  (hspec:∀ds:List (DataW H),ds.length=tys.length→(s.fn H ds).results = [.lit (.bool true)]∧(s.fn H ds).args=ds∧(s.fn H ds).vars = [])
  (hh:∀dM:List DV,dM.map (·.t)=tys→(∀d∈dM,iV d.t d.x)→(dM.map fun d=>fR d.t d.x).sum≤1048576→Holds P G f (dM.map .v) ⟨[.v ⟨.bool,true⟩],[],[]⟩)
  {W:World} {base:Nat} {args:Array Value} {ds gs:List (DataW H)} {before:List MemPlace}
  (hval:∀(j:Nat) t v,fn.params[j]?=some t→args[j]?=some v→Value.okWide P W .any base t v)
  (hW:DataW.Whole enc P fn.params.toList s.vars false W args.toList ds gs before) (hk:cN (ds++gs)≤1048576) (pK:G.ok W (· < W.heap.size)) :
  Calls P f args W fun e W'=>∃v,e = .returned v∧s.post enc P fn false true false false W args v W':=by
 have hW':=hW
 obtain⟨p,q,hA,hV,rfl,hfz,hnd⟩:=hW
 rw[hvars] at hV
 obtain⟨rfl,rfl⟩:=trodVars_none hV
 simp only[List.append_nil] at hk hW'
 obtain⟨dM,q1,q2,q3,q4⟩:=qh hu lV hg hA fun j t v hj hv=>hval j t v (by simpa using hj) (by simpa using hv)
 have hlen:ds.length=tys.length:=by
  have h1:∀{ts:List TypeId} {vs:List Value} {ds:List (DataW H)} {ps:List MemPlace},DataW.TrodAll enc P W 0 (fun _=>true) true ts vs ds ps→ds.length=ts.length:=by
   intro ts
   induction ts with
   |nil=>intro vs ds ps h;obtain⟨_,rfl,_⟩:=trodAll_nil h;rfl
   |cons t ts ih=>intro vs ds ps h;obtain⟨_,_,_,_,_,_,_,rfl,_,_,h2⟩:=trodAll_cons h;simp[ih h2]
  have h2:∀{tys:List Ty} {ts:List TypeId},cB (aF P) tys ts→tys.length=ts.length:=by
   intro tys
   induction tys with
   |nil=>intro ts h;cases h;rfl
   |cons t tys ih=>intro ts h;cases h with | cons _ h=>simp[ih h]
  rw[h1 hA,h2 lV]
 obtain⟨s1,s2,s3⟩:=hspec ds hlen
 have hlt:∀x∈p,x.block<W.heap.size:=fun x hx=>by simpa using hW'.lt x hx
 have j0:=hh dM q1 q2 (by omega) W (· < W.heap.size) args.toList [] (fun _ h=>h) pK q4 List.nodup_nil (by simp)
 simp only[Array.toArray_toList] at j0
 refine Calls.mono j0 fun e W2 he=>?_
 obtain⟨v,I',Ys,Zs,rfl,hO,_,_,_,_,_,hfr,hsz,hos,htp,hout⟩:=he
 have hv:v = .bool true:=by
  obtain⟨cs,h1,h2⟩:=hO
  obtain⟨_,h3⟩:=h2
  simp only[aa] at h3
  subst h3
  exact h1
 subst hv
 have kK:Below W.heap.size W W2:=⟨hos,htp,hout,hsz,fun k hk=>hfr k hk (by simp)⟩
 refine⟨_,rfl,ds,[],p,[],p,[],hW',?_,?_,?_,kK.frame _,fun h=>by cases h⟩
 ·rw[hres,List.append_nil,s1]
  exact trodAll_cons_mk (shut_bool hTB _) trodAll_mk0
 ·rw[List.append_nil,s2]
  exact oN hl kK hr hA hlt
 ·rw[hvars,List.append_nil,s3]
  exact rfl
end
end Go.Ab
namespace Go.Ab
section
variable {P:Program} {G:gC} {F:Fix} {C:Cx} {w w':World} {st:St} {lt:List (Nat×b8)}
theorem aT.ext' {a b:aT}(h1:a.own=b.own)(h2:a.aV=b.aV):a=b:=by cases a;cases b;simp_all
theorem s8 {r:ResultVar}{wt:Want}{x:wt.den}{i:aT}(h:kf C st r wt=some (x,i)){rs:List ResultVar}{ws:List Want}{l:List RV}{j:aT}(hr:gy C st rs ws=some (l,j)) :
  gy C st (r::rs) (wt::ws)=some (wt.rv x::l,i.app j):=by
 cases wt with
 |v t=>
  simp only[kf] at h
  split at h
  ·rename_i a ha
   simp only[gy,ha,hr,h,Want.rv]
  ·cases h
 |d t=>
  simp only[kf] at h
  split at h
  ·rename_i a ha
   simp only[gy,ha,hr,h,Want.rv]
  ·cases h
 |p t=>
  simp only[kf] at h
  split at h
  ·rename_i id s ha
   split at h
   ·rename_i st0 vt b hc
    split at h
    ·rename_i y k hy
     cases h
     simp only[gy,ha,hr,hc,hy,Want.rv]
     refine congrArg some (congrArg (Prod.mk _) (aT.ext' ?_ ?_))<;>simp[aT.app,app]
    ·cases h
   ·cases h
  ·cases h
theorem aT.uh (i:aT):i.app {}=i:=by refine aT.ext' ?_ ?_<;>simp[aT.app,qO]
theorem tc:∀{rs:List ResultVar} {ws:List Want} {y:jr ws} {k:aT},kW C st rs ws=some (y,k)→gy C st rs ws=some (mP ws y,k)
 | [],[],y,k,h=>by simp only[kW] at h;cases h;rfl
 | [],_::_,y,k,h=>by simp[kW] at h
 | [r],[w],y,k,h=>by
  have h':kf C st r w=some (y,k):=h
  have:=s8 h' (rs:=[]) (ws:=[]) (l:=[]) (j:={}) rfl
  rw[aT.uh] at this
  exact this
 | [_],[],y,k,h=>by cases h
 |_::_::_,[],y,k,h=>by cases h
 | [r],w::u::ws,y,k,h=>by cases h
 |r::r'::rs,[w],y,k,h=>by cases h
 |r::r'::rs,w::u::ws,y,k,h=>by
  simp only[kW] at h
  split at h
  ·rename_i x i y' j h1 h2
   cases h
   exact s8 h1 (tc h2)
  ·cases h
theorem k9 (p:PT)(l:List PT)(x:gE (p::l)):∃(a:p.den) (as:gE l),gB (p::l) x=p.arg a::gB l as:=by
 cases l with
 |nil=>exact⟨x,(),rfl⟩
 |cons q l=>exact⟨x.1,x.2,rfl⟩
theorem kr:∀{ps:List PT} {s:Nat} {xs:gE ps} {u:ij ps} {k:aT},iT st s ps (gB ps xs)=some (u,k)→fq st s (gB ps xs)=some (iQ ps u,k)
 | [],s,xs,u,k,h=>by simp only[iT] at h;cases h;rfl
 |.v t::l,s,xs,u,k,h=>by
  obtain⟨a,as,e⟩:=k9 (.v t) l xs
  rw[e] at h ⊢
  exact kr (ps:=l) h
 |.k t::l,s,xs,u,k,h=>by
  obtain⟨a,as,e⟩:=k9 (.k t) l xs
  rw[e] at h ⊢
  exact kr (ps:=l) h
 |.f g t::l,s,xs,u,k,h=>by
  obtain⟨a,as,e⟩:=k9 (.f g t) l xs
  rw[e] at h ⊢
  exact kr (ps:=l) h
 |.d t::l,s,xs,u,k,h=>by
  obtain⟨a,as,e⟩:=k9 (.d t) l xs
  rw[e] at h ⊢
  simp only[PT.arg,iT] at h
  split at h
  ·rename_i x0 hx0
   have:=bT hx0
   cases this
   split at h
   ·rename_i x i e r ids hx dj
    cases h
    have:=kr (ps:=l) (xs:=as) dj
    simp only[PT.arg,fq,hx,this,iQ]
   ·cases h
  ·cases h
 |.p t::l,s,xs,u,k,h=>by
  obtain⟨a,as,e⟩:=k9 (.p t) l xs
  rw[e] at h ⊢
  simp only[iT] at h
  split at h
  ·rename_i vt b r ids hb dj
   split at h
   ·rename_i x i hx
    cases h
    have:=kr (ps:=l) (xs:=as) dj
    simp only[PT.arg,fq,hb,this,hx,iQ]
   ·cases h
  ·cases h
 |.m t::l,s,xs,u,k,h=>by
  obtain⟨a,as,e⟩:=k9 (.m t) l xs
  rw[e] at h ⊢
  simp only[iT] at h
  split at h
  ·rename_i ys r ids hb dj
   cases h
   have:=kr (ps:=l) (xs:=as) dj
   simp only[PT.arg,fq,hb,this,iQ]
  ·cases h
theorem evT_ok {fn:Func}{f:FuncId}{ps:List PT}{ws:List Want}{xs:gE ps}{y:jr ws×ij ps}{ok:List Bool}(hm:P.follows .mixedOrders=true)(hC:bH P C)(hF:dD P G C)
  (hf:P.funcs[f]?=some fn) (hlo:∀c,fn.body=some c→fP C lt c) (hev:evT C lt fn ps ws xs=some y):Holds P G f (gB ps xs) ⟨mP ws y.1,iQ ps y.2,ok⟩:=by
 unfold evT at hev
 split at hev
 ·cases hev
 ·rename_i c hbody
  obtain⟨hb,hev⟩:=aQ hev
  simp only[Bool.and_eq_true,jI,gJ] at hb
  obtain⟨⟨⟨⟨dc,hlen⟩,rO⟩,hws⟩,hnd⟩:=hb
  rw[qT] at hev hnd
  simp only[app] at hev hnd
  refine evK_ok hm hC hF hf hbody (hlo c hbody) dc (Nat.le_of_ble_eq_true hlen) (Nat.le_of_ble_eq_true rO) (Nat.le_of_ble_eq_true hws) hnd hev fun e st he=>?_
  have iH:(∀i,e ≠ .exit i)∧finT C fn ps (gB ps xs) ws st=some y:=by
   cases e with
   |norm=>exact⟨(by intro i h;cases h),he⟩
   |ret=>exact⟨(by intro i h;cases h),he⟩
   |exit i=>cases he
  refine⟨iH.1,?_⟩
  have h2:=iH.2
  unfold finT at h2
  split at h2
  ·rename_i o i u j ho hu
   obtain⟨q1,q2⟩:=aQ h2
   obtain⟨q3,q4⟩:=aQ q2
   cases q4
   unfold finish
   simp only[tc ho,kr (xs:=xs) hu,q1,q3,cond_true]
  ·cases h2
def ConOk (P:Program)(G:gC)(c:iq):Prop:=∀xs y,c.fn xs=some y→∀ok,Holds P G c.id (gB c.ps xs) ⟨mP c.ws y.1,iQ c.ps y.2,ok⟩
theorem PT.of_ok {p:PT}{a:Arg}{x:p.den}(h:p.of a=some x):a=p.arg x:=by
 cases p with
 |v t=>cases a<;>first|(simp only[PT.of] at h;rw[bT h];rfl)|cases h
 |k t=>cases a<;>first|(simp only[PT.of] at h;rw[bT h];rfl)|cases h
 |p t=>cases a<;>first|(simp only[PT.of] at h;rw[bT h];rfl)|cases h
 |d t=>cases a<;>first|(simp only[PT.of] at h;rw[bT h];rfl)|cases h
 |m t=>
  cases a with
  |m u ys=>
   simp only[PT.of] at h
   have:=bT h
   cases this
   rfl
  |_=>cases h
 |f g t=>
  cases a with
  |f g' d=>
   simp only[PT.of] at h
   obtain⟨h1,h2⟩:=aQ h
   rw[bT h2,Nat.eq_of_beq_eq_true h1]
   rfl
  |_=>cases h
theorem sY:∀{ps:List PT} {as:List Arg} {xs:gE ps},mz ps as=some xs→as=gB ps xs
 | [],[],xs,_=>rfl
 | [],_::_,xs,h=>by cases h
 | [p],[a],xs,h=>by
  have:=PT.of_ok (p:=p) (a:=a) (x:=xs) h
  rw[this]
  rfl
 | [_],[],xs,h=>by cases h
 |_::_::_,[],xs,h=>by cases h
 | [p],_::_::_,xs,h=>by cases h
 |p::q::l,[a],xs,h=>by
  simp only[mz] at h
  split at h
  ·rename_i x y h1 h2;cases h2
  ·cases h
 |p::q::l,a::b::as,xs,h=>by
  simp only[mz] at h
  split at h
  ·rename_i x y h1 h2
   cases h
   rw[PT.of_ok h1]
   have:=sY (ps:=q::l) (as:=b::as) h2
   rw[this]
   rfl
  ·cases h
def fnB (P:Program)(f:FuncId):Bool:=match P.funcs[f]? with
 |some fn=> !(fn.name == "runtime.NumGoroutine")&&fn.body.isSome
 |none=>false
theorem enters {f:FuncId}(h:fnB P f=true)(args:Array Value)(w:World):(callFunc f args).run P w = .ok (.enter f args) w:=by
 unfold fnB at h
 split at h
 ·rename_i fn hf
  simp only[Bool.and_eq_true,Bool.not_eq_true'] at h
  have hb:fn.body≠none:=by
   intro hh
   simp[hh] at h
  have hn:¬fn.name = "runtime.NumGoroutine" :=by simpa using h.1
  simp[callFunc,hf,hn,hb]
 ·cases h
theorem dD.nil (eS:List (Nat×TI))(dp:Bool){gl:List (Nat×DV)}(hg:∀g d,find gl g=some d→∀w I,G.ok w I→aa w I (.ref d.t) d.x [.pointer (some ⟨g,0,none⟩)]):dD P G ⟨eS,[],dp,gl⟩:=⟨fun f b6 den h=>by simp[find] at h,hg⟩
theorem dD.dp {C:Cx}(h:dD P G C)(b:Bool):dD P G ⟨C.eS,C.fns,b,C.gl⟩:=⟨h.fns,h.gl⟩
theorem dD.cons {eS:List (Nat×TI)}{fns:List (Nat×List Mode×(List Arg→Option Res))}{dp:Bool}{gl:List (Nat×DV)}(h:dD P G ⟨eS,fns,dp,gl⟩)(c:iq)(he:fnB P c.id=true)(hv:∀x y,c.fn x=some y→c.val x=y)(hc:ConOk P G c):dD P G ⟨eS,c.entry::fns,dp,gl⟩:=by
 refine⟨fun f b6 den hf=>?_,h.gl⟩
 simp only[iq.entry,aG] at hf
 split at hf
 ·rename_i e
  cases hf
  subst e
  refine⟨enters he,fun args r hr hok=>?_⟩
  simp only[Option.map_eq_some_iff] at hr
  obtain⟨xs,hx,e⟩:=hr
  have:=sY hx
  subst this e
  have hs:=hok (nQ (c.fn xs)) (by simp[iq.res])
  cases hy:c.fn xs with
  |none=>rw[hy] at hs;cases hs
  |some y=>
   unfold iq.res
   rw[hv xs y hy]
   exact hc xs y hy _
 ·exact h.fns f b6 den hf
def gk:Code→List Code
 |.seq a b=>app (gk a) (gk b)
 |.cond _ a b=>app (gk a) (gk b)
 |.block _ c=>gk c
 |.scope c=>gk c
 |.loop c=>c::gk c
 |_=>[]
def qF (C:Cx)(lt:List (Nat×b8))(c:Code):Prop:=∀L,(find lt (iC c)=some L∨find lt (iC c+500000)=some L)→∀x,L.dom x=true→Comes (round C lt c L) x (L.val x)
def fE:Code→List Code
 |.seq a b=>a::app (fE a) (fE b)
 |.cond _ a b=>app (fE a) (fE b)
 |.block _ c=>fE c
 |.scope c=>fE c
 |.loop c=>fE c
 |_=>[]
def jQ (C:Cx)(lt:List (Nat×b8))(c:Code):Prop:=∀L,jU lt c=some L→∀x,L.dom x=true→boxR C lt c L x=some (L.val x)
theorem fP.of:∀{c:Code},(∀b∈gk c,qF C lt b)→(∀b∈fE c,jQ C lt b)→fP C lt c:=by
 intro c
 induction c with
 |seq a b aI aH=>
  intro h k
  exact⟨aI (fun x hx=>h x (bp.2 (.inl hx))) (fun x hx=>k x (List.mem_cons_of_mem _ (bp.2 (.inl hx)))),aH (fun x hx=>h x (bp.2 (.inr hx))) (fun x hx=>k x (List.mem_cons_of_mem _ (bp.2 (.inr hx)))),k a (by simp[fE])⟩
 |cond _ a b aI aH=>intro h k;exact⟨aI (fun x hx=>h x (bp.2 (.inl hx))) (fun x hx=>k x (bp.2 (.inl hx))),aH (fun x hx=>h x (bp.2 (.inr hx))) (fun x hx=>k x (bp.2 (.inr hx)))⟩
 |block _ c ih=>intro h k;exact ih h k
 |scope c ih=>intro h k;exact ih h k
 |loop c ih=>intro h k;exact⟨ih (fun x hx=>h x (List.mem_cons_of_mem _ hx)) k,h c (by simp[gk])⟩
 |_=>intro _ _;trivial
def gF (fn:Func):Code:=match fn.body with
 |some c=>c
 |none=>.skip
def jo (fn:Func)(k:Nat):Code:=match bP (gk (gF fn)) k with
 |some c=>c
 |none=>.skip
def Comesto (C:Cx)(lt:List (Nat×b8))(c:Code)(L:b8):Prop:=∀x,L.dom x=true→Comes (round C lt c L) x (L.val x)
def iW (C:Cx)(lt:List (Nat×b8))(fn:Func):Nat→List b8→Prop
 |k,[]=>Nat.beq (gk (gF fn)).length k=true
 |k,L::l=>(((find lt (iC (jo fn k))=some L∧Comesto C lt (jo fn k) L)∨find lt (iC (jo fn k))=none)∧∀L2,find lt (iC (jo fn k)+500000)=some L2→Comesto C lt (jo fn k) L2)∧iW C lt fn (k+1) l
theorem notTwo {k:Nat}(h:(find lt k).isSome=false){p:b8→Prop}:∀L2,find lt k=some L2→p L2:=fun L2 h2=>by rw[h2] at h;cases h
theorem loopsL_nil {fn:Func}{k:Nat}(h:Nat.beq (gk (gF fn)).length k=true:=by kernel_rfl):iW C lt fn k []:=h
theorem loopsL_cons {fn:Func}{k:Nat}{L:b8}{l:List b8}(h1:find lt (iC (jo fn k))=some L)(h2:∀x,L.dom x=true→Comes (round C lt (jo fn k) L) x (L.val x))(h3:iW C lt fn (k+1) l)
  (h4:(find lt (iC (jo fn k)+500000)).isSome=false:=by kernel_rfl):iW C lt fn k (L::l):=⟨⟨.inl ⟨h1,h2⟩,notTwo h4⟩,h3⟩
theorem loopsC {fn:Func}{k:Nat}{L:b8}{l:List b8}(h2:∀x,L.dom x=true→Comes (round C lt (jo fn k) L) x (L.val x))(h3:iW C lt fn (k+1) l)
  (h1:find lt (iC (jo fn k))=some L:=by kernel_rfl) (h4:(find lt (iC (jo fn k)+500000)).isSome=false:=by kernel_rfl):iW C lt fn k (L::l):=loopsL_cons h1 h2 h3 h4
theorem loopsL_two {fn:Func}{k:Nat}{L L2:b8}{l:List b8}(h1:find lt (iC (jo fn k))=some L)(h2:∀x,L.dom x=true→Comes (round C lt (jo fn k) L) x (L.val x))
  (h1':find lt (iC (jo fn k)+500000)=some L2) (h2':∀x,L2.dom x=true→Comes (round C lt (jo fn k) L2) x (L2.val x)) (h3:iW C lt fn (k+1) l):iW C lt fn k (L::l):=
 ⟨⟨.inl ⟨h1,h2⟩,fun _ h=>by rw[h1'] at h;cases h;exact h2'⟩,h3⟩
theorem loopsL_skip {fn:Func}{k:Nat}{L:b8}{l:List b8}(h1:(find lt (iC (jo fn k))).isSome=false)(h3:iW C lt fn (k+1) l)
  (h4:(find lt (iC (jo fn k)+500000)).isSome=false:=by kernel_rfl):iW C lt fn k (L::l):=
 ⟨⟨.inr (by cases h:find lt (iC (jo fn k)) with | none=>rfl|some _=>rw[h] at h1;cases h1),notTwo h4⟩,h3⟩
def mu:List (Nat×b8)→Bool
 | []=>true
 | (k,_)::l=>Nat.ble k 999999&&mu l
theorem qa:∀{lt:List (Nat×b8)} {k:Nat},mu lt=true→1000000≤k→find lt k=none
 | [],_,_,_=>rfl
 | (j,L)::l,k,h,hk=>by
  simp only[mu,Bool.and_eq_true] at h
  have:=Nat.le_of_ble_eq_true h.1
  rw[aG,if_neg (by omega)]
  exact qa h.2 hk
theorem wj {c:Code}(h:mu lt=true):jQ C lt c:=by
 intro L hL
 unfold jU at hL
 split at hL
 ·rw[qa h (by simp only[keyOf];omega)] at hL;cases hL
 ·rw[qa h (by simp only[keyOf];omega)] at hL;cases hL
 ·cases hL
def nZ (fn:Func)(k:Nat):Code:=match bP (fE (gF fn)) k with
 |some c=>c
 |none=>.skip
def mU (C:Cx)(lt:List (Nat×b8))(fn:Func)(ks:List Nat):Prop:=∀k∈ks,jQ C lt (nZ fn k)
def kE (lt:List (Nat×b8)):List Code→Nat→List Nat
 | [],_=>[]
 |c::l,k=>match jU lt c with | some _=>k::kE lt l (k+1)|none=>kE lt l (k+1)
theorem qY:∀{l:List Code} {k j:Nat} {c:Code} {L:b8},l[j]?=some c→jU lt c=some L→k+j∈kE lt l k
 | [],_,_,_,_,h,_=>by cases h
 |d::l,k,0,c,L,h,hL=>by
  simp only[List.getElem?_cons_zero,Option.some.injEq] at h
  subst h
  simp[kE,hL]
 |d::l,k,j+1,c,L,h,hL=>by
  have:=qY (k:=k+1) (j:=j) (by simpa using h) hL
  unfold kE
  split
  ·exact List.mem_cons_of_mem _ (by rw[show k+(j+1)=k+1+j by omega];exact this)
  ·rw[show k+(j+1)=k+1+j by omega];exact this
theorem boxes_of {fn:Func}{ks:List Nat}(he:kE lt (fE (gF fn)) 0=ks)(h:mU C lt fn ks):∀b∈fE (gF fn),jQ C lt b:=by
 intro b hb L hL
 obtain⟨j,hj⟩:=List.getElem?_of_mem hb
 have hm:=qY (k:=0) hj hL
 rw[he,Nat.zero_add] at hm
 have:=h j hm
 unfold nZ at this
 rw[gL,hj] at this
 exact this L hL
theorem boxesL_nil {fn:Func}:mU C lt fn []:=fun _ h=>by cases h
theorem boxesL_cons {fn:Func}{k:Nat}{ks:List Nat}{sh:Sh}{ex:dB}{f:sh.den→Option ex.den}{f':sh.den→ex.den}(h1:jU lt (nZ fn k)=some (boxD sh ex f f'))(h2:∀x,boxR C lt (nZ fn k) (boxD sh ex f f') x=f x)
  (h3:∀x y,f x=some y→f' x=y) (h:mU C lt fn ks):mU C lt fn (k::ks):=by
 intro j hj
 rcases List.mem_cons.1 hj with e|hj
 ·subst e
  intro L hL x hx
  rw[h1] at hL
  cases hL
  have e:=h2 x
  cases hf:f x with
  |none=>simp only[boxD,hf,nQ] at hx;cases hx
  |some y=>rw[hf] at e;refine e.trans ?_;rw[←h3 x y hf];rfl
 ·exact h j hj
theorem boxesL_none {fn:Func}(h:mu lt=true:=by kernel_rfl):∀b∈fE (gF fn),jQ C lt b:=fun _ _=>wj h
theorem vU {fn:Func}{Ls:List b8}(h:iW C lt fn 0 Ls)(hbx:∀b∈fE (gF fn),jQ C lt b):∀c,fn.body=some c→fP C lt c:=by
 intro c hc
 have hb:gF fn=c:=by unfold gF;rw[hc]
 refine fP.of (fun b hb'=>?_) (hb▸hbx)
 have main:∀(Ls:List b8) (k:Nat),iW C lt fn k Ls→∀j,k≤j→(gk (gF fn))[j]?=some b→qF C lt b:=by
  intro Ls
  induction Ls with
  |nil=>
   intro k h j hj hg
   have:=Nat.eq_of_beq_eq_true h
   have:=(List.getElem?_eq_some_iff.1 hg).1
   omega
  |cons L Ls ih=>
   intro k h j hj hg
   by_cases e:j=k
   ·subst e
    have hn:jo fn j=b:=by unfold jo;rw[gL,hg]
    obtain⟨⟨h,ht⟩,_⟩:=h
    rw[hn] at h ht
    rintro L' (hL'|hL')
    ·rcases h with⟨h1,h2⟩|h
     ·rw[h1] at hL'
      cases hL'
      exact h2
     ·rw[h] at hL';cases hL'
    ·exact ht L' hL'
   ·exact ih (k+1) h.2 j (by omega) hg
 obtain⟨j,hj⟩:=List.getElem?_of_mem hb'
 exact main Ls 0 h j (Nat.zero_le _) (by rw[hb];exact hj)
theorem loopD_ok {c:Code}{sh:Sh}{ex:dB}{y0:ex.den}{r:sh.den→Option (sh.den⊕ex.den)}(h:∀x,round C lt c (kS sh ex y0 r) x=r x) :
  ∀x,(kS sh ex y0 r).dom x=true→Comes (round C lt c (kS sh ex y0 r)) x ((kS sh ex y0 r).val x):=by
 have e:round C lt c (kS sh ex y0 r)=r:=funext h
 intro x hx
 rw[e]
 simp only[kS,lF] at hx
 have hd:mV r x:=@of_decide_eq_true _ (Classical.propDecidable _) hx
 show Comes r x (kG r y0 x)
 unfold kG
 rw[dif_pos hd]
 exact Classical.choose_spec hd
theorem Comes.det {X Y:Type}{r:X→Option (X⊕Y)}{x:X}{y z:Y}(h:Comes r x y)(h':Comes r x z):y=z:=by
 induction h with
 |out h1=>
  cases h' with
  |out h2=>rw[h1] at h2;cases h2;rfl
  |again h2 _=>rw[h1] at h2;cases h2
 |again h1 _ ih=>
  cases h' with
  |out h2=>rw[h1] at h2;cases h2
  |again h2 h3=>rw[h1] at h2;cases h2;exact ih h3
theorem Comes.is {X Y:Type}{r:X→Option (X⊕Y)}{x:X}{y y0:Y}(h:Comes r x y):lF r x=true∧kG r y0 x=y:=by
 have hd:mV r x:=⟨y,h⟩
 refine⟨by unfold lF;exact @decide_eq_true _ (Classical.propDecidable _) hd,?_⟩
 unfold kG
 rw[dif_pos hd]
 exact(Classical.choose_spec hd).det h
theorem con_ok {fn:Func}{c:iq}{Ls:List b8}(hm:P.follows .mixedOrders=true)(hC:bH P C)(hF:dD P G C)(hf:P.funcs[c.id]?=some fn)(hlo:iW C lt fn 0 Ls)
  (hbx:∀b∈fE (gF fn),jQ C lt b) (hev:∀xs,evT C lt fn c.ps c.ws xs=c.fn xs):ConOk P G c:=
 fun xs _ hy _=>evT_ok hm hC hF hf (vU hlo hbx) ((hev xs).trans hy)
end
section
variable {P:Program}
def dV:Ty→List Value→Option (List Value)
 |.unit,l=>some l
 |.bool,.bool false::l=>some l
 |.int k,.int k' 0::l=>bif jC k k' then some l else none
 |.str,.string ⟨⟨[]⟩⟩::l=>some l
 |.lst _,.slice none 0 0::l=>some l
 |.own _,.slice none 0 0::l=>some l
 |.pair a b,l=>match dV a l with | some l'=>dV b l'|none=>none
 |.arr n t,l=>l6 (dV t) n l
 |.ref _,.pointer none::l=>some l
 |_,_=>none
where
 l6 (f:List Value→Option (List Value)):Nat→List Value→Option (List Value)
  |0,l=>some l
  |n+1,l=>match f l with | some l'=>l6 f n l'|none=>none
theorem ud:∀{t:Ty} {l r:List Value},dV t l=some r→l=aX t++r:=by
 intro t
 induction t with
 |unit=>intro l r h;simp only[dV,Option.some.injEq] at h;simp[aX,h]
 |pair a b aI aH=>
  intro l r h
  simp only[dV] at h
  split at h
  ·rename_i l' h1
   rw[aI h1,aH h]
   simp[aX]
  ·cases h
 |arr n t ih=>
  intro l r h
  simp only[dV] at h
  have main:∀(n:Nat) {l r:List Value},dV.l6 (dV t) n l=some r→l=(List.replicate n (aX t)).flatten++r:=by
   intro n
   induction n with
   |zero=>intro l r h;simp only[dV.l6,Option.some.injEq] at h;simp[h]
   |succ n ihn=>
    intro l r h
    simp only[dV.l6] at h
    split at h
    ·rename_i l' h1
     rw[ih h1,ihn h]
     simp[List.replicate_succ]
    ·cases h
  exact main n h
 |bool=>intro l r h;unfold dV at h;split at h<;>simp_all [aX]
 |int k=>
  intro l r h
  unfold dV at h
  split at h<;>first|(cases h;done)|skip
  all_goals simp_all
  obtain⟨e1,e2⟩:=aQ h
  have:=nT e1
  cases e2
  simp_all [aX]
 |str=>intro l r h;unfold dV at h;split at h<;>simp_all [aX]
 |lst t _=>intro l r h;unfold dV at h;split at h<;>simp_all [aX]
 |own t _=>intro l r h;unfold dV at h;split at h<;>simp_all [aX]
 |ref t _=>intro l r h;unfold dV at h;split at h<;>simp_all [aX]
end
end Go.Ab
namespace Go.Ab
section
variable {P:Program}
def qE (t:Ty):Value→Bool
 |.agg cs=>t.isAgg&&(match dV t cs.toList with | some []=>true|_=>false)
 |v=> !t.isAgg&&(match dV t [v] with | some []=>true|_=>false)
theorem xG {t:Ty}{v:Value}(h:qE t v=true):v=aL t (aX t):=by
 have one:∀v:Value,(!t.isAgg&&(match dV t [v] with | some []=>true|_=>false))=true→v=aL t (aX t):=by
  intro v h
  simp only[Bool.and_eq_true,Bool.not_eq_true'] at h
  obtain⟨h1,h2⟩:=h
  split at h2
  ·rename_i hz
   have:=ud hz
   rw[List.append_nil] at this
   simp[aL,h1,←this]
  ·cases h2
 unfold qE at h
 split at h
 ·rename_i cs
  simp only[Bool.and_eq_true] at h
  obtain⟨h1,h2⟩:=h
  split at h2
  ·rename_i hz
   have:=ud hz
   rw[List.append_nil] at this
   simp[aL,h1,←this]
  ·cases h2
 ·exact one v h
def iK (P:Program)(t:Ty)(T:TypeId):Bool:=match P.info? T with
 |some i=>Nat.beq i.size t.size&&(match i.zero with | some z=>qE t z|none=>false)&&Nat.ble i.bytes 4096
 |none=>false
theorem jB {t:Ty}{T:TypeId}(h:iK P t T=true):fA P t T:=by
 unfold iK at h
 split at h
 ·rename_i i hi
  simp only[Bool.and_eq_true] at h
  obtain⟨⟨h1,h2⟩,h3⟩:=h
  split at h2
  ·rename_i z hz
   exact⟨i,hi,Nat.eq_of_beq_eq_true h1,by rw[hz,xG h2],Nat.le_of_ble_eq_true h3⟩
  ·cases h2
 ·cases h
def cK (P:Program):Ty→(TypeId→Bool)×(List Field→Nat→Bool)
 |.unit=>(fun T=>iK P .unit T&&(match P.underlying T with | some (.struct fs)=>fs.toList.isEmpty|_=>false),fun fs _=>fs.isEmpty)
 |.bool=>(fun T=>iK P .bool T&&(match P.underlying T with | some .bool=>true|_=>false),fun _ _=>false)
 |.int k=>(fun T=>iK P (.int k) T&&(match P.underlying T with | some (.int k')=>jC k' k|_=>false),fun _ _=>false)
 |.str=>(fun T=>iK P .str T&&(match P.underlying T with | some .string=>true|_=>false),fun _ _=>false)
 |.lst t=>(fun T=>iK P (.lst t) T&&(match P.underlying T with | some (.slice E)=>Nat.ble 1 t.size&&(cK P t).1 E|_=>false),fun _ _=>false)
 |.own _=>(fun _=>false,fun _ _=>false)
 |.pair a b=>(fun T=>iK P (.pair a b) T&&(match P.underlying T with
  |some (.struct fs)=>(match fs.toList with
   |f::l=>Nat.beq f.offset 0&&(cK P a).1 f.type&&(cK P b).2 l a.size
   | []=>false)
  |_=>false),
  fun fs off=>match fs with
   |f::l=>Nat.beq f.offset off&&(cK P a).1 f.type&&(cK P b).2 l (off+a.size)
   | []=>false)
 |.arr n t=>(fun T=>iK P (.arr n t) T&&(match P.underlying T with | some (.array n' E)=>Nat.beq n n'&&Nat.ble 2 n&&(match t with | .int _=>true|_=>false)&&(cK P t).1 E|_=>false),fun _ _=>false)
 |.ref t=>(fun T=>iK P (.ref t) T&&(match P.underlying T with | some (.pointer _)=>true|_=>false),fun _ _=>false)
theorem tU:∀{t:Ty},(∀T,(cK P t).1 T=true→(TO P t).1 T)∧(∀fs off,(cK P t).2 fs off=true→(TO P t).2 fs off):=by
 intro t
 induction t with
 |unit=>
  refine⟨fun T h=>?_,fun fs off h=>by simpa[cK,TO] using h⟩
  simp only[cK,Bool.and_eq_true] at h
  obtain⟨h1,h2⟩:=h
  split at h2
  ·rename_i fs hf
   exact⟨jB h1,fs,hf,by simpa using h2⟩
  ·cases h2
 |bool=>
  refine⟨fun T h=>?_,fun fs off h=>by simp[cK] at h⟩
  simp only[cK,Bool.and_eq_true] at h
  obtain⟨h1,h2⟩:=h
  split at h2
  ·rename_i hf;exact⟨jB h1,hf⟩
  ·cases h2
 |int k=>
  refine⟨fun T h=>?_,fun fs off h=>by simp[cK] at h⟩
  simp only[cK,Bool.and_eq_true] at h
  obtain⟨h1,h2⟩:=h
  split at h2
  ·rename_i k' hf;rw[nT h2] at hf;exact⟨jB h1,hf⟩
  ·cases h2
 |str=>
  refine⟨fun T h=>?_,fun fs off h=>by simp[cK] at h⟩
  simp only[cK,Bool.and_eq_true] at h
  obtain⟨h1,h2⟩:=h
  split at h2
  ·rename_i hf;exact⟨jB h1,hf⟩
  ·cases h2
 |lst t ih=>
  refine⟨fun T h=>?_,fun fs off h=>by simp[cK] at h⟩
  simp only[cK,Bool.and_eq_true] at h
  obtain⟨h1,h2⟩:=h
  split at h2
  ·rename_i E hf
   simp only[Bool.and_eq_true] at h2
   exact⟨jB h1,E,hf,Nat.le_of_ble_eq_true h2.1,ih.1 E h2.2⟩
  ·cases h2
 |own t _=>exact⟨fun T h=>by simp[cK] at h,fun fs off h=>by simp[cK] at h⟩
 |pair a b aI aH=>
  refine⟨fun T h=>?_,fun fs off h=>?_⟩
  ·simp only[cK,Bool.and_eq_true] at h
   obtain⟨h1,h2⟩:=h
   split at h2
   ·rename_i fs hf
    split at h2
    ·rename_i f l hfl
     simp only[Bool.and_eq_true] at h2
     exact⟨jB h1,fs,hf,f,l,hfl,Nat.eq_of_beq_eq_true h2.1.1,aI.1 _ h2.1.2,aH.2 _ _ h2.2⟩
    ·cases h2
   ·cases h2
  ·simp only[cK] at h
   split at h
   ·rename_i f l
    simp only[Bool.and_eq_true] at h
    exact⟨f,l,rfl,Nat.eq_of_beq_eq_true h.1.1,aI.1 _ h.1.2,aH.2 _ _ h.2⟩
   ·cases h
 |arr n t ih=>
  refine⟨fun T h=>?_,fun fs off h=>by simp[cK] at h⟩
  simp only[cK,Bool.and_eq_true] at h
  obtain⟨h1,h2⟩:=h
  split at h2
  ·rename_i n' E hf
   simp only[Bool.and_eq_true] at h2
   obtain⟨⟨⟨q1,q2⟩,q3⟩,q4⟩:=h2
   have:=Nat.eq_of_beq_eq_true q1
   subst this
   refine⟨jB h1,E,hf,Nat.le_of_ble_eq_true q2,?_,ih.1 E q4⟩
   split at q3
   ·exact⟨_,rfl⟩
   ·cases q3
  ·cases h2
 |ref t _=>
  refine⟨fun T h=>?_,fun fs off h=>by simp[cK] at h⟩
  simp only[cK,Bool.and_eq_true] at h
  obtain⟨h1,h2⟩:=h
  split at h2
  ·rename_i E hf;exact⟨jB h1,E,hf⟩
  ·cases h2
def eqB (P:Program)(T:TypeId):Bool:= !(P.stoodInHeld T) && !(P.eqGuardType P.depth T)&&cn (fun f=> !(f.name == "_")) (P.fieldsOf T).toList
theorem eqB_ok {T:TypeId}(h:eqB P T=true):EqOk P T:=by
 simp only[eqB,Bool.and_eq_true,Bool.not_eq_true'] at h
 refine⟨h.1.1,h.1.2,fun f hf=>?_⟩
 have:=eG h.2 f hf
 simpa using this
theorem cxOk_of {C:Cx}(h:cn (fun x=>(cK P x.2.t).1 x.1&&(!(Nat.beq x.2.e 1) || eqB P x.1)) C.eS=true):bH P C:=by
 refine⟨fun T ti hf=>?_,fun T ti hf he=>?_⟩
 ·have:=eG h _ (d_ hf)
  simp only[Bool.and_eq_true] at this
  exact tU.1 T this.1
 ·have:=eG h _ (d_ hf)
  simp only[Bool.and_eq_true,he,show Nat.beq 1 1=true from rfl,Bool.not_true,Bool.false_or] at this
  exact eqB_ok this.2
theorem tys_of {tys:List Ty}{ts:List TypeId}(h:tys.length=ts.length)(hh:cn (fun x=>(cK P x.1).1 x.2) (tys.zip ts)=true):cB (aF P) tys ts:=by
 induction tys generalizing ts with
 |nil=>cases ts with
  |nil=>exact .nil
  |cons _ _=>simp at h
 |cons t tys ih=>
  cases ts with
  |nil=>simp at h
  |cons T ts=>
   simp only[List.zip_cons_cons,cn,Bool.and_eq_true] at hh
   exact .cons (tU.1 T hh.1) (ih (by simpa using h) hh.2)
end
end Go.Ab
namespace Go.Ab
section
variable {P:Program} {G:gC} {w w':World} {I:Nat→Prop}
def l_:DV→Option Value
 |⟨.str,s⟩=>some (.string ⟨List.toArray (α:=UInt8) s⟩)
 |⟨.int k,n⟩=>some (.int k n)
 |⟨.bool,b⟩=>some (.bool b)
 |_=>none
def dw:List Arg→Option (List Value)
 | []=>some []
 |.v d::l=>match l_ d,dw l with
  |some v,some vs=>some (v::vs)
  |_,_=>none
 |_=>none
def j8:List RV→Option (List Value)
 | []=>some []
 |.v d::l=>match l_ d,j8 l with
  |some v,some vs=>some (v::vs)
  |_,_=>none
 |_=>none
theorem sE {d:DV}{v:Value}(h:l_ d=some v):d.t.isAgg=false∧aa w I d.t d.x [v]∧(∀cs Bs,bX w I d.t d.x cs Bs→cs = [v]∧Bs = []):=by
 obtain⟨t,x⟩:=d
 cases t<;>simp only[l_,Option.some.injEq,reduceCtorEq] at h<;>subst h<;>refine⟨rfl,rfl,fun cs Bs h=>?_⟩<;>simp only[bX,aa] at h<;>exact⟨h.2,h.1⟩
theorem su:∀{args:List Arg} {vs vals:List Value} {Bs:List Nat},dw args=some vs→ku w I args vals Bs→vals=vs∧Bs = []
 | [],vs,vals,Bs,h,ha=>by
  simp only[dw,Option.some.injEq] at h
  subst h
  cases vals with
  |nil=>exact⟨rfl,ha⟩
  |cons _ _=>exact ha.elim
 |.v d::l,vs,vals,Bs,h,ha=>by
  simp only[dw] at h
  split at h
  ·rename_i v vs' h1 h2
   cases h
   cases vals with
   |nil=>exact ha.elim
   |cons v0 vals=>
    obtain⟨B1,B2,e,⟨cs,e1,e2⟩,h4⟩:=ha
    obtain⟨k1,_,k3⟩:=sE (w:=w) (I:=I) h1
    obtain⟨q1,q2⟩:=k3 cs B1 e2
    obtain⟨q3,q4⟩:=su h2 h4
    subst q1 q2 q3 q4
    refine⟨?_,by simp[e]⟩
    rw[e1]
    unfold aL
    rw[k1]
    rfl
  ·cases h
 |.d _::_,_,_,_,h,_=>by simp[dw] at h
 |.p _::_,_,_,_,h,_=>by simp[dw] at h
 |.m _ _::_,_,_,_,h,_=>by simp[dw] at h
 |.f _ _::_,_,_,_,h,_=>by simp[dw] at h
theorem sA:∀{args:List Arg} {vs vals:List Value},dw args=some vs→vals.length=args.length→bS w w' I args vals [] []
 | [],_,_,_,_=>rfl
 |.v d::l,vs,v::vals,h,hl=>by
  simp only[dw] at h
  split at h
  ·rename_i v' vs' h1 h2
   exact sA (args:=l) h2 (by simpa using hl)
  ·cases h
 |.v d::l,vs,[],h,hl=>by simp at hl
 |.d _::_,_,_,h,_=>by simp[dw] at h
 |.p _::_,_,_,h,_=>by simp[dw] at h
 |.m _ _::_,_,_,h,_=>by simp[dw] at h
 |.f _ _::_,_,_,h,_=>by simp[dw] at h
theorem sr:∀{args:List Arg} {vs:List Value},dw args=some vs→vs.length=args.length
 | [],vs,h=>by simp only[dw,Option.some.injEq] at h;subst h;rfl
 |.v d::l,vs,h=>by
  simp only[dw] at h
  split at h
  ·rename_i v vs' h1 h2
   cases h
   simp[sr h2]
  ·cases h
 |.d _::_,_,h=>by simp[dw] at h
 |.p _::_,_,h=>by simp[dw] at h
 |.m _ _::_,_,h=>by simp[dw] at h
 |.f _ _::_,_,h=>by simp[dw] at h
theorem vL {d:DV}{v:Value}(h:l_ d=some v):kC w I (.v d) v []:=by
 obtain⟨k1,k2,_⟩:=sE (w:=w) (I:=I) h
 exact⟨[v],by unfold aL;rw[k1];rfl,bX.eF k2⟩
theorem sB:∀{outs:List RV} {os:List Value},j8 outs=some os→fC w I outs os []
 | [],os,h=>by simp only[j8,Option.some.injEq] at h;subst h;rfl
 |.v d::l,os,h=>by
  simp only[j8] at h
  split at h
  ·rename_i v vs' h1 h2
   cases h
   exact⟨[],[],rfl,vL h1,sB h2⟩
  ·cases h
 |.d _::_,_,h=>by simp[j8] at h
 |.p _::_,_,h=>by simp[j8] at h
theorem Holds.lit {f:FuncId}{args:List Arg}{outs:List RV}{vs os:List Value}{ok:List Bool}(h1:dw args=some vs)(h2:j8 outs=some os)
  (h:∀w I,(∀B,I B→B<w.heap.size)→G.ok w I→Calls P f vs.toArray w fun e w'=>e = .returned (jK os)∧RowKit.Below w.heap.size w w'):Holds P G f args ⟨outs,[],ok⟩:=by
 intro w I vals Bs hI hG ha _ _
 obtain⟨e1,e2⟩:=su h1 ha
 subst e1 e2
 refine(h w I hI hG).mono fun e w' ⟨he,hb⟩=>?_
 refine⟨jK os,I,[],[],he,s7 (sB h2),sA h1 (sr h1),by simp,by simp,⟨fun _ h=>h,fun B hB=>hb.block B (hI B hB)⟩,fun B hB=>⟨Nat.lt_of_lt_of_le (hI B hB) hb.size,.inl hB⟩,fun B hB _=>hb.block B hB,hb.size,hb.os,hb.tape,hb.output⟩
end
end Go.Ab
namespace Go.Ab
open Go.ChangeShapes Go.WideShapes Go.ChangeAt Go.RowKit Go.WideElems
section
variable {P:Program} {w w':World} {H:Type} {enc:TypeId×Value→H} {ub:DataW H→Nat} {cN:List (DataW H)→Nat}
theorem tV (hu:UB ub cN):∀(a b:List (DataW H)),cN a≤cN (a++b)
 | [],b=>by
  have h0:cN ([]:List (DataW H))≤cN b:=by
   cases b with
   |nil=>exact Nat.le_refl _
   |cons d r=>
    have h1:=hu.cons d ([]:List (DataW H))
    rw[hu.cons]
    have:∀r:List (DataW H),cN ([]:List (DataW H))≤cN r:=by
     intro r
     induction r with
     |nil=>exact Nat.le_refl _
     |cons d r ih=>rw[hu.cons];omega
    have:=this r;omega
  exact h0
 |d::a,b=>by rw[List.cons_append,hu.cons,hu.cons];have:=tV hu a b;omega
theorem uc (hl:laidOutB P=true)(hb:Below w.heap.size w w'):∀{ns:List String} {gs:List (DataW H)} {q:List MemPlace},
  (∀n∈ns,∀g t,P.globalNamed n=some g→(P.globals[g]?).map (·.type)=some t→P.readableRec t=true∧t<P.types.size) →
  DataW.TrodVars enc P w (fun _=>true) ns gs q→(∀x∈q,x.block<w.heap.size)→DataW.TrodVars enc P w' (fun b=>decide (b<w.heap.size)) ns gs q
 | [],gs,q,_,h,_=>by
  obtain⟨rfl,rfl⟩:=trodVars_none h
  exact rfl
 |n::ns,[],q,_,h,_=>by simp[DataW.TrodVars] at h
 |n::ns,d::gs,q,hr,h,hlt=>by
  obtain⟨g,t,cs,fuel,p1,q1,h1,h2,h3,h4,h5,e⟩:=h
  have hr1:=hr n (by simp) g t h1 h2
  subst e
  have hv:w'.var? P n=some cs:=by
   have h3':=h3
   unfold World.var? at h3 ⊢
   rw[h1] at h3 ⊢
   simp only[Option.bind_some] at h3 ⊢
   have hg:g<w.heap.size:=by
    cases hc:w.heap[g]? with
    |none=>rw[hc] at h3;simp at h3
    |some o=>
     rcases Nat.lt_or_ge g w.heap.size with h|h
     ·exact h
     ·rw[Array.getElem?_eq_none h] at hc;cases hc
   rw[hb.block g hg];exact h3
  refine⟨g,t,cs,fuel,p1,q1,h1,h2,hv,?_,uc hl hb (fun n hn=>hr n (by simp[hn])) h5 (fun x hx=>hlt x (by simp[hx])),rfl⟩
  exact DataW.trod_stays (kids_book hl hr1.1) (book_sized hr1.1) (fun h=>by cases h) ⟨hr1.2,book_self t⟩ h4 (fun x hx=>hb.same (hlt x (by simp only[List.mem_append];exact .inl (.inr hx)))) (fun x hx=>by simpa using hlt x (by simp only[List.mem_append];exact .inl (.inr hx)))
theorem law_okV {G:gC}{f:FuncId}{fn:Func}{tys:List Ty}{TB:TypeId}{s:ChangeSpec}(hu:UB ub cN)(hl:laidOutB P=true)(lV:cB (aF P) tys fn.params.toList)(hg:∀t∈tys,t.given=true)
  (hr:∀t∈fn.params.toList,P.readableRec t=true∧t<P.types.size) (hres:fn.resultTypes = #[TB]) (hTB:P.underlying TB=some .bool)
  (dO:∀n∈s.vars,∀g t,P.globalNamed n=some g→(P.globals[g]?).map (·.type)=some t→P.readableRec t=true∧t<P.types.size)
  (hspec:∀ds gs:List (DataW H),ds.length=tys.length→gs.length=s.vars.length→(s.fn H (ds++gs)).results = [.lit (.bool true)]∧(s.fn H (ds++gs)).args=ds∧(s.fn H (ds++gs)).vars=gs)
  (hh:∀dM:List DV,dM.map (·.t)=tys→(∀d∈dM,iV d.t d.x)→(dM.map fun d=>fR d.t d.x).sum≤1048576→Holds P G f (dM.map .v) ⟨[.v ⟨.bool,true⟩],[],[]⟩)
  {W:World} {base:Nat} {args:Array Value} {ds gs:List (DataW H)} {before:List MemPlace}
  (hval:∀(j:Nat) t v,fn.params[j]?=some t→args[j]?=some v→Value.okWide P W .any base t v)
  (hW:DataW.Whole enc P fn.params.toList s.vars false W args.toList ds gs before) (hk:cN (ds++gs)≤1048576) (pK:G.ok W (· < W.heap.size)) :
  Calls P f args W fun e W'=>∃v,e = .returned v∧s.post enc P fn false true false false W args v W':=by
 have hW':=hW
 obtain⟨p,q,hA,hV,rfl,hfz,hnd⟩:=hW
 obtain⟨dM,q1,q2,q3,q4⟩:=qh hu lV hg hA fun j t v hj hv=>hval j t v (by simpa using hj) (by simpa using hv)
 have hlen:ds.length=tys.length:=by
  have h1:∀{ts:List TypeId} {vs:List Value} {ds:List (DataW H)} {ps:List MemPlace},DataW.TrodAll enc P W 0 (fun _=>true) true ts vs ds ps→ds.length=ts.length:=by
   intro ts
   induction ts with
   |nil=>intro vs ds ps h;obtain⟨_,rfl,_⟩:=trodAll_nil h;rfl
   |cons t ts ih=>intro vs ds ps h;obtain⟨_,_,_,_,_,_,_,rfl,_,_,h2⟩:=trodAll_cons h;simp[ih h2]
  have h2:∀{tys:List Ty} {ts:List TypeId},cB (aF P) tys ts→tys.length=ts.length:=by
   intro tys
   induction tys with
   |nil=>intro ts h;cases h;rfl
   |cons t tys ih=>intro ts h;cases h with | cons _ h=>simp[ih h]
  rw[h1 hA,h2 lV]
 have hlenV:gs.length=s.vars.length:=by
  have h1:∀{ns:List String} {gs:List (DataW H)} {q:List MemPlace},DataW.TrodVars enc P W (fun _=>true) ns gs q→gs.length=ns.length:=by
   intro ns
   induction ns with
   |nil=>intro gs q h;obtain⟨rfl,_⟩:=trodVars_none h;rfl
   |cons n ns ih=>
    intro gs q h
    cases gs with
    |nil=>simp[DataW.TrodVars] at h
    |cons d gs=>obtain⟨_,_,_,_,_,_,_,_,_,_,h5,_⟩:=h;simp[ih h5]
  exact h1 hV
 obtain⟨s1,s2,s3⟩:=hspec ds gs hlen hlenV
 have hlt:∀x∈p++q,x.block<W.heap.size:=fun x hx=>by simpa using hW'.lt x hx
 have hub:=tV hu ds gs
 have j0:=hh dM q1 q2 (by omega) W (· < W.heap.size) args.toList [] (fun _ h=>h) pK q4 List.nodup_nil (by simp)
 simp only[Array.toArray_toList] at j0
 refine Calls.mono j0 fun e W2 he=>?_
 obtain⟨v,I',Ys,Zs,rfl,hO,_,_,_,_,_,hfr,hsz,hos,htp,hout⟩:=he
 have hv:v = .bool true:=by
  obtain⟨cs,h1,h2⟩:=hO
  obtain⟨_,h3⟩:=h2
  simp only[aa] at h3
  subst h3
  exact h1
 subst hv
 have kK:Below W.heap.size W W2:=⟨hos,htp,hout,hsz,fun k hk=>hfr k hk (by simp)⟩
 refine⟨_,rfl,ds,gs,p++q,[],p,q,hW',?_,?_,?_,kK.frame _,fun h=>by cases h⟩
 ·rw[hres,s1]
  exact trodAll_cons_mk (shut_bool hTB _) trodAll_mk0
 ·rw[s2]
  exact oN hl kK hr hA fun x hx=>hlt x (by simp[hx])
 ·rw[s3]
  exact uc hl kK dO hV fun x hx=>hlt x (by simp[hx])
end
end Go.Ab
