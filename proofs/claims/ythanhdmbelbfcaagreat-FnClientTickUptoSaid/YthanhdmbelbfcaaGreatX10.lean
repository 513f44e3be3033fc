import Derived.Test.YthanhdmbelbfcaaGreatX9
set_option linter.defProp false
namespace Wh
end Wh
open Wh
open Go Go.Ab
namespace Pc
def apC (s:fk.D)(hs:Fk s)(n:Int):J_ (s,n)=some (DD s n,()):=by
 have CG:∀i,i<s.2.2.1.length→LK (((i:Int),(),n),s)=bif !Es s n i then some (.inl ((((i+1:Nat):Int),(),n),s)) else some (.inr (.inl (((fN s i).2.1,true),()))):=by
  intro i hi
  have eA:List.getD s.2.2.1 i ([],[],())=fN s i:=rfl
  have f1:List.getD (fN s i).1 0 0=lq s i:=rfl
  have hi':decide ((i:Int)<(s.2.2.1.length:Int))=true:=by simpa using hi
  have h0:decide ((0:Int)≤(i:Int))=true:=by simp
  have w:=A5 (i:=i) (by have:=hs.1;omega)
  have d1:=len1 (fN s i).1
  have d2:(lq s i==n)=decide (lq s i=n):=rfl
  have d3:(!decide ((fN s i).1.length=1) || decide ((0:Int)<((fN s i).1.length:Int)))=true:=by
   by_cases e:(fN s i).1.length=1
   ·simp[e]
   ·simp[e]
  cases hA:decide ((fN s i).1.length=1)<;>cases hB:decide (lq s i=n)<;>simp only[hA,zl70,zl98,zl76,zl71] at d3<;>
   simp only[LK,hi',h0,zl94,Int.toNat_zero,eA,f1,d1,d2,hA,hB,d3,w,Es,zU,dW,pO,zl70,zl98,Bool.and_true,zl74,zl76,zl99,zl92,zl73,Int.le_refl]
 have hl:Comes LK (((0:Int),(),n),s) (if Cl s n<s.2.2.1.length then .inl (((fN s (Cl s n)).2.1,true),()) else .inr ((),())):=by
  refine Em (fun i=>(((i:Int),(),n),s)) (fun i=> !Es s n i) (fun i=>if i<s.2.2.1.length then(.inl (((fN s i).2.1,true),()):((List UInt8×Bool)×Unit)⊕(Unit×Unit)) else .inr ((),())) ?_ ?_ ?_
  ·intro i hi h
   simp only[CG i hi];rw[h];rfl
  ·intro i hi h
   simp only[CG i hi];rw[h,bQ hi];rfl
  ·simp[LK]
 by_cases h:Cl s n<s.2.2.1.length
 ·rw[bQ h] at hl
  simp only[J_,cb hl,cv hl,DD,bQ h,dW,ld]
 ·rw[cT h] at hl
  simp only[J_,cb hl,cv hl,DD,cT h,dW,ld]
end Pc
open Go Go.Ab Go.Lib
namespace Pl
structure Fj (r:List Int):Prop where
 mem:∀x∈r,0≤x∧x<24
 AM:r.Pairwise (· < ·)
def ahr:∀{a b:List Int},a.Pairwise (· < ·)→b.Pairwise (· < ·)→(∀x,x∈a↔x∈b)→a=b:=fun {a b} ha hb h=>by
 refine List.Perm.eq_of_pairwise (le:=(· ≤ ·)) (fun x y _ _ h1 h2=>Int.le_antisymm h1 h2) (ha.imp fun h=>Int.le_of_lt h) (hb.imp fun h=>Int.le_of_lt h) ?_
 exact(List.perm_ext_iff_of_nodup (ha.imp fun h e=>by omega) (hb.imp fun h e=>by omega)).2 h
def Yy {r:List Int}(h:Fj r):r.length≤24:=by
 have hn:(r.map Int.toNat).Nodup:=by
  rw[List.Nodup,List.pairwise_map]
  refine List.Pairwise.imp_of_mem ?_ h.AM
  intro a b ha hb hab e
  have:=h.mem a ha;have:=h.mem b hb;omega
 have hs:∀x∈r.map Int.toNat,x∈List.range 24:=by
  intro x hx
  obtain⟨y,hy,rfl⟩:=gG.1 hx
  have:=h.mem y hy
  rw[List.mem_range];omega
 have:=hn.length_le_of_subset hs
 simpa using this
def PX (m:Nat):List Int:=((List.range 24).filter fun j=>m.testBit j).map fun(j:Nat)=>(j:Int)
def agv {m:Nat}{x:Int}:x∈PX m↔0≤x∧x<24∧m.testBit x.toNat=true:=by
 unfold PX
 simp only[gG,List.mem_filter,List.mem_range]
 constructor
 ·rintro⟨j,⟨h1,h2⟩,rfl⟩;exact⟨by omega,by omega,by simpa using h2⟩
 ·rintro⟨h1,h2,h3⟩;exact⟨x.toNat,⟨by omega,h3⟩,by omega⟩
def aoS (m:Nat):Fj (PX m):=by
 refine⟨fun x hx=>?_,?_⟩
 ·have:=agv.1 hx;omega
 ·unfold PX
  rw[List.pairwise_map]
  exact((List.pairwise_lt_range (n:=24)).filter _).imp fun h=>by omega
def acZ {r:List Int}(h:Fj r){x:Int}(hx:0≤x∧x<24):(Pc.w9 r).testBit x.toNat=true↔x∈r:=by
 rw[Pc.Pp,List.any_eq_true]
 constructor
 ·rintro⟨y,hy,e⟩
  have:=h.mem y hy
  have e:=zl79 e
  have:y=x:=by omega
  subst this;exact hy
 ·intro hm;exact⟨x,hm,zl86 rfl⟩
def mk_lt {r:List Int}(h:Fj r):Pc.w9 r<2 ^ 24:=Pc.Pn r fun x hx=>(h.mem x hx).2
def D7 (a b:List Int):List Int:=PX (Pc.w9 a ^^^ Pc.w9 b)
def YX (a b:List Int):Fj (D7 a b):=aoS _
def Md {a b:List Int}(ha:Fj a)(hb:Fj b){x:Int}:x∈D7 a b↔(x∈a∧¬x∈b)∨(¬x∈a∧x∈b):=by
 unfold D7
 rw[agv]
 by_cases hx:0≤x∧x<24
 ·have ea:=acZ ha hx
  have eb:=acZ hb hx
  rw[Nat.testBit_xor]
  constructor
  ·rintro⟨_,_,h⟩
   cases e1:(Pc.w9 a).testBit x.toNat<;>cases e2:(Pc.w9 b).testBit x.toNat<;>simp[e1,e2] at h ea eb<;>simp[ea,eb]
  ·intro h
   refine⟨hx.1,hx.2,?_⟩
   cases e1:(Pc.w9 a).testBit x.toNat<;>cases e2:(Pc.w9 b).testBit x.toNat<;>simp[e1,e2] at ea eb ⊢ <;>simp[ea,eb] at h
 ·constructor
  ·rintro⟨h1,h2,_⟩;exact absurd ⟨h1,h2⟩ hx
  ·rintro(⟨h,_⟩|⟨_,h⟩)
   ·exact absurd (ha.mem x h) hx
   ·exact absurd (hb.mem x h) hx
def Dn:List Int→List Int→List Int
 | [],b=>b
 |x::a,[]=>x::a
 |x::a,y::b=>if x<y then x::Dn a (y::b) else if y<x then y::Dn (x::a) b else Dn a b
termination_by a b=>a.length+b.length
def acX (a:List Int):Dn a []=a:=by cases a<;>simp[Dn]
def ajC:∀(n:Nat) (a b:List Int),a.length+b.length≤n→a.Pairwise (· < ·)→b.Pairwise (· < ·) →
  (∀x,x∈Dn a b↔(x∈a∧¬x∈b)∨(¬x∈a∧x∈b))∧(Dn a b).Pairwise (· < ·):=by
 intro n
 induction n with
 |zero=>
  intro a b h ha hb
  have:a = []:=List.eq_nil_of_length_eq_zero (by omega)
  have:b = []:=List.eq_nil_of_length_eq_zero (by omega)
  subst_vars
  simp[Dn]
 |succ n ih=>
  intro a b h ha hb
  match a,b with
  | [],b=>simp only[Dn];exact⟨fun x=>by simp,hb⟩
  |x::a,[]=>simp only[Dn];exact⟨fun x=>by simp,ha⟩
  |x::a,y::b=>
   obtain⟨ax,ap⟩:=List.pairwise_cons.1 ha
   obtain⟨bx,bp⟩:=List.pairwise_cons.1 hb
   simp only[zl6] at h
   rw[Dn]
   by_cases h1:x<y
   ·rw[bQ h1]
    obtain⟨m,p⟩:=ih a (y::b) (by simp only[zl6];omega) ap hb
    refine⟨fun z=>?_,List.pairwise_cons.2 ⟨fun z hz=>?_,p⟩⟩
    ·rw[bN,m,bN,bN]
     constructor
     ·rintro(rfl|⟨h2,h3⟩|⟨h2,h3⟩)
      ·refine .inl ⟨.inl rfl,?_⟩
       rintro(rfl|h4)
       ·omega
       ·have:=bx z h4;omega
      ·exact .inl ⟨.inr h2,h3⟩
      ·refine .inr ⟨?_,h3⟩
       rintro(rfl|h4)
       ·rcases h3 with rfl|h3
        ·omega
        ·have:=bx z h3;omega
       ·exact h2 h4
     ·rintro(⟨rfl|h2,h3⟩|⟨h2,h3⟩)
      ·exact .inl rfl
      ·exact .inr (.inl ⟨h2,h3⟩)
      ·exact .inr (.inr ⟨fun q=>h2 (.inr q),h3⟩)
    ·rcases(m z).1 hz with⟨h2,_⟩|⟨_,h2⟩
     ·exact ax z h2
     ·rcases bN.1 h2 with rfl|h2
      ·exact h1
      ·have:=bx z h2;omega
   ·rw[cT h1]
    by_cases h2:y<x
    ·rw[bQ h2]
     obtain⟨m,p⟩:=ih (x::a) b (by simp only[zl6];omega) ha bp
     refine⟨fun z=>?_,List.pairwise_cons.2 ⟨fun z hz=>?_,p⟩⟩
     ·rw[bN,m,bN,bN]
      constructor
      ·rintro(rfl|⟨h3,h4⟩|⟨h3,h4⟩)
       ·refine .inr ⟨?_,.inl rfl⟩
        rintro(rfl|h4)
        ·omega
        ·have:=ax z h4;omega
       ·refine .inl ⟨h3,?_⟩
        rintro(rfl|h5)
        ·rcases h3 with rfl|h3
         ·omega
         ·have:=ax z h3;omega
        ·exact h4 h5
       ·exact .inr ⟨h3,.inr h4⟩
      ·rintro(⟨h3,h4⟩|⟨h3,rfl|h4⟩)
       ·exact .inr (.inl ⟨h3,fun q=>h4 (.inr q)⟩)
       ·exact .inl rfl
       ·exact .inr (.inr ⟨h3,h4⟩)
     ·rcases(m z).1 hz with⟨h3,_⟩|⟨_,h3⟩
      ·rcases bN.1 h3 with rfl|h3
       ·exact h2
       ·have:=ax z h3;omega
      ·exact bx z h3
    ·rw[cT h2]
     have e:x=y:=by omega
     subst e
     obtain⟨m,p⟩:=ih a b (by omega) ap bp
     refine⟨fun z=>?_,p⟩
     rw[m,bN,bN]
     constructor
     ·rintro(⟨h3,h4⟩|⟨h3,h4⟩)
      ·refine .inl ⟨.inr h3,?_⟩
       rintro(rfl|h5)
       ·have:=ax z h3;omega
       ·exact h4 h5
      ·refine .inr ⟨?_,.inr h4⟩
       rintro(rfl|h5)
       ·have:=bx z h4;omega
       ·exact h3 h5
     ·rintro(⟨rfl|h3,h4⟩|⟨h3,rfl|h4⟩)
      ·exact absurd (.inl rfl) h4
      ·exact .inl ⟨h3,fun q=>h4 (.inr q)⟩
      ·exact absurd (.inl rfl) h3
      ·exact .inr ⟨fun q=>h3 (.inr q),h4⟩
def ajD {a b:List Int}(ha:Fj a)(hb:Fj b):Dn a b=D7 a b:=by
 obtain⟨m,p⟩:=ajC _ a b (bA _) ha.AM hb.AM
 refine ahr p (YX a b).AM fun x=>?_
 rw[m,Md ha hb]
end Pl
open Go Go.Ab Go.Lib
namespace Ks
open Pl
abbrev je:Type:=gv.D
def pv (f:je):Int:=f.1.getD 0 0
def zE:je:=([],[],())
structure Cj (r:List Int) (c:Nat):Prop where
 mem:∀x∈r,0≤x∧x<(c:Int)
 AM:r.Pairwise (· < ·)
def Cj.i {r:List Int}{c:Nat}(h:Cj r c)(hc:c≤24):Fj r:=⟨fun x hx=>by have:=h.mem x hx;omega,h.AM⟩
def G8 {f:je}(h:f.1 ≠ []):pv f∈f.1:=by
 obtain⟨r,d,u⟩:=f
 cases r with
 |nil=>exact absurd rfl h
 |cons a r=>simp[pv]
def TD {f:je}(h:f.1.Pairwise (· < ·)){x:Int}(hx:x∈f.1):pv f≤x:=by
 obtain⟨r,d,u⟩:=f
 cases r with
 |nil=>cases hx
 |cons a r=>
  rcases bN.1 hx with e|e
  ·simp[pv,e]
  ·have:=(List.pairwise_cons.1 h).1 x e
   have:pv (a::r,d,u)=a:=by simp[pv]
   omega
structure HK (L:List je) (c s:Nat):Prop where
 row:∀f∈L,Cj f.1 c∧f.1 ≠ []
 dat:∀f∈L,f.2.1.length=s
 GG:L.Pairwise (fun f g=>pv f<pv g)
 crs:L.Pairwise (fun f g=>pv f∉g.1∧pv g∉f.1)
def OM {L:List je}{c s:Nat}(h:HK L c s):L.length≤c:=by
 have hn:(L.map fun f=>(pv f).toNat).Nodup:=by
  rw[List.Nodup,List.pairwise_map]
  refine List.Pairwise.imp_of_mem ?_ h.GG
  intro a b ha hb hab e
  have h1:=(h.row a ha).1.mem _ (G8 (h.row a ha).2)
  have h2:=(h.row b hb).1.mem _ (G8 (h.row b hb).2)
  omega
 have hs:∀x∈L.map fun f=>(pv f).toNat,x∈List.range c:=by
  intro x hx
  obtain⟨f,hf,rfl⟩:=gG.1 hx
  have h1:=(h.row f hf).1.mem _ (G8 (h.row f hf).2)
  rw[List.mem_range];omega
 have:=hn.length_le_of_subset hs
 simpa using this
def Ib (e f:je):je:=if pv f∈e.1 then(D7 e.1 f.1,Ff e.2.1 f.2.1,()) else e
def th (L:List je)(e:je):je:=L.foldl Ib e
structure Df (e:je) (c s:Nat):Prop where
 row:Cj e.1 c
 dat:e.2.1.length=s
def ahh {a b:List Int}{c:Nat}(hc:c≤24)(ha:Cj a c)(hb:Cj b c):Cj (D7 a b) c:=by
 refine⟨fun x hx=>?_,(YX a b).AM⟩
 rcases(Md (ha.i hc) (hb.i hc)).1 hx with h|h
 ·exact ha.mem x h.1
 ·exact hb.mem x h.2
def S3 {e f:je}{c s:Nat}(hc:c≤24)(h:Df e c s)(hf:Cj f.1 c):Df (Ib e f) c s:=by
 unfold Ib
 split
 ·exact⟨ahh hc h.row hf,by rw[YY];exact h.dat⟩
 ·exact h
def Xm {L:List je}{c s:Nat}(hc:c≤24)(h:HK L c s):∀e,Df e c s→Df (th L e) c s:=by
 have:∀L:List je,(∀f∈L,Cj f.1 c)→∀e,Df e c s→Df (th L e) c s:=by
  intro L
  induction L with
  |nil=>intro _ e he;exact he
  |cons f L ih=>
   intro hL e he
   exact ih (fun g hg=>hL g (by simp[hg])) _ (S3 hc he (hL f (by simp)))
 exact this L fun f hf=>(h.row f hf).1
def ajk {L:List je}{c s:Nat}(hc:c≤24)(h:HK L c s){e:je}(he:Df e c s):∀f∈L,pv f∉(th L e).1:=by
 have keep:∀(M:List je) (x:Int) (e:je),Df e c s→(∀g∈M,Cj g.1 c∧x∉g.1)→x∉e.1→x∉(th M e).1:=by
  intro M x
  induction M with
  |nil=>intro e _ _ hx;exact hx
  |cons g M ih=>
   intro e he hM hx
   have hg:=hM g (by simp)
   refine ih _ (S3 hc he hg.1) (fun g' hg'=>hM g' (by simp[hg'])) ?_
   unfold Ib
   split
   ·intro hm
    rcases(Md (he.row.i hc) (hg.1.i hc)).1 hm with h|h
    ·exact hx h.1
    ·exact hg.2 h.2
   ·exact hx
 have all:∀(M:List je),HK M c s→∀e,Df e c s→∀f∈M,pv f∉(th M e).1:=by
  intro M
  induction M with
  |nil=>intro _ e _ f hf;cases hf
  |cons g M ih=>
   intro hI e he f hf
   have hg:=hI.row g (by simp)
   have aI:=List.pairwise_cons.1 hI.crs
   have kO:HK M c s:=⟨fun f hf=>hI.row f (by simp[hf]),fun f hf=>hI.dat f (by simp[hf]),(List.pairwise_cons.1 hI.GG).2,aI.2⟩
   have he':=S3 hc he hg.1
   rcases bN.1 hf with e1|e1
   ·subst e1
    refine keep M _ _ he' (fun g hg=>⟨(kO.row g hg).1,(aI.1 g hg).1⟩) ?_
    unfold Ib
    split
    ·rename_i hm
     intro hx
     rcases(Md (he.row.i hc) (hg.1.i hc)).1 hx with h|h
     ·exact h.2 (G8 hg.2)
     ·exact h.1 hm
    ·rename_i hm;exact hm
   ·exact ih kO _ he' f e1
 exact all L h e he
def zP (e f:je):je:=if pv e∈f.1 then(D7 f.1 e.1,Ff f.2.1 e.2.1,()) else f
def m5 (L:List je)(p:Int):Nat:=L.countP fun f=>decide (pv f<p)
def wX (L:List je)(e:je):List je:=(L.map (zP e)).take (m5 L (pv e))++e::(L.map (zP e)).drop (m5 L (pv e))
def ag8 {e f:je}{c:Nat}(hc:c≤24)(he:Cj e.1 c)(hn:e.1 ≠ [])(hf:Cj f.1 c)(hfn:f.1 ≠ [])(hx:pv f∉e.1):pv (zP e f)=pv f∧(zP e f).1 ≠ []:=by
 unfold zP
 split
 ·rename_i hm
  have h1:=TD (f:=f) hf.AM hm
  have h2:pv e≠pv f:=fun h=>hx (h▸G8 hn)
  have hin:pv f∈D7 f.1 e.1:=(Md (hf.i hc) (he.i hc)).2 (.inl ⟨G8 hfn,hx⟩)
  have hne:D7 f.1 e.1 ≠ []:=fun h=>by rw[h] at hin;cases hin
  refine⟨?_,hne⟩
  have h3:pv (D7 f.1 e.1,Ff f.2.1 e.2.1,())≤pv f:=TD (f:=(D7 f.1 e.1,Ff f.2.1 e.2.1,())) (YX _ _).AM hin
  have h4:pv (D7 f.1 e.1,Ff f.2.1 e.2.1,())∈D7 f.1 e.1:=G8 (f:=(D7 f.1 e.1,Ff f.2.1 e.2.1,())) hne
  rcases(Md (hf.i hc) (he.i hc)).1 h4 with h|h
  ·have:=TD (f:=f) hf.AM h.1;omega
  ·have:=TD (f:=e) he.AM h.2;omega
 ·exact⟨rfl,hfn⟩
def ap3 {e f:je}{c:Nat}(hc:c≤24)(he:Cj e.1 c)(hf:Cj f.1 c):Cj (zP e f).1 c:=by
 unfold zP
 split
 ·exact ahh hc hf he
 ·exact hf
def ap2 {e f:je}{s:Nat}(hf:f.2.1.length=s):(zP e f).2.1.length=s:=by
 unfold zP
 split
 ·rw[YY];exact hf
 ·exact hf
def YO {e f:je}{c:Nat}(hc:c≤24)(he:Cj e.1 c)(hf:Cj f.1 c){x:Int}(h:x∈(zP e f).1):(x∈f.1∨x∈e.1)∧(x=pv e→e.1 = []):=by
 unfold zP at h
 split at h
 ·rename_i hm
  rcases(Md (hf.i hc) (he.i hc)).1 h with h'|h'
  ·refine⟨.inl h'.1,fun hx=>?_⟩
   subst hx
   refine Classical.byContradiction fun hne=>h'.2 (G8 hne)
  ·refine⟨.inr h'.2,fun hx=>?_⟩
   subst hx
   exact absurd hm h'.1
 ·rename_i hm
  exact⟨.inl h,fun hx=>absurd (hx▸h) hm⟩
def PB (L:List je)(p:Int):m5 L p≤L.length:=List.countP_le_length
def adB {L:List je}(hs:L.Pairwise (fun f g=>pv f<pv g))(p:Int):(∀f∈L.take (m5 L p),pv f<p)∧(∀f∈L.drop (m5 L p),¬pv f<p):=by
 induction L with
 |nil=>simp[m5]
 |cons f L ih=>
  obtain⟨h1,h2⟩:=List.pairwise_cons.1 hs
  obtain⟨i1,i2⟩:=ih h2
  by_cases hf:pv f<p
  ·have e:m5 (f::L) p=m5 L p+1:=by simp[m5,hf]
   rw[e]
   refine⟨fun g hg=>?_,fun g hg=>?_⟩
   ·rw[List.take_succ_cons] at hg
    rcases bN.1 hg with h|h
    ·rw[h];exact hf
    ·exact i1 g h
   ·rw[List.drop_succ_cons] at hg
    exact i2 g hg
  ·have e0:m5 L p=0:=by
    unfold m5
    rw[List.countP_eq_zero]
    intro g hg
    have:=h1 g hg
    simp only[mS];omega
   have e:m5 (f::L) p=0:=by
    unfold m5 at e0 ⊢
    rw[List.countP_cons,e0];simp[hf]
   rw[e]
   refine⟨fun g hg=>by simp at hg,fun g hg=>?_⟩
   rw[zl84] at hg
   rcases bN.1 hg with h|h
   ·rw[h];exact hf
   ·have:=h1 g h;omega
def add_I {L:List je}{c s:Nat}(hc:c≤24)(h:HK L c s){e:je}(he:Df e c s)(hn:e.1 ≠ [])(hp:∀f∈L,pv f∉e.1):HK (wX L e) c s:=by
 have hmem:∀g∈wX L e,g=e∨∃f∈L,g=zP e f:=by
  intro g hg
  unfold wX at hg
  rcases bU.1 hg with h1|h1
  ·obtain⟨f,hf,e1⟩:=gG.1 (List.mem_of_mem_take h1)
   exact .inr ⟨f,hf,e1.symm⟩
  ·rcases bN.1 h1 with h2|h2
   ·exact .inl h2
   ·obtain⟨f,hf,e1⟩:=gG.1 (List.mem_of_mem_drop h2)
    exact .inr ⟨f,hf,e1.symm⟩
 have pu:∀f∈L,pv (zP e f)=pv f∧(zP e f).1 ≠ []:=fun f hf=>ag8 hc he.row hn (h.row f hf).1 (h.row f hf).2 (hp f hf)
 have pne:∀f∈L,pv f≠pv e:=fun f hf e1=>hp f hf (e1▸G8 hn)
 obtain⟨t1,t2⟩:=adB h.GG (pv e)
 have key:∀(R:je→je→Prop),(∀f g,f∈L→g∈L→pv f<pv g→(pv f∉g.1∧pv g∉f.1)→R (zP e f) (zP e g))→(∀f∈L,pv f<pv e→R (zP e f) e)→(∀f∈L,pv e<pv f→R e (zP e f))→(wX L e).Pairwise R:=by
  intro R r1 r2 r3
  have hm:(L.map (zP e)).Pairwise R:=by
   rw[List.pairwise_map]
   refine List.Pairwise.imp_of_mem ?_ (h.GG.and h.crs)
   intro a b ha hb hab
   exact r1 a b ha hb hab.1 hab.2
  unfold wX
  rw[List.pairwise_append]
  refine⟨hm.sublist (List.take_sublist _ _),List.pairwise_cons.2 ⟨fun g hg=>?_,hm.sublist (List.drop_sublist _ _)⟩,fun a ha g hg=>?_⟩
  ·rw[←List.map_drop] at hg
   obtain⟨f,hf,e1⟩:=gG.1 hg
   subst e1
   have hfL:=List.mem_of_mem_drop hf
   have a1:=t2 f hf
   have a2:=pne f hfL
   exact r3 f hfL (by omega)
  ·rw[←List.map_take] at ha
   obtain⟨f,hf,e1⟩:=gG.1 ha
   subst e1
   have hfL:=List.mem_of_mem_take hf
   have a1:=t1 f hf
   rcases bN.1 hg with e2|e2
   ·subst e2;exact r2 f hfL a1
   ·rw[←List.map_drop] at e2
    obtain⟨g',hg',e3⟩:=gG.1 e2
    subst e3
    have hgL:=List.mem_of_mem_drop hg'
    have h2:(L.take (m5 L (pv e))++L.drop (m5 L (pv e))).Pairwise (fun f g=>pv f<pv g∧(pv f∉g.1∧pv g∉f.1)):=by
     rw[zl68];exact h.GG.and h.crs
    have h3:=(List.pairwise_append.1 h2).2.2 f hf g' hg'
    exact r1 f g' hfL hgL h3.1 h3.2
 have cr:∀f g,f∈L→g∈L→pv f∉g.1→pv (zP e f)∉(zP e g).1:=by
  intro f g hf hg hx hm
  rw[(pu f hf).1] at hm
  rcases(YO hc he.row (h.row g hg).1 hm).1 with h1|h1
  ·exact hx h1
  ·exact hp f hf h1
 refine⟨fun g hg=>?_,fun g hg=>?_,?_,?_⟩
 ·rcases hmem g hg with e1|⟨f,hf,e1⟩
  ·subst e1;exact⟨he.row,hn⟩
  ·subst e1;exact⟨ap3 hc he.row (h.row f hf).1,(pu f hf).2⟩
 ·rcases hmem g hg with e1|⟨f,hf,e1⟩
  ·subst e1;exact he.dat
  ·subst e1;exact ap2 (h.dat f hf)
 ·refine key _ (fun f g hf hg h1 _=>?_) (fun f hf h1=>?_) (fun f hf h1=>?_)
  ·rw[(pu f hf).1,(pu g hg).1];exact h1
  ·rw[(pu f hf).1];exact h1
  ·rw[(pu f hf).1];exact h1
 ·refine key _ (fun f g hf hg _ h1=>⟨cr f g hf hg h1.1,cr g f hg hf h1.2⟩) (fun f hf _=>?_) (fun f hf _=>?_)
  ·exact⟨by rw[(pu f hf).1];exact hp f hf,fun hm=>hn ((YO hc he.row (h.row f hf).1 hm).2 rfl)⟩
  ·exact⟨fun hm=>hn ((YO hc he.row (h.row f hf).1 hm).2 rfl),by rw[(pu f hf).1];exact hp f hf⟩
open Pl
def aoT {r:List Int}{c:Nat}(h:Pc.Cw r (c:Int)=true):Cj r c:=by
 refine⟨fun x hx=>?_,?_⟩
 ·obtain⟨i,hi,rfl⟩:=List.mem_iff_getElem.1 hx
  have h':=h
  simp only[Pc.Cw,bB] at h'
  have:=Pc.we.1 h'.1 i hi
  simp only[Pc.CH,bB,mS,Pc.getD_eq _ _ _ hi] at this
  omega
 ·rw[List.pairwise_iff_getElem]
  intro i j hi hj hij
  have h':=h
  simp only[Pc.Cw,bB] at h'
  have:=Pc.AM (f:=fun i=>r.getD i 0) (n:=r.length) (fun i h0 hi=>by
   have:=Pc.we.1 h'.1 i hi
   simp only[Pc.CH,bB,rz,mS] at this
   exact this.2.resolve_left (by omega)) j i hij hj
  simp only[Pc.getD_eq _ _ _ hi,Pc.getD_eq _ _ _ hj] at this
  exact this
def aa6 {r:List Int}{x:Int}:Pc.F4 r x=true↔x∈r:=by
 rw[Pc.Xb,List.mem_iff_getElem]
 constructor
 ·rintro⟨i,hi,e⟩;rw[Pc.getD_eq _ _ _ hi] at e;exact⟨i,hi,e⟩
 ·rintro⟨i,hi,e⟩;exact⟨i,hi,by rw[Pc.getD_eq _ _ _ hi];exact e⟩
def ok_I {L:List je}{c z:Int}(h:Pc.C0 (c,z,L,())=true):(1≤c∧c≤24)∧(1≤z∧z≤16)∧HK L c.toNat z.toNat:=by
 obtain⟨h1,h2,h3,h4⟩:=Pc.YA h
 have ce:c=(c.toNat:Int):=by have:(1:Int)≤c:=h1.1;omega
 have ze:z=(z.toNat:Int):=by have:(1:Int)≤z:=h2.1;omega
 have at_ (i:Nat) (hi:i<L.length):Pc.fN (c,z,L,()) i=L[i]:=by unfold Pc.fN;exact Pc.getD_eq _ _ _ hi
 have hd (i:Nat) (hi:i<L.length):Pc.lq (c,z,L,()) i=pv L[i]:=by unfold Pc.lq;rw[at_ i hi];rfl
 refine⟨h1,h2,⟨fun f hf=>?_,fun f hf=>?_,?_,?_⟩⟩
 ·obtain⟨i,hi,rfl⟩:=List.mem_iff_getElem.1 hf
  have h5:=Pc.we.1 h3 i hi
  simp only[Pc.z4,bB,mS,at_ i hi] at h5
  refine⟨aoT (by rw[←ce];exact h5.1.1.1),fun e=>h5.1.1.2 (by rw[e];rfl)⟩
 ·obtain⟨i,hi,rfl⟩:=List.mem_iff_getElem.1 hf
  have h5:=Pc.we.1 h3 i hi
  simp only[Pc.z4,bB,mS,at_ i hi] at h5
  have:=h5.1.2
  omega
 ·rw[List.pairwise_iff_getElem]
  intro i j hi hj hij
  have:=Pc.OU h3 j i hij hj
  rwa[hd i hi,hd j hj] at this
 ·rw[List.pairwise_iff_getElem]
  intro i j hi hj hij
  have cr (i k:Nat) (hi:i<L.length) (hk:k<L.length) (hne:k≠i):pv L[i]∉L[k].1:=by
   have h5:=Pc.we.1 (Pc.we.1 h4 i hi) k hk
   simp only[Pc.KV,rz,mS,at_ k hk,hd i hi] at h5
   have h6:=h5.resolve_left hne
   intro hm
   rw[aa6.2 hm] at h6
   cases h6
  exact⟨cr i j hi hj (by omega),cr j i hj hi (by omega)⟩
open Pl
def lnE (n:Nat):decide ((n:Int)<(n:Int))=false:=zdf
structure Mz (p:gT.D) (c z:Nat):Prop where
 long:1≤p.1∧p.1≤300
 size:p.2.1=(z:Int)∧1≤z∧z≤16
 cnt:Pc.cnt p=(c:Int)
 c1:1≤c∧c≤24
 n:1≤p.2.2.1.length∧p.2.2.1.length≤3
 m:p.2.2.2.1.length=p.2.2.1.length
 win:∀x∈p.2.2.1,1≤x∧x≤(c:Int)
 wgt:∀x∈p.2.2.2.1,1≤x∧x≤99
def plan_I {p:gT.D}(h:Pc.Bp p=true):Mz p (Pc.cnt p).toNat p.2.1.toNat:=by
 unfold Pc.Bp Pc.Cv at h
 simp only[bB,mS] at h
 obtain⟨⟨⟨⟨⟨⟨a1,a2⟩,a3⟩,a4⟩,a5⟩,a6⟩,_⟩:=h
 have hb:=Pc.OA p a1 a2
 have hp:∀i,i<p.2.2.1.length→(1≤p.2.2.1.getD i 0∧p.2.2.1.getD i 0≤Pc.cnt p)∧(1≤p.2.2.2.1.getD i 0∧p.2.2.2.1.getD i 0≤99):=by
  intro i hi
  have:=Pc.we.1 a6 i hi
  simp only[Pc.Gk,bB,mS] at this
  exact⟨this.1.1,this.2⟩
 refine⟨a1,⟨by omega,by omega,by omega⟩,by omega,⟨by omega,by omega⟩,a4,a5,fun x hx=>?_,fun x hx=>?_⟩
 ·obtain⟨i,hi,rfl⟩:=List.mem_iff_getElem.1 hx
  have:=(hp i hi).1
  rw[Pc.getD_eq _ _ _ hi] at this
  omega
 ·obtain⟨i,hi,rfl⟩:=List.mem_iff_getElem.1 hx
  have:=(hp i (by omega)).2
  rw[Pc.getD_eq _ _ _ hi] at this
  exact this
def KD:List Int→List Int→Int→Int
 |w::W,v::ws,k=>if k<v then w else KD W ws (k-v)
 |_,_,_=>0
def Un:∀(ws:List Int),(∀x∈ws,1≤x∧x≤99)→(ws.length:Int)≤ws.sum∧ws.sum≤99*(ws.length:Int)
 | [],_=>by simp
 |v::ws,h=>by
  have a:=Un ws fun x hx=>h x (by simp[hx])
  have b:=h v (by simp)
  simp only[zl82,zl6]
  omega
def ahd:∀(W ws:List Int) (k:Int),W.length=ws.length→0≤k→k<ws.sum→KD W ws k∈W
 | [],[],k,_,h0,h=>by simp at h;omega
 |w::W,v::ws,k,hl,h0,h=>by
  unfold KD
  split
  ·simp
  ·have:=ahd W ws (k-v) (by simpa using hl) (by omega) (by simp only[zl82] at h;omega)
   simp[this]
def sum_at (ws:List Int)(i:Nat)(hi:i<ws.length):(ws.drop i).sum=ws.getD i 0+(ws.drop (i+1)).sum:=by
 rw[zl109 hi,zl82,Pc.getD_eq _ _ _ hi]
def win_at (W ws:List Int)(i:Nat)(hi:i<ws.length)(hl:W.length=ws.length)(k:Int):KD (W.drop i) (ws.drop i) k=if k<ws.getD i 0 then W.getD i 0 else KD (W.drop (i+1)) (ws.drop (i+1)) (k-ws.getD i 0):=by
 rw[zl109 hi,zl109 (show i<W.length by omega),KD,Pc.getD_eq _ _ _ hi,Pc.getD_eq _ _ _ (show i<W.length by omega)]
def sumS (p:gT.D){c z:Nat}(I:Mz p c z)(id:Int):Comes IT (((0:Int),(),(0:Int),id),p) (((),p.2.2.2.1.sum,id),p):=by
 have hm:=I.m
 have hn:=I.n
 have:=Bw (r:=IT) (st:=fun i=>(((i:Int),(),(p.2.2.2.1.take i).sum,id),p)) (n:=p.2.2.2.1.length) (y:=(((),p.2.2.2.1.sum,id),p)) (fun i hi=>by
  have b1:=Un (p.2.2.2.1.take i) fun x hx=>I.wgt x (List.mem_of_mem_take hx)
  have b2:=I.wgt _ (zl96 hi)
  have b3:(p.2.2.2.1.take i).length≤i:=by rw[zl3];omega
  have e1:(p.2.2.2.1.take (i+1)).sum=(p.2.2.2.1.take i).sum+p.2.2.2.1.getD i 0:=by
   rw[zl88 hi,List.sum_append,Pc.getD_eq _ _ _ hi];simp
  have w1:=zw (i:=i)
  have w2:IntKind.wrap .i64 ((p.2.2.2.1.take i).sum+p.2.2.2.1.getD i 0)=(p.2.2.2.1.take i).sum+p.2.2.2.1.getD i 0:=by
   rw[Pc.getD_eq _ _ _ hi,Pc.wrap64]<;>omega
  simp only[IT,gl hi,g0,zl94,zU,zl92,dW,w1,w2,e1]) (by simp only[IT,lnE,pO,zl102]) 0 (lB _)
 exact this
def winS (p:gT.D){c z:Nat}(I:Mz p c z):∀d i:Nat,i+d=p.2.2.2.1.length→∀k:Int,0≤k→k<(p.2.2.2.1.drop i).sum→Comes IU (((i:Int),(),k),p) (.inl (KD (p.2.2.1.drop i) (p.2.2.2.1.drop i) k,())):=by
 have hm:=I.m
 have hn:=I.n
 intro d
 induction d with
 |zero=>
  intro i hi k h0 h
  rw[List.drop_eq_nil_of_le (by omega)] at h
  simp at h;omega
 |succ d ih=>
  intro i hi k h0 h
  have hi':i<p.2.2.2.1.length:=by omega
  have hi2:i<p.2.2.1.length:=by omega
  rw[sum_at _ _ hi'] at h
  have b2:=I.wgt _ (zl96 hi')
  have b1:=Un (p.2.2.2.1.drop (i+1)) fun x hx=>I.wgt x (List.mem_of_mem_drop hx)
  have b3:(p.2.2.2.1.drop (i+1)).length≤3:=by rw[zl4];omega
  have eg:=Pc.getD_eq p.2.2.2.1 i 0 hi'
  rw[win_at _ _ _ hi' (by omega)]
  have w1:=zw (i:=i)
  by_cases hk:k<p.2.2.2.1.getD i 0
  ·rw[bQ hk]
   refine .out ?_
   simp only[IU,gl hi',gl hi2,g0,zl94,zU,zl92,dW,zl86 hk]
  ·rw[cT hk]
   have w2:IntKind.wrap .i64 (k-p.2.2.2.1.getD i 0)=k-p.2.2.2.1.getD i 0:=by rw[eg,Pc.wrap64]<;>omega
   refine .again (x':=((((i+1:Nat):Int),(),k-p.2.2.2.1.getD i 0),p)) ?_ (ih (i+1) (by omega) _ (by omega) (by omega))
   simp only[IU,gl hi',g0,zl94,zU,zl92,dW,pO,zl90 hk,w1,w2]
def KC (p:gT.D)(id:Nat):Int:=KD p.2.2.1 p.2.2.2.1 (BO (nW id) p.2.2.2.1.sum.toNat)
def CH (p:gT.D)(c id:Nat):List Int:=if id<c then [(id:Int)] else HC (KC p id).toNat id
def ahc {p:gT.D}{c z:Nat}(I:Mz p c z)(id:Nat):(0≤(BO (nW id) p.2.2.2.1.sum.toNat:Int)∧(BO (nW id) p.2.2.2.1.sum.toNat:Int)<p.2.2.2.1.sum)∧0<p.2.2.2.1.sum.toNat∧p.2.2.2.1.sum.toNat≤297∧∃w:Nat,KC p id=(w:Int)∧1≤w∧w≤c:=by
 have hm:=I.m
 have hn:=I.n
 have b:=Un p.2.2.2.1 I.wgt
 have h:=Lo (nW id) p.2.2.2.1.sum.toNat (by omega)
 have hw:=ahd p.2.2.1 p.2.2.2.1 (BO (nW id) p.2.2.2.1.sum.toNat) (by omega) (by omega) (by omega)
 have:=I.win _ hw
 exact⟨⟨by omega,by omega⟩,by omega,by omega,(KC p id).toNat,by unfold KC;omega,by unfold KC;omega,by unfold KC;omega⟩
def rowP_C {p:gT.D}{c z:Nat}(I:Mz p c z)(id:Nat):Cj (CH p c id) c∧CH p c id ≠ []:=by
 obtain⟨_,_,_,w,e,h1,h2⟩:=ahc I id
 unfold CH
 split
 ·exact⟨⟨fun x hx=>by simp at hx;omega,by simp⟩,by simp⟩
 ·rw[e,zl94]
  refine⟨⟨fun x hx=>?_,agw h1⟩,fun h=>?_⟩
  ·have:=agy h1 hx;omega
  ·have:=(agx (c:=w) (seed:=id) h1).1
   rw[h] at this;simp at this
def aoU {p:gT.D}{c z:Nat}(I:Mz p c z)(id:Nat)(hid:id≤9999):E9 (p,(id:Int))=some (CH p c id,()):=by
 have ec:=Pc.Ny p I.long (by have:=I.size;omega)
 rw[I.cnt] at ec
 obtain⟨⟨k0,k1⟩,s0,s1,w,e,h1,h2⟩:=ahc I id
 have hc:=I.c1
 unfold CH
 by_cases hcc:id<c
 ·simp only[E9,ec,zov ec,Ft,zU,dW,zdt (p:=(id:Int)<(c:Int)),bQ hcc]
 ·have n1:=P8 id (by omega)
  have sl:=Nv id
  have p1:=P9 (nW id) p.2.2.2.1.sum.toNat sl s0
  have c1:=sumS p I (id:Int)
  have c2:=winS p I p.2.2.2.1.length 0 (by omega) (BO (nW id) p.2.2.2.1.sum.toNat) k0 k1
  have er:=agR w id h1 (by omega) (by omega)
  have es:((p.2.2.2.1.sum.toNat:Nat):Int)=p.2.2.2.1.sum:=by omega
  rw[es] at p1
  unfold KC at e
  rw[zl84,zl84,e] at c2
  have ew:Gy (p,(id:Int))=some ((w:Int),()):=by
   have c2':Comes IU (((0:Int),(),(BO (nW id) p.2.2.2.1.sum.toNat:Int)),p) (.inl ((w:Int),())):=c2
   simp only[Gy,cb c1,cv c1,n1,zov n1,p1,zov p1,Aw,cb c2',cv c2',sumC]
  unfold KC
  simp only[E9,ec,zov ec,ew,zov ew,er,zov er,Aw,pO,zdf (p:=(id:Int)<(c:Int)),cT hcc,e,zl94]
open Pl
def gx {i n:Nat}(h:i<n):decide ((i:Int)<(n:Int))=true:=zdt
def gn {i n:Nat}(h:¬i<n):decide ((i:Int)<(n:Int))=false:=zdf
def aqi (a b:List Int)(ha:a.length≤1000)(hb:b.length≤1000):∀d i k:Nat,∀ls:List Int,(a.length-i)+(b.length-k)≤d→i≤a.length→k≤b.length→ls.length≤i+k →
  Comes FE (((i:Int),a,(),(k:Int),b),ls) ((),ls++Dn (a.drop i) (b.drop k)):=by
 intro d
 induction d with
 |zero=>
  intro i k ls hd hi hk hl
  have e1:i=a.length:=by omega
  have e2:k=b.length:=by omega
  subst e1 e2
  refine .out ?_
  simp only[FE,lnE,pO,List.drop_length,Dn,jM]
 |succ d ih=>
  intro i k ls hd hi hk hl
  have w1:=zw (i:=i)
  have w2:=zw (i:=k)
  have lm:decide (ls.length+1≤eV)=true:=zl86 (by unfold eV;omega)
  by_cases hia:i<a.length
  ·have ga:decide ((i:Int)≥(a.length:Int))=false:=zdf
   have da:=zl109 hia
   have ea:=Pc.getD_eq a i 0 hia
   by_cases hkb:k<b.length
   ·have gb:decide ((k:Int)≥(b.length:Int))=false:=zdf
    have db:=zl109 hkb
    have eb:=Pc.getD_eq b k 0 hkb
    rw[da,db,Dn]
    by_cases h1:a[i]<b[k]
    ·rw[bQ h1]
     refine .again (x':=((((i+1:Nat):Int),a,(),(k:Int),b),ls ++ [a[i]])) ?_ ?_
     ·simp only[FE,gx hia,gx hkb,gb,g0,ea,eb,zl94,zl86 h1,lm,w1,zU,zl98,zl70,zl92,zl99,dW,pO]
     ·have:=ih (i+1) k (ls ++ [a[i]]) (by omega) (by omega) hk (by rw[eY];simp;omega)
      rw[cZ,db] at this
      exact this
    ·rw[cT h1]
     by_cases h2:b[k]<a[i]
     ·rw[bQ h2]
      refine .again (x':=(((i:Int),a,(),((k+1:Nat):Int),b),ls ++ [b[k]])) ?_ ?_
      ·simp only[FE,gx hia,gx hkb,ga,gb,g0,ea,eb,zl94,zl90 h1,zl86 h2,lm,w2,zU,zl98,zl70,zl92,zl99,dW,pO]
      ·have:=ih i (k+1) (ls ++ [b[k]]) (by omega) hi (by omega) (by rw[eY];simp;omega)
       rw[cZ,da] at this
       exact this
     ·rw[cT h2]
      have:=ih (i+1) (k+1) ls (by omega) (by omega) (by omega) (by omega)
      refine .again (x':=((((i+1:Nat):Int),a,(),((k+1:Nat):Int),b),ls)) ?_ this
      simp only[FE,gx hia,gx hkb,ga,gb,g0,ea,eb,zl94,zl90 h1,zl90 h2,w1,w2,zU,zl98,zl70,zl92,zl99,dW,pO]
   ·have gb:decide ((k:Int)≥(b.length:Int))=true:=zdt
    have db:b.drop k = []:=List.drop_eq_nil_of_le (by omega)
    rw[da,db,acX]
    refine .again (x':=((((i+1:Nat):Int),a,(),(k:Int),b),ls ++ [a[i]])) ?_ ?_
    ·simp only[FE,gx hia,gn hkb,gb,g0,ea,zl94,lm,w1,zU,zl70,zl98,zl74,zl76,zl92,dW]
    ·have:=ih (i+1) k (ls ++ [a[i]]) (by omega) (by omega) hk (by rw[eY];simp;omega)
     rw[cZ,db,acX] at this
     exact this
  ·have ga:decide ((i:Int)≥(a.length:Int))=true:=zdt
   by_cases hkn:¬k<b.length
   ·have e1:i=a.length:=by omega
    have e2:k=b.length:=by omega
    subst e1 e2
    refine .out ?_
    simp only[FE,lnE,pO,List.drop_length,Dn,jM]
   ·have hkb:k<b.length:=by omega
    have gb:decide ((k:Int)≥(b.length:Int))=false:=zdf
    have db:=zl109 hkb
    have eb:=Pc.getD_eq b k 0 hkb
    have da:a.drop i = []:=List.drop_eq_nil_of_le (by omega)
    rw[da,db,Dn]
    refine .again (x':=(((i:Int),a,(),((k+1:Nat):Int),b),ls ++ [b[k]])) ?_ ?_
    ·simp only[FE,gn hia,gx hkb,ga,gb,g0,eb,zl94,lm,w2,zU,zl98,zl70,zl93,zl76,zl92,zl99,dW,pO]
    ·have:=ih i (k+1) (ls ++ [b[k]]) (by omega) hi (by omega) (by rw[eY];simp;omega)
     rw[cZ,da,Dn] at this
     exact this
def ahi {a b:List Int}(ha:Fj a)(hb:Fj b):Hq (a,b)=some (D7 a b,()):=by
 have la:=Yy ha
 have lb:=Yy hb
 have c:Comes FE (((0:Int),a,(),(0:Int),b),[]) ((),D7 a b):=by
  have:=aqi a b (by omega) (by omega) _ 0 0 [] (bA _) (by omega) (by omega) (by simp)
  rw[zl84,zl84,ajD ha hb,zl17] at this
  exact this
 simp only[Hq,cb c,cv c,dW,ld]
open Pl
def hasS {r:List Int}(h:r.length≤1000)(x:Int):Ei (r,x)=some (decide (x∈r),()):=by
 rw[Pc.agZ r x (by omega)]
 congr 2
 rw[zl105,mS]
 exact aa6
structure MA (L:List je) (c z:Nat):Prop where
 c1:1≤c∧c≤24
 z1:1≤z∧z≤16
 eqs:HK L c z
def PY {r:List Int}{c:Nat}(hc:c≤24)(h:Cj r c):r.length≤24:=Yy (h.i hc)
def To {r:List Int}(h:r ≠ []):decide ((0:Int)<(r.length:Int))=true:=zl86 (by
 have:r.length≠0:=fun e=>h (List.eq_nil_of_length_eq_zero e)
 omega)
def aoK {M:List je}{c s:Nat}(hc:c≤24)(hM:∀f∈M,Cj f.1 c){e:je}(he:Df e c s):Df (th M e) c s:=by
 induction M generalizing e with
 |nil=>exact he
 |cons f M ih=>exact ih (fun g hg=>hM g (by simp[hg])) (S3 hc he (hM f (by simp)))
def ajl (M:List je)(f e:je):th (M ++ [f]) e=Ib (th M e) f:=by simp[th]
def ajm (L:List je)(i:Nat)(hi:i<L.length)(e:je):th (L.take (i+1)) e=Ib (th (L.take i) e) (L.getD i zE):=by
 rw[zl88 hi,ajl,Pc.getD_eq _ _ _ hi]
def ajj {L:List je}{c z:Nat}(I:MA L c z){e:je}(he:Df e c z):JZ (((c:Int),(z:Int),L,()),e)=some (th L e,()):=by
 have hc:=I.c1.2
 have hL:=OM I.eqs
 have hr:∀i,Df (th (L.take i) e) c z:=fun i=>aoK hc (fun f hf=>(I.eqs.row f (List.mem_of_mem_take hf)).1) he
 have q:=Bw (r:=J0) (st:=fun i=>(((i:Int),(),(),()),th (L.take i) e,((c:Int),(z:Int),L,()),((),[],()),[])) (n:=L.length) (y:=(((),()),((),[],()),th L e,[])) (fun i hi=>by
  have hm:L.getD i zE∈L:=by rw[Pc.getD_eq _ _ _ hi];exact zl96 hi
  have wr:=zw (i:=i)
  have f1:=I.eqs.row _ hm
  have f2:=I.eqs.dat _ hm
  have e1:=hr i
  have le:=PY hc e1.row
  rw[ajm L i hi]
  generalize th (L.take i) e=g at *
  have h:=hasS (r:=g.1) (by omega) (pv (L.getD i zE))
  unfold Ib
  unfold zE at *
  unfold pv at h ⊢
  generalize hg:List.getD L i (([]:List Int),([]:List UInt8),())=f at *
  have nl:=To f1.2
  by_cases hx:List.getD f.1 0 0∈g.1
  ·rw[zl86 hx] at h
   have x1:=ahi (e1.row.i hc) (f1.1.i hc)
   have x2:=YD g.2.1 f.2.1 (by rw[e1.dat,f2]) (by rw[e1.dat];have:=I.z1;omega)
   rw[bQ hx]
   simp only[J0,gx hi,g0,zl94,hg,show Int.toNat 0=0 from rfl,h,zov h,nl,x1,zov x1,x2,zov x2,Aw,wr]
  ·rw[zl90 hx] at h
   rw[cT hx]
   simp only[J0,gx hi,g0,zl94,hg,show Int.toNat 0=0 from rfl,h,zov h,nl,Aw,pO,wr]) (by simp only[J0,lnE,pO,zl102,ld]) 0 (lB _)
 have q':Comes J0 (((0:Int),(),(),()),e,((c:Int),(z:Int),L,()),((),[],()),[]) (((),()),((),[],()),th L e,[]):=q
 simp only[JZ,cb q',cv q',dW,ld]
open Pl
def lm1 {n:Nat}(h:n≤1000000):decide (n+1≤eV)=true:=zl86 (by unfold eV;omega)
def lm0 {n:Nat}(h:n≤1048576):decide ((0:Nat)+n≤eV)=true:=zl86 (by unfold eV;omega)
def apR (L:List je)(i:Nat)(hi:i<L.length):L.take i ++ [L.getD i zE]=L.take (i+1):=by
 rw[zl88 hi,Pc.getD_eq _ _ _ hi]
def SmS (L:List je):Prop:=L.length≤1000000∧∀f∈L,f.1.length≤1048576
def aai (c z:Int)(L:List je)(h:SmS L):Ix (c,z,L,())=some ((c,z,L,()),()):=by
 have q:=Bw (r:=LC) (st:=fun i=>(((i:Int),(),(),()),(c,z,(),()),(c,z,L,()),(0,0,(),()),L.take i,[])) (n:=L.length) (y:=(((),()),(0,0,(),()),(c,z,(),()),[],L)) (fun i hi=>by
  have hm:L.getD i zE∈L:=by rw[Pc.getD_eq _ _ _ hi];exact zl96 hi
  have wr:=A5 (show i≤4611686018427387904 by have:=h.1;omega)
  have l1:=lm1 (n:=(L.take i).length) (by rw[zl3];have:=h.1;omega)
  have l2:=lm0 (h.2 _ hm)
  rw[←apR L i hi]
  unfold zE at l2 ⊢
  generalize hg:List.getD L i (([]:List Int),([]:List UInt8),())=f at *
  simp only[LC,gx hi,g0,zl94,hg,l1,l2,zU,zl92,dW,wr,zl17]) (by simp only[LC,lnE,pO,zl102]) 0 (lB _)
 have q':Comes LC (((0:Int),(),(),()),(c,z,(),()),(c,z,L,()),(0,0,(),()),[],[]) (((),()),(0,0,(),()),(c,z,(),()),[],L):=q
 simp only[Ix,cb q',cv q',dW,ld]
structure KH (L:List je) (c z:Nat) (e:je):Prop where
 s:MA L c z
 r:Df e c z
 ne:e.1 ≠ []
 np:∀f∈L,pv f∉e.1
def KH.at {L:List je}{c z:Nat}{e:je}(A:KH L c z e){i:Nat}(hi:i<L.length):pv (zP e (L.getD i zE))=Ks.pv (L.getD i zE)∧(zP e (L.getD i zE)).1 ≠ []∧Ks.pv (L.getD i zE)≠Ks.pv e∧(Ks.pv (L.getD i zE)<Ks.pv e↔i<m5 L (Ks.pv e)):=by
 have hm:L.getD i zE∈L:=by rw[Pc.getD_eq _ _ _ hi];exact zl96 hi
 have hf:=A.s.eqs.row _ hm
 have h1:=ag8 A.s.c1.2 A.r.row A.ne hf.1 hf.2 (A.np _ hm)
 obtain⟨t1,t2⟩:=adB A.s.eqs.GG (Ks.pv e)
 refine⟨h1.1,h1.2,fun h=>A.np _ hm (h▸G8 A.ne),?_⟩
 constructor
 ·intro h
  refine Classical.byContradiction fun hn=>?_
  refine t2 (L.getD i zE) ?_ h
  rw[Pc.getD_eq _ _ _ hi,List.mem_drop_iff_getElem]
  exact⟨i-m5 L (Ks.pv e),by omega,by congr 1;omega⟩
 ·intro h
  refine t1 (L.getD i zE) ?_
  rw[Pc.getD_eq _ _ _ hi,List.mem_take_iff_getElem]
  exact⟨i,by omega,rfl⟩
def Cn (L:List je)(e:je)(i:Nat):List je:=if i≤m5 L (pv e) then(L.map (zP e)).take i else(L.map (zP e)).take (m5 L (pv e))++e::((L.map (zP e)).take i).drop (m5 L (pv e))
def YN (L:List je)(e:je)(i:Nat)(hi:i<L.length):(L.map (zP e)).take (i+1)=(L.map (zP e)).take i ++ [zP e (L.getD i zE)]:=by
 rw[zl88 (by simpa using hi),List.getElem_map,Pc.getD_eq _ _ _ hi]
def out_lt {L:List je}{e:je}{i:Nat}(hi:i<L.length)(h:i<m5 L (pv e)):Cn L e (i+1)=Cn L e i ++ [zP e (L.getD i zE)]:=by
 unfold Cn
 rw[bQ (by omega),bQ (by omega),YN _ _ _ hi]
def out_eq {L:List je}{e:je}{i:Nat}(hi:i<L.length)(h:i=m5 L (pv e)):Cn L e (i+1)=Cn L e i ++ [e] ++ [zP e (L.getD i zE)]:=by
 unfold Cn
 rw[cT (by omega),bQ (by omega),YN _ _ _ hi,←h,List.drop_append_of_le_length (by rw[zl3,List.length_map];omega)]
 rw[show List.drop i (List.take i (List.map (zP e) L)) = [] from List.drop_eq_nil_of_le (by rw[zl3];omega)]
 simp
def out_gt {L:List je}{e:je}{i:Nat}(hi:i<L.length)(h:m5 L (pv e)<i):Cn L e (i+1)=Cn L e i ++ [zP e (L.getD i zE)]:=by
 unfold Cn
 rw[cT (by omega),cT (by omega),YN _ _ _ hi,List.drop_append_of_le_length (by rw[zl3,List.length_map];omega)]
 simp
def adf (L:List je)(e:je)(i:Nat):(Cn L e i).length≤i+1:=by
 unfold Cn
 split
 ·rw[zl3];omega
 ·rw[eY,zl6,zl4,zl3,zl3];omega
def ald (L:List je)(e:je):wX L e=if m5 L (pv e)<L.length then Cn L e L.length else Cn L e L.length ++ [e]:=by
 have hp:=PB L (pv e)
 have ht:(L.map (zP e)).take L.length=L.map (zP e):=zl57 (by simp)
 unfold wX Cn
 by_cases h:m5 L (pv e)<L.length
 ·rw[bQ h,cT (by omega),ht]
 ·have:m5 L (pv e)=L.length:=by omega
  rw[cT h,bQ (by omega),this,ht,List.drop_eq_nil_of_le (by simp)]
open Pl
def aag {a b:Int}(h:a<b):decide (a>b)=false:=zdf
def aaf {a b:Int}(h:¬a<b)(hn:a≠b):decide (a>b)=true:=zdt
structure AtI (L:List je) (c z:Nat) (e f:je):Prop where
 row:Cj f.1 c∧f.1 ≠ []
 dat:f.2.1.length=z
 p1:pv (zP e f)=pv f
 ne:(zP e f).1 ≠ []
def KH.Cq {L:List je}{c z:Nat}{e:je}(A:KH L c z e){i:Nat}(hi:i<L.length):AtI L c z e (L.getD i zE):=by
 have hm:L.getD i zE∈L:=by rw[Pc.getD_eq _ _ _ hi];exact zl96 hi
 obtain⟨h1,h2,_⟩:=A.at hi
 exact⟨A.s.eqs.row _ hm,A.s.eqs.dat _ hm,h1,h2⟩
def ahl {L:List je}{c z:Nat}{e:je}(A:KH L c z e) :
  Comes FF (((0:Int),(),(),false,(),()),((c:Int),(z:Int),(),()),e,((c:Int),(z:Int),(),()),((0:Int),(0:Int),(),()),[],L,[])
   (((),(),(),decide (m5 L (pv e)<L.length)),((0:Int),(0:Int),(),()),((c:Int),(z:Int),(),()),e,[],Cn L e L.length):=by
 have hc:=A.s.c1.2
 have hL:=OM A.s.eqs
 have q:=Bw (r:=FF) (st:=fun i=>(((i:Int),(),(),decide (m5 L (pv e)<i),(),()),((c:Int),(z:Int),(),()),e,((c:Int),(z:Int),(),()),((0:Int),(0:Int),(),()),Cn L e i,L,[])) (n:=L.length) (y:=(((),(),(),decide (m5 L (pv e)<L.length)),((0:Int),(0:Int),(),()),((c:Int),(z:Int),(),()),e,[],Cn L e L.length)) (fun i hi=>by
  have B:=A.Cq hi
  obtain⟨_,_,a3,a4⟩:=A.at hi
  have wr:=zw (i:=i)
  have ol:=adf L e i
  have l1:=lm1 (n:=(Cn L e i).length) (by omega)
  have l2:=lm1 (n:=(Cn L e i ++ [e]).length) (by rw[eY];simp;omega)
  have he:=To A.ne
  have e3:=out_lt (L:=L) (e:=e) hi
  have e4:=out_eq (L:=L) (e:=e) hi
  have e5:=out_gt (L:=L) (e:=e) hi
  have nl:=To B.ne
  have fl:=To B.row.2
  have h:=hasS (r:=(L.getD i zE).1) (by have:=PY hc B.row.1;omega) (pv e)
  have x1:=ahi (B.row.1.i hc) (A.r.row.i hc)
  have x2:=YD (L.getD i zE).2.1 e.2.1 (by rw[B.dat,A.r.dat]) (by rw[B.dat];have:=A.s.z1;omega)
  have bp:=B.p1
  have ex:List.getD e.1 0 0=pv e:=rfl
  have ef:List.getD (L.getD i zE).1 0 0=pv (L.getD i zE):=rfl
  have eu:List.getD (zP e (L.getD i zE)).1 0 0=pv (zP e (L.getD i zE)):=rfl
  have key:∀(D:Bool) (O:List je),(decide (m5 L (pv e)<i)=D)→Cn L e (i+1)=O→True:=fun _ _ _ _=>trivial
  clear key
  unfold zP at *
  unfold zE at *
  generalize hg:List.getD L i (([]:List Int),([]:List UInt8),())=f at *
  generalize hp:pv e=p at *
  have big:(decide (m5 L p<i)=true∧decide (m5 L p<i+1)=true∧m5 L p<i)∨(decide (m5 L p<i)=false∧decide (m5 L p<i+1)=true∧i=m5 L p)∨(decide (m5 L p<i)=false∧decide (m5 L p<i+1)=false∧i<m5 L p):=by
   rcases Nat.lt_trichotomy i (m5 L p) with h1|h1|h1
   ·exact .inr (.inr ⟨zdf,zdf,h1⟩)
   ·exact .inr (.inl ⟨zdf,zdt,h1⟩)
   ·exact .inl ⟨zl86 h1,zdt,h1⟩
  by_cases hx:p∈f.1
  ·rw[zl86 hx] at h
   rw[bQ hx] at e3 e4 e5 bp eu nl
   simp only at eu nl
   rw[bp] at eu
   rcases big with⟨d1,d2,d3⟩|⟨d1,d2,d3⟩|⟨d1,d2,d3⟩
   ·rw[d1,d2,e5 d3]
    simp only[FF,gx hi,g0,zl94,hg,show Int.toNat 0=0 from rfl,ex,h,zov h,he,x1,zov x1,x2,zov x2,l1,Aw,zl70,zl98,zl76,pO,wr]
   ·have c1:=aaf (fun q=>by have:=a4.1 q;omega) a3
    rw[d1,d2,e4 d3]
    simp only[FF,gx hi,g0,zl94,hg,show Int.toNat 0=0 from rfl,ex,h,zov h,he,nl,x1,zov x1,x2,zov x2,eu,c1,l1,l2,Aw,zl70,zl98,zl99,wr,show decide ((0:Int)≤0)=true from rfl]
   ·have c1:=aag (a4.2 d3)
    rw[d1,d2,e3 d3]
    simp only[FF,gx hi,g0,zl94,hg,show Int.toNat 0=0 from rfl,ex,h,zov h,he,nl,x1,zov x1,x2,zov x2,eu,c1,l1,Aw,zl70,zl98,zl99,pO,wr,show decide ((0:Int)≤0)=true from rfl]
  ·rw[zl90 hx] at h
   rw[cT hx] at e3 e4 e5 bp eu nl
   rcases big with⟨d1,d2,d3⟩|⟨d1,d2,d3⟩|⟨d1,d2,d3⟩
   ·rw[d1,d2,e5 d3]
    simp only[FF,gx hi,g0,zl94,hg,show Int.toNat 0=0 from rfl,ex,h,zov h,he,l1,Aw,zl70,zl98,zl76,pO,wr]
   ·have c1:=aaf (fun q=>by have:=a4.1 q;omega) a3
    rw[d1,d2,e4 d3]
    simp only[FF,gx hi,g0,zl94,hg,show Int.toNat 0=0 from rfl,ex,h,zov h,he,fl,ef,c1,l1,l2,Aw,zl70,zl98,zl99,pO,wr,show decide ((0:Int)≤0)=true from rfl]
   ·have c1:=aag (a4.2 d3)
    rw[d1,d2,e3 d3]
    simp only[FF,gx hi,g0,zl94,hg,show Int.toNat 0=0 from rfl,ex,h,zov h,he,fl,ef,c1,l1,Aw,zl70,zl98,zl99,pO,wr,show decide ((0:Int)≤0)=true from rfl]) (by simp only[FF,lnE,pO,ld]) 0 (lB _)
 have e0:Cn L e 0 = []:=by unfold Cn;rw[bQ (lB _)];rfl
 rw[e0] at q
 exact q
open Pl
def Sk (c z:Nat)(L:List je)(row:List Int)(data:List UInt8):fk.D×Int:=
 if(th L (row,data,())).1 = [] then(((c:Int),(z:Int),L,()),if(th L (row,data,())).2.1=List.replicate z 0 then 1 else 2)
 else(((c:Int),(z:Int),wX L (th L (row,data,())),()),0)
def ao2 {L:List je}{c z:Nat}(I:MA L c z):SmS L:=by
 have:=OM I.eqs
 have:=I.c1
 exact⟨by omega,fun f hf=>by have:=PY I.c1.2 (I.eqs.row f hf).1;omega⟩
def abr {L:List je}{c z:Nat}(I:MA L c z){e:je}(he:Df e c z)(hn:(th L e).1 ≠ []):KH L c z (th L e):=
 ⟨I,Xm I.c1.2 I.eqs e he,hn,ajk I.c1.2 I.eqs he⟩
def ahm {L:List je}{c z:Nat}(I:MA L c z){row:List Int}{data:List UInt8}(hr:Cj row c)(hd:data.length=z):Gu (((c:Int),(z:Int),L,()),row,data)=some (Sk c z L row data,()):=by
 have he:Df (row,data,()) c z:=⟨hr,hd⟩
 have a:=ajj I he
 have b:=aai (c:Int) (z:Int) L (ao2 I)
 have l0:=lm0 (n:=row.length) (by have:=PY I.c1.2 hr;omega)
 have zz:=agV z (by have:=I.z1;omega)
 have le:=(Xm I.c1.2 I.eqs _ he)
 unfold Sk
 have al:∀hn:(th L (row,data,())).1 ≠ [],KH L c z (th L (row,data,())):=fun hn=>abr I he hn
 generalize th L (row,data,())=e at *
 by_cases hn:e.1 = []
 ·rw[bQ hn]
  have h0:((e.1.length:Int)==(0:Int))=true:=by rw[hn];rfl
  by_cases hz:e.2.1=List.replicate z 0
  ·have hb:(e.2.1==List.replicate z 0)=true:=zl78.2 hz
   rw[bQ hz]
   simp only[Gu,zl17,a,zov a,b,zov b,l0,h0,zz,zov zz,hb,Aw]
  ·have hb:(e.2.1==List.replicate z 0)=false:=zl89.2 hz
   rw[cT hz]
   simp only[Gu,zl17,a,zov a,b,zov b,l0,h0,zz,zov zz,hb,Aw,pO]
 ·rw[cT hn]
  have h0:((e.1.length:Int)==(0:Int))=false:=zl89.2 (fun q=>hn (List.eq_nil_of_length_eq_zero (by omega)))
  have cm:=ahl (al hn)
  have l2:=lm1 (n:=(Cn L e L.length).length) (by have:=adf L e L.length;have:=OM I.eqs;have:=I.c1;omega)
  rw[ald L e]
  by_cases hp:m5 L (pv e)<L.length
  ·rw[zl86 hp] at cm
   rw[bQ hp]
   simp only[Gu,zl17,a,zov a,b,zov b,l0,h0,cb cm,cv cm,Aw,zl70,pO]
  ·rw[zl90 hp] at cm
   rw[cT hp]
   simp only[Gu,zl17,a,zov a,b,zov b,l0,h0,cb cm,cv cm,l2,Aw,zl98,pO]
end Ks
open Go Go.Ab Go.Lib
namespace Pl
def adu:∀{R M:List Int},R.Nodup→(∀x∈R,x∈M)→R.length≤M.length
 | [],_,_,_=>by simp
 |a::R,M,h,k=>by
  obtain⟨h1,h2⟩:=dN.1 h
  have ha:=k a (by simp)
  have:=adu (R:=R) (M:=M.erase a) h2 fun x hx=>by
   have hne:x≠a:=by rintro rfl;exact h1 hx
   exact(List.mem_erase_of_ne hne).2 (k x (by simp[hx]))
  rw[List.length_erase_of_mem ha] at this
  have:=List.length_pos_of_mem ha
  simp only[zl6];omega
def GI.sm {g:r5.D}(I:GI g):Pc.Jj g:=⟨⟨by have:=I.p3;omega,by have:=I.p4;omega⟩,by have:=I.s3;omega,fun x hx=>by have:=(I.row x hx).1;omega⟩
def CI.ok {c:bn.D}(I:CI c):DK c=some (Pc.C9 c,()):=Pc.apu c I.g.sm (by have:=I.name;omega)
abbrev zG:r5.D:=(((0:Int),(0:Int),[],[],()),((0:Int),(0:Int),[],()),())
def Mj:GI zG:=⟨by simp,by simp,by simp,by simp⟩
abbrev HI:bn.D:=((0:Int),(0:Int),(0:Int),[],(0:Int),zG,())
def abp {p:gT.D}(h3:p.2.2.1.length≤1048576)(h4:p.2.2.2.1.length≤1048576):Hh p=some (p,()):=by
 simp only[Hh,zU,P0 h3,P0 h4,dW,zl17]
def abo {g:r5.D}(I:GI g):J1 g=some (g,()):=by
 have a:=abp I.p3 I.p4
 have b:=Ks.aai g.2.1.1 g.2.1.2.1 g.2.1.2.2.1 ⟨I.s3,fun f hf=>(I.row f hf).1⟩
 simp only[J1,a,zov a,b,zov b,qu,zU,zl92,dW]
def SW {c:bn.D}(I:CI c):Rt (Gm c) (fun y=>CI y.1∧(Pc.C9 c=true→y.1=c)):=by
 unfold Gm
 refine Rt.bif (fun _=>Rt.call (P:=fun y=>y=(c.2.2.2.2.2.1,())) ⟨_,abo I.g,rfl⟩ fun y hy=>?_) fun h0=>Rt.ok ⟨⟨I.name,Mj⟩,fun ok=>?_⟩
 ·subst hy
  exact Rt.ok ⟨I,fun _=>rfl⟩
 ·unfold Pc.C9 at ok
  simp only[bB,mS] at ok
  obtain⟨⟨⟨⟨⟨_,_⟩,_⟩,h4⟩,h5⟩,_⟩:=ok
  have e0:c.2.2.2.2.1=0:=by simp at h0;omega
  rw[e0] at h5
  have h5:Pc.Ip c.2.2.2.2.2.1=true:=h5
  obtain⟨a,b,d,nm,e,⟨⟨p1,p2,p3,p4,pu⟩,⟨s1,s2,s3,su⟩,gu⟩,u⟩:=c
  simp only[Pc.Ip,bB,zl78] at h5
  obtain⟨⟨⟨⟨⟨⟨q1,q2⟩,q3⟩,q4⟩,q5⟩,q6⟩,q7⟩:=h5
  obtain rfl:p3 = []:=List.eq_nil_of_length_eq_zero (by omega)
  obtain rfl:p4 = []:=List.eq_nil_of_length_eq_zero (by omega)
  obtain rfl:s3 = []:=List.eq_nil_of_length_eq_zero (by omega)
  subst q1 q2 q5 q6
  rfl
def aly {s:fk.D}(h:s.2.2.1.length≤1000000)(hs:∀x∈s.2.2.1,x.1.length≤1048576):Rt (q78 s) (fun _=>True):=by
 have hm:Pc.Fk s:=⟨by omega,fun x hx=>by have:=hs x hx;omega⟩
 unfold q78
 refine Rt.loop (P:=fun _=>True) (DQ (n:=s.2.2.1.length+1) (I:=fun i x=>x=(((i:Int),()),s)∧∀k:Nat,k<i→(Pc.DD s (k:Int)).2=true) ?_ ?_ 0 _ (lB _) ⟨rfl,by omega⟩) fun _ _=>Rt.ok trivial
 ·rintro i _ hi ⟨rfl,hk⟩
  have e:=Pc.apC s hm (i:Int)
  cases hg:(Pc.DD s (i:Int)).2 with
  |true=>exact .inl ⟨_,by simp only[PN,e,zov e,hg,qu,dW,zl70,pO,zw (i:=i),ld],rfl,fun k hk'=>by
   by_cases hki:k<i
   ·exact hk k hki
   ·rw[show k=i by omega];exact hg⟩
  |false=>exact .inr ⟨((i:Int),()),by simp only[PN,e,zov e,hg,qu,dW,zl98,ld],trivial⟩
 ·rintro _ ⟨rfl,hk⟩
  exfalso
  have hmem:∀x∈(List.range (s.2.2.1.length+1)).map (fun k:Nat=>(k:Int)),x∈s.2.2.1.map fun f=>f.1.getD 0 0:=by
   intro x hx
   obtain⟨k,hk1,rfl⟩:=gG.1 hx
   have hg:=hk k (List.mem_range.1 hk1)
   unfold Pc.DD at hg
   split at hg
   ·rename_i hlt
    have dJ:=Pc.aa4 hlt
    unfold Pc.Es at dJ
    simp only[bB] at dJ
    refine gG.2 ⟨Pc.fN s (Pc.Cl s k),?_,zl79 dJ.2⟩
    unfold Pc.fN
    rw[getD_eq _ _ _ hlt]
    exact zl96 _
   ·cases hg
  have:=adu (List.pairwise_map.2 (List.Pairwise.imp (fun h e=>h (by omega)) List.nodup_range)) hmem
  simp only[List.length_map,List.length_range] at this
  omega
def YU {g:r5.D}(I:GI g):Rt (IQ g) (fun _=>True):=by
 have h3:=I.p3
 unfold IQ
 refine Rt.call (aly I.s3 fun x hx=>(I.row x hx).1) fun y _=>?_
 refine Rt.loop (P:=fun _=>True) (DQ (n:=g.1.2.2.1.length) (I:=fun i x=>x=(((i:Int),y.1,()),g)) ?_ ?_ 0 _ (lB _) rfl) fun _ _=>Rt.ok trivial
 ·rintro i _ hi rfl
  simp only[PJ,gl hi,g0,zU,zl99,zl92,dW,zw (i:=i)]
  cases decide (List.getD g.1.2.2.1 (Int.toNat (i:Int)) 0≤y.1)
  ·exact .inr ⟨_,rfl,trivial⟩
  ·exact .inl ⟨_,rfl,rfl⟩
 ·rintro _ rfl
  have d1:decide ((g.1.2.2.1.length:Int)<(g.1.2.2.1.length:Int))=false:=zdf
  exact⟨((g.1.2.2.1.length:Int),()),by simp only[PJ,d1,pO,zU,zl98,zl76,zl92,dW],trivial⟩
def add_rt {g:r5.D}(I:GI g)(id:Int)(d:List UInt8):Rt (Lz (g,id,d)) (fun y=>GI y.1.1):=by
 have e0:=Pc.YE g I.sm
 unfold Lz
 refine Rt.call (P:=fun y=>y.1=Pc.DR g) ⟨_,e0,rfl⟩ fun y hy=>Rt.bif (fun _=>Rt.ok Mj) fun hc=>?_
 rw[hy] at hc
 have ok:Pc.DR g=true:=by simpa using hc
 refine Rt.call (P:=fun y=>y=(g,())) ⟨_,abo I,rfl⟩ fun y hy=>?_
 subst hy
 refine Rt.val (P:=fun y=>y.1=nc id 0 9999) ⟨_,BU _ _ _,rfl⟩ fun y hy e1=>Rt.all (by simp only[e1,qu,zU]) (Rt.bif (fun _=>Rt.ok I) fun hc=>?_)
 rw[hy] at hc
 obtain⟨o1,o2,o3,o4⟩:=Pc.W_ ok
 obtain⟨⟨p1,p2,W,ws,pu⟩,⟨cn,z,L,su⟩,u⟩:=g
 have hi:0≤id∧id≤9999:=by
  cases hb:nc id 0 9999 with
  |true=>exact zl79 hb
  |false=>rw[hb] at hc;cases hc
 have hd:(d.length:Int)=z:=by
  rw[show nc id 0 9999=true from zl86 hi] at hc
  have o4:z=p2:=o4
  simp at hc
  omega
 obtain⟨c1,z1,E⟩:=Ks.ok_I (L:=L) (c:=cn) (z:=z) o2
 have PI_:=Ks.plan_I o1
 have o3:cn=Pc.cnt (p1,p2,W,ws,pu):=o3
 obtain⟨n,rfl⟩:=Int.eq_ofNat_of_zero_le hi.1
 have e2:=Ks.aoU PI_ n (by omega)
 obtain⟨r1,_⟩:=Ks.rowP_C PI_ n
 generalize Ks.CH (p1,p2,W,ws,pu) (Pc.cnt (p1,p2,W,ws,pu)).toNat n=row at *
 rw[←o3] at r1
 obtain⟨c,rfl⟩:=Int.eq_ofNat_of_zero_le (show 0≤cn by omega)
 obtain⟨s,rfl⟩:=Int.eq_ofNat_of_zero_le (show 0≤z by omega)
 have SI_:Ks.MA L c s:=⟨by omega,by omega,E⟩
 have e3:=Ks.ahm SI_ (row:=row) (data:=d) r1 (by omega)
 refine Rt.val (P:=fun y=>y=(row,())) ⟨_,e2,rfl⟩ fun y hy e4=>?_
 subst hy
 refine Rt.val (P:=fun y=>y=(Ks.Sk c s L row d,())) ⟨_,e3,rfl⟩ fun y hy e5=>?_
 subst hy
 refine Rt.all (by simp only[e4,e5,qu,zU,zl92]) (Rt.ok ?_)
 have he:Ks.Df (row,d,()) c s:=⟨r1,by show d.length=s;omega⟩
 unfold Ks.Sk
 split
 ·exact I
 ·rename_i hn
  have A:=Ks.abr SI_ he hn
  have E':=Ks.add_I (by omega) E (Ks.Xm (by omega) E _ he) hn A.4
  have:=Ks.OM E'
  refine⟨I.p3,I.p4,by show(Ks.wX L _).length≤_;omega,fun x hx=>?_⟩
  have:=Ks.PY (by omega) (E'.row x hx).1
  have:=E'.dat x hx
  omega
def CrI (y:(bn.D×List eL.D)×Unit):Prop:=CI y.1.1∧y.1.2.length≤1000∧∀v∈y.1.2,F1 9 v
def Qt:CI HI:=⟨by simp,Mj⟩
def DB {c:bn.D}(h:CI c):CrI ((c,[]),()):=⟨h,by simp,by simp⟩
def cr1 {c:bn.D}(h:CI c){v:eL.D}(hv:v.2.2.2.2.2.1.length≤9999999):CrI ((c,[v]),()):=⟨h,by simp,by simpa using⟨hv,.inl (by omega)⟩⟩
def Tp {γ:Type}{Q:γ→Prop}{c:bn.D}(I:CI c){K:Bool×Unit→Option γ}(h:∀y:Bool×Unit,y.1=Pc.C9 c→Rt (K y) Q):Rt (dj DK c K) Q:=Rt.call (P:=fun y=>y.1=Pc.C9 c) ⟨_,I.ok,rfl⟩ h
def ao3 (a b:Int):Rt (q42 (a,b)) (fun y=>y.1.2.2.1 = []):=by
 unfold q42
 refine Rt.val (P:=fun _=>True) ⟨_,BU _ _ _,trivial⟩ fun y _ e1=>Rt.val (P:=fun _=>True) ⟨_,BU _ _ _,trivial⟩ fun z _ e2=>?_
 exact Rt.all (by simp only[e1,e2,qu,zU,zl99,zl92]) (Rt.bif (fun _=>Rt.ok rfl) fun _=>Rt.ok rfl)
def aiN {p:gT.D}(h3:p.2.2.1.length≤1048576)(h4:p.2.2.2.1.length≤1048576):Rt (LA p) (fun y=>GI y.1):=by
 unfold LA
 refine Rt.call (P:=fun y=>y.1=Pc.Bp p) ⟨_,Pc.YF p,rfl⟩ fun y hy=>Rt.bif (fun _=>Rt.ok Mj) fun hc=>?_
 rw[hy] at hc
 obtain⟨k1,k2⟩:=Pc.TC (p:=p) (by simpa using hc)
 have e0:=Pc.Ny p k1 k2
 refine Rt.val (P:=fun y=>y=(p,())) ⟨_,abp h3 h4,rfl⟩ fun y hy e1=>?_
 subst hy
 refine Rt.val (P:=fun y=>True) ⟨_,e0,trivial⟩ fun y _ e2=>Rt.val (ao3 _ _) fun z hz e3=>?_
 exact Rt.all (by simp only[e1,e2,e3,qu,zU,zl92]) (Rt.ok ⟨h3,h4,by dsimp only;rw[hz];simp,by dsimp only;rw[hz];simp⟩)
def ahj {c:bn.D}(I:CI c){w:eL.D}(hw:w.2.2.2.2.2.2.1.length≤1048576):Rt (q46 (c,w)) (fun y=>CI y.1):=by
 unfold q46
 refine Rt.call (alr hw) fun y hy=>Rt.bif (fun _=>Rt.ok I) fun _=>Rt.bif (fun _=>?_) fun _=>?_
 ·exact Rt.call (aiN (by omega) (by omega)) fun z hz=>Rt.ok ⟨I.name,hz⟩
 ·refine Rt.val (Yh _) fun z _ e=>?_
  exact Rt.all (by simp only[e,qu,zU,zl99]) (Rt.bif (fun _=>Rt.ok ⟨I.name,I.g⟩) fun _=>Rt.ok I)
def apN {c:bn.D}(I:CI c){w:eL.D}:Rt (q47 (c,w)) CrI:=by
 have ends:JP w=some ([((5:Int),w.2.1,w.2.2.1,w.2.2.2.1,(0:Int),[],[],())],()):=rfl
 unfold q47
 refine Rt.bif (fun _=>Rt.ok (DB I)) fun _=>Rt.bif (fun _=>?_) fun _=>?_
 ·refine Rt.call (P:=fun y=>y=_) ⟨_,ends,rfl⟩ fun y hy=>?_
  subst hy
  exact Rt.ok (cr1 I (by simp))
 refine Rt.call (YU I.g) fun y0 _=>Rt.call (add_rt I.g _ _) fun y hy=>Rt.bif (fun _=>Rt.ok (DB I)) fun _=>?_
 have J:∀s:Int,CI (c.1,c.2.1,s,c.2.2.2.1,c.2.2.2.2.1,y.1.1,c.2.2.2.2.2.2):=fun s=>⟨I.name,hy⟩
 have dn:=Pc.agW y.1.1 hy.sm
 refine Rt.call (P:=fun _=>True) ⟨_,dn,trivial⟩ fun z _=>Rt.bif (fun _=>?_) fun _=>?_
 ·refine Rt.call (P:=fun u=>u.1 = []∨∃v,u.1 = [v]∧v.2.2.2.2.2.1.length≤9999999) ?_ fun u hu=>?_
  ·unfold JO
   exact Rt.bif (fun _=>Rt.ok (.inl rfl)) fun _=>Rt.ok (.inr ⟨_,rfl,by simp⟩)
  ·obtain⟨l,u⟩:=u
   rcases hu with rfl|⟨v,rfl,hv⟩
   ·exact Rt.ok (DB (J 3))
   ·exact Rt.ok (cr1 (J 3) hv)
 ·refine Rt.call (YU hy) fun u _=>Rt.bif (fun _=>?_) fun _=>Rt.ok (DB (J _))
  obtain⟨q,e,_⟩:=YU hy
  exact Rt.all (by simp only[e,qu,zU]) (Rt.ok (cr1 (J _) (by simp)))
def ahB {c:bn.D}(I:CI c){w:eL.D}(hw:Ej w=true):Rt (q23 (c,w)) CrI:=by
 have sz:=UF hw
 have ends:JP w=some ([((5:Int),w.2.1,w.2.2.1,w.2.2.2.1,(0:Int),[],[],())],()):=rfl
 have a:=Qa w (by omega)
 unfold q23
 refine Tp I fun y _=>Rt.bif (fun _=>Rt.ok (DB Qt)) fun _=>Rt.call (SW I) fun y hy=>?_
 have J:=hy.1
 refine Rt.val (P:=fun _=>True) ⟨_,a,trivial⟩ fun z _ e1=>Rt.all (by simp only[e1,qu,zU]) (Rt.bif (fun _=>Rt.ok (DB J)) fun _=>Rt.bif (fun _=>Rt.bif (fun _=>?_) fun _=>Rt.ok (DB J)) fun _=>Rt.bif (fun _=>?_) fun _=>Rt.bif (fun _=>?_) fun _=>Rt.bif (fun _=>Rt.bif (fun _=>Rt.ok (DB ⟨J.name,J.g⟩)) fun _=>Rt.ok (DB J)) fun _=>Rt.ok (DB J))
 ·refine Rt.call (P:=fun y=>y=_) ⟨_,ends,rfl⟩ fun u hu=>?_
  subst hu
  exact Rt.ok (cr1 J (by simp))
 ·exact Rt.call (ahj J (by show w.2.2.2.2.2.2.1.length≤_;omega)) fun u hu=>Rt.ok (DB hu)
 ·exact Rt.call (apN J) fun u hu=>Rt.ok hu
def ahH {c:bn.D}(I:CI c){name:List UInt8}(hn:name.length≤1048576):Rt (q24 (c,name)) CrI:=by
 have nm:=Uf name (by omega)
 unfold q24
 refine Tp I fun y _=>Rt.bif (fun _=>Rt.ok (DB Qt)) fun _=>Rt.val (P:=fun _=>True) ⟨_,nm,trivial⟩ fun z _ e1=>Rt.all (by simp only[e1,qu,zU,zl99]) (Rt.bif (fun _=>Rt.call (SW I) fun y hy=>Rt.ok (DB hy.1)) fun _=>?_)
 refine Rt.call (P:=fun y=>y=_) ⟨_,rfl,rfl⟩ fun u hu=>?_
 subst hu
 exact Rt.ok (cr1 ⟨hn,Mj⟩ (by show name.length≤_;omega))
def ahy {c:bn.D}(I:CI c):Rt (LY c) CrI:=by
 unfold LY
 refine Tp I fun y _=>Rt.bif (fun _=>Rt.ok (DB Qt)) fun _=>Rt.call (SW I) fun y hy=>Rt.bif (fun _=>Rt.ok (DB hy.1)) fun _=>?_
 refine Rt.call (P:=fun y=>y=_) ⟨_,rfl,rfl⟩ fun u hu=>?_
 subst hu
 exact Rt.ok (cr1 (c:=(y.1.1,IntKind.wrap .i64 (c.2.1+1),1,y.1.2.2.2)) ⟨hy.1.name,hy.1.g⟩ (by have:=hy.1.name;show y.1.2.2.2.1.length≤_;omega))
def ahK {c:bn.D}(I:CI c):Rt (q25 c) CrI:=by
 unfold q25
 refine Tp I fun y _=>Rt.bif (fun _=>Rt.ok (DB Qt)) fun _=>Rt.call (P:=fun u=>u.1 = []∨∃v,u.1 = [v]∧v.2.2.2.2.2.1.length≤9999999) ?_ fun u hu=>?_
 ·unfold JO
  exact Rt.bif (fun _=>Rt.ok (.inl rfl)) fun _=>Rt.ok (.inr ⟨_,rfl,by simp⟩)
 ·obtain⟨l,u⟩:=u
  have J:CI (c.1,c.2.1,0,[],0,zG,()):=⟨by simp,Mj⟩
  rcases hu with rfl|⟨v,rfl,hv⟩
  ·exact Rt.ok (DB J)
  ·exact Rt.ok (cr1 J hv)
def ahL {c:bn.D}(I:CI c):Rt (FH c) (fun y=>y.1.length≤1000∧∀v∈y.1,F1 9 v):=by
 unfold FH
 refine Rt.val (P:=fun _=>True) ⟨_,I.ok,trivial⟩ fun y _ e=>Rt.all (by simp only[e,qu,zU]) (Rt.bif (fun _=>Rt.ok ⟨by simp,by simp⟩) fun _=>?_)
 refine Rt.call (P:=fun y=>y=_) ⟨_,rfl,rfl⟩ fun u hu=>?_
 subst hu
 exact Rt.ok ⟨by simp,by simpa using⟨by have:=I.name;show c.2.2.2.1.length≤_;omega,.inl (by omega)⟩⟩
def WI.set {n:Nat}{w:fy.D}(W:WI n w){s:b7.D}(S:SI s){u:Unit}:WI n (s,w.2.1,w.2.2.1,w.2.2.2.1,u):=⟨S,W.cls,W.cl,W.At,W.pk,W.F3,W.gi⟩
def Wy {n:Nat}{w:fy.D}(W:WI n w)(hn:n≤1000):Rt (G9 w) (fun y=>WI n y.1):=by
 have hr:=W.At
 have hg:=W.F3
 have e:=Nw w.1 W.Au.sm (by have:=W.Au.fT;omega)
 unfold G9
 refine Rt.val (P:=fun y=>y=(w.1,())) ⟨_,e,rfl⟩ fun y hy e1=>?_
 subst hy
 refine Rt.all (by simp only[e1,qu,Dd (a:=0) (b:=w.2.2.1.length) (by omega) (by omega),Dd (a:=0) (b:=w.2.2.2.1.length) (by omega) (by omega),zU,zl92]) ?_
 refine Rt.loop (P:=fun y=>∃cl,(cl.length=4∧∀c∈cl,CI c)∧y.2.2.1=((w.1.1,w.1.2.1,w.1.2.2.1,(w.1.2.2.2.1.1,(),w.1.2.2.2.1.2.2),((),w.1.2.2.2.2.1.2),(),(),w.1.2.2.2.2.2.2.2),(),(),(),())∧y.2.2.2.2.2.2.2.2.2.2=(w.1.2.2.2.1.2.1,w.1.2.2.2.2.1.1,w.1.2.2.2.2.2.1,w.1.2.2.2.2.2.2.1,cl,[]++w.2.2.1,[]++w.2.2.2.1))
  (DQ (n:=4) (I:=fun i x=>∃cl,x=(((i:Int),(),(),()),((w.1.1,w.1.2.1,w.1.2.2.1,(w.1.2.2.2.1.1,(),w.1.2.2.2.1.2.2),((),w.1.2.2.2.2.1.2),(),(),w.1.2.2.2.2.2.2.2),(),(),(),()),w,_,w.1.2.2.2.1.2.1,w.1.2.2.2.2.1.1,w.1.2.2.2.2.2.1,w.1.2.2.2.2.2.2.1,cl,[]++w.2.2.1,[]++w.2.2.2.1,_)∧cl.length=i∧∀c∈cl,CI c) ?_ ?_ 0 _ (lB _) ⟨[],rfl,rfl,by simp⟩) fun y hy=>?_
 ·rintro i _ hi ⟨cl,rfl,h1,h2⟩
  have hi':i<w.2.1.length:=by rw[W.cls];exact hi
  obtain⟨z,e2,hz⟩:=SW (W.cl _ (zl96 hi'))
  have gd:w.2.1.getD i HI=w.2.1[i]:=getD_eq _ _ _ hi'
  unfold HI at gd
  refine .inl ⟨_,by simp only[PD,gl hi',g0,zl94,gd,e2,zov e2,qu,Dd (a:=cl.length) (b:=1) (by omega) (by omega),zU,zl92,dW,zw (i:=i)],cl ++ [z.1],rfl,by simp[h1],fun c hc=>?_⟩
  rcases bU.1 hc with hc|hc
  ·exact h2 c hc
  ·rw[i_.1 hc];exact hz.1
 ·rintro _ ⟨cl,rfl,h1,h2⟩
  have d1:decide (((4:Nat):Int)<(w.2.1.length:Int))=false:=zl90 (by rw[W.cls];omega)
  exact⟨_,by simp only[PD,d1,pO];rfl,cl,⟨h1,h2⟩,rfl,rfl⟩
 ·obtain⟨cl,⟨h1,h2⟩,e1,e2⟩:=hy
  refine Rt.ok ?_
  dsimp only
  rw[e1,e2]
  exact⟨W.Au,h1,h2,W.At,W.pk,W.F3,W.gi⟩
def aap {α:Type}{l:List α}{i:Nat}{p:α}(h:p∈l.take i++l.drop (i+1)):p∈l:=by
 rcases bU.1 h with h|h
 ·exact List.mem_of_mem_take h
 ·exact List.mem_of_mem_drop h
def aao {l:List b9.D}{a:Int}(h0:0≤a)(h1:a<l.length)(h2:l.length≤60):([]++List.take (Int.toNat (a-0)) (List.drop (Int.toNat 0) l))++List.take (Int.toNat ((l.length:Int)-IntKind.wrap .i64 (a+1))) (List.drop (Int.toNat (IntKind.wrap .i64 (a+1))) l)=l.take a.toNat++l.drop (a.toNat+1):=by
 rw[wrap64 (by omega) (by omega),show Int.toNat (a-0)=a.toNat by omega,show Int.toNat (a+1)=a.toNat+1 by omega,show Int.toNat 0=0 by rfl,zl84,zl17,zl57 (l:=l.drop (a.toNat+1)) (by rw[zl4];omega)]
def aaq {l:List b9.D}{a:Int}(h0:0≤a)(h1:a<l.length)(h2:l.length≤60):decide ((([]:List b9.D)++List.take (Int.toNat (a-0)) (List.drop (Int.toNat 0) l)).length+(List.take (Int.toNat ((l.length:Int)-IntKind.wrap .i64 (a+1))) (List.drop (Int.toNat (IntKind.wrap .i64 (a+1))) l)).length≤eV)=true∧decide (0≤IntKind.wrap .i64 (a+1))=true∧decide (IntKind.wrap .i64 (a+1)≤(l.length:Int))=true∧decide ((l.length:Int)≤(l.length:Int))=true∧decide (0+(List.take (Int.toNat (a-0)) (List.drop (Int.toNat 0) l)).length≤eV)=true∧decide (0≤a)=true∧decide (a≤(l.length:Int))=true∧decide (a<(l.length:Int))=true:=by
 rw[wrap64 (by omega) (by omega)]
 refine⟨Dd ?_ ?_,zdt,zdt,zdt,Dd (by omega) ?_,zl86 h0,zdt,zl86 h1⟩<;>simp <;>omega
def WI.cut {n:Nat}{w:fy.D}(W:WI n w){s:b7.D}(S:SI s){cl:List bn.D}(hc:cl.length=4∧∀c∈cl,CI c){i:Nat}{u:Unit}(hi:i<w.2.2.1.length):WI n (s,cl,w.2.2.1.take i++w.2.2.1.drop (i+1),w.2.2.2.1,u):=
 ⟨S,hc.1,hc.2,by have:=W.At;simp;omega,fun p hp=>W.pk p (aap hp),W.F3,W.gi⟩
def Ud {α:Type}{l:List α}{i:Nat}{x p:α}{P:α→Prop}(h:∀q∈l,P q)(hx:P x)(hp:p∈l.set i x):P p:=by
 rcases List.mem_or_eq_of_mem_set hp with h1|h1
 ·exact h p h1
 ·rw[h1];exact hx
def ahw {n:Nat}{w:fy.D}(W:WI n w){e:di.D}(h0:0≤e.2.1)(h1:e.2.1<w.2.2.1.length):Rt (q66 (w,e)) (fun y=>WI n y.1):=by
 have hr:=W.At
 have ck:=aaq h0 h1 hr
 have hi:e.2.1.toNat<w.2.2.1.length:=by omega
 have hp:=W.pk _ (zl96 hi)
 have gd:w.2.2.1.getD (Int.toNat e.2.1) ((0:Int),[],false,())=w.2.2.1[e.2.1.toNat]:=getD_eq _ _ _ hi
 unfold q66
 refine Rt.all (by simp only[ck,zU,zl92]) ?_
 simp only[gd]
 generalize w.2.2.1[e.2.1.toNat]=p at *
 refine Rt.box q9_v (P:=fun y=>∃At,(At.length≤60∧∀p∈At,PI p)∧y=(((),(),()),((false,(0:Int),[],((0:Int),(),()),((),(0:Int),()),(),(),()),(),(),(),()),(w.1,(),(),(),w.2.2.2.2),p,[],[],[],[],[],[],[],w.2.1,At,w.2.2.2.1)) ?_ fun y hy=>?_
 ·unfold Nk
  refine Rt.bif (fun _=>Rt.all (by simp only[ck,zU,zl92]) ?_) fun _=>Rt.ok ⟨_,⟨hr,W.pk⟩,rfl⟩
  dsimp only
  rw[aao h0 h1 hr]
  exact Rt.ok ⟨_,⟨by simp;omega,fun p hp=>W.pk p (aap hp)⟩,rfl⟩
 obtain⟨At,⟨r1,r2⟩,rfl⟩:=hy
 have WR:∀{s:b7.D} {cl:List bn.D},SI s→cl.length=4→(∀c∈cl,CI c)→WI n (s,cl,At,w.2.2.2.1,w.2.2.2.2):=fun S h1 h2=>⟨S,h1,h2,r1,r2,W.F3,W.gi⟩
 refine Rt.call (aqc hp.2) fun y hy=>Rt.bif (fun _=>Rt.ok (WR W.Au W.cls W.cl)) fun hc=>?_
 have hw:=hy (by simpa using hc)
 refine Rt.bif (fun _=>?_) fun hc=>?_
 ·refine Rt.call (aiS W.Au.sm hw) fun z hz=>?_
  exact Rt.call (P4 (WR hz.1 W.cls W.cl) (.inr rfl) hz.2.2 hz.2.1) fun u hu=>Rt.ok hu
 ·have h9:p.1≠9:=by
   rintro e9
   rw[show(p.1==9)=true from zl78.2 e9] at hc
   cases hc
  obtain⟨p0,p4⟩:=hp.1.resolve_left h9
  have hj:p.1.toNat<w.2.1.length:=by rw[W.cls];omega
  have gc:w.2.1.getD (Int.toNat p.1) HI=w.2.1[p.1.toNat]:=getD_eq _ _ _ hj
  have d0:decide (0≤p.1)=true:=zl86 p0
  have d4:decide (p.1<(w.2.1.length:Int))=true:=zl86 (by rw[W.cls];exact p4)
  unfold HI at gc
  simp only[gc]
  refine Rt.val (ahB (W.cl _ (zl96 hj)) hw) fun z hz e1=>Rt.all (by simp only[e1,qu,d0,d4,zU,zl92]) (Rt.all (by simp only[d0,d4,zU,zl92]) ?_)
  exact Rt.call (P4 (WR W.Au (by rw[zl66];exact W.cls) fun c hc=>Ud W.cl hz.1 hc) (.inl rfl) hz.2.2 hz.2.1) fun u hu=>Rt.ok hu
noncomputable def Qf (log r:List UInt8) (b:Int):List UInt8:=
 bif !(wX log r).2 then log else(wX log r).1.take (log.length+min b.toNat ((wX log r).1.length-log.length))
def ahn {log r:List UInt8}(h:(wX log r).2=true):∃q,(wX log r).1=log++q:=by
 unfold wX at h ⊢
 split
 ·exact⟨_,rfl⟩
 ·rename_i k;rw[cT k] at h;cases h
def apr (log r:List UInt8)(b:Int)(hl:log.length≤9000)(hr:r.length≤9999999)(_hb:I64 b):q86 (log,r,b)=some (Qf log r b,()):=by
 have a:=YB log r (by omega) hr
 simp only[q86,a,zov a,qu,zU,dW,Qf]
 cases h:(wX log r).2 with
 |false=>rfl
 |true=>
  obtain⟨q,hq⟩:=ahn h
  have h9:=KS log r h
  rw[hq] at h9 ⊢
  simp only[eY] at h9 ⊢
  have w1:IntKind.wrap .i64 (((log.length+q.length:Nat):Int)-(log.length:Int))=(q.length:Int):=wi (by omega) (by omega)
  rw[w1]
  simp only[zl70,pO]
  by_cases hneg:b<0
  ·rw[zl86 hneg]
   have:b.toNat=0:=by omega
   rw[this,Nat.zero_min,zl50,List.take_left]
   rfl
  ·rw[zl90 hneg]
   simp only[pO]
   by_cases hbig:b>(q.length:Int)
   ·rw[zl86 hbig]
    have:List.take (log.length+min b.toNat (log.length+q.length-log.length)) (log++q)=log++q:=zl57 (by rw[eY];omega)
    rw[this]
    rfl
   ·rw[zl90 hbig]
    have w2:IntKind.wrap .i64 ((log.length:Int)+b)=((log.length+b.toNat:Nat):Int):=wi (by omega) (by omega)
    rw[w2]
    have d1:decide ((0:Int)≤((log.length+b.toNat:Nat):Int))=true:=zdt
    have d2:decide (((log.length+b.toNat:Nat):Int)≤((log.length+q.length:Nat):Int))=true:=zdt
    have e:min b.toNat (log.length+q.length-log.length)=b.toNat:=by omega
    simp only[d1,d2,dW,pO,zl92,e,Int.sub_zero,zl94,show Int.toNat 0=0 from rfl,zl84]
noncomputable def MC (s:b7.D) (r:List UInt8) (b:Int):List UInt8:=bif(bif s.1 then(CN s.2.2.2.1 r).2 else false) then Qf s.2.2.1 r b else s.2.2.1
noncomputable def Jn (s:b7.D) (r:List UInt8) (b:Int):b7.D:=
 bif !AJ s then C6 else(false,s.2.1,MC s r b,((0:Int),[],()),([],(0:Int),()),[],[],())
def apa (s:b7.D)(S:CM s)(r:List UInt8)(b:Int)(hr:r.length≤9999999)(hb:I64 b):IL (s,r,b)=some (Jn s r b,()):=by
 have a:=Nx s S
 unfold Jn
 cases ho:AJ s with
 |false=>
  rw[ho] at a
  simp only[IL,a,zov a,qu,zU,dW,zl98,C6]
 |true=>
 rw[ho] at a
 have I:=EY ho
 have hl:=Gi ho
 have c:=SZ s.2.2.2.1 I r hr
 have d:=apr s.2.2.1 r b hl hr hb
 simp only[IL,a,zov a,c,zov c,d,zov d,qu,zU,dW,pO,zl70,MC]
 cases s.1<;>cases (CN s.2.2.2.1 r).2<;>rfl
def ah1 (s:b7.D)(r:List UInt8)(b:Int):CM (Jn s r b):=by
 unfold Jn
 cases ho:AJ s with
 |false=>exact HJ
 |true=>
  have hl:=Gi ho
  refine⟨?_,HJ.cat,HJ.items,HJ.G7,HJ.bks,HJ.Au⟩
  change (MC s r b).length≤_
  unfold MC Qf
  cases (bif s.1 then(CN s.2.2.2.1 r).2 else false) with
  |false=>change s.2.2.1.length≤_;omega
  |true=>
  cases h:(wX s.2.2.1 r).2 with
  |false=>change s.2.2.1.length≤_;omega
  |true=>
   have:=KS _ _ h
   simp only[dW,zl70,pO,zl3]
   omega
def bkt (now:Int):cw.D:=(40,40,8,now,())
def frs:List cg.D:=List.replicate 8 (0,0,0,0,false,())
def GF (now:Int)(log:List UInt8)(c:gh.D):b7.D:=(true,now,log,c,(frs,0,()),List.replicate 2 (bkt now),[],())
def SV:He ()=some ((frs,0,()),()):=by simp[He,frs,List.replicate]
def abm (now:Int):Hr now=some (List.replicate 2 (bkt now),()):=by
 have hc:Comes LS (((0:Int),now,()),[]) ((),List.replicate 2 (bkt now)):=by
  refine Bw (r:=LS) (st:=fun i=>(((i:Int),now,()),List.replicate i (bkt now))) (n:=2) ?_ ?_ 0 (lB _)
  ·intro i hi
   have h2:=A5 (i:=i) (by omega)
   have h3:i+1≤eV:=by unfold eV;omega
   have h4:(i:Int)<2:=by omega
   simp[LS,h4,h2,h3,zU,List.replicate_succ',bkt]
  ·simp[LS]
 simp[Hr,cb hc,cv hc,ld]
noncomputable def L4 (s:b7.D):b7.D:=
 bif !AJ s then C6 else bif s.1 then s else GF s.2.1 (s.2.2.1.take (Bq s).2) (DA (Bq s).1).1
def aph (s:b7.D)(S:CM s):q29 s=some (L4 s,()):=by
 have a:=Nx s S
 unfold L4
 cases ho:AJ s with
 |false=>
  rw[ho] at a
  simp only[q29,a,zov a,qu,zU,dW,zl98,C6]
 |true=>
 rw[ho] at a
 have I:=EY ho
 have h8:=I.len
 have hl:=Gi ho
 have b:=Nw s S (by omega)
 have c:=SY s.2.2.1 (by omega)
 obtain⟨r1,r2⟩:=agt s (by omega)
 have d:=agL (Bq s).1 r1 r2
 change E6 s.2.2.1=some (((Bq s).1,((Bq s).2:Int)),()) at c
 obtain⟨k1,k2⟩:=agq s.2.2.1
 have d2:decide (((Bq s).2:Int)≤(s.2.2.1.length:Int))=true:=zl86 (by unfold Bq;omega)
 have e:=abm s.2.1
 simp only[q29,a,zov a,b,zov b,c,zov c,d,zov d,e,zov e,SV,zov SV,qu,zU,dW,pO,zl70,zl92,d2,zl111,zl73,Int.sub_zero,zl94,show Int.toNat 0=0 from rfl,zl84,GF]
 cases s.1<;>rfl
def aoL (s:b7.D)(S:CM s):CM (L4 s):=by
 unfold L4
 cases ho:AJ s with
 |false=>exact HJ
 |true=>
  cases s.1 with
  |true=>exact S
  |false=>
   have hl:=Gi ho
   have hc:(DA (Bq s).1).2=true:=by
    unfold AJ at ho
    simp only[bB] at ho
    exact ho.2.2.1
   have I:=Sq hc
   have h8:=I.len
   refine⟨?_,by change (DA (Bq s).1).1.2.1.length≤_;omega,fun x hx=>?_,by change frs.length≤_;simp[frs],by change (List.replicate 2 _).length≤_;simp,by change ([]:List Sv).length≤_;simp⟩
   ·change (s.2.2.1.take (Bq s).2).length≤_
    rw[zl3];omega
   ·obtain⟨_,h1,h2⟩:=JL (I.ok x hx)
    have:=Lg _ h1
    exact⟨by omega,by omega⟩
def DoI (n:Nat)(y:(fy.D×Bool)×Unit):Prop:=WI n y.1.1
def apG {p:b9.D}(hp:PI p)(hne:p.2.1 ≠ []){a:Int}(h0:0≤a)(_h1:a≤70000):Rt (q71 (p,a)) (fun y=>PI y.1):=by
 have hl:0<p.2.1.length:=List.length_pos_iff.2 hne
 have bl:(bytesOf p.2.1).length=p.2.1.length:=by simp[bytesOf]
 obtain⟨t0,t1⟩:=L8 h0 (show 1≤(4096:Int) by omega)
 obtain⟨k0,k1⟩:=L8 t0 (show 1≤((bytesOf p.2.1).length:Int) by omega)
 have hm:=hp.2
 unfold q71
 refine Rt.all (by rw[Wi];exact zl86 (by unfold eV;show p.2.1.length≤_;omega)) (Rt.all (by rw[ZS,Wi,Bool.and_true];exact bne_iff_ne.2 (show((bytesOf p.2.1).length:Int)≠0 by omega)) (Rt.all (by simp only[zl86 k0,zl86 k1,zU,zl92]) (Rt.ok ⟨hp.1,?_⟩)))
 show(tv _).length≤_
 rw[YH,zl66,bl]
 exact hm
def aoH {n:Nat}{w:fy.D}(W:WI n w){e:di.D}(E:EvI e):Rt (q70 (w,e)) (DoI n):=by
 have hr:=W.At
 unfold q70
 have wr:IntKind.wrap .i64 ((w.2.2.1.length:Int)-1)=(w.2.2.1.length:Int)-1:=wrap64 (by omega) (by omega)
 dsimp only
 rw[wr]
 refine Rt.call (P:=fun y=>y.1=nc e.2.1 0 ((w.2.2.1.length:Int)-1)) ⟨_,BU _ _ _,rfl⟩ fun y hy=>Rt.bif (fun _=>Rt.ok W) fun hc=>?_
 rw[hy] at hc
 have hb:nc e.2.1 0 ((w.2.2.1.length:Int)-1)=true:=by simpa using hc
 have hb:=zl79 hb
 have h0:=hb.1
 have h1:e.2.1<(w.2.2.1.length:Int):=by omega
 have ck:=aaq h0 h1 hr
 have hi:e.2.1.toNat<w.2.2.1.length:=by omega
 have gd:w.2.2.1.getD (Int.toNat e.2.1) ((0:Int),[],false,())=w.2.2.1[e.2.1.toNat]:=getD_eq _ _ _ hi
 refine Rt.bif (fun _=>Rt.call (ahw W h0 h1) fun y hy=>Rt.ok hy) fun _=>Rt.bif (fun _=>Rt.all (by simp only[ck,zU,zl92]) ?_) fun _=>?_
 ·rw[aao h0 h1 hr]
  exact Rt.ok (W.cut W.Au ⟨W.cls,W.cl⟩ hi)
 ·have hp:=W.pk _ (zl96 hi)
  simp only[gd]
  refine Rt.all (by simp only[ck,zl99,zU,zl92]) (Rt.bif (fun _=>Rt.ok W) fun hc=>?_)
  have hne:(w.2.2.1[e.2.1.toNat]).2.1 ≠ []:=by
   intro e0
   rw[e0] at hc
   cases h:(w.2.2.1[e.2.1.toNat]).2.2.1<;>rw[h] at hc<;>cases hc
  refine Rt.val (apG hp hne E.nu0 E.nu1) fun y hy e1=>Rt.all (by simp only[e1,qu,ck,zU,zl92]) (Rt.ok ?_)
  exact⟨W.Au,W.cls,W.cl,by show(List.set _ _ _).length≤_;rw[zl66];exact hr,fun p hp=>Ud W.pk hy hp,W.F3,W.gi⟩
def ahE {n:Nat}{w:fy.D}(W:WI n w){e:di.D}(E:EvI e):Rt (q48 (w,e)) (DoI n):=by
 unfold q48
 refine Rt.call (P:=fun y=>y.1=nc e.2.1 0 3) ⟨_,BU _ _ _,rfl⟩ fun y hy=>Rt.bif (fun _=>Rt.ok W) fun hc=>?_
 rw[hy] at hc
 have hb:nc e.2.1 0 3=true:=by simpa using hc
 have hb:=zl79 hb
 have hj:e.2.1.toNat<w.2.1.length:=by rw[W.cls];omega
 have d0:decide (0≤e.2.1)=true:=zl86 hb.1
 have d4:decide (e.2.1<(w.2.1.length:Int))=true:=zl86 (by rw[W.cls];omega)
 have gc:w.2.1.getD (Int.toNat e.2.1) HI=w.2.1[e.2.1.toNat]:=getD_eq _ _ _ hj
 have I:=W.cl _ (zl96 hj)
 unfold HI at gc
 refine Rt.all (by simp only[d0,d4,zU,zl92]) ?_
 simp only[gc]
 have WS:∀{c:bn.D},CI c→WI n (w.1,w.2.1.set e.2.1.toNat c,w.2.2.1,w.2.2.2.1,w.2.2.2.2):=fun J=>⟨W.Au,by show(List.set _ _ _).length=4;rw[zl66];exact W.cls,fun c hc=>Ud W.cl J hc,W.At,W.pk,W.F3,W.gi⟩
 generalize w.2.1[e.2.1.toNat]=c at *
 refine Rt.box q6_v (P:=fun y=>(∃(x:bn.D) (l:List eL.D),(CI x∧l.length≤1000∧∀v∈l,F1 9 v)∧∃z1 z2,y = .inl (z1,z2,l,(w.1,(),(),(),w.2.2.2.2),e,c,(x.1,x.2.1,x.2.2.1,x.2.2.2.1,x.2.2.2.2.1,((x.2.2.2.2.2.1.1.1,x.2.2.2.2.2.1.1.2.1,(),(),x.2.2.2.2.2.1.1.2.2.2.2),(x.2.2.2.2.2.1.2.1.1,x.2.2.2.2.2.1.2.1.2.1,(),x.2.2.2.2.2.1.2.1.2.2.2),x.2.2.2.2.2.1.2.2),x.2.2.2.2.2.2),[],[],[],[],[],[],[],w.2.1,w.2.2.1,w.2.2.2.1,x.2.2.2.2.2.1.1.2.2.1,x.2.2.2.2.2.1.1.2.2.2.1,x.2.2.2.2.2.1.2.1.2.2.1)) ∨
  ∃l:List eL.D,(l.length≤1000∧∀v∈l,F1 9 v)∧∃z1 z2,y = .inr (z1,z2,l,(w.1,(),(),(),w.2.2.2.2),e,c,c,[],[],[],[],[],[],[],w.2.1,w.2.2.1,w.2.2.2.1)) ?_ fun y hy=>?_
 ·unfold Wh.q6
  refine Rt.bif (fun _=>Rt.call (ahH I E.nam) fun y hy=>Rt.ok (.inl ⟨y.1.1,y.1.2,hy,_,_,rfl⟩)) fun _=>Rt.bif (fun _=>Rt.call (ahy I) fun y hy=>Rt.ok (.inl ⟨y.1.1,y.1.2,hy,_,_,rfl⟩)) fun _=>Rt.bif (fun _=>Rt.call (ahK I) fun y hy=>Rt.ok (.inl ⟨y.1.1,y.1.2,hy,_,_,rfl⟩)) fun _=>Rt.call (ahL I) fun y hy=>Rt.ok (.inr ⟨y.1,hy,_,_,rfl⟩)
 ·rcases hy with⟨x,l,⟨h1,h2,h3⟩,z1,z2,rfl⟩|⟨l,⟨h2,h3⟩,z1,z2,rfl⟩
  ·refine Rt.sum (fun y hy=>?_) fun y hy=>by cases hy
   cases hy
   refine Rt.all (by simp only[d0,d4,zU,zl92]) ?_
   exact Rt.call (P4 (WS h1) (.inl rfl) h3 h2) fun u hu=>Rt.ok hu
  ·refine Rt.sum (fun y hy=>by cases hy) fun y hy=>?_
   cases hy
   refine Rt.all (by simp only[d0,d4,zU,zl92]) ?_
   exact Rt.call (P4 (WS I) (.inl rfl) h3 h2) fun u hu=>Rt.ok hu
def put_si {s:b7.D}(S:SI s)(h:Int)(n t:List UInt8):SI (Lq s h n t).1:=by
 have sm:=alz s S.sm h n t
 unfold Lq at sm ⊢
 cases ho:AJ s with
 |false=>exact Qu
 |true=>
 rw[ho] at sm
 have k:=(Yi _ (EY ho) h n t).len
 have so:=P5 S.sm ho
 unfold Ui at sm ⊢
 cases hu:s.1 with
 |false=>exact so
 |true=>
 rw[hu] at sm
 cases hp:(Dr s.2.2.2.1 h n t).2 != 0 with
 |true=>exact so
 |false=>
 rw[hp] at sm
 cases ha:(wX s.2.2.1 (tn h n t)).2 with
 |false=>exact so
 |true=>
  rw[ha] at sm
  have:=KS _ _ ha
  exact⟨sm,by show(Dr s.2.2.2.1 h n t).1.2.1.length≤_;omega,by show(wX s.2.2.1 (tn h n t)).1.length≤_;omega⟩
def apQ {s:b7.D}(S:SI s)(h:Int)(n:List UInt8):SI (L6 s h n).1:=by
 have sm:=apO s S.sm h n
 unfold L6 at sm ⊢
 cases ho:AJ s with
 |false=>exact Qu
 |true=>
 rw[ho] at sm
 have k:=(YL _ (EY ho) h n).len
 have so:=P5 S.sm ho
 unfold Uj at sm ⊢
 cases hu:s.1 with
 |false=>exact so
 |true=>
 rw[hu] at sm
 cases hp:C7 s.2.2.2.1.2.1 h n with
 |none=>exact so
 |some i=>
 rw[hp] at sm
 cases ha:(wX s.2.2.1 (tn h n [])).2 with
 |false=>exact so
 |true=>
  have:=KS _ _ ha
  dsimp only at sm ⊢
  rw[ha] at sm
  exact⟨sm,by show(FR s.2.2.2.1 h n).1.2.1.length≤_;omega,by show(wX s.2.2.1 (tn h n [])).1.length≤_;omega⟩
def ah2 (s:b7.D)(r:List UInt8)(b:Int):SI (Jn s r b):=by
 have sm:=ah1 s r b
 refine⟨sm,by unfold Jn;cases AJ s<;>simp[C6],?_⟩
 unfold Jn
 cases ho:AJ s with
 |false=>simp[C6]
 |true=>
  have hl:=Gi ho
  change (MC s r b).length≤_
  unfold MC Qf
  cases (bif s.1 then(CN s.2.2.2.1 r).2 else false) with
  |false=>change s.2.2.1.length≤_;omega
  |true=>
  cases h:(wX s.2.2.1 r).2 with
  |false=>change s.2.2.1.length≤_;omega
  |true=>
   have:=KS _ _ h
   simp only[dW,zl70,pO,zl3]
   omega
def aoM {s:b7.D}(S:SI s):SI (L4 s):=by
 have sm:=aoL s S.sm
 unfold L4 at sm ⊢
 cases ho:AJ s with
 |false=>exact Qu
 |true=>
 rw[ho] at sm
 have hl:=Gi ho
 cases hu:s.1 with
 |true=>exact P5 S.sm ho
 |false=>
  rw[hu] at sm
  have hc:(DA (Bq s).1).2=true:=by
   unfold AJ at ho
   simp only[bB] at ho
   exact ho.2.2.1
  have:=(Sq hc).len
  refine⟨sm,?_,?_⟩
  ·show(DA (Bq s).1).1.2.1.length≤_
   omega
  ·show(s.2.2.1.take (Bq s).2).length≤_
   rw[zl3];omega
def aoZ {n:Nat}(hn:n≤900){w:fy.D}(W:WI n w){e:di.D}(E:EvI e):Rt (q50 (w,e)) (DoI (n+1)):=by
 have en:=E.nam
 have et:=E.txt
 have U:=W.up (Nat.le_succ n)
 have sm:=W.Au.sm
 have pe:=apg w.1 sm e.2.1 e.2.2.2.1 e.2.2.2.2.1 (by omega) (by omega)
 have te:=apn w.1 sm e.2.1 e.2.2.2.1 (by omega)
 unfold q50
 refine Rt.bif (fun _=>?_) fun _=>Rt.bif (fun _=>?_) fun _=>Rt.bif (fun _=>?_) fun _=>Rt.bif (fun _=>?_) fun _=>?_
 ·refine Rt.call (P:=fun y=>y=(Lq w.1 e.2.1 e.2.2.2.1 e.2.2.2.2.1,())) ⟨_,pe,rfl⟩ fun y hy=>?_
  subst hy
  exact Rt.call (ac9 (W.set (put_si W.Au _ _ _)) (by omega)) fun u hu=>Rt.ok hu
 ·refine Rt.call (P:=fun y=>y=(L6 w.1 e.2.1 e.2.2.2.1,())) ⟨_,te,rfl⟩ fun y hy=>?_
  subst hy
  exact Rt.ok (U.set (apQ W.Au _ _))
 ·refine Rt.call (apY sm) fun y hy=>?_
  exact Rt.call (P4 (U.set hy.1) (.inr rfl) hy.2.2 hy.2.1) fun u hu=>Rt.ok hu
 ·have rc:=P_ e.2.1 e.2.2.2.1 e.2.2.2.2.1 (by omega) (by omega)
  refine Rt.val (P:=fun y=>y.1=tn e.2.1 e.2.2.2.1 e.2.2.2.2.1) ?_ fun y hy e1=>?_
  ·unfold q49
   exact Rt.call (P:=fun y=>y.1=tn e.2.1 e.2.2.2.1 e.2.2.2.2.1) ⟨_,rc,rfl⟩ fun y hy=>Rt.ok hy
  have hl:=Yq (h:=e.2.1) (n:=e.2.2.2.1) (t:=e.2.2.2.2.1)
  have fe:=apa w.1 sm y.1 e.2.2.1 (by rw[hy];omega) ⟨by have:=E.nu0;omega,by have:=E.nu1;omega⟩
  refine Rt.val (P:=fun z=>z=(Jn w.1 y.1 e.2.2.1,())) ⟨_,fe,rfl⟩ fun z hz e2=>?_
  subst hz
  exact Rt.all (by simp only[e1,e2,qu,zU,zl92]) (Rt.ok (U.set (ah2 _ _ _)))
 ·refine Rt.call (P:=fun z=>z=(L4 w.1,())) ⟨_,aph w.1 sm,rfl⟩ fun z hz=>?_
  subst hz
  exact Rt.call (ac9 (W.set (aoM W.Au)) (by omega)) fun u hu=>Rt.ok hu
def do_rt {n:Nat}(hn:n≤900){w:fy.D}(W:WI n w){e:di.D}(E:EvI e):Rt (J8 (w,e)) (DoI (n+1)):=by
 have U:∀{y},DoI n y→DoI (n+1) y:=fun h=>WI.up h (Nat.le_succ n)
 unfold J8
 refine Rt.box q67_v (P:=fun y=>∃v z,y=((v,(),(),(),e.1),z,e,(w.1,(),(),(),w.2.2.2.2),[],[],[],[],[],[],[],w.2.1,w.2.2.1,w.2.2.2.1)) ?_ fun y hy=>?_
 ·unfold q67
  repeat' refine Rt.bif (fun _=>?_) fun _=>?_
  all_goals exact Rt.ok ⟨_,_,rfl⟩
 obtain⟨v,z,rfl⟩:=hy
 refine Rt.bif (fun _=>Rt.call (aoH W E) fun y hy=>Rt.ok (U hy)) fun _=>?_
 refine Rt.box q68_v (P:=fun y=>∃v z,y=((v,(),(),(),e.1),z,e,(w.1,(),(),(),w.2.2.2.2),[],[],[],[],[],[],[],w.2.1,w.2.2.1,w.2.2.2.1)) ?_ fun y hy=>?_
 ·unfold q68
  repeat' refine Rt.bif (fun _=>?_) fun _=>?_
  all_goals exact Rt.ok ⟨_,_,rfl⟩
 obtain⟨v,z,rfl⟩:=hy
 refine Rt.bif (fun _=>Rt.call (ahE W E) fun y hy=>Rt.ok (U hy)) fun _=>?_
 refine Rt.box q69_v (P:=fun y=>∃v z,y=((v,(),(),()),z,e,(w.1,(),(),(),w.2.2.2.2),[],[],[],[],[],[],[],w.2.1,w.2.2.1,w.2.2.2.1)) ?_ fun y hy=>?_
 ·unfold q69
  repeat' refine Rt.bif (fun _=>?_) fun _=>?_
  all_goals exact Rt.ok ⟨_,_,rfl⟩
 obtain⟨v,z,rfl⟩:=hy
 exact Rt.bif (fun _=>Rt.call (aoZ hn W E) fun y hy=>Rt.ok hy) fun _=>Rt.ok (W.up (Nat.le_succ n))
def aje {l:List Int}(h:∀x∈l,0≤x∧x≤255):Rt (JY l) (fun y=>x4 y.1 0):=by
 unfold JY
 refine Rt.bif (fun hc=>Rt.all (by simpa[kL] using Int.le_of_lt (zl79 hc)) (Rt.ok ⟨?_,?_,Int.le_refl _,Int.le_refl _⟩)) fun hc=>Rt.ok ⟨?_,h,Int.le_refl _,Int.le_refl _⟩
 ·show(List.take _ _).length≤_
  rw[zl3];exact Nat.min_le_left _ _
 ·exact fun x hx=>h x (List.mem_of_mem_drop (List.mem_of_mem_take hx))
 ·have:=zl101 hc
  show l.length≤_
  omega
def AP:b7.D:=GF 0 [] (0,[],())
def apH:SI AP:=⟨⟨by simp[AP,GF],by unfold Wg;simp[AP,GF],by simp[AP,GF],by unfold KR;simp[AP,GF,frs],by simp[AP,GF],by simp[AP,GF]⟩,by simp[AP,GF],by simp[AP,GF]⟩
def aoY:q40 ()=some (AP,()):=by
 have e:=abm 0
 simp only[q40,zov e,e,SV,zov SV,qu,zU,zl92,dW]
 rfl
def ahC (n:Int):Rt (q38 n) (fun y=>CI y.1):=by
 unfold q38
 exact Rt.call (P:=fun _=>True) ⟨_,BU _ _ _,trivial⟩ fun y _=>Rt.bif (fun _=>Rt.ok Qt) fun _=>Rt.ok ⟨by simp,Mj⟩
def aqe:Rt (q64 ()) (fun y=>WI 0 y.1):=by
 unfold q64
 refine Rt.call (P:=fun y=>y=(AP,())) ⟨_,aoY,rfl⟩ fun y hy=>?_
 subst hy
 refine Rt.loop (P:=fun y=>∃cl,(cl.length=4∧∀c∈cl,CI c)∧y.2.2.1=((AP.1,AP.2.1,AP.2.2.1,(AP.2.2.2.1.1,(),AP.2.2.2.1.2.2),((),AP.2.2.2.2.1.2),(),(),AP.2.2.2.2.2.2.2),(),(),(),())∧y.2.2.2.2.2.2.2.2.2.2=(AP.2.2.2.1.2.1,AP.2.2.2.2.1.1,AP.2.2.2.2.2.1,AP.2.2.2.2.2.2.1,cl,[],[]))
  (DQ (n:=4) (I:=fun i x=>∃cl,x=(((i:Int),(),()),((AP.1,AP.2.1,AP.2.2.1,(AP.2.2.2.1.1,(),AP.2.2.2.1.2.2),((),AP.2.2.2.2.1.2),(),(),AP.2.2.2.2.2.2.2),(),(),(),()),_,AP.2.2.2.1.2.1,AP.2.2.2.2.1.1,AP.2.2.2.2.2.1,AP.2.2.2.2.2.2.1,cl,[],[],_)∧cl.length=i∧∀c∈cl,CI c) ?_ ?_ 0 _ (lB _) ⟨[],rfl,rfl,by simp⟩) fun y hy=>?_
 ·rintro i _ hi ⟨cl,rfl,h1,h2⟩
  obtain⟨z,e2,hz⟩:=ahC (i:Int)
  have d1:decide ((i:Int)<4)=true:=zdt
  refine .inl ⟨_,by simp only[PK,d1,e2,zov e2,qu,Dd (a:=cl.length) (b:=1) (by omega) (by omega),zU,zl92,dW,zw (i:=i)],cl ++ [z.1],rfl,by simp[h1],fun c hc=>?_⟩
  rcases bU.1 hc with hc|hc
  ·exact h2 c hc
  ·rw[i_.1 hc];exact hz
 ·rintro _ ⟨cl,rfl,h1,h2⟩
  have d1:decide (((4:Nat):Int)<4)=false:=zdf
  exact⟨_,by simp only[PK,d1,pO];rfl,cl,⟨h1,h2⟩,rfl,rfl⟩
 ·obtain⟨cl,⟨h1,h2⟩,e1,e2⟩:=hy
  refine Rt.ok ?_
  dsimp only
  rw[e1,e2]
  exact⟨apH,h1,h2,lB _,(fun _ h=>nomatch h),lB _,fun _ h=>nomatch h⟩
def CW (w:fy.D):Prop:=(3≤w.2.1.length∧w.2.1.length≤4)∧∀c∈w.2.1,CI c
def setC {l:List bn.D}(h:(3≤l.length∧l.length≤4)∧∀c∈l,CI c){c:bn.D}(hc:CI c)(i:Nat):(3≤(l.set i c).length∧(l.set i c).length≤4)∧∀x∈l.set i c,CI x:=⟨by rw[zl66];exact h.1,fun x hx=>Ud h.2 hc hx⟩
def apF {n:Nat}(hn:n≤1000){w:fy.D}(W:WI n w){r:dz.D}{p:Nat}(I:x4 r p)(hp:p≤900000000):Rt (Wh.q3 (r,w)) (fun y=>CW y.1∧x4 y.2.1 (p+3)):=by
 unfold Wh.q3
 refine Rt.call (Wy W hn) fun y V=>Rt.call (A2 I (by omega) 8) fun z hz=>?_
 have J:=hz.2.2.2
 have U:=J.up (show p+1≤p+3 by omega)
 have hl:=V.cls
 have hr:=V.At
 have hg:=V.F3
 have lg:=V.Au.lg
 have C:(3≤y.1.2.1.length∧y.1.2.1.length≤4)∧∀c∈y.1.2.1,CI c:=⟨by omega,V.cl⟩
 have gc:∀i:Int,0≤i∧i<4→CI (y.1.2.1.getD i.toNat HI):=fun i hi=>by
  rw[getD_eq _ _ _ (show i.toNat<y.1.2.1.length by omega)];exact V.cl _ (zl96 _)
 have bd:∀i:Int,0≤i∧i<4→decide (0≤i)=true∧decide (i<(y.1.2.1.length:Int))=true:=fun i hi=>⟨zl86 hi.1,zdt⟩
 refine Rt.bif (fun _=>?_) fun _=>Rt.bif (fun _=>?_) fun _=>Rt.bif (fun _=>?_) fun _=>Rt.bif (fun _=>?_) fun _=>Rt.bif (fun _=>Rt.ok ⟨C,U⟩) fun _=>Rt.bif (fun _=>?_) fun _=>Rt.bif (fun _=>?_) fun _=>Rt.ok ⟨C,U⟩
 ·refine Rt.val (A2 J (by omega) 4) fun a ha e1=>Rt.val (A2 ha.2.2.2 (by omega) 2) fun b hb e2=>?_
  have ka:=pk ha
  have kb:=pk hb
  exact Rt.all (by simp only[bd _ ka,zl86 kb.1,show decide (b.1<((2:Nat):Int))=true from zdt,e1,e2,qu,zU,zl92]) (Rt.ok ⟨setC C (by exact⟨(gc _ ka).name,(gc _ ka).g⟩) _,hb.2.2.2⟩)
 ·refine Rt.val (A2 J (by omega) 4) fun a ha e1=>Rt.val (A2 ha.2.2.2 (by omega) 6) fun b hb e2=>?_
  have ka:=pk ha
  exact Rt.all (by simp only[bd _ ka,e1,e2,qu,zU,zl92]) (Rt.ok ⟨setC C (by exact⟨(gc _ ka).name,(gc _ ka).g⟩) _,hb.2.2.2⟩)
 ·refine Rt.all (by simp only[hl];rfl) (Rt.ok ⟨⟨?_,fun c hc=>V.cl c (List.mem_of_mem_drop (List.mem_of_mem_take hc))⟩,U⟩)
  simp only[zl3,zl4,hl]
  decide
 ·exact Rt.all (by simp only[Dd (a:=y.1.1.2.2.1.length) (b:=1) (by omega) (by omega),zU]) (Rt.ok ⟨C,U⟩)
 ·exact Rt.all (by simp only[Dd (a:=y.1.2.2.2.1.length) (b:=1) (by omega) (by omega),zU]) (Rt.ok ⟨C,U⟩)
 ·exact Rt.all (by simp only[Dd (a:=y.1.2.2.1.length) (b:=1) (by omega) (by omega),zU]) (Rt.ok ⟨C,U⟩)
def ajF {s:List UInt8}(h:s.length≤1048576):Pc.Gh s=EA s:=by
 have a:=Pc.agX s (by omega)
 rw[Uf s (by omega)] at a
 injection a with a
 exact(Prod.mk.inj a).1.symm
def okC {c:bn.D}(ok:Pc.C9 c=true):(0≤c.1∧c.1≤3)∧(0≤c.2.1∧c.2.1≤99999)∧(0≤c.2.2.2.2.1∧c.2.2.2.2.1≤99999)∧((c.2.2.1==0)=false→(c.2.1==0)=false∧Pc.Gh c.2.2.2.1=true):=by
 unfold Pc.C9 at ok
 simp only[bB,mS] at ok
 obtain⟨⟨⟨⟨⟨h1,h2⟩,_⟩,h4⟩,_⟩,h6⟩:=ok
 refine⟨h1,h2,h4,fun h=>?_⟩
 rw[h] at h6
 simp only[pO,bB,zl63] at h6
 exact h6.1
def aba {c:bn.D}(I:CI c):Gx c=some (Pc.C9 c,()):=Pc.aiW c I.g.sm (by have:=I.name;omega)
def asks (c:bn.D):eL.D:=(1,c.1,c.2.1,c.2.2.2.2.1,0,c.2.2.2.1,[],())
def asksS (c:bn.D):JN c=some ([asks c],()):=rfl
def asksI (c:bn.D):Wh.q0 c=some ([asks c],()):=rfl
def Qd (c:bn.D):List eL.D:=bif Pc.C9 c&&(c.2.2.1==1 || c.2.2.1==2) then [asks c] else []
def next {c:bn.D}(ok:Pc.C9 c=true):IntKind.wrap .i64 (c.2.1+1)=c.2.1+1:=by
 have:=(okC ok).2.1
 exact wrap64 (by omega) (by omega)
def last {c:bn.D}(ok:Pc.C9 c=true):decide (c.2.1≥99999)=(c.2.1==99999):=by
 have:=(okC ok).2.1
 by_cases h:c.2.1=99999
 ·rw[h];rfl
 ·rw[zl89.2 h];exact zdf
def apq {c:bn.D}(I:CI c):FH c=some (Qd c,()):=by
 have e:=I.ok
 simp only[FH,e,zov e,asksS,zov (asksS c),qu,zU,dW,Qd,bne]
 cases Pc.C9 c<;>cases c.2.2.1==1<;>cases c.2.2.1==2<;>rfl
def aiV {c:bn.D}(I:CI c):q20 c=some (Qd c,()):=by
 have e:=aba I
 simp only[q20,e,zov e,asksI,zov (asksI c),qu,zU,dW,Qd,bne]
 cases Pc.C9 c<;>cases c.2.2.1==1<;>cases c.2.2.1==2<;>rfl
def ag_:Gq ([],[])=some (true,()):=by
 have q':Comes Na (((0:Int),[],[]),()) (.inr ((),())):=.out rfl
 simp only[Gq,bne_self_eq_false,pO,cb q',cv q',dW,sumC,ld]
def aha {v:eL.D}(h:Ej v=true):Gq ([v],[v])=some (true,()):=by
 have hn:=UF h
 have a:=Qa v (by omega)
 rw[h] at a
 have q':Comes Na (((0:Int),[v],[v]),()) (.inr ((),())):=.again (x':=(((1:Int),[v],[v]),())) (by
  simp only[Na,show decide ((0:Int)<(([v].length:Nat):Int))=true from rfl,show [v].getD (Int.toNat 0) ((0:Int),(0:Int),(0:Int),(0:Int),(0:Int),[],[],())=v from rfl,a,zov a,qu,zl95,zl70,zl99,show decide ((0:Int)≤0)=true from rfl,zU,zl92,dW,pO,show IntKind.wrap .i64 (0+1)=1 by decide]) (.out rfl)
 simp only[Gq,bne_self_eq_false,pO,cb q',cv q',dW,sumC,ld]
def ZX {c:bn.D}(I:CI c)(ok:Pc.C9 c=true)(h:(c.2.2.1==0)=false):Ej (asks c)=true:=by
 obtain⟨h1,h2,h4,h6⟩:=okC ok
 obtain⟨h6,h7⟩:=h6 h
 rw[ajF I.name] at h7
 have h6:=zl89.1 h6
 unfold asks Ej nc
 simp only[h7,zl95,dW,Bool.and_true,zl92]
 simp only[bB,mS]
 refine⟨⟨⟨⟨?_,?_⟩,?_⟩,?_⟩,rfl⟩<;>omega
def apX {c:bn.D}(I:CI c){l:List Int}(hd:Wh.q1 l=some (c,())):Wh.q5 l=some (true,()):=by
 have a:=apq I
 have b:=aiV I
 have d:=I.ok
 have e:=aba I
 by_cases hl:(l.length:Int)>1048576
 ·simp only[Wh.q5,zl86 hl,dW]
 have hl:=zl90 hl
 unfold Qd at a b
 cases ok:Pc.C9 c with
 |false=>
  rw[ok] at a b d e
  have m:=ag_
  simp only[Wh.q5,hl,hd,zov hd,a,zov a,b,zov b,d,zov d,e,zov e,zl93,m,zov m,qu,zl98,zl70,zl99,zl95,zU,zl92,dW,pO]
 |true=>
  rw[ok] at a b d e
  cases h1:c.2.2.1==1 with
  |false=>
   cases h2:c.2.2.1==2 with
   |false=>
    rw[h1,h2] at a b
    have m:=ag_
    simp only[Wh.q5,hl,hd,zov hd,a,zov a,b,zov b,d,zov d,e,zov e,h1,h2,Bool.or_self,zl74,m,zov m,qu,zl98,zl70,zl99,zl95,zU,zl92,dW,pO]
    rfl
   |true=>
    rw[h1,h2] at a b
    have m:=aha (ZX I ok (by rw[zl78.1 h2];rfl))
    simp only[Wh.q5,hl,hd,zov hd,a,zov a,b,zov b,d,zov d,e,zov e,h1,h2,zl99,m,zov m,qu,zl98,zl70,zl95,zU,zl92,dW,pO]
    simp[asks]
  |true=>
   rw[h1] at a b
   have m:=aha (ZX I ok (by rw[zl78.1 h1];rfl))
   simp only[Wh.q5,hl,hd,zov hd,a,zov a,b,zov b,d,zov d,e,zov e,h1,zl76,zl99,m,zov m,qu,zl98,zl70,zl95,zU,zl92,dW,pO]
   simp[asks]
variable {r:dz.D} {p:Nat}
def apI (I:x4 r p)(hp:p≤100000000){most:Int}(hm:1≤most∧most≤110):Rt (q73 (r,most)) (fun y=>WI 110 y.1.2∧x4 y.2.1 (p+220001)):=by
 unfold q73
 refine Rt.call aqe fun y W=>Rt.call (A2 I (by omega) most) fun z hz=>?_
 obtain⟨k0,k1⟩:=pk hz
 have J:=hz.2.2.2
 obtain⟨n,hn⟩:=Int.eq_ofNat_of_zero_le k0
 rw[hn]
 have hn':n≤110:=by omega
 refine Rt.loop (P:=fun y=>WI 110 y.2.2.2.1∧x4 y.2.1 (p+220001)) (DQ (n:=n) (I:=fun i x=>∃r' w es s,x=((((n-i:Nat):Int),(),(),(),()),r',w,es,s)∧x4 r' (p+1+2000*i)∧WI i w∧es.length=i) ?_ ?_ 0 _ (lB _) ⟨z.2.1,y.1,[],_,rfl,J,W,rfl⟩) fun y hy=>?_
 ·rintro i _ hi ⟨r',w,es,s,rfl,h1,h2,h3⟩
  left
  obtain⟨u,e1,hu,ju⟩:=ah0 h1 (by omega) h2.ev
  obtain⟨c,e2,hc⟩:=Wy h2 (by omega)
  obtain⟨v,e3,hv⟩:=do_rt (show i≤900 by omega) hc hu
  have d1:decide (((n-i:Nat):Int)>0)=true:=zdt
  have w1:IntKind.wrap .i64 (((n-i:Nat):Int)-1)=((n-(i+1):Nat):Int):=by rw[wrap64 (by omega) (by omega)];omega
  have ju':=ju.up (show p+1+2000*i+2000≤p+1+2000*(i+1) by omega)
  simp only[PL,d1,e1,zov e1,e2,zov e2,e3,zov e3,w1,qu,Dd (a:=es.length) (b:=1) (by omega) (by omega),zU,zl92,dW]
  cases v.1.2
  ·exact⟨_,rfl,_,_,_,_,rfl,ju',h2.up (Nat.le_succ i),by simp[h3]⟩
  ·exact⟨_,rfl,_,_,_,_,rfl,ju',hv,by simp[h3]⟩
 ·rintro _ ⟨r',w,es,s,rfl,h1,h2,h3⟩
  have h1:=h1.up (show p+1+2000*n≤p+220001 by omega)
  have d1:decide (((n-n:Nat):Int)>0)=false:=zdf
  exact⟨_,by simp only[PL,d1,pO];rfl,h2.up hn',h1⟩
 ·exact Rt.call (Wy hy.1 (by omega)) fun z hz=>Rt.ok ⟨hz,hy.2⟩
def aqf (I:x4 r p)(hp:p≤100000000):Rt (q75 r) (fun y=>WI 110 y.1∧x4 y.2.1 (p+220001)):=by
 unfold q75
 exact Rt.call (apI I hp (by omega)) fun y hy=>Rt.ok hy
def ahq (I:x4 r p)(hp:p≤100000000):Rt (q10 r) (fun y=>CW y.1∧x4 y.2.1 (p+220005)):=by
 unfold q10
 refine Rt.call (aqf I hp) fun y hy=>Rt.call (A2 hy.2 (by omega) 14) fun z hz=>Rt.bif (fun _=>?_) fun _=>?_
 ·exact Rt.call (apF (by omega) hy.1 hz.2.2.2 (by omega)) fun u hu=>Rt.ok ⟨hu.1,hu.2.up (by omega)⟩
 ·have:=hy.1.cls
  exact Rt.ok ⟨⟨(by omega:3≤y.1.2.1.length∧y.1.2.1.length≤4),hy.1.cl⟩,hz.2.2.2.up (by omega)⟩
def ahp (I:x4 r p)(hp:p≤100000000):Rt (Wh.q7 r) (fun y=>CI y.1∧x4 y.2.1 (p+220006)):=by
 unfold Wh.q7
 refine Rt.call (ahq I hp) fun y hy=>Rt.val (A2 hy.2 (by omega) (y.1.2.1.length:Int)) fun z hz e=>?_
 obtain⟨⟨h1,h2⟩,h3⟩:=hy.1
 obtain⟨k0,k1⟩:=pk hz
 have gc:y.1.2.1.getD z.1.toNat HI=y.1.2.1[z.1.toNat]:=getD_eq _ _ _ (by omega)
 refine Rt.all (by simp only[zl86 k0,zl86 k1,e,qu,zU,zl92]) (Rt.ok ⟨?_,hz.2.2.2⟩)
 show CI (y.1.2.1.getD z.1.toNat HI)
 rw[gc]
 exact h3 _ (zl96 _)
variable {l:List Int}
def ahY (h:∀x∈l,0≤x∧x≤255):Rt (Wh.q1 l) (fun y=>CI y.1):=by
 unfold Wh.q1
 exact Rt.val (aje h) fun y hy e1=>Rt.val (ahp hy (by omega)) fun z hz e2=>Rt.all (by simp only[e1,e2,qu,zU,zl92]) (Rt.ok hz.1)
def ajg (h:∀x∈l,0≤x∧x≤255):Wh.q5 l=some (true,()):=by
 obtain⟨⟨c,u⟩,e,hc⟩:=ahY h
 exact apX hc e
end Pl
