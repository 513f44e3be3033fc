import Derived.Test.YthanhdmbelbfcaaGreatX9
set_option linter.defProp false
namespace Wh
end Wh
open Wh
open Go Go.Ab
namespace Pc
def aj4 (s:ei.D)(hs:Fe s)(n:Int):KU (s,n)=some (Cu s n,()):=by
 have CM:∀i,i<s.2.2.1.length→Ms (((i:Int),(),n),s)=bif !Es s n i then some (.inl ((((i+1:Nat):Int),(),n),s)) else some (.inr (.inl (((fN s i).2.1,true),()))):=by
  intro i hi
  have eA:List.getD s.2.2.1 i ([],[],())=fN s i:=rfl
  have f1:List.getD (fN s i).1 0 0=je s i:=rfl
  have hi':decide ((i:Int)<(s.2.2.1.length:Int))=true:=by simpa using hi
  have h0:decide ((0:Int)≤(i:Int))=true:=by simp
  have w:=AX (i:=i) (by have:=hs.1;omega)
  have d1:=len1 (fN s i).1
  have d2:(je s i==n)=decide (je s i=n):=rfl
  have d3:(!decide ((fN s i).1.length=1) || decide ((0:Int)<((fN s i).1.length:Int)))=true:=by
   by_cases e:(fN s i).1.length=1
   ·simp[e]
   ·simp[e]
  cases hA:decide ((fN s i).1.length=1)<;>cases hB:decide (je s i=n)<;>simp only[hA,zl70,zl98,zl76,zl71] at d3<;>
   simp only[Ms,hi',h0,zl94,Int.toNat_zero,eA,f1,d1,d2,hA,hB,d3,w,Es,zU,dW,pO,zl70,zl98,Bool.and_true,zl74,zl76,zl99,zl92,zl73,Int.le_refl]
 have hl:Comes Ms (((0:Int),(),n),s) (if BZ s n<s.2.2.1.length then .inl (((fN s (BZ s n)).2.1,true),()) else .inr ((),())):=by
  refine El (fun i=>(((i:Int),(),n),s)) (fun i=> !Es s n i) (fun i=>if i<s.2.2.1.length then(.inl (((fN s i).2.1,true),()):((List UInt8×Bool)×Unit)⊕(Unit×Unit)) else .inr ((),())) ?_ ?_ ?_
  ·intro i hi h
   simp only[CM i hi];rw[h];rfl
  ·intro i hi h
   simp only[CM i hi];rw[h,bQ hi];rfl
  ·simp[Ms]
 by_cases h:BZ s n<s.2.2.1.length
 ·rw[bQ h] at hl
  simp only[KU,cb hl,cv hl,Cu,bQ h,dW,ia]
 ·rw[cT h] at hl
  simp only[KU,cb hl,cv hl,Cu,cT h,dW,ia]
def IA (s:ei.D):Nat→List UInt8
 |0=>[]
 |i+1=>IA s i++(Cu s i).1
def XT {s:ei.D}(h:CC s=true)(n:Int):(Cu s n).1.length≤16:=by
 obtain⟨h1,h2,ha,_⟩:=OY h
 unfold Cu
 by_cases hi:BZ s n<s.2.2.1.length
 ·rw[bQ hi]
  have:=wh.1 ha _ hi
  simp only[zC,bB,mS] at this
  have:=this.1.2
  show(fN s (BZ s n)).2.1.length≤16
  omega
 ·rw[cT hi];exact lB _
def adf {s:ei.D}(h:CC s=true):∀i,(IA s i).length≤16*i
 |0=>bA _
 |i+1=>by
  rw[IA,eY]
  have:=adf h i;have:=XT h i;omega
def pre_le (s:ei.D):pre s≤s.1.toNat:=by
 have:=(OU (fun n=>(Cu s n).2) s.1.toNat 0).2.1
 unfold pre;omega
def Uq (g:nT.D):List UInt8:=(IA g.2.1 (pre g.2.1)).take g.1.1.toNat
def afl (g:nT.D)(hg:GB g)(h:Da g=true):q89 g=some (Uq g,()):=by
 obtain⟨hp,hs,_,_⟩:=PW h
 obtain⟨a1,a2⟩:=Ou hp
 have h1:=(OY hs).1
 have hpre:=X5 g.2.1 hg.2 h1
 have hpre':=zov hpre
 have hple:=pre_le g.2.1
 have hok:=X4 g hg
 have hok':=zov hok
 have hl:Comes OJ (((0:Int),[],(),((pre g.2.1:Nat):Int)),g) (((),IA g.2.1 (pre g.2.1)),g):=by
  refine A_ (st:=fun i=>(((i:Int),IA g.2.1 i,(),((pre g.2.1:Nat):Int)),g)) (n:=pre g.2.1) ?_ ?_ 0 (lB _)
  ·intro i hi
   have hi':decide ((i:Int)<((pre g.2.1:Nat):Int))=true:=by simpa using hi
   have mG:=SV g.2.1 hg.2 i
   have hget':=zov mG
   have w:=AX (i:=i) (by omega)
   have hb:decide ((IA g.2.1 i).length+(Cu g.2.1 i).1.length≤eV)=true:=by
    have:=adf hs i;have:=XT hs (i:Int)
    exact zl86 (by unfold eV;omega)
   simp only[OJ,hi',mG,hget',hb,w,IA,zU,qu,dW]
  ·have hi':decide (((pre g.2.1:Nat):Int)<((pre g.2.1:Nat):Int))=false:=by simp
   simp only[OJ,hi',pO,ia]
 simp only[q89,hok,hok',h,hpre,hpre',cb hl,cv hl,zU,qu,dW,pO,zl70,Uq]
 generalize IA g.2.1 (pre g.2.1)=out
 have z:decide ((0:Int)≤g.1.1)=true:=zdt
 have z2:decide ((0:Int)≤(out.length:Int))=true:=zdt
 by_cases e:g.1.1<(out.length:Int)
 ·have e2:decide (g.1.1≤(out.length:Int))=true:=zdt
  simp only[bQ e,e2,z,dW,zl92,Int.sub_zero,Int.toNat_zero,zl84]
 ·simp only[cT e,z2,Int.le_refl,zl73,dW,zl92,Int.sub_zero,Int.toNat_zero,zl94,zl84]
  rw[zl57 (by omega),zl57 (by omega)]
def IL (c:bm.D):List UInt8:=bif !Bk c || c.2.2.2.2.1==0 then [] else Uq c.2.2.2.2.2.1
def adT {c:bm.D}(h:Bk c=true)(hn:(c.2.2.2.2.1==0)=false):Da c.2.2.2.2.2.1=true:=by
 simp only[Bk,bB,hn,pO] at h
 exact h.1.2
def afk (c:bm.D)(hg:GB c.2.2.2.2.2.1)(hn:c.2.2.2.1.length≤4611686018427387904):Fy c=some (IL c,()):=by
 have hO:=X3 c hg hn
 have hO':=zov hO
 cases h:Bk c with
 |false=>simp only[Fy,hO,hO',h,IL,zU,qu,dW,zl98,zl76]
 |true=>
  cases h2:(c.2.2.2.2.1==0) with
  |true=>simp only[Fy,hO,hO',h,h2,IL,zU,qu,dW,pO,zl70,zl99]
  |false=>
   have hT:=afl _ hg (adT h h2)
   have hT':=zov hT
   simp only[Fy,hO,hO',h,h2,hT,hT',IL,zU,qu,dW,pO,zl70,Bool.or_false]
end Pc
open Go Go.Ab Go.Lib
namespace Pl
structure Fc (r:List Int):Prop where
 mem:∀x∈r,0≤x∧x<24
 AQ:r.Pairwise (· < ·)
def adG:∀{a b:List Int},a.Pairwise (· < ·)→b.Pairwise (· < ·)→(∀x,x∈a↔x∈b)→a=b:=fun {a b} ha hb h=>by
 refine List.Perm.eq_of_pairwise (le:=(· ≤ ·)) (fun x y _ _ h1 h2=>Int.le_antisymm h1 h2) (ha.imp fun h=>Int.le_of_lt h) (hb.imp fun h=>Int.le_of_lt h) ?_
 exact(List.perm_ext_iff_of_nodup (ha.imp fun h e=>by omega) (hb.imp fun h e=>by omega)).2 h
def Ud {r:List Int}(h:Fc r):r.length≤24:=by
 have hn:(r.map Int.toNat).Nodup:=by
  rw[List.Nodup,List.pairwise_map]
  refine List.Pairwise.imp_of_mem ?_ h.AQ
  intro a b ha hb hab e
  have:=h.mem a ha;have:=h.mem b hb;omega
 have hs:∀x∈r.map Int.toNat,x∈List.range 24:=by
  intro x hx
  obtain⟨y,hy,rfl⟩:=gG.1 hx
  have:=h.mem y hy
  rw[List.mem_range];omega
 have:=hn.length_le_of_subset hs
 simpa using this
def OQ (m:Nat):List Int:=((List.range 24).filter fun j=>m.testBit j).map fun(j:Nat)=>(j:Int)
def acE {m:Nat}{x:Int}:x∈OQ m↔0≤x∧x<24∧m.testBit x.toNat=true:=by
 unfold OQ
 simp only[gG,List.mem_filter,List.mem_range]
 constructor
 ·rintro⟨j,⟨h1,h2⟩,rfl⟩;exact⟨by omega,by omega,by simpa using h2⟩
 ·rintro⟨h1,h2,h3⟩;exact⟨x.toNat,⟨by omega,h3⟩,by omega⟩
def ajj (m:Nat):Fc (OQ m):=by
 refine⟨fun x hx=>?_,?_⟩
 ·have:=acE.1 hx;omega
 ·unfold OQ
  rw[List.pairwise_map]
  exact((List.pairwise_lt_range (n:=24)).filter _).imp fun h=>by omega
def YT {r:List Int}(h:Fc r){x:Int}(hx:0≤x∧x<24):(Pc.xe r).testBit x.toNat=true↔x∈r:=by
 rw[Pc.Oh,List.any_eq_true]
 constructor
 ·rintro⟨y,hy,e⟩
  have:=h.mem y hy
  have e:=zl79 e
  have:y=x:=by omega
  subst this;exact hy
 ·intro hm;exact⟨x,hm,zl86 rfl⟩
def mk_lt {r:List Int}(h:Fc r):Pc.xe r<2 ^ 24:=Pc.Og r fun x hx=>(h.mem x hx).2
def D3 (a b:List Int):List Int:=OQ (Pc.xe a ^^^ Pc.xe b)
def UF (a b:List Int):Fc (D3 a b):=ajj _
def Lp {a b:List Int}(ha:Fc a)(hb:Fc b){x:Int}:x∈D3 a b↔(x∈a∧¬x∈b)∨(¬x∈a∧x∈b):=by
 unfold D3
 rw[acE]
 by_cases hx:0≤x∧x<24
 ·have ea:=YT ha hx
  have eb:=YT hb hx
  rw[Nat.testBit_xor]
  constructor
  ·rintro⟨_,_,h⟩
   cases e1:(Pc.xe a).testBit x.toNat<;>cases e2:(Pc.xe b).testBit x.toNat<;>simp[e1,e2] at h ea eb<;>simp[ea,eb]
  ·intro h
   refine⟨hx.1,hx.2,?_⟩
   cases e1:(Pc.xe a).testBit x.toNat<;>cases e2:(Pc.xe b).testBit x.toNat<;>simp[e1,e2] at ea eb ⊢ <;>simp[ea,eb] at h
 ·constructor
  ·rintro⟨h1,h2,_⟩;exact absurd ⟨h1,h2⟩ hx
  ·rintro(⟨h,_⟩|⟨_,h⟩)
   ·exact absurd (ha.mem x h) hx
   ·exact absurd (hb.mem x h) hx
def Dr:List Int→List Int→List Int
 | [],b=>b
 |x::a,[]=>x::a
 |x::a,y::b=>if x<y then x::Dr a (y::b) else if y<x then y::Dr (x::a) b else Dr a b
termination_by a b=>a.length+b.length
def YR (a:List Int):Dr a []=a:=by cases a<;>simp[Dr]
def agM:∀(n:Nat) (a b:List Int),a.length+b.length≤n→a.Pairwise (· < ·)→b.Pairwise (· < ·) →
  (∀x,x∈Dr a b↔(x∈a∧¬x∈b)∨(¬x∈a∧x∈b))∧(Dr a b).Pairwise (· < ·):=by
 intro n
 induction n with
 |zero=>
  intro a b h ha hb
  have:a = []:=List.eq_nil_of_length_eq_zero (by omega)
  have:b = []:=List.eq_nil_of_length_eq_zero (by omega)
  subst_vars
  simp[Dr]
 |succ n ih=>
  intro a b h ha hb
  match a,b with
  | [],b=>simp only[Dr];exact⟨fun x=>by simp,hb⟩
  |x::a,[]=>simp only[Dr];exact⟨fun x=>by simp,ha⟩
  |x::a,y::b=>
   obtain⟨ax,ap⟩:=List.pairwise_cons.1 ha
   obtain⟨bx,bp⟩:=List.pairwise_cons.1 hb
   simp only[zl6] at h
   rw[Dr]
   by_cases h1:x<y
   ·rw[bQ h1]
    obtain⟨m,p⟩:=ih a (y::b) (by simp only[zl6];omega) ap hb
    refine⟨fun z=>?_,List.pairwise_cons.2 ⟨fun z hz=>?_,p⟩⟩
    ·rw[bN,m,bN,bN]
     constructor
     ·rintro(rfl|⟨h2,h3⟩|⟨h2,h3⟩)
      ·refine .inl ⟨.inl rfl,?_⟩
       rintro(rfl|h4)
       ·omega
       ·have:=bx z h4;omega
      ·exact .inl ⟨.inr h2,h3⟩
      ·refine .inr ⟨?_,h3⟩
       rintro(rfl|h4)
       ·rcases h3 with rfl|h3
        ·omega
        ·have:=bx z h3;omega
       ·exact h2 h4
     ·rintro(⟨rfl|h2,h3⟩|⟨h2,h3⟩)
      ·exact .inl rfl
      ·exact .inr (.inl ⟨h2,h3⟩)
      ·exact .inr (.inr ⟨fun q=>h2 (.inr q),h3⟩)
    ·rcases(m z).1 hz with⟨h2,_⟩|⟨_,h2⟩
     ·exact ax z h2
     ·rcases bN.1 h2 with rfl|h2
      ·exact h1
      ·have:=bx z h2;omega
   ·rw[cT h1]
    by_cases h2:y<x
    ·rw[bQ h2]
     obtain⟨m,p⟩:=ih (x::a) b (by simp only[zl6];omega) ha bp
     refine⟨fun z=>?_,List.pairwise_cons.2 ⟨fun z hz=>?_,p⟩⟩
     ·rw[bN,m,bN,bN]
      constructor
      ·rintro(rfl|⟨h3,h4⟩|⟨h3,h4⟩)
       ·refine .inr ⟨?_,.inl rfl⟩
        rintro(rfl|h4)
        ·omega
        ·have:=ax z h4;omega
       ·refine .inl ⟨h3,?_⟩
        rintro(rfl|h5)
        ·rcases h3 with rfl|h3
         ·omega
         ·have:=ax z h3;omega
        ·exact h4 h5
       ·exact .inr ⟨h3,.inr h4⟩
      ·rintro(⟨h3,h4⟩|⟨h3,rfl|h4⟩)
       ·exact .inr (.inl ⟨h3,fun q=>h4 (.inr q)⟩)
       ·exact .inl rfl
       ·exact .inr (.inr ⟨h3,h4⟩)
     ·rcases(m z).1 hz with⟨h3,_⟩|⟨_,h3⟩
      ·rcases bN.1 h3 with rfl|h3
       ·exact h2
       ·have:=ax z h3;omega
      ·exact bx z h3
    ·rw[cT h2]
     have e:x=y:=by omega
     subst e
     obtain⟨m,p⟩:=ih a b (by omega) ap bp
     refine⟨fun z=>?_,p⟩
     rw[m,bN,bN]
     constructor
     ·rintro(⟨h3,h4⟩|⟨h3,h4⟩)
      ·refine .inl ⟨.inr h3,?_⟩
       rintro(rfl|h5)
       ·have:=ax z h3;omega
       ·exact h4 h5
      ·refine .inr ⟨?_,.inr h4⟩
       rintro(rfl|h5)
       ·have:=bx z h4;omega
       ·exact h3 h5
     ·rintro(⟨rfl|h3,h4⟩|⟨h3,rfl|h4⟩)
      ·exact absurd (.inl rfl) h4
      ·exact .inl ⟨h3,fun q=>h4 (.inr q)⟩
      ·exact absurd (.inl rfl) h3
      ·exact .inr ⟨fun q=>h3 (.inr q),h4⟩
def agN {a b:List Int}(ha:Fc a)(hb:Fc b):Dr a b=D3 a b:=by
 obtain⟨m,p⟩:=agM _ a b (bA _) ha.AQ hb.AQ
 refine adG p (UF a b).AQ fun x=>?_
 rw[m,Lp ha hb]
end Pl
open Go Go.Ab Go.Lib
namespace Ks
open Pl
abbrev ic:Type:=e_.D
def pv (f:ic):Int:=f.1.getD 0 0
def zE:ic:=([],[],())
structure Cl (r:List Int) (c:Nat):Prop where
 mem:∀x∈r,0≤x∧x<(c:Int)
 AQ:r.Pairwise (· < ·)
def Cl.i {r:List Int}{c:Nat}(h:Cl r c)(hc:c≤24):Fc r:=⟨fun x hx=>by have:=h.mem x hx;omega,h.AQ⟩
def G2 {f:ic}(h:f.1 ≠ []):pv f∈f.1:=by
 obtain⟨r,d,u⟩:=f
 cases r with
 |nil=>exact absurd rfl h
 |cons a r=>simp[pv]
def QF {f:ic}(h:f.1.Pairwise (· < ·)){x:Int}(hx:x∈f.1):pv f≤x:=by
 obtain⟨r,d,u⟩:=f
 cases r with
 |nil=>cases hx
 |cons a r=>
  rcases bN.1 hx with e|e
  ·simp[pv,e]
  ·have:=(List.pairwise_cons.1 h).1 x e
   have:pv (a::r,d,u)=a:=by simp[pv]
   omega
structure Hw (L:List ic) (c s:Nat):Prop where
 row:∀f∈L,Cl f.1 c∧f.1 ≠ []
 dat:∀f∈L,f.2.1.length=s
 Gt:L.Pairwise (fun f g=>pv f<pv g)
 crs:L.Pairwise (fun f g=>pv f∉g.1∧pv g∉f.1)
def NG {L:List ic}{c s:Nat}(h:Hw L c s):L.length≤c:=by
 have hn:(L.map fun f=>(pv f).toNat).Nodup:=by
  rw[List.Nodup,List.pairwise_map]
  refine List.Pairwise.imp_of_mem ?_ h.Gt
  intro a b ha hb hab e
  have h1:=(h.row a ha).1.mem _ (G2 (h.row a ha).2)
  have h2:=(h.row b hb).1.mem _ (G2 (h.row b hb).2)
  omega
 have hs:∀x∈L.map fun f=>(pv f).toNat,x∈List.range c:=by
  intro x hx
  obtain⟨f,hf,rfl⟩:=gG.1 hx
  have h1:=(h.row f hf).1.mem _ (G2 (h.row f hf).2)
  rw[List.mem_range];omega
 have:=hn.length_le_of_subset hs
 simpa using this
def HN (e f:ic):ic:=if pv f∈e.1 then(D3 e.1 f.1,E_ e.2.1 f.2.1,()) else e
def th (L:List ic)(e:ic):ic:=L.foldl HN e
structure Dh (e:ic) (c s:Nat):Prop where
 row:Cl e.1 c
 dat:e.2.1.length=s
def adt {a b:List Int}{c:Nat}(hc:c≤24)(ha:Cl a c)(hb:Cl b c):Cl (D3 a b) c:=by
 refine⟨fun x hx=>?_,(UF a b).AQ⟩
 rcases(Lp (ha.i hc) (hb.i hc)).1 hx with h|h
 ·exact ha.mem x h.1
 ·exact hb.mem x h.2
def Qa {e f:ic}{c s:Nat}(hc:c≤24)(h:Dh e c s)(hf:Cl f.1 c):Dh (HN e f) c s:=by
 unfold HN
 split
 ·exact⟨adt hc h.row hf,by rw[UG];exact h.dat⟩
 ·exact h
def S4 {L:List ic}{c s:Nat}(hc:c≤24)(h:Hw L c s):∀e,Dh e c s→Dh (th L e) c s:=by
 have:∀L:List ic,(∀f∈L,Cl f.1 c)→∀e,Dh e c s→Dh (th L e) c s:=by
  intro L
  induction L with
  |nil=>intro _ e he;exact he
  |cons f L ih=>
   intro hL e he
   exact ih (fun g hg=>hL g (by simp[hg])) _ (Qa hc he (hL f (by simp)))
 exact this L fun f hf=>(h.row f hf).1
def afI {L:List ic}{c s:Nat}(hc:c≤24)(h:Hw L c s){e:ic}(he:Dh e c s):∀f∈L,pv f∉(th L e).1:=by
 have keep:∀(M:List ic) (x:Int) (e:ic),Dh e c s→(∀g∈M,Cl g.1 c∧x∉g.1)→x∉e.1→x∉(th M e).1:=by
  intro M x
  induction M with
  |nil=>intro e _ _ hx;exact hx
  |cons g M ih=>
   intro e he hM hx
   have hg:=hM g (by simp)
   refine ih _ (Qa hc he hg.1) (fun g' hg'=>hM g' (by simp[hg'])) ?_
   unfold HN
   split
   ·intro hm
    rcases(Lp (he.row.i hc) (hg.1.i hc)).1 hm with h|h
    ·exact hx h.1
    ·exact hg.2 h.2
   ·exact hx
 have all:∀(M:List ic),Hw M c s→∀e,Dh e c s→∀f∈M,pv f∉(th M e).1:=by
  intro M
  induction M with
  |nil=>intro _ e _ f hf;cases hf
  |cons g M ih=>
   intro hI e he f hf
   have hg:=hI.row g (by simp)
   have aI:=List.pairwise_cons.1 hI.crs
   have kO:Hw M c s:=⟨fun f hf=>hI.row f (by simp[hf]),fun f hf=>hI.dat f (by simp[hf]),(List.pairwise_cons.1 hI.Gt).2,aI.2⟩
   have he':=Qa hc he hg.1
   rcases bN.1 hf with e1|e1
   ·subst e1
    refine keep M _ _ he' (fun g hg=>⟨(kO.row g hg).1,(aI.1 g hg).1⟩) ?_
    unfold HN
    split
    ·rename_i hm
     intro hx
     rcases(Lp (he.row.i hc) (hg.1.i hc)).1 hx with h|h
     ·exact h.2 (G2 hg.2)
     ·exact h.1 hm
    ·rename_i hm;exact hm
   ·exact ih kO _ he' f e1
 exact all L h e he
def z5 (e f:ic):ic:=if pv e∈f.1 then(D3 f.1 e.1,E_ f.2.1 e.2.1,()) else f
def mw (L:List ic)(p:Int):Nat:=L.countP fun f=>decide (pv f<p)
def xb (L:List ic)(e:ic):List ic:=(L.map (z5 e)).take (mw L (pv e))++e::(L.map (z5 e)).drop (mw L (pv e))
def adk {e f:ic}{c:Nat}(hc:c≤24)(he:Cl e.1 c)(hn:e.1 ≠ [])(hf:Cl f.1 c)(hfn:f.1 ≠ [])(hx:pv f∉e.1):pv (z5 e f)=pv f∧(z5 e f).1 ≠ []:=by
 unfold z5
 split
 ·rename_i hm
  have h1:=QF (f:=f) hf.AQ hm
  have h2:pv e≠pv f:=fun h=>hx (h▸G2 hn)
  have hin:pv f∈D3 f.1 e.1:=(Lp (hf.i hc) (he.i hc)).2 (.inl ⟨G2 hfn,hx⟩)
  have hne:D3 f.1 e.1 ≠ []:=fun h=>by rw[h] at hin;cases hin
  refine⟨?_,hne⟩
  have h3:pv (D3 f.1 e.1,E_ f.2.1 e.2.1,())≤pv f:=QF (f:=(D3 f.1 e.1,E_ f.2.1 e.2.1,())) (UF _ _).AQ hin
  have h4:pv (D3 f.1 e.1,E_ f.2.1 e.2.1,())∈D3 f.1 e.1:=G2 (f:=(D3 f.1 e.1,E_ f.2.1 e.2.1,())) hne
  rcases(Lp (hf.i hc) (he.i hc)).1 h4 with h|h
  ·have:=QF (f:=f) hf.AQ h.1;omega
  ·have:=QF (f:=e) he.AQ h.2;omega
 ·exact⟨rfl,hfn⟩
def aks {e f:ic}{c:Nat}(hc:c≤24)(he:Cl e.1 c)(hf:Cl f.1 c):Cl (z5 e f).1 c:=by
 unfold z5
 split
 ·exact adt hc hf he
 ·exact hf
def akr {e f:ic}{s:Nat}(hf:f.2.1.length=s):(z5 e f).2.1.length=s:=by
 unfold z5
 split
 ·rw[UG];exact hf
 ·exact hf
def Ut {e f:ic}{c:Nat}(hc:c≤24)(he:Cl e.1 c)(hf:Cl f.1 c){x:Int}(h:x∈(z5 e f).1):(x∈f.1∨x∈e.1)∧(x=pv e→e.1 = []):=by
 unfold z5 at h
 split at h
 ·rename_i hm
  rcases(Lp (hf.i hc) (he.i hc)).1 h with h'|h'
  ·refine⟨.inl h'.1,fun hx=>?_⟩
   subst hx
   refine Classical.byContradiction fun hne=>h'.2 (G2 hne)
  ·refine⟨.inr h'.2,fun hx=>?_⟩
   subst hx
   exact absurd hm h'.1
 ·rename_i hm
  exact⟨.inl h,fun hx=>absurd (hx▸h) hm⟩
def Ov (L:List ic)(p:Int):mw L p≤L.length:=List.countP_le_length
def Zu {L:List ic}(hs:L.Pairwise (fun f g=>pv f<pv g))(p:Int):(∀f∈L.take (mw L p),pv f<p)∧(∀f∈L.drop (mw L p),¬pv f<p):=by
 induction L with
 |nil=>simp[mw]
 |cons f L ih=>
  obtain⟨h1,h2⟩:=List.pairwise_cons.1 hs
  obtain⟨i1,i2⟩:=ih h2
  by_cases hf:pv f<p
  ·have e:mw (f::L) p=mw L p+1:=by simp[mw,hf]
   rw[e]
   refine⟨fun g hg=>?_,fun g hg=>?_⟩
   ·rw[List.take_succ_cons] at hg
    rcases bN.1 hg with h|h
    ·rw[h];exact hf
    ·exact i1 g h
   ·rw[List.drop_succ_cons] at hg
    exact i2 g hg
  ·have e0:mw L p=0:=by
    unfold mw
    rw[List.countP_eq_zero]
    intro g hg
    have:=h1 g hg
    simp only[mS];omega
   have e:mw (f::L) p=0:=by
    unfold mw at e0 ⊢
    rw[List.countP_cons,e0];simp[hf]
   rw[e]
   refine⟨fun g hg=>by simp at hg,fun g hg=>?_⟩
   rw[zl84] at hg
   rcases bN.1 hg with h|h
   ·rw[h];exact hf
   ·have:=h1 g h;omega
def add_I {L:List ic}{c s:Nat}(hc:c≤24)(h:Hw L c s){e:ic}(he:Dh e c s)(hn:e.1 ≠ [])(hp:∀f∈L,pv f∉e.1):Hw (xb L e) c s:=by
 have hmem:∀g∈xb L e,g=e∨∃f∈L,g=z5 e f:=by
  intro g hg
  unfold xb at hg
  rcases bU.1 hg with h1|h1
  ·obtain⟨f,hf,e1⟩:=gG.1 (List.mem_of_mem_take h1)
   exact .inr ⟨f,hf,e1.symm⟩
  ·rcases bN.1 h1 with h2|h2
   ·exact .inl h2
   ·obtain⟨f,hf,e1⟩:=gG.1 (List.mem_of_mem_drop h2)
    exact .inr ⟨f,hf,e1.symm⟩
 have pu:∀f∈L,pv (z5 e f)=pv f∧(z5 e f).1 ≠ []:=fun f hf=>adk hc he.row hn (h.row f hf).1 (h.row f hf).2 (hp f hf)
 have pne:∀f∈L,pv f≠pv e:=fun f hf e1=>hp f hf (e1▸G2 hn)
 obtain⟨t1,t2⟩:=Zu h.Gt (pv e)
 have key:∀(R:ic→ic→Prop),(∀f g,f∈L→g∈L→pv f<pv g→(pv f∉g.1∧pv g∉f.1)→R (z5 e f) (z5 e g))→(∀f∈L,pv f<pv e→R (z5 e f) e)→(∀f∈L,pv e<pv f→R e (z5 e f))→(xb L e).Pairwise R:=by
  intro R r1 r2 r3
  have hm:(L.map (z5 e)).Pairwise R:=by
   rw[List.pairwise_map]
   refine List.Pairwise.imp_of_mem ?_ (h.Gt.and h.crs)
   intro a b ha hb hab
   exact r1 a b ha hb hab.1 hab.2
  unfold xb
  rw[List.pairwise_append]
  refine⟨hm.sublist (List.take_sublist _ _),List.pairwise_cons.2 ⟨fun g hg=>?_,hm.sublist (List.drop_sublist _ _)⟩,fun a ha g hg=>?_⟩
  ·rw[←List.map_drop] at hg
   obtain⟨f,hf,e1⟩:=gG.1 hg
   subst e1
   have hfL:=List.mem_of_mem_drop hf
   have a1:=t2 f hf
   have a2:=pne f hfL
   exact r3 f hfL (by omega)
  ·rw[←List.map_take] at ha
   obtain⟨f,hf,e1⟩:=gG.1 ha
   subst e1
   have hfL:=List.mem_of_mem_take hf
   have a1:=t1 f hf
   rcases bN.1 hg with e2|e2
   ·subst e2;exact r2 f hfL a1
   ·rw[←List.map_drop] at e2
    obtain⟨g',hg',e3⟩:=gG.1 e2
    subst e3
    have hgL:=List.mem_of_mem_drop hg'
    have h2:(L.take (mw L (pv e))++L.drop (mw L (pv e))).Pairwise (fun f g=>pv f<pv g∧(pv f∉g.1∧pv g∉f.1)):=by
     rw[zl68];exact h.Gt.and h.crs
    have h3:=(List.pairwise_append.1 h2).2.2 f hf g' hg'
    exact r1 f g' hfL hgL h3.1 h3.2
 have cr:∀f g,f∈L→g∈L→pv f∉g.1→pv (z5 e f)∉(z5 e g).1:=by
  intro f g hf hg hx hm
  rw[(pu f hf).1] at hm
  rcases(Ut hc he.row (h.row g hg).1 hm).1 with h1|h1
  ·exact hx h1
  ·exact hp f hf h1
 refine⟨fun g hg=>?_,fun g hg=>?_,?_,?_⟩
 ·rcases hmem g hg with e1|⟨f,hf,e1⟩
  ·subst e1;exact⟨he.row,hn⟩
  ·subst e1;exact⟨aks hc he.row (h.row f hf).1,(pu f hf).2⟩
 ·rcases hmem g hg with e1|⟨f,hf,e1⟩
  ·subst e1;exact he.dat
  ·subst e1;exact akr (h.dat f hf)
 ·refine key _ (fun f g hf hg h1 _=>?_) (fun f hf h1=>?_) (fun f hf h1=>?_)
  ·rw[(pu f hf).1,(pu g hg).1];exact h1
  ·rw[(pu f hf).1];exact h1
  ·rw[(pu f hf).1];exact h1
 ·refine key _ (fun f g hf hg _ h1=>⟨cr f g hf hg h1.1,cr g f hg hf h1.2⟩) (fun f hf _=>?_) (fun f hf _=>?_)
  ·exact⟨by rw[(pu f hf).1];exact hp f hf,fun hm=>hn ((Ut hc he.row (h.row f hf).1 hm).2 rfl)⟩
  ·exact⟨fun hm=>hn ((Ut hc he.row (h.row f hf).1 hm).2 rfl),by rw[(pu f hf).1];exact hp f hf⟩
open Pl
def ajk {r:List Int}{c:Nat}(h:Pc.CB r (c:Int)=true):Cl r c:=by
 refine⟨fun x hx=>?_,?_⟩
 ·obtain⟨i,hi,rfl⟩:=List.mem_iff_getElem.1 hx
  have h':=h
  simp only[Pc.CB,bB] at h'
  have:=Pc.wh.1 h'.1 i hi
  simp only[Pc.CN,bB,mS,Pc.getD_eq _ _ _ hi] at this
  omega
 ·rw[List.pairwise_iff_getElem]
  intro i j hi hj hij
  have h':=h
  simp only[Pc.CB,bB] at h'
  have:=Pc.AQ (f:=fun i=>r.getD i 0) (n:=r.length) (fun i h0 hi=>by
   have:=Pc.wh.1 h'.1 i hi
   simp only[Pc.CN,bB,rz,mS] at this
   exact this.2.resolve_left (by omega)) j i hij hj
  simp only[Pc.getD_eq _ _ _ hi,Pc.getD_eq _ _ _ hj] at this
  exact this
def XV {r:List Int}{x:Int}:Pc.FN r x=true↔x∈r:=by
 rw[Pc.SP,List.mem_iff_getElem]
 constructor
 ·rintro⟨i,hi,e⟩;rw[Pc.getD_eq _ _ _ hi] at e;exact⟨i,hi,e⟩
 ·rintro⟨i,hi,e⟩;exact⟨i,hi,by rw[Pc.getD_eq _ _ _ hi];exact e⟩
def ok_I {L:List ic}{c z:Int}(h:Pc.CC (c,z,L,())=true):(1≤c∧c≤24)∧(1≤z∧z≤16)∧Hw L c.toNat z.toNat:=by
 obtain⟨h1,h2,h3,h4⟩:=Pc.OY h
 have ce:c=(c.toNat:Int):=by have:(1:Int)≤c:=h1.1;omega
 have ze:z=(z.toNat:Int):=by have:(1:Int)≤z:=h2.1;omega
 have at_ (i:Nat) (hi:i<L.length):Pc.fN (c,z,L,()) i=L[i]:=by unfold Pc.fN;exact Pc.getD_eq _ _ _ hi
 have hd (i:Nat) (hi:i<L.length):Pc.je (c,z,L,()) i=pv L[i]:=by unfold Pc.je;rw[at_ i hi];rfl
 refine⟨h1,h2,⟨fun f hf=>?_,fun f hf=>?_,?_,?_⟩⟩
 ·obtain⟨i,hi,rfl⟩:=List.mem_iff_getElem.1 hf
  have h5:=Pc.wh.1 h3 i hi
  simp only[Pc.zC,bB,mS,at_ i hi] at h5
  refine⟨ajk (by rw[←ce];exact h5.1.1.1),fun e=>h5.1.1.2 (by rw[e];rfl)⟩
 ·obtain⟨i,hi,rfl⟩:=List.mem_iff_getElem.1 hf
  have h5:=Pc.wh.1 h3 i hi
  simp only[Pc.zC,bB,mS,at_ i hi] at h5
  have:=h5.1.2
  omega
 ·rw[List.pairwise_iff_getElem]
  intro i j hi hj hij
  have:=Pc.NO h3 j i hij hj
  rwa[hd i hi,hd j hj] at this
 ·rw[List.pairwise_iff_getElem]
  intro i j hi hj hij
  have cr (i k:Nat) (hi:i<L.length) (hk:k<L.length) (hne:k≠i):pv L[i]∉L[k].1:=by
   have h5:=Pc.wh.1 (Pc.wh.1 h4 i hi) k hk
   simp only[Pc.JY,rz,mS,at_ k hk,hd i hi] at h5
   have h6:=h5.resolve_left hne
   intro hm
   rw[XV.2 hm] at h6
   cases h6
  exact⟨cr i j hi hj (by omega),cr j i hj hi (by omega)⟩
open Pl
def lnE (n:Nat):decide ((n:Int)<(n:Int))=false:=zdf
structure Lx (p:gv.D) (c z:Nat):Prop where
 long:1≤p.1∧p.1≤300
 size:p.2.1=(z:Int)∧1≤z∧z≤16
 cnt:Pc.cnt p=(c:Int)
 c1:1≤c∧c≤24
 n:1≤p.2.2.1.length∧p.2.2.1.length≤3
 m:p.2.2.2.1.length=p.2.2.1.length
 win:∀x∈p.2.2.1,1≤x∧x≤(c:Int)
 wgt:∀x∈p.2.2.2.1,1≤x∧x≤99
def plan_I {p:gv.D}(h:Pc.Bx p=true):Lx p (Pc.cnt p).toNat p.2.1.toNat:=by
 unfold Pc.Bx Pc.Cy at h
 simp only[bB,mS] at h
 obtain⟨⟨⟨⟨⟨⟨a1,a2⟩,a3⟩,a4⟩,a5⟩,a6⟩,_⟩:=h
 have hb:=Pc.Nt p a1 a2
 have hp:∀i,i<p.2.2.1.length→(1≤p.2.2.1.getD i 0∧p.2.2.1.getD i 0≤Pc.cnt p)∧(1≤p.2.2.2.1.getD i 0∧p.2.2.2.1.getD i 0≤99):=by
  intro i hi
  have:=Pc.wh.1 a6 i hi
  simp only[Pc.F2,bB,mS] at this
  exact⟨this.1.1,this.2⟩
 refine⟨a1,⟨by omega,by omega,by omega⟩,by omega,⟨by omega,by omega⟩,a4,a5,fun x hx=>?_,fun x hx=>?_⟩
 ·obtain⟨i,hi,rfl⟩:=List.mem_iff_getElem.1 hx
  have:=(hp i hi).1
  rw[Pc.getD_eq _ _ _ hi] at this
  omega
 ·obtain⟨i,hi,rfl⟩:=List.mem_iff_getElem.1 hx
  have:=(hp i (by omega)).2
  rw[Pc.getD_eq _ _ _ hi] at this
  exact this
def JO:List Int→List Int→Int→Int
 |w::W,v::ws,k=>if k<v then w else JO W ws (k-v)
 |_,_,_=>0
def Rw:∀(ws:List Int),(∀x∈ws,1≤x∧x≤99)→(ws.length:Int)≤ws.sum∧ws.sum≤99*(ws.length:Int)
 | [],_=>by simp
 |v::ws,h=>by
  have a:=Rw ws fun x hx=>h x (by simp[hx])
  have b:=h v (by simp)
  simp only[zl82,zl6]
  omega
def adp:∀(W ws:List Int) (k:Int),W.length=ws.length→0≤k→k<ws.sum→JO W ws k∈W
 | [],[],k,_,h0,h=>by simp at h;omega
 |w::W,v::ws,k,hl,h0,h=>by
  unfold JO
  split
  ·simp
  ·have:=adp W ws (k-v) (by simpa using hl) (by omega) (by simp only[zl82] at h;omega)
   simp[this]
def sum_at (ws:List Int)(i:Nat)(hi:i<ws.length):(ws.drop i).sum=ws.getD i 0+(ws.drop (i+1)).sum:=by
 rw[zl109 hi,zl82,Pc.getD_eq _ _ _ hi]
def win_at (W ws:List Int)(i:Nat)(hi:i<ws.length)(hl:W.length=ws.length)(k:Int):JO (W.drop i) (ws.drop i) k=if k<ws.getD i 0 then W.getD i 0 else JO (W.drop (i+1)) (ws.drop (i+1)) (k-ws.getD i 0):=by
 rw[zl109 hi,zl109 (show i<W.length by omega),JO,Pc.getD_eq _ _ _ hi,Pc.getD_eq _ _ _ (show i<W.length by omega)]
def sumS (p:gv.D){c z:Nat}(I:Lx p c z)(id:Int):Comes JC (((0:Int),(),(0:Int),id),p) (((),p.2.2.2.1.sum,id),p):=by
 have hm:=I.m
 have hn:=I.n
 have:=A_ (r:=JC) (st:=fun i=>(((i:Int),(),(p.2.2.2.1.take i).sum,id),p)) (n:=p.2.2.2.1.length) (y:=(((),p.2.2.2.1.sum,id),p)) (fun i hi=>by
  have b1:=Rw (p.2.2.2.1.take i) fun x hx=>I.wgt x (List.mem_of_mem_take hx)
  have b2:=I.wgt _ (zl96 hi)
  have b3:(p.2.2.2.1.take i).length≤i:=by rw[zl3];omega
  have e1:(p.2.2.2.1.take (i+1)).sum=(p.2.2.2.1.take i).sum+p.2.2.2.1.getD i 0:=by
   rw[zl88 hi,List.sum_append,Pc.getD_eq _ _ _ hi];simp
  have w1:=zw (i:=i)
  have w2:IntKind.wrap .i64 ((p.2.2.2.1.take i).sum+p.2.2.2.1.getD i 0)=(p.2.2.2.1.take i).sum+p.2.2.2.1.getD i 0:=by
   rw[Pc.getD_eq _ _ _ hi,Pc.wrap64]<;>omega
  simp only[JC,gl hi,g0,zl94,zU,zl92,dW,w1,w2,e1]) (by simp only[JC,lnE,pO,zl102]) 0 (lB _)
 exact this
def winS (p:gv.D){c z:Nat}(I:Lx p c z):∀d i:Nat,i+d=p.2.2.2.1.length→∀k:Int,0≤k→k<(p.2.2.2.1.drop i).sum→Comes JD (((i:Int),(),k),p) (.inl (JO (p.2.2.1.drop i) (p.2.2.2.1.drop i) k,())):=by
 have hm:=I.m
 have hn:=I.n
 intro d
 induction d with
 |zero=>
  intro i hi k h0 h
  rw[List.drop_eq_nil_of_le (by omega)] at h
  simp at h;omega
 |succ d ih=>
  intro i hi k h0 h
  have hi':i<p.2.2.2.1.length:=by omega
  have hi2:i<p.2.2.1.length:=by omega
  rw[sum_at _ _ hi'] at h
  have b2:=I.wgt _ (zl96 hi')
  have b1:=Rw (p.2.2.2.1.drop (i+1)) fun x hx=>I.wgt x (List.mem_of_mem_drop hx)
  have b3:(p.2.2.2.1.drop (i+1)).length≤3:=by rw[zl4];omega
  have eg:=Pc.getD_eq p.2.2.2.1 i 0 hi'
  rw[win_at _ _ _ hi' (by omega)]
  have w1:=zw (i:=i)
  by_cases hk:k<p.2.2.2.1.getD i 0
  ·rw[bQ hk]
   refine .out ?_
   simp only[JD,gl hi',gl hi2,g0,zl94,zU,zl92,dW,zl86 hk]
  ·rw[cT hk]
   have w2:IntKind.wrap .i64 (k-p.2.2.2.1.getD i 0)=k-p.2.2.2.1.getD i 0:=by rw[eg,Pc.wrap64]<;>omega
   refine .again (x':=((((i+1:Nat):Int),(),k-p.2.2.2.1.getD i 0),p)) ?_ (ih (i+1) (by omega) _ (by omega) (by omega))
   simp only[JD,gl hi',g0,zl94,zU,zl92,dW,pO,zl90 hk,w1,w2]
def JN (p:gv.D)(id:Nat):Int:=JO p.2.2.1 p.2.2.2.1 (BT (qe id) p.2.2.2.1.sum.toNat)
def CN (p:gv.D)(c id:Nat):List Int:=if id<c then [(id:Int)] else Ho (JN p id).toNat id
def ado {p:gv.D}{c z:Nat}(I:Lx p c z)(id:Nat):(0≤(BT (qe id) p.2.2.2.1.sum.toNat:Int)∧(BT (qe id) p.2.2.2.1.sum.toNat:Int)<p.2.2.2.1.sum)∧0<p.2.2.2.1.sum.toNat∧p.2.2.2.1.sum.toNat≤297∧∃w:Nat,JN p id=(w:Int)∧1≤w∧w≤c:=by
 have hm:=I.m
 have hn:=I.n
 have b:=Rw p.2.2.2.1 I.wgt
 have h:=Kn (qe id) p.2.2.2.1.sum.toNat (by omega)
 have hw:=adp p.2.2.1 p.2.2.2.1 (BT (qe id) p.2.2.2.1.sum.toNat) (by omega) (by omega) (by omega)
 have:=I.win _ hw
 exact⟨⟨by omega,by omega⟩,by omega,by omega,(JN p id).toNat,by unfold JN;omega,by unfold JN;omega,by unfold JN;omega⟩
def rowP_C {p:gv.D}{c z:Nat}(I:Lx p c z)(id:Nat):Cl (CN p c id) c∧CN p c id ≠ []:=by
 obtain⟨_,_,_,w,e,h1,h2⟩:=ado I id
 unfold CN
 split
 ·exact⟨⟨fun x hx=>by simp at hx;omega,by simp⟩,by simp⟩
 ·rw[e,zl94]
  refine⟨⟨fun x hx=>?_,acF h1⟩,fun h=>?_⟩
  ·have:=acH h1 hx;omega
  ·have:=(acG (c:=w) (seed:=id) h1).1
   rw[h] at this;simp at this
def ajl {p:gv.D}{c z:Nat}(I:Lx p c z)(id:Nat)(hid:id≤9999):Fx (p,(id:Int))=some (CN p c id,()):=by
 have ec:=Pc.MX p I.long (by have:=I.size;omega)
 rw[I.cnt] at ec
 obtain⟨⟨k0,k1⟩,s0,s1,w,e,h1,h2⟩:=ado I id
 have hc:=I.c1
 unfold CN
 by_cases hcc:id<c
 ·simp only[Fx,ec,zov ec,Fk,zU,dW,zdt (p:=(id:Int)<(c:Int)),bQ hcc]
 ·have n1:=O0 id (by omega)
  have sl:=MU id
  have p1:=O1 (qe id) p.2.2.2.1.sum.toNat sl s0
  have c1:=sumS p I (id:Int)
  have c2:=winS p I p.2.2.2.1.length 0 (by omega) (BT (qe id) p.2.2.2.1.sum.toNat) k0 k1
  have er:=ac0 w id h1 (by omega) (by omega)
  have es:((p.2.2.2.1.sum.toNat:Nat):Int)=p.2.2.2.1.sum:=by omega
  rw[es] at p1
  unfold JN at e
  rw[zl84,zl84,e] at c2
  have ew:Hh (p,(id:Int))=some ((w:Int),()):=by
   have c2':Comes JD (((0:Int),(),(BT (qe id) p.2.2.2.1.sum.toNat:Int)),p) (.inl ((w:Int),())):=c2
   simp only[Hh,cb c1,cv c1,n1,zov n1,p1,zov p1,Ax,cb c2',cv c2',sumC]
  unfold JN
  simp only[Fx,ec,zov ec,ew,zov ew,er,zov er,Ax,pO,zdf (p:=(id:Int)<(c:Int)),cT hcc,e,zl94]
open Pl
def gx {i n:Nat}(h:i<n):decide ((i:Int)<(n:Int))=true:=zdt
def gn {i n:Nat}(h:¬i<n):decide ((i:Int)<(n:Int))=false:=zdf
def akL (a b:List Int)(ha:a.length≤1000)(hb:b.length≤1000):∀d i k:Nat,∀ls:List Int,(a.length-i)+(b.length-k)≤d→i≤a.length→k≤b.length→ls.length≤i+k →
  Comes Gc (((i:Int),a,(),(k:Int),b),ls) ((),ls++Dr (a.drop i) (b.drop k)):=by
 intro d
 induction d with
 |zero=>
  intro i k ls hd hi hk hl
  have e1:i=a.length:=by omega
  have e2:k=b.length:=by omega
  subst e1 e2
  refine .out ?_
  simp only[Gc,lnE,pO,List.drop_length,Dr,jM]
 |succ d ih=>
  intro i k ls hd hi hk hl
  have w1:=zw (i:=i)
  have w2:=zw (i:=k)
  have lm:decide (ls.length+1≤eV)=true:=zl86 (by unfold eV;omega)
  by_cases hia:i<a.length
  ·have ga:decide ((i:Int)≥(a.length:Int))=false:=zdf
   have da:=zl109 hia
   have ea:=Pc.getD_eq a i 0 hia
   by_cases hkb:k<b.length
   ·have gb:decide ((k:Int)≥(b.length:Int))=false:=zdf
    have db:=zl109 hkb
    have eb:=Pc.getD_eq b k 0 hkb
    rw[da,db,Dr]
    by_cases h1:a[i]<b[k]
    ·rw[bQ h1]
     refine .again (x':=((((i+1:Nat):Int),a,(),(k:Int),b),ls ++ [a[i]])) ?_ ?_
     ·simp only[Gc,gx hia,gx hkb,gb,g0,ea,eb,zl94,zl86 h1,lm,w1,zU,zl98,zl70,zl92,zl99,dW,pO]
     ·have:=ih (i+1) k (ls ++ [a[i]]) (by omega) (by omega) hk (by rw[eY];simp;omega)
      rw[cZ,db] at this
      exact this
    ·rw[cT h1]
     by_cases h2:b[k]<a[i]
     ·rw[bQ h2]
      refine .again (x':=(((i:Int),a,(),((k+1:Nat):Int),b),ls ++ [b[k]])) ?_ ?_
      ·simp only[Gc,gx hia,gx hkb,ga,gb,g0,ea,eb,zl94,zl90 h1,zl86 h2,lm,w2,zU,zl98,zl70,zl92,zl99,dW,pO]
      ·have:=ih i (k+1) (ls ++ [b[k]]) (by omega) hi (by omega) (by rw[eY];simp;omega)
       rw[cZ,da] at this
       exact this
     ·rw[cT h2]
      have:=ih (i+1) (k+1) ls (by omega) (by omega) (by omega) (by omega)
      refine .again (x':=((((i+1:Nat):Int),a,(),((k+1:Nat):Int),b),ls)) ?_ this
      simp only[Gc,gx hia,gx hkb,ga,gb,g0,ea,eb,zl94,zl90 h1,zl90 h2,w1,w2,zU,zl98,zl70,zl92,zl99,dW,pO]
   ·have gb:decide ((k:Int)≥(b.length:Int))=true:=zdt
    have db:b.drop k = []:=List.drop_eq_nil_of_le (by omega)
    rw[da,db,YR]
    refine .again (x':=((((i+1:Nat):Int),a,(),(k:Int),b),ls ++ [a[i]])) ?_ ?_
    ·simp only[Gc,gx hia,gn hkb,gb,g0,ea,zl94,lm,w1,zU,zl70,zl98,zl74,zl76,zl92,dW]
    ·have:=ih (i+1) k (ls ++ [a[i]]) (by omega) (by omega) hk (by rw[eY];simp;omega)
     rw[cZ,db,YR] at this
     exact this
  ·have ga:decide ((i:Int)≥(a.length:Int))=true:=zdt
   by_cases hkn:¬k<b.length
   ·have e1:i=a.length:=by omega
    have e2:k=b.length:=by omega
    subst e1 e2
    refine .out ?_
    simp only[Gc,lnE,pO,List.drop_length,Dr,jM]
   ·have hkb:k<b.length:=by omega
    have gb:decide ((k:Int)≥(b.length:Int))=false:=zdf
    have db:=zl109 hkb
    have eb:=Pc.getD_eq b k 0 hkb
    have da:a.drop i = []:=List.drop_eq_nil_of_le (by omega)
    rw[da,db,Dr]
    refine .again (x':=(((i:Int),a,(),((k+1:Nat):Int),b),ls ++ [b[k]])) ?_ ?_
    ·simp only[Gc,gn hia,gx hkb,ga,gb,g0,eb,zl94,lm,w2,zU,zl98,zl70,zl93,zl76,zl92,zl99,dW,pO]
    ·have:=ih i (k+1) (ls ++ [b[k]]) (by omega) hi (by omega) (by rw[eY];simp;omega)
     rw[cZ,da,Dr] at this
     exact this
def adu {a b:List Int}(ha:Fc a)(hb:Fc b):Im (a,b)=some (D3 a b,()):=by
 have la:=Ud ha
 have lb:=Ud hb
 have c:Comes Gc (((0:Int),a,(),(0:Int),b),[]) ((),D3 a b):=by
  have:=akL a b (by omega) (by omega) _ 0 0 [] (bA _) (by omega) (by omega) (by simp)
  rw[zl84,zl84,agN ha hb,zl17] at this
  exact this
 simp only[Im,cb c,cv c,dW,ia]
open Pl
def hasS {r:List Int}(h:r.length≤1000)(x:Int):EH (r,x)=some (decide (x∈r),()):=by
 rw[Pc.ac8 r x (by omega)]
 congr 2
 rw[zl105,mS]
 exact XV
structure Ly (L:List ic) (c z:Nat):Prop where
 c1:1≤c∧c≤24
 z1:1≤z∧z≤16
 eqs:Hw L c z
def OR {r:List Int}{c:Nat}(hc:c≤24)(h:Cl r c):r.length≤24:=Ud (h.i hc)
def Qs {r:List Int}(h:r ≠ []):decide ((0:Int)<(r.length:Int))=true:=zl86 (by
 have:r.length≠0:=fun e=>h (List.eq_nil_of_length_eq_zero e)
 omega)
def aja {M:List ic}{c s:Nat}(hc:c≤24)(hM:∀f∈M,Cl f.1 c){e:ic}(he:Dh e c s):Dh (th M e) c s:=by
 induction M generalizing e with
 |nil=>exact he
 |cons f M ih=>exact ih (fun g hg=>hM g (by simp[hg])) (Qa hc he (hM f (by simp)))
def afJ (M:List ic)(f e:ic):th (M ++ [f]) e=HN (th M e) f:=by simp[th]
def afK (L:List ic)(i:Nat)(hi:i<L.length)(e:ic):th (L.take (i+1)) e=HN (th (L.take i) e) (L.getD i zE):=by
 rw[zl88 hi,afJ,Pc.getD_eq _ _ _ hi]
def afH {L:List ic}{c z:Nat}(I:Ly L c z){e:ic}(he:Dh e c z):KJ (((c:Int),(z:Int),L,()),e)=some (th L e,()):=by
 have hc:=I.c1.2
 have hL:=NG I.eqs
 have hr:∀i,Dh (th (L.take i) e) c z:=fun i=>aja hc (fun f hf=>(I.eqs.row f (List.mem_of_mem_take hf)).1) he
 have q:=A_ (r:=KK) (st:=fun i=>(((i:Int),(),(),()),th (L.take i) e,((c:Int),(z:Int),L,()),((),[],()),[])) (n:=L.length) (y:=(((),()),((),[],()),th L e,[])) (fun i hi=>by
  have hm:L.getD i zE∈L:=by rw[Pc.getD_eq _ _ _ hi];exact zl96 hi
  have wr:=zw (i:=i)
  have f1:=I.eqs.row _ hm
  have f2:=I.eqs.dat _ hm
  have e1:=hr i
  have le:=OR hc e1.row
  rw[afK L i hi]
  generalize th (L.take i) e=g at *
  have h:=hasS (r:=g.1) (by omega) (pv (L.getD i zE))
  unfold HN
  unfold zE at *
  unfold pv at h ⊢
  generalize hg:List.getD L i (([]:List Int),([]:List UInt8),())=f at *
  have nl:=Qs f1.2
  by_cases hx:List.getD f.1 0 0∈g.1
  ·rw[zl86 hx] at h
   have x1:=adu (e1.row.i hc) (f1.1.i hc)
   have x2:=Uh g.2.1 f.2.1 (by rw[e1.dat,f2]) (by rw[e1.dat];have:=I.z1;omega)
   rw[bQ hx]
   simp only[KK,gx hi,g0,zl94,hg,show Int.toNat 0=0 from rfl,h,zov h,nl,x1,zov x1,x2,zov x2,Ax,wr]
  ·rw[zl90 hx] at h
   rw[cT hx]
   simp only[KK,gx hi,g0,zl94,hg,show Int.toNat 0=0 from rfl,h,zov h,nl,Ax,pO,wr]) (by simp only[KK,lnE,pO,zl102,ia]) 0 (lB _)
 have q':Comes KK (((0:Int),(),(),()),e,((c:Int),(z:Int),L,()),((),[],()),[]) (((),()),((),[],()),th L e,[]):=q
 simp only[KJ,cb q',cv q',dW,ia]
open Pl
def lm1 {n:Nat}(h:n≤1000000):decide (n+1≤eV)=true:=zl86 (by unfold eV;omega)
def lm0 {n:Nat}(h:n≤1048576):decide ((0:Nat)+n≤eV)=true:=zl86 (by unfold eV;omega)
def ade (L:List ic)(i:Nat)(hi:i<L.length):L.take i ++ [L.getD i zE]=L.take (i+1):=by
 rw[zl88 hi,Pc.getD_eq _ _ _ hi]
def SmS (L:List ic):Prop:=L.length≤1000000∧∀f∈L,f.1.length≤1048576
def W5 (c z:Int)(L:List ic)(h:SmS L):Jo (c,z,L,())=some ((c,z,L,()),()):=by
 have q:=A_ (r:=Ml) (st:=fun i=>(((i:Int),(),(),()),(c,z,(),()),(c,z,L,()),(0,0,(),()),L.take i,[])) (n:=L.length) (y:=(((),()),(0,0,(),()),(c,z,(),()),[],L)) (fun i hi=>by
  have hm:L.getD i zE∈L:=by rw[Pc.getD_eq _ _ _ hi];exact zl96 hi
  have wr:=AX (show i≤4611686018427387904 by have:=h.1;omega)
  have l1:=lm1 (n:=(L.take i).length) (by rw[zl3];have:=h.1;omega)
  have l2:=lm0 (h.2 _ hm)
  rw[←ade L i hi]
  unfold zE at l2 ⊢
  generalize hg:List.getD L i (([]:List Int),([]:List UInt8),())=f at *
  simp only[Ml,gx hi,g0,zl94,hg,l1,l2,zU,zl92,dW,wr,zl17]) (by simp only[Ml,lnE,pO,zl102]) 0 (lB _)
 have q':Comes Ml (((0:Int),(),(),()),(c,z,(),()),(c,z,L,()),(0,0,(),()),[],[]) (((),()),(0,0,(),()),(c,z,(),()),[],L):=q
 simp only[Jo,cb q',cv q',dW,ia]
def adZ (c z:Int)(L:List ic)(h:SmS L):q10 (c,z,L,())=some ((c,z,L,()),()):=by
 have q:=A_ (r:=L_) (st:=fun i=>(((i:Int),(),L,(),(L.length:Int)),(c,z,(),()),(0,0,(),()),L.take i,[])) (n:=L.length) (y:=(((),()),(0,0,(),()),(c,z,(),()),[],L)) (fun i hi=>by
  have hm:L.getD i zE∈L:=by rw[Pc.getD_eq _ _ _ hi];exact zl96 hi
  have wr:=AX (show i≤4611686018427387904 by have:=h.1;omega)
  have l1:=lm1 (n:=(L.take i).length) (by rw[zl3];have:=h.1;omega)
  have l2:=lm0 (h.2 _ hm)
  rw[←ade L i hi]
  unfold zE at l2 ⊢
  generalize hg:List.getD L i (([]:List Int),([]:List UInt8),())=f at *
  simp only[L_,gx hi,g0,zl94,hg,l1,l2,zU,zl92,dW,wr,zl17]) (by simp only[L_,lnE,pO,zl102]) 0 (lB _)
 have q':Comes L_ (((0:Int),(),L,(),(L.length:Int)),(c,z,(),()),(0,0,(),()),[],[]) (((),()),(0,0,(),()),(c,z,(),()),[],L):=q
 simp only[q10,cb q',cv q',dW,ia]
structure JS (L:List ic) (c z:Nat) (e:ic):Prop where
 s:Ly L c z
 r:Dh e c z
 ne:e.1 ≠ []
 np:∀f∈L,pv f∉e.1
def JS.at {L:List ic}{c z:Nat}{e:ic}(A:JS L c z e){i:Nat}(hi:i<L.length):pv (z5 e (L.getD i zE))=Ks.pv (L.getD i zE)∧(z5 e (L.getD i zE)).1 ≠ []∧Ks.pv (L.getD i zE)≠Ks.pv e∧(Ks.pv (L.getD i zE)<Ks.pv e↔i<mw L (Ks.pv e)):=by
 have hm:L.getD i zE∈L:=by rw[Pc.getD_eq _ _ _ hi];exact zl96 hi
 have hf:=A.s.eqs.row _ hm
 have h1:=adk A.s.c1.2 A.r.row A.ne hf.1 hf.2 (A.np _ hm)
 obtain⟨t1,t2⟩:=Zu A.s.eqs.Gt (Ks.pv e)
 refine⟨h1.1,h1.2,fun h=>A.np _ hm (h▸G2 A.ne),?_⟩
 constructor
 ·intro h
  refine Classical.byContradiction fun hn=>?_
  refine t2 (L.getD i zE) ?_ h
  rw[Pc.getD_eq _ _ _ hi,List.mem_drop_iff_getElem]
  exact⟨i-mw L (Ks.pv e),by omega,by congr 1;omega⟩
 ·intro h
  refine t1 (L.getD i zE) ?_
  rw[Pc.getD_eq _ _ _ hi,List.mem_take_iff_getElem]
  exact⟨i,by omega,rfl⟩
def Cp (L:List ic)(e:ic)(i:Nat):List ic:=if i≤mw L (pv e) then(L.map (z5 e)).take i else(L.map (z5 e)).take (mw L (pv e))++e::((L.map (z5 e)).take i).drop (mw L (pv e))
def Us (L:List ic)(e:ic)(i:Nat)(hi:i<L.length):(L.map (z5 e)).take (i+1)=(L.map (z5 e)).take i ++ [z5 e (L.getD i zE)]:=by
 rw[zl88 (by simpa using hi),List.getElem_map,Pc.getD_eq _ _ _ hi]
def out_lt {L:List ic}{e:ic}{i:Nat}(hi:i<L.length)(h:i<mw L (pv e)):Cp L e (i+1)=Cp L e i ++ [z5 e (L.getD i zE)]:=by
 unfold Cp
 rw[bQ (by omega),bQ (by omega),Us _ _ _ hi]
def out_eq {L:List ic}{e:ic}{i:Nat}(hi:i<L.length)(h:i=mw L (pv e)):Cp L e (i+1)=Cp L e i ++ [e] ++ [z5 e (L.getD i zE)]:=by
 unfold Cp
 rw[cT (by omega),bQ (by omega),Us _ _ _ hi,←h,List.drop_append_of_le_length (by rw[zl3,List.length_map];omega)]
 rw[show List.drop i (List.take i (List.map (z5 e) L)) = [] from List.drop_eq_nil_of_le (by rw[zl3];omega)]
 simp
def out_gt {L:List ic}{e:ic}{i:Nat}(hi:i<L.length)(h:mw L (pv e)<i):Cp L e (i+1)=Cp L e i ++ [z5 e (L.getD i zE)]:=by
 unfold Cp
 rw[cT (by omega),cT (by omega),Us _ _ _ hi,List.drop_append_of_le_length (by rw[zl3,List.length_map];omega)]
 simp
def Y8 (L:List ic)(e:ic)(i:Nat):(Cp L e i).length≤i+1:=by
 unfold Cp
 split
 ·rw[zl3];omega
 ·rw[eY,zl6,zl4,zl3,zl3];omega
def ag2 (L:List ic)(e:ic):xb L e=if mw L (pv e)<L.length then Cp L e L.length else Cp L e L.length ++ [e]:=by
 have hp:=Ov L (pv e)
 have ht:(L.map (z5 e)).take L.length=L.map (z5 e):=zl57 (by simp)
 unfold xb Cp
 by_cases h:mw L (pv e)<L.length
 ·rw[bQ h,cT (by omega),ht]
 ·have:mw L (pv e)=L.length:=by omega
  rw[cT h,bQ (by omega),this,ht,List.drop_eq_nil_of_le (by simp)]
open Pl
def W3 {a b:Int}(h:a<b):decide (a>b)=false:=zdf
def W0 {a b:Int}(h:¬a<b)(hn:a≠b):decide (a>b)=true:=zdt
structure AtI (L:List ic) (c z:Nat) (e f:ic):Prop where
 row:Cl f.1 c∧f.1 ≠ []
 dat:f.2.1.length=z
 p1:pv (z5 e f)=pv f
 ne:(z5 e f).1 ≠ []
def JS.Cr {L:List ic}{c z:Nat}{e:ic}(A:JS L c z e){i:Nat}(hi:i<L.length):AtI L c z e (L.getD i zE):=by
 have hm:L.getD i zE∈L:=by rw[Pc.getD_eq _ _ _ hi];exact zl96 hi
 obtain⟨h1,h2,_⟩:=A.at hi
 exact⟨A.s.eqs.row _ hm,A.s.eqs.dat _ hm,h1,h2⟩
def adx {L:List ic}{c z:Nat}{e:ic}(A:JS L c z e) :
  Comes Gd (((0:Int),(),(),false,(),()),((c:Int),(z:Int),(),()),e,((c:Int),(z:Int),(),()),((0:Int),(0:Int),(),()),[],L,[])
   (((),(),(),decide (mw L (pv e)<L.length)),((0:Int),(0:Int),(),()),((c:Int),(z:Int),(),()),e,[],Cp L e L.length):=by
 have hc:=A.s.c1.2
 have hL:=NG A.s.eqs
 have q:=A_ (r:=Gd) (st:=fun i=>(((i:Int),(),(),decide (mw L (pv e)<i),(),()),((c:Int),(z:Int),(),()),e,((c:Int),(z:Int),(),()),((0:Int),(0:Int),(),()),Cp L e i,L,[])) (n:=L.length) (y:=(((),(),(),decide (mw L (pv e)<L.length)),((0:Int),(0:Int),(),()),((c:Int),(z:Int),(),()),e,[],Cp L e L.length)) (fun i hi=>by
  have B:=A.Cr hi
  obtain⟨_,_,a3,a4⟩:=A.at hi
  have wr:=zw (i:=i)
  have ol:=Y8 L e i
  have l1:=lm1 (n:=(Cp L e i).length) (by omega)
  have l2:=lm1 (n:=(Cp L e i ++ [e]).length) (by rw[eY];simp;omega)
  have he:=Qs A.ne
  have e3:=out_lt (L:=L) (e:=e) hi
  have e4:=out_eq (L:=L) (e:=e) hi
  have e5:=out_gt (L:=L) (e:=e) hi
  have nl:=Qs B.ne
  have fl:=Qs B.row.2
  have h:=hasS (r:=(L.getD i zE).1) (by have:=OR hc B.row.1;omega) (pv e)
  have x1:=adu (B.row.1.i hc) (A.r.row.i hc)
  have x2:=Uh (L.getD i zE).2.1 e.2.1 (by rw[B.dat,A.r.dat]) (by rw[B.dat];have:=A.s.z1;omega)
  have bp:=B.p1
  have ex:List.getD e.1 0 0=pv e:=rfl
  have ef:List.getD (L.getD i zE).1 0 0=pv (L.getD i zE):=rfl
  have eu:List.getD (z5 e (L.getD i zE)).1 0 0=pv (z5 e (L.getD i zE)):=rfl
  have key:∀(D:Bool) (O:List ic),(decide (mw L (pv e)<i)=D)→Cp L e (i+1)=O→True:=fun _ _ _ _=>trivial
  clear key
  unfold z5 at *
  unfold zE at *
  generalize hg:List.getD L i (([]:List Int),([]:List UInt8),())=f at *
  generalize hp:pv e=p at *
  have big:(decide (mw L p<i)=true∧decide (mw L p<i+1)=true∧mw L p<i)∨(decide (mw L p<i)=false∧decide (mw L p<i+1)=true∧i=mw L p)∨(decide (mw L p<i)=false∧decide (mw L p<i+1)=false∧i<mw L p):=by
   rcases Nat.lt_trichotomy i (mw L p) with h1|h1|h1
   ·exact .inr (.inr ⟨zdf,zdf,h1⟩)
   ·exact .inr (.inl ⟨zdf,zdt,h1⟩)
   ·exact .inl ⟨zl86 h1,zdt,h1⟩
  by_cases hx:p∈f.1
  ·rw[zl86 hx] at h
   rw[bQ hx] at e3 e4 e5 bp eu nl
   simp only at eu nl
   rw[bp] at eu
   rcases big with⟨d1,d2,d3⟩|⟨d1,d2,d3⟩|⟨d1,d2,d3⟩
   ·rw[d1,d2,e5 d3]
    simp only[Gd,gx hi,g0,zl94,hg,show Int.toNat 0=0 from rfl,ex,h,zov h,he,x1,zov x1,x2,zov x2,l1,Ax,zl70,zl98,zl76,pO,wr]
   ·have c1:=W0 (fun q=>by have:=a4.1 q;omega) a3
    rw[d1,d2,e4 d3]
    simp only[Gd,gx hi,g0,zl94,hg,show Int.toNat 0=0 from rfl,ex,h,zov h,he,nl,x1,zov x1,x2,zov x2,eu,c1,l1,l2,Ax,zl70,zl98,zl99,wr,show decide ((0:Int)≤0)=true from rfl]
   ·have c1:=W3 (a4.2 d3)
    rw[d1,d2,e3 d3]
    simp only[Gd,gx hi,g0,zl94,hg,show Int.toNat 0=0 from rfl,ex,h,zov h,he,nl,x1,zov x1,x2,zov x2,eu,c1,l1,Ax,zl70,zl98,zl99,pO,wr,show decide ((0:Int)≤0)=true from rfl]
  ·rw[zl90 hx] at h
   rw[cT hx] at e3 e4 e5 bp eu nl
   rcases big with⟨d1,d2,d3⟩|⟨d1,d2,d3⟩|⟨d1,d2,d3⟩
   ·rw[d1,d2,e5 d3]
    simp only[Gd,gx hi,g0,zl94,hg,show Int.toNat 0=0 from rfl,ex,h,zov h,he,l1,Ax,zl70,zl98,zl76,pO,wr]
   ·have c1:=W0 (fun q=>by have:=a4.1 q;omega) a3
    rw[d1,d2,e4 d3]
    simp only[Gd,gx hi,g0,zl94,hg,show Int.toNat 0=0 from rfl,ex,h,zov h,he,fl,ef,c1,l1,l2,Ax,zl70,zl98,zl99,pO,wr,show decide ((0:Int)≤0)=true from rfl]
   ·have c1:=W3 (a4.2 d3)
    rw[d1,d2,e3 d3]
    simp only[Gd,gx hi,g0,zl94,hg,show Int.toNat 0=0 from rfl,ex,h,zov h,he,fl,ef,c1,l1,Ax,zl70,zl98,zl99,pO,wr,show decide ((0:Int)≤0)=true from rfl]) (by simp only[Gd,lnE,pO,ia]) 0 (lB _)
 have e0:Cp L e 0 = []:=by unfold Cp;rw[bQ (lB _)];rfl
 rw[e0] at q
 exact q
open Pl
def Pr (c z:Nat)(L:List ic)(row:List Int)(data:List UInt8):ei.D×Int:=
 if(th L (row,data,())).1 = [] then(((c:Int),(z:Int),L,()),if(th L (row,data,())).2.1=List.replicate z 0 then 1 else 2)
 else(((c:Int),(z:Int),xb L (th L (row,data,())),()),0)
def ajt {L:List ic}{c z:Nat}(I:Ly L c z):SmS L:=by
 have:=NG I.eqs
 have:=I.c1
 exact⟨by omega,fun f hf=>by have:=OR I.c1.2 (I.eqs.row f hf).1;omega⟩
def Yk {L:List ic}{c z:Nat}(I:Ly L c z){e:ic}(he:Dh e c z)(hn:(th L e).1 ≠ []):JS L c z (th L e):=
 ⟨I,S4 I.c1.2 I.eqs e he,hn,afI I.c1.2 I.eqs he⟩
def ady {L:List ic}{c z:Nat}(I:Ly L c z){row:List Int}{data:List UInt8}(hr:Cl row c)(hd:data.length=z):He (((c:Int),(z:Int),L,()),row,data)=some (Pr c z L row data,()):=by
 have he:Dh (row,data,()) c z:=⟨hr,hd⟩
 have a:=afH I he
 have b:=W5 (c:Int) (z:Int) L (ajt I)
 have l0:=lm0 (n:=row.length) (by have:=OR I.c1.2 hr;omega)
 have zz:=ac4 z (by have:=I.z1;omega)
 have le:=(S4 I.c1.2 I.eqs _ he)
 unfold Pr
 have al:∀hn:(th L (row,data,())).1 ≠ [],JS L c z (th L (row,data,())):=fun hn=>Yk I he hn
 generalize th L (row,data,())=e at *
 by_cases hn:e.1 = []
 ·rw[bQ hn]
  have h0:((e.1.length:Int)==(0:Int))=true:=by rw[hn];rfl
  by_cases hz:e.2.1=List.replicate z 0
  ·have hb:(e.2.1==List.replicate z 0)=true:=zl78.2 hz
   rw[bQ hz]
   simp only[He,zl17,a,zov a,b,zov b,l0,h0,zz,zov zz,hb,Ax]
  ·have hb:(e.2.1==List.replicate z 0)=false:=zl89.2 hz
   rw[cT hz]
   simp only[He,zl17,a,zov a,b,zov b,l0,h0,zz,zov zz,hb,Ax,pO]
 ·rw[cT hn]
  have h0:((e.1.length:Int)==(0:Int))=false:=zl89.2 (fun q=>hn (List.eq_nil_of_length_eq_zero (by omega)))
  have cm:=adx (al hn)
  have l2:=lm1 (n:=(Cp L e L.length).length) (by have:=Y8 L e L.length;have:=NG I.eqs;have:=I.c1;omega)
  rw[ag2 L e]
  by_cases hp:mw L (pv e)<L.length
  ·rw[zl86 hp] at cm
   rw[bQ hp]
   simp only[He,zl17,a,zov a,b,zov b,l0,h0,cb cm,cv cm,Ax,zl70,pO]
  ·rw[zl90 hp] at cm
   rw[cT hp]
   simp only[He,zl17,a,zov a,b,zov b,l0,h0,cb cm,cv cm,l2,Ax,zl98,pO]
end Ks
open Go Go.Ab Go.Lib
namespace Pl
def Zm:∀{R M:List Int},R.Nodup→(∀x∈R,x∈M)→R.length≤M.length
 | [],_,_,_=>by simp
 |a::R,M,h,k=>by
  obtain⟨h1,h2⟩:=dN.1 h
  have ha:=k a (by simp)
  have:=Zm (R:=R) (M:=M.erase a) h2 fun x hx=>by
   have hne:x≠a:=by rintro rfl;exact h1 hx
   exact(List.mem_erase_of_ne hne).2 (k x (by simp[hx]))
  rw[List.length_erase_of_mem ha] at this
  have:=List.length_pos_of_mem ha
  simp only[zl6];omega
def GI.sm {g:nT.D}(I:GI g):Pc.GB g:=⟨⟨by have:=I.p3;omega,by have:=I.p4;omega⟩,by have:=I.s3;omega,fun x hx=>by have:=(I.row x hx).1;omega⟩
def CI.ok {c:bm.D}(I:CI c):Eh c=some (Pc.Bk c,()):=Pc.ajW c I.g.sm (by have:=I.name;omega)
abbrev zG:nT.D:=(((0:Int),(0:Int),[],[],()),((0:Int),(0:Int),[],()),())
def Lw:GI zG:=⟨by simp,by simp,by simp,by simp⟩
abbrev Gz:bm.D:=((0:Int),(0:Int),(0:Int),[],(0:Int),zG,())
def Yi {p:gv.D}(h3:p.2.2.1.length≤1048576)(h4:p.2.2.2.1.length≤1048576):Ie p=some (p,()):=by
 simp only[Ie,zU,Lf h3,Lf h4,dW,zl17]
def Yh {g:nT.D}(I:GI g):KL g=some (g,()):=by
 have a:=Yi I.p3 I.p4
 have b:=Ks.W5 g.2.1.1 g.2.1.2.1 g.2.1.2.2.1 ⟨I.s3,fun f hf=>(I.row f hf).1⟩
 simp only[KL,a,zov a,b,zov b,qu,zU,zl92,dW]
def NU {c:bm.D}(I:CI c):Rt (F3 c) (fun y=>CI y.1∧(Pc.Bk c=true→y.1=c)):=by
 unfold F3
 refine Rt.bif (fun _=>Rt.call (P:=fun y=>y=(c.2.2.2.2.2.1,())) ⟨_,Yh I.g,rfl⟩ fun y hy=>?_) fun h0=>Rt.ok ⟨⟨I.name,Lw⟩,fun ok=>?_⟩
 ·subst hy
  exact Rt.ok ⟨I,fun _=>rfl⟩
 ·unfold Pc.Bk at ok
  simp only[bB,mS] at ok
  obtain⟨⟨⟨⟨⟨_,_⟩,_⟩,h4⟩,h5⟩,_⟩:=ok
  have e0:c.2.2.2.2.1=0:=by simp at h0;omega
  rw[e0] at h5
  have h5:Pc.GX c.2.2.2.2.2.1=true:=h5
  obtain⟨a,b,d,nm,e,⟨⟨p1,p2,p3,p4,pu⟩,⟨s1,s2,s3,su⟩,gu⟩,u⟩:=c
  simp only[Pc.GX,bB,zl78] at h5
  obtain⟨⟨⟨⟨⟨⟨q1,q2⟩,q3⟩,q4⟩,q5⟩,q6⟩,q7⟩:=h5
  obtain rfl:p3 = []:=List.eq_nil_of_length_eq_zero (by omega)
  obtain rfl:p4 = []:=List.eq_nil_of_length_eq_zero (by omega)
  obtain rfl:s3 = []:=List.eq_nil_of_length_eq_zero (by omega)
  subst q1 q2 q5 q6
  rfl
def ahk {s:ei.D}(h:s.2.2.1.length≤1000000)(hs:∀x∈s.2.2.1,x.1.length≤1048576):Rt (q86 s) (fun _=>True):=by
 have hm:Pc.Fe s:=⟨by omega,fun x hx=>by have:=hs x hx;omega⟩
 unfold q86
 refine Rt.loop (P:=fun _=>True) (DO (n:=s.2.2.1.length+1) (I:=fun i x=>x=(((i:Int),()),s)∧∀k:Nat,k<i→(Pc.Cu s (k:Int)).2=true) ?_ ?_ 0 _ (lB _) ⟨rfl,by omega⟩) fun _ _=>Rt.ok trivial
 ·rintro i _ hi ⟨rfl,hk⟩
  have e:=Pc.aj4 s hm (i:Int)
  cases hg:(Pc.Cu s (i:Int)).2 with
  |true=>exact .inl ⟨_,by simp only[Q5,e,zov e,hg,qu,dW,zl70,pO,zw (i:=i),ia],rfl,fun k hk'=>by
   by_cases hki:k<i
   ·exact hk k hki
   ·rw[show k=i by omega];exact hg⟩
  |false=>exact .inr ⟨((i:Int),()),by simp only[Q5,e,zov e,hg,qu,dW,zl98,ia],trivial⟩
 ·rintro _ ⟨rfl,hk⟩
  exfalso
  have hmem:∀x∈(List.range (s.2.2.1.length+1)).map (fun k:Nat=>(k:Int)),x∈s.2.2.1.map fun f=>f.1.getD 0 0:=by
   intro x hx
   obtain⟨k,hk1,rfl⟩:=gG.1 hx
   have hg:=hk k (List.mem_range.1 hk1)
   unfold Pc.Cu at hg
   split at hg
   ·rename_i hlt
    have dJ:=Pc.XS hlt
    unfold Pc.Es at dJ
    simp only[bB] at dJ
    refine gG.2 ⟨Pc.fN s (Pc.BZ s k),?_,zl79 dJ.2⟩
    unfold Pc.fN
    rw[getD_eq _ _ _ hlt]
    exact zl96 _
   ·cases hg
  have:=Zm (List.pairwise_map.2 (List.Pairwise.imp (fun h e=>h (by omega)) List.nodup_range)) hmem
  simp only[List.length_map,List.length_range] at this
  omega
def UC {g:nT.D}(I:GI g):Rt (q58 g) (fun _=>True):=by
 have h3:=I.p3
 unfold q58
 refine Rt.call (ahk I.s3 fun x hx=>(I.row x hx).1) fun y _=>?_
 refine Rt.loop (P:=fun _=>True) (DO (n:=g.1.2.2.1.length) (I:=fun i x=>x=(((i:Int),y.1,()),g)) ?_ ?_ 0 _ (lB _) rfl) fun _ _=>Rt.ok trivial
 ·rintro i _ hi rfl
  simp only[QY,gl hi,g0,zU,zl99,zl92,dW,zw (i:=i)]
  cases decide (List.getD g.1.2.2.1 (Int.toNat (i:Int)) 0≤y.1)
  ·exact .inr ⟨_,rfl,trivial⟩
  ·exact .inl ⟨_,rfl,rfl⟩
 ·rintro _ rfl
  have d1:decide ((g.1.2.2.1.length:Int)<(g.1.2.2.1.length:Int))=false:=zdf
  exact⟨((g.1.2.2.1.length:Int),()),by simp only[QY,d1,pO,zU,zl98,zl76,zl92,dW],trivial⟩
def add_rt {g:nT.D}(I:GI g)(id:Int)(d:List UInt8):Rt (Mh (g,id,d)) (fun y=>GI y.1.1):=by
 have e0:=Pc.Ui g I.sm
 unfold Mh
 refine Rt.call (P:=fun y=>y.1=Pc.Da g) ⟨_,e0,rfl⟩ fun y hy=>Rt.bif (fun _=>Rt.ok Lw) fun hc=>?_
 rw[hy] at hc
 have ok:Pc.Da g=true:=by simpa using hc
 refine Rt.call (P:=fun y=>y=(g,())) ⟨_,Yh I,rfl⟩ fun y hy=>?_
 subst hy
 refine Rt.val (P:=fun y=>y.1=m6 id 0 9999) ⟨_,B4 _ _ _,rfl⟩ fun y hy e1=>Rt.all (by simp only[e1,qu,zU]) (Rt.bif (fun _=>Rt.ok I) fun hc=>?_)
 rw[hy] at hc
 obtain⟨o1,o2,o3,o4⟩:=Pc.PW ok
 obtain⟨⟨p1,p2,W,ws,pu⟩,⟨cn,z,L,su⟩,u⟩:=g
 have hi:0≤id∧id≤9999:=by
  cases hb:m6 id 0 9999 with
  |true=>exact zl79 hb
  |false=>rw[hb] at hc;cases hc
 have hd:(d.length:Int)=z:=by
  rw[show m6 id 0 9999=true from zl86 hi] at hc
  have o4:z=p2:=o4
  simp at hc
  omega
 obtain⟨c1,z1,E⟩:=Ks.ok_I (L:=L) (c:=cn) (z:=z) o2
 have PI_:=Ks.plan_I o1
 have o3:cn=Pc.cnt (p1,p2,W,ws,pu):=o3
 obtain⟨n,rfl⟩:=Int.eq_ofNat_of_zero_le hi.1
 have e2:=Ks.ajl PI_ n (by omega)
 obtain⟨r1,_⟩:=Ks.rowP_C PI_ n
 generalize Ks.CN (p1,p2,W,ws,pu) (Pc.cnt (p1,p2,W,ws,pu)).toNat n=row at *
 rw[←o3] at r1
 obtain⟨c,rfl⟩:=Int.eq_ofNat_of_zero_le (show 0≤cn by omega)
 obtain⟨s,rfl⟩:=Int.eq_ofNat_of_zero_le (show 0≤z by omega)
 have SI_:Ks.Ly L c s:=⟨by omega,by omega,E⟩
 have e3:=Ks.ady SI_ (row:=row) (data:=d) r1 (by omega)
 refine Rt.val (P:=fun y=>y=(row,())) ⟨_,e2,rfl⟩ fun y hy e4=>?_
 subst hy
 refine Rt.val (P:=fun y=>y=(Ks.Pr c s L row d,())) ⟨_,e3,rfl⟩ fun y hy e5=>?_
 subst hy
 refine Rt.all (by simp only[e4,e5,qu,zU,zl92]) (Rt.ok ?_)
 have he:Ks.Dh (row,d,()) c s:=⟨r1,by show d.length=s;omega⟩
 unfold Ks.Pr
 split
 ·exact I
 ·rename_i hn
  have A:=Ks.Yk SI_ he hn
  have E':=Ks.add_I (by omega) E (Ks.S4 (by omega) E _ he) hn A.4
  have:=Ks.NG E'
  refine⟨I.p3,I.p4,by show(Ks.xb L _).length≤_;omega,fun x hx=>?_⟩
  have:=Ks.OR (by omega) (E'.row x hx).1
  have:=E'.dat x hx
  omega
def CrI (y:(bm.D×List eL.D)×Unit):Prop:=CI y.1.1∧y.1.2.length≤1000∧∀v∈y.1.2,FJ 9 v
def Nk:CI Gz:=⟨by simp,Lw⟩
def DB {c:bm.D}(h:CI c):CrI ((c,[]),()):=⟨h,by simp,by simp⟩
def cr1 {c:bm.D}(h:CI c){v:eL.D}(hv:v.2.2.2.2.2.1.length≤9999999):CrI ((c,[v]),()):=⟨h,by simp,by simpa using⟨hv,.inl (by omega)⟩⟩
def Qt {γ:Type}{Q:γ→Prop}{c:bm.D}(I:CI c){K:Bool×Unit→Option γ}(h:∀y:Bool×Unit,y.1=Pc.Bk c→Rt (K y) Q):Rt (c9 Eh c K) Q:=Rt.call (P:=fun y=>y.1=Pc.Bk c) ⟨_,I.ok,rfl⟩ h
def aju (a b:Int):Rt (q47 (a,b)) (fun y=>y.1.2.2.1 = []):=by
 unfold q47
 refine Rt.val (P:=fun _=>True) ⟨_,B4 _ _ _,trivial⟩ fun y _ e1=>Rt.val (P:=fun _=>True) ⟨_,B4 _ _ _,trivial⟩ fun z _ e2=>?_
 exact Rt.all (by simp only[e1,e2,qu,zU,zl99,zl92]) (Rt.bif (fun _=>Rt.ok rfl) fun _=>Rt.ok rfl)
def afa {p:gv.D}(h3:p.2.2.1.length≤1048576)(h4:p.2.2.2.1.length≤1048576):Rt (Mi p) (fun y=>GI y.1):=by
 unfold Mi
 refine Rt.call (P:=fun y=>y.1=Pc.Bx p) ⟨_,Pc.Uj p,rfl⟩ fun y hy=>Rt.bif (fun _=>Rt.ok Lw) fun hc=>?_
 rw[hy] at hc
 obtain⟨k1,k2⟩:=Pc.Ou (p:=p) (by simpa using hc)
 have e0:=Pc.MX p k1 k2
 refine Rt.val (P:=fun y=>y=(p,())) ⟨_,Yi h3 h4,rfl⟩ fun y hy e1=>?_
 subst hy
 refine Rt.val (P:=fun y=>True) ⟨_,e0,trivial⟩ fun y _ e2=>Rt.val (aju _ _) fun z hz e3=>?_
 exact Rt.all (by simp only[e1,e2,e3,qu,zU,zl92]) (Rt.ok ⟨h3,h4,by dsimp only;rw[hz];simp,by dsimp only;rw[hz];simp⟩)
def adv {c:bm.D}(I:CI c){w:eL.D}(hw:w.2.2.2.2.2.2.1.length≤1048576):Rt (q51 (c,w)) (fun y=>CI y.1):=by
 unfold q51
 refine Rt.call (ahe hw) fun y hy=>Rt.bif (fun _=>Rt.ok I) fun _=>Rt.bif (fun _=>?_) fun _=>?_
 ·exact Rt.call (afa (by omega) (by omega)) fun z hz=>Rt.ok ⟨I.name,hz⟩
 ·refine Rt.val (TU _) fun z _ e=>?_
  exact Rt.all (by simp only[e,qu,zU,zl99]) (Rt.bif (fun _=>Rt.ok ⟨I.name,I.g⟩) fun _=>Rt.ok I)
def ake {c:bm.D}(I:CI c){w:eL.D}:Rt (q52 (c,w)) CrI:=by
 have ends:Kz w=some ([((5:Int),w.2.1,w.2.2.1,w.2.2.2.1,(0:Int),[],[],())],()):=rfl
 unfold q52
 refine Rt.bif (fun _=>Rt.ok (DB I)) fun _=>Rt.bif (fun _=>?_) fun _=>?_
 ·refine Rt.call (P:=fun y=>y=_) ⟨_,ends,rfl⟩ fun y hy=>?_
  subst hy
  exact Rt.ok (cr1 I (by simp))
 refine Rt.call (UC I.g) fun y0 _=>Rt.call (add_rt I.g _ _) fun y hy=>Rt.bif (fun _=>Rt.ok (DB I)) fun _=>?_
 have J:∀s:Int,CI (c.1,c.2.1,s,c.2.2.2.1,c.2.2.2.2.1,y.1.1,c.2.2.2.2.2.2):=fun s=>⟨I.name,hy⟩
 have dn:=Pc.ac5 y.1.1 hy.sm
 refine Rt.call (P:=fun _=>True) ⟨_,dn,trivial⟩ fun z _=>Rt.bif (fun _=>?_) fun _=>?_
 ·refine Rt.call (P:=fun u=>u.1 = []∨∃v,u.1 = [v]∧v.2.2.2.2.2.1.length≤9999999) ?_ fun u hu=>?_
  ·unfold Ky
   exact Rt.bif (fun _=>Rt.ok (.inl rfl)) fun _=>Rt.ok (.inr ⟨_,rfl,by simp⟩)
  ·obtain⟨l,u⟩:=u
   rcases hu with rfl|⟨v,rfl,hv⟩
   ·exact Rt.ok (DB (J 3))
   ·exact Rt.ok (cr1 (J 3) hv)
 ·refine Rt.call (UC hy) fun u _=>Rt.bif (fun _=>?_) fun _=>Rt.ok (DB (J _))
  obtain⟨q,e,_⟩:=UC hy
  exact Rt.all (by simp only[e,qu,zU]) (Rt.ok (cr1 (J _) (by simp)))
def adR {c:bm.D}(I:CI c){w:eL.D}(hw:Ej w=true):Rt (q26 (c,w)) CrI:=by
 have sz:=RN hw
 have ends:Kz w=some ([((5:Int),w.2.1,w.2.2.1,w.2.2.2.1,(0:Int),[],[],())],()):=rfl
 have a:=O3 w (by omega)
 unfold q26
 refine Qt I fun y _=>Rt.bif (fun _=>Rt.ok (DB Nk)) fun _=>Rt.call (NU I) fun y hy=>?_
 have J:=hy.1
 refine Rt.val (P:=fun _=>True) ⟨_,a,trivial⟩ fun z _ e1=>Rt.all (by simp only[e1,qu,zU]) (Rt.bif (fun _=>Rt.ok (DB J)) fun _=>Rt.bif (fun _=>Rt.bif (fun _=>?_) fun _=>Rt.ok (DB J)) fun _=>Rt.bif (fun _=>?_) fun _=>Rt.bif (fun _=>?_) fun _=>Rt.bif (fun _=>Rt.bif (fun _=>Rt.ok (DB ⟨J.name,J.g⟩)) fun _=>Rt.ok (DB J)) fun _=>Rt.ok (DB J))
 ·refine Rt.call (P:=fun y=>y=_) ⟨_,ends,rfl⟩ fun u hu=>?_
  subst hu
  exact Rt.ok (cr1 J (by simp))
 ·exact Rt.call (adv J (by show w.2.2.2.2.2.2.1.length≤_;omega)) fun u hu=>Rt.ok (DB hu)
 ·exact Rt.call (ake J) fun u hu=>Rt.ok hu
def adY {c:bm.D}(I:CI c){name:List UInt8}(hn:name.length≤1048576):Rt (q27 (c,name)) CrI:=by
 have nm:=Rn name (by omega)
 unfold q27
 refine Qt I fun y _=>Rt.bif (fun _=>Rt.ok (DB Nk)) fun _=>Rt.val (P:=fun _=>True) ⟨_,nm,trivial⟩ fun z _ e1=>Rt.all (by simp only[e1,qu,zU,zl99]) (Rt.bif (fun _=>Rt.call (NU I) fun y hy=>Rt.ok (DB hy.1)) fun _=>?_)
 refine Rt.call (P:=fun y=>y=_) ⟨_,rfl,rfl⟩ fun u hu=>?_
 subst hu
 exact Rt.ok (cr1 ⟨hn,Lw⟩ (by show name.length≤_;omega))
def adO {c:bm.D}(I:CI c):Rt (G4 c) CrI:=by
 unfold G4
 refine Qt I fun y _=>Rt.bif (fun _=>Rt.ok (DB Nk)) fun _=>Rt.call (NU I) fun y hy=>Rt.bif (fun _=>Rt.ok (DB hy.1)) fun _=>?_
 refine Rt.call (P:=fun y=>y=_) ⟨_,rfl,rfl⟩ fun u hu=>?_
 subst hu
 exact Rt.ok (cr1 (c:=(y.1.1,IntKind.wrap .i64 (c.2.1+1),1,y.1.2.2.2)) ⟨hy.1.name,hy.1.g⟩ (by have:=hy.1.name;show y.1.2.2.2.1.length≤_;omega))
def ad2 {c:bm.D}(I:CI c):Rt (q28 c) CrI:=by
 unfold q28
 refine Qt I fun y _=>Rt.bif (fun _=>Rt.ok (DB Nk)) fun _=>Rt.call (P:=fun u=>u.1 = []∨∃v,u.1 = [v]∧v.2.2.2.2.2.1.length≤9999999) ?_ fun u hu=>?_
 ·unfold Ky
  exact Rt.bif (fun _=>Rt.ok (.inl rfl)) fun _=>Rt.ok (.inr ⟨_,rfl,by simp⟩)
 ·obtain⟨l,u⟩:=u
  have J:CI (c.1,c.2.1,0,[],0,zG,()):=⟨by simp,Lw⟩
  rcases hu with rfl|⟨v,rfl,hv⟩
  ·exact Rt.ok (DB J)
  ·exact Rt.ok (cr1 J hv)
def ad3 {c:bm.D}(I:CI c):Rt (q29 c) (fun y=>y.1.length≤1000∧∀v∈y.1,FJ 9 v):=by
 unfold q29
 refine Rt.val (P:=fun _=>True) ⟨_,I.ok,trivial⟩ fun y _ e=>Rt.all (by simp only[e,qu,zU]) (Rt.bif (fun _=>Rt.ok ⟨by simp,by simp⟩) fun _=>?_)
 refine Rt.call (P:=fun y=>y=_) ⟨_,rfl,rfl⟩ fun u hu=>?_
 subst hu
 exact Rt.ok ⟨by simp,by simpa using⟨by have:=I.name;show c.2.2.2.1.length≤_;omega,.inl (by omega)⟩⟩
def WI.set {n:Nat}{w:fk.D}(W:WI n w){s:b7.D}(S:SI s){u:Unit}:WI n (s,w.2.1,w.2.2.1,w.2.2.2.1,u):=⟨S,W.cls,W.cl,W.At,W.pk,W.FM,W.gi⟩
def Sb {n:Nat}{w:fk.D}(W:WI n w)(hn:n≤1000):Rt (H9 w) (fun y=>WI n y.1):=by
 have hr:=W.At
 have hg:=W.FM
 have e:=MV w.1 W.Au.sm (by have:=W.Au.fT;omega)
 unfold H9
 refine Rt.val (P:=fun y=>y=(w.1,())) ⟨_,e,rfl⟩ fun y hy e1=>?_
 subst hy
 refine Rt.all (by simp only[e1,qu,Df (a:=0) (b:=w.2.2.1.length) (by omega) (by omega),Df (a:=0) (b:=w.2.2.2.1.length) (by omega) (by omega),zU,zl92]) ?_
 refine Rt.loop (P:=fun y=>∃cl,(cl.length=4∧∀c∈cl,CI c)∧y.2.2.1=((w.1.1,w.1.2.1,w.1.2.2.1,(w.1.2.2.2.1.1,(),w.1.2.2.2.1.2.2),((),w.1.2.2.2.2.1.2),(),(),w.1.2.2.2.2.2.2.2),(),(),(),())∧y.2.2.2.2.2.2.2.2.2.2=(w.1.2.2.2.1.2.1,w.1.2.2.2.2.1.1,w.1.2.2.2.2.2.1,w.1.2.2.2.2.2.2.1,cl,[]++w.2.2.1,[]++w.2.2.2.1))
  (DO (n:=4) (I:=fun i x=>∃cl,x=(((i:Int),(),(),()),((w.1.1,w.1.2.1,w.1.2.2.1,(w.1.2.2.2.1.1,(),w.1.2.2.2.1.2.2),((),w.1.2.2.2.2.1.2),(),(),w.1.2.2.2.2.2.2.2),(),(),(),()),w,_,w.1.2.2.2.1.2.1,w.1.2.2.2.2.1.1,w.1.2.2.2.2.2.1,w.1.2.2.2.2.2.2.1,cl,[]++w.2.2.1,[]++w.2.2.2.1,_)∧cl.length=i∧∀c∈cl,CI c) ?_ ?_ 0 _ (lB _) ⟨[],rfl,rfl,by simp⟩) fun y hy=>?_
 ·rintro i _ hi ⟨cl,rfl,h1,h2⟩
  have hi':i<w.2.1.length:=by rw[W.cls];exact hi
  obtain⟨z,e2,hz⟩:=NU (W.cl _ (zl96 hi'))
  have gd:w.2.1.getD i Gz=w.2.1[i]:=getD_eq _ _ _ hi'
  unfold Gz at gd
  refine .inl ⟨_,by simp only[QG,gl hi',g0,zl94,gd,e2,zov e2,qu,Df (a:=cl.length) (b:=1) (by omega) (by omega),zU,zl92,dW,zw (i:=i)],cl ++ [z.1],rfl,by simp[h1],fun c hc=>?_⟩
  rcases bU.1 hc with hc|hc
  ·exact h2 c hc
  ·rw[i_.1 hc];exact hz.1
 ·rintro _ ⟨cl,rfl,h1,h2⟩
  have d1:decide (((4:Nat):Int)<(w.2.1.length:Int))=false:=zl90 (by rw[W.cls];omega)
  exact⟨_,by simp only[QG,d1,pO];rfl,cl,⟨h1,h2⟩,rfl,rfl⟩
 ·obtain⟨cl,⟨h1,h2⟩,e1,e2⟩:=hy
  refine Rt.ok ?_
  dsimp only
  rw[e1,e2]
  exact⟨W.Au,h1,h2,W.At,W.pk,W.FM,W.gi⟩
def Xb {α:Type}{l:List α}{i:Nat}{p:α}(h:p∈l.take i++l.drop (i+1)):p∈l:=by
 rcases bU.1 h with h|h
 ·exact List.mem_of_mem_take h
 ·exact List.mem_of_mem_drop h
def Xa {l:List cp.D}{a:Int}(h0:0≤a)(h1:a<l.length)(h2:l.length≤60):([]++List.take (Int.toNat (a-0)) (List.drop (Int.toNat 0) l))++List.take (Int.toNat ((l.length:Int)-IntKind.wrap .i64 (a+1))) (List.drop (Int.toNat (IntKind.wrap .i64 (a+1))) l)=l.take a.toNat++l.drop (a.toNat+1):=by
 rw[wrap64 (by omega) (by omega),show Int.toNat (a-0)=a.toNat by omega,show Int.toNat (a+1)=a.toNat+1 by omega,show Int.toNat 0=0 by rfl,zl84,zl17,zl57 (l:=l.drop (a.toNat+1)) (by rw[zl4];omega)]
def Xc {l:List cp.D}{a:Int}(h0:0≤a)(h1:a<l.length)(h2:l.length≤60):decide ((([]:List cp.D)++List.take (Int.toNat (a-0)) (List.drop (Int.toNat 0) l)).length+(List.take (Int.toNat ((l.length:Int)-IntKind.wrap .i64 (a+1))) (List.drop (Int.toNat (IntKind.wrap .i64 (a+1))) l)).length≤eV)=true∧decide (0≤IntKind.wrap .i64 (a+1))=true∧decide (IntKind.wrap .i64 (a+1)≤(l.length:Int))=true∧decide ((l.length:Int)≤(l.length:Int))=true∧decide (0+(List.take (Int.toNat (a-0)) (List.drop (Int.toNat 0) l)).length≤eV)=true∧decide (0≤a)=true∧decide (a≤(l.length:Int))=true∧decide (a<(l.length:Int))=true:=by
 rw[wrap64 (by omega) (by omega)]
 refine⟨Df ?_ ?_,zdt,zdt,zdt,Df (by omega) ?_,zl86 h0,zdt,zl86 h1⟩<;>simp <;>omega
def WI.cut {n:Nat}{w:fk.D}(W:WI n w){s:b7.D}(S:SI s){cl:List bm.D}(hc:cl.length=4∧∀c∈cl,CI c){i:Nat}{u:Unit}(hi:i<w.2.2.1.length):WI n (s,cl,w.2.2.1.take i++w.2.2.1.drop (i+1),w.2.2.2.1,u):=
 ⟨S,hc.1,hc.2,by have:=W.At;simp;omega,fun p hp=>W.pk p (Xb hp),W.FM,W.gi⟩
def Rl {α:Type}{l:List α}{i:Nat}{x p:α}{P:α→Prop}(h:∀q∈l,P q)(hx:P x)(hp:p∈l.set i x):P p:=by
 rcases List.mem_or_eq_of_mem_set hp with h1|h1
 ·exact h p h1
 ·rw[h1];exact hx
def adM {n:Nat}{w:fk.D}(W:WI n w){e:di.D}(h0:0≤e.2.1)(h1:e.2.1<w.2.2.1.length):Rt (q74 (w,e)) (fun y=>WI n y.1):=by
 have hr:=W.At
 have ck:=Xc h0 h1 hr
 have hi:e.2.1.toNat<w.2.2.1.length:=by omega
 have hp:=W.pk _ (zl96 hi)
 have gd:w.2.2.1.getD (Int.toNat e.2.1) ((0:Int),[],false,())=w.2.2.1[e.2.1.toNat]:=getD_eq _ _ _ hi
 unfold q74
 refine Rt.all (by simp only[ck,zU,zl92]) ?_
 simp only[gd]
 generalize w.2.2.1[e.2.1.toNat]=p at *
 refine Rt.box q12_v (P:=fun y=>∃At,(At.length≤60∧∀p∈At,PI p)∧y=(((),(),()),((false,(0:Int),[],((0:Int),(),()),((),(0:Int),()),(),(),()),(),(),(),()),(w.1,(),(),(),w.2.2.2.2),p,[],[],[],[],[],[],[],w.2.1,At,w.2.2.2.1)) ?_ fun y hy=>?_
 ·unfold q12
  refine Rt.bif (fun _=>Rt.all (by simp only[ck,zU,zl92]) ?_) fun _=>Rt.ok ⟨_,⟨hr,W.pk⟩,rfl⟩
  dsimp only
  rw[Xa h0 h1 hr]
  exact Rt.ok ⟨_,⟨by simp;omega,fun p hp=>W.pk p (Xb hp)⟩,rfl⟩
 obtain⟨At,⟨r1,r2⟩,rfl⟩:=hy
 have WR:∀{s:b7.D} {cl:List bm.D},SI s→cl.length=4→(∀c∈cl,CI c)→WI n (s,cl,At,w.2.2.2.1,w.2.2.2.2):=fun S h1 h2=>⟨S,h1,h2,r1,r2,W.FM,W.gi⟩
 refine Rt.call (akF hp.2) fun y hy=>Rt.bif (fun _=>Rt.ok (WR W.Au W.cls W.cl)) fun hc=>?_
 have hw:=hy (by simpa using hc)
 refine Rt.bif (fun _=>?_) fun hc=>?_
 ·refine Rt.call (aff W.Au.sm hw) fun z hz=>?_
  exact Rt.call (OV (WR hz.1 W.cls W.cl) (.inr rfl) hz.2.2 hz.2.1) fun u hu=>Rt.ok hu
 ·have h9:p.1≠9:=by
   rintro e9
   rw[show(p.1==9)=true from zl78.2 e9] at hc
   cases hc
  obtain⟨p0,p4⟩:=hp.1.resolve_left h9
  have hj:p.1.toNat<w.2.1.length:=by rw[W.cls];omega
  have gc:w.2.1.getD (Int.toNat p.1) Gz=w.2.1[p.1.toNat]:=getD_eq _ _ _ hj
  have d0:decide (0≤p.1)=true:=zl86 p0
  have d4:decide (p.1<(w.2.1.length:Int))=true:=zl86 (by rw[W.cls];exact p4)
  unfold Gz at gc
  simp only[gc]
  refine Rt.val (adR (W.cl _ (zl96 hj)) hw) fun z hz e1=>Rt.all (by simp only[e1,qu,d0,d4,zU,zl92]) (Rt.all (by simp only[d0,d4,zU,zl92]) ?_)
  exact Rt.call (OV (WR W.Au (by rw[zl66];exact W.cls) fun c hc=>Rl W.cl hz.1 hc) (.inl rfl) hz.2.2 hz.2.1) fun u hu=>Rt.ok hu
noncomputable def O7 (log r:List UInt8) (b:Int):List UInt8:=
 bif !(xb log r).2 then log else(xb log r).1.take (log.length+min b.toNat ((xb log r).1.length-log.length))
def adz {log r:List UInt8}(h:(xb log r).2=true):∃q,(xb log r).1=log++q:=by
 unfold xb at h ⊢
 split
 ·exact⟨_,rfl⟩
 ·rename_i k;rw[cT k] at h;cases h
def ajT (log r:List UInt8)(b:Int)(hl:log.length≤9000)(hr:r.length≤9999999)(_hb:I64 b):q95 (log,r,b)=some (O7 log r b,()):=by
 have a:=Uf log r (by omega) hr
 simp only[q95,a,zov a,qu,zU,dW,O7]
 cases h:(xb log r).2 with
 |false=>rfl
 |true=>
  obtain⟨q,hq⟩:=adz h
  have h9:=JV log r h
  rw[hq] at h9 ⊢
  simp only[eY] at h9 ⊢
  have w1:IntKind.wrap .i64 (((log.length+q.length:Nat):Int)-(log.length:Int))=(q.length:Int):=wi (by omega) (by omega)
  rw[w1]
  simp only[zl70,pO]
  by_cases hneg:b<0
  ·rw[zl86 hneg]
   have:b.toNat=0:=by omega
   rw[this,Nat.zero_min,zl50,List.take_left]
   rfl
  ·rw[zl90 hneg]
   simp only[pO]
   by_cases hbig:b>(q.length:Int)
   ·rw[zl86 hbig]
    have:List.take (log.length+min b.toNat (log.length+q.length-log.length)) (log++q)=log++q:=zl57 (by rw[eY];omega)
    rw[this]
    rfl
   ·rw[zl90 hbig]
    have w2:IntKind.wrap .i64 ((log.length:Int)+b)=((log.length+b.toNat:Nat):Int):=wi (by omega) (by omega)
    rw[w2]
    have d1:decide ((0:Int)≤((log.length+b.toNat:Nat):Int))=true:=zdt
    have d2:decide (((log.length+b.toNat:Nat):Int)≤((log.length+q.length:Nat):Int))=true:=zdt
    have e:min b.toNat (log.length+q.length-log.length)=b.toNat:=by omega
    simp only[d1,d2,dW,pO,zl92,e,Int.sub_zero,zl94,show Int.toNat 0=0 from rfl,zl84]
noncomputable def LA (s:b7.D) (r:List UInt8) (b:Int):List UInt8:=bif(bif s.1 then(CS s.2.2.2.1 r).2 else false) then O7 s.2.2.1 r b else s.2.2.1
noncomputable def IM (s:b7.D) (r:List UInt8) (b:Int):b7.D:=
 bif !AL s then C8 else(false,s.2.1,LA s r b,((0:Int),[],()),([],(0:Int),()),[],[],())
def ajE (s:b7.D)(S:CR s)(r:List UInt8)(b:Int)(hr:r.length≤9999999)(hb:I64 b):q30 (s,r,b)=some (IM s r b,()):=by
 have a:=MW s S
 unfold IM
 cases ho:AL s with
 |false=>
  rw[ho] at a
  simp only[q30,a,zov a,qu,zU,dW,zl98,C8]
 |true=>
 rw[ho] at a
 have I:=EX ho
 have hl:=F0 ho
 have c:=P9 s.2.2.2.1 I r hr
 have d:=ajT s.2.2.1 r b hl hr hb
 simp only[q30,a,zov a,c,zov c,d,zov d,qu,zU,dW,pO,zl70,LA]
 cases s.1<;>cases (CS s.2.2.2.1 r).2<;>rfl
def aei (s:b7.D)(r:List UInt8)(b:Int):CR (IM s r b):=by
 unfold IM
 cases ho:AL s with
 |false=>exact Hu
 |true=>
  have hl:=F0 ho
  refine⟨?_,Hu.cat,Hu.items,Hu.G1,Hu.bks,Hu.Au⟩
  change (LA s r b).length≤_
  unfold LA O7
  cases (bif s.1 then(CS s.2.2.2.1 r).2 else false) with
  |false=>change s.2.2.1.length≤_;omega
  |true=>
  cases h:(xb s.2.2.1 r).2 with
  |false=>change s.2.2.1.length≤_;omega
  |true=>
   have:=JV _ _ h
   simp only[dW,zl70,pO,zl3]
   omega
def bkt (now:Int):cw.D:=(40,40,8,now,())
def frs:List b9.D:=List.replicate 8 (0,0,0,0,false,())
def Gs (now:Int)(log:List UInt8)(c:g9.D):b7.D:=(true,now,log,c,(frs,0,()),List.replicate 2 (bkt now),[],())
def P6:Ia ()=some ((frs,0,()),()):=by simp[Ia,frs,List.replicate]
def Yf (now:Int):Io now=some (List.replicate 2 (bkt now),()):=by
 have hc:Comes MA (((0:Int),now,()),[]) ((),List.replicate 2 (bkt now)):=by
  refine A_ (r:=MA) (st:=fun i=>(((i:Int),now,()),List.replicate i (bkt now))) (n:=2) ?_ ?_ 0 (lB _)
  ·intro i hi
   have h2:=AX (i:=i) (by omega)
   have h3:i+1≤eV:=by unfold eV;omega
   have h4:(i:Int)<2:=by omega
   simp[MA,h4,h2,h3,zU,List.replicate_succ',bkt]
  ·simp[MA]
 simp[Io,cb hc,cv hc,ia]
noncomputable def Le (s:b7.D):b7.D:=
 bif !AL s then C8 else bif s.1 then s else Gs s.2.1 (s.2.2.1.take (Bz s).2) (DA (Bz s).1).1
def ajL (s:b7.D)(S:CR s):q32 s=some (Le s,()):=by
 have a:=MW s S
 unfold Le
 cases ho:AL s with
 |false=>
  rw[ho] at a
  simp only[q32,a,zov a,qu,zU,dW,zl98,C8]
 |true=>
 rw[ho] at a
 have I:=EX ho
 have h8:=I.len
 have hl:=F0 ho
 have b:=MV s S (by omega)
 have c:=P8 s.2.2.1 (by omega)
 obtain⟨r1,r2⟩:=acC s (by omega)
 have d:=acU (Bz s).1 r1 r2
 change Fu s.2.2.1=some (((Bz s).1,((Bz s).2:Int)),()) at c
 obtain⟨k1,k2⟩:=acz s.2.2.1
 have d2:decide (((Bz s).2:Int)≤(s.2.2.1.length:Int))=true:=zl86 (by unfold Bz;omega)
 have e:=Yf s.2.1
 simp only[q32,a,zov a,b,zov b,c,zov c,d,zov d,e,zov e,P6,zov P6,qu,zU,dW,pO,zl70,zl92,d2,zl111,zl73,Int.sub_zero,zl94,show Int.toNat 0=0 from rfl,zl84,Gs]
 cases s.1<;>rfl
def ajc (s:b7.D)(S:CR s):CR (Le s):=by
 unfold Le
 cases ho:AL s with
 |false=>exact Hu
 |true=>
  cases s.1 with
  |true=>exact S
  |false=>
   have hl:=F0 ho
   have hc:(DA (Bz s).1).2=true:=by
    unfold AL at ho
    simp only[bB] at ho
    exact ho.2.2.1
   have I:=Px hc
   have h8:=I.len
   refine⟨?_,by change (DA (Bz s).1).1.2.1.length≤_;omega,fun x hx=>?_,by change frs.length≤_;simp[frs],by change (List.replicate 2 _).length≤_;simp,by change ([]:List Sv).length≤_;simp⟩
   ·change (s.2.2.1.take (Bz s).2).length≤_
    rw[zl3];omega
   ·obtain⟨_,h1,h2⟩:=Ji (I.ok x hx)
    have:=Kf _ h1
    exact⟨by omega,by omega⟩
def DoI (n:Nat)(y:(fk.D×Bool)×Unit):Prop:=WI n y.1.1
def aj8 {p:cp.D}(hp:PI p)(hne:p.2.1 ≠ []){a:Int}(h0:0≤a)(_h1:a≤70000):Rt (q79 (p,a)) (fun y=>PI y.1):=by
 have hl:0<p.2.1.length:=List.length_pos_iff.2 hne
 have bl:(bytesOf p.2.1).length=p.2.1.length:=by simp[bytesOf]
 obtain⟨t0,t1⟩:=Lj h0 (show 1≤(4096:Int) by omega)
 obtain⟨k0,k1⟩:=Lj t0 (show 1≤((bytesOf p.2.1).length:Int) by omega)
 have hm:=hp.2
 unfold q79
 refine Rt.all (by rw[RX];exact zl86 (by unfold eV;show p.2.1.length≤_;omega)) (Rt.all (by rw[WA,RX,Bool.and_true];exact bne_iff_ne.2 (show((bytesOf p.2.1).length:Int)≠0 by omega)) (Rt.all (by simp only[zl86 k0,zl86 k1,zU,zl92]) (Rt.ok ⟨hp.1,?_⟩)))
 show(tv _).length≤_
 rw[Ul,zl66,bl]
 exact hm
def ai8 {n:Nat}{w:fk.D}(W:WI n w){e:di.D}(E:EvI e):Rt (q78 (w,e)) (DoI n):=by
 have hr:=W.At
 unfold q78
 have wr:IntKind.wrap .i64 ((w.2.2.1.length:Int)-1)=(w.2.2.1.length:Int)-1:=wrap64 (by omega) (by omega)
 dsimp only
 rw[wr]
 refine Rt.call (P:=fun y=>y.1=m6 e.2.1 0 ((w.2.2.1.length:Int)-1)) ⟨_,B4 _ _ _,rfl⟩ fun y hy=>Rt.bif (fun _=>Rt.ok W) fun hc=>?_
 rw[hy] at hc
 have hb:m6 e.2.1 0 ((w.2.2.1.length:Int)-1)=true:=by simpa using hc
 have hb:=zl79 hb
 have h0:=hb.1
 have h1:e.2.1<(w.2.2.1.length:Int):=by omega
 have ck:=Xc h0 h1 hr
 have hi:e.2.1.toNat<w.2.2.1.length:=by omega
 have gd:w.2.2.1.getD (Int.toNat e.2.1) ((0:Int),[],false,())=w.2.2.1[e.2.1.toNat]:=getD_eq _ _ _ hi
 refine Rt.bif (fun _=>Rt.call (adM W h0 h1) fun y hy=>Rt.ok hy) fun _=>Rt.bif (fun _=>Rt.all (by simp only[ck,zU,zl92]) ?_) fun _=>?_
 ·rw[Xa h0 h1 hr]
  exact Rt.ok (W.cut W.Au ⟨W.cls,W.cl⟩ hi)
 ·have hp:=W.pk _ (zl96 hi)
  simp only[gd]
  refine Rt.all (by simp only[ck,zl99,zU,zl92]) (Rt.bif (fun _=>Rt.ok W) fun hc=>?_)
  have hne:(w.2.2.1[e.2.1.toNat]).2.1 ≠ []:=by
   intro e0
   rw[e0] at hc
   cases h:(w.2.2.1[e.2.1.toNat]).2.2.1<;>rw[h] at hc<;>cases hc
  refine Rt.val (aj8 hp hne E.nu0 E.nu1) fun y hy e1=>Rt.all (by simp only[e1,qu,ck,zU,zl92]) (Rt.ok ?_)
  exact⟨W.Au,W.cls,W.cl,by show(List.set _ _ _).length≤_;rw[zl66];exact hr,fun p hp=>Rl W.pk hy hp,W.FM,W.gi⟩
def adV {n:Nat}{w:fk.D}(W:WI n w){e:di.D}(E:EvI e):Rt (q53 (w,e)) (DoI n):=by
 unfold q53
 refine Rt.call (P:=fun y=>y.1=m6 e.2.1 0 3) ⟨_,B4 _ _ _,rfl⟩ fun y hy=>Rt.bif (fun _=>Rt.ok W) fun hc=>?_
 rw[hy] at hc
 have hb:m6 e.2.1 0 3=true:=by simpa using hc
 have hb:=zl79 hb
 have hj:e.2.1.toNat<w.2.1.length:=by rw[W.cls];omega
 have d0:decide (0≤e.2.1)=true:=zl86 hb.1
 have d4:decide (e.2.1<(w.2.1.length:Int))=true:=zl86 (by rw[W.cls];omega)
 have gc:w.2.1.getD (Int.toNat e.2.1) Gz=w.2.1[e.2.1.toNat]:=getD_eq _ _ _ hj
 have I:=W.cl _ (zl96 hj)
 unfold Gz at gc
 refine Rt.all (by simp only[d0,d4,zU,zl92]) ?_
 simp only[gc]
 have WS:∀{c:bm.D},CI c→WI n (w.1,w.2.1.set e.2.1.toNat c,w.2.2.1,w.2.2.2.1,w.2.2.2.2):=fun J=>⟨W.Au,by show(List.set _ _ _).length=4;rw[zl66];exact W.cls,fun c hc=>Rl W.cl J hc,W.At,W.pk,W.FM,W.gi⟩
 generalize w.2.1[e.2.1.toNat]=c at *
 refine Rt.box q6_v (P:=fun y=>(∃(x:bm.D) (l:List eL.D),(CI x∧l.length≤1000∧∀v∈l,FJ 9 v)∧∃z1 z2,y = .inl (z1,z2,l,(w.1,(),(),(),w.2.2.2.2),e,c,(x.1,x.2.1,x.2.2.1,x.2.2.2.1,x.2.2.2.2.1,((x.2.2.2.2.2.1.1.1,x.2.2.2.2.2.1.1.2.1,(),(),x.2.2.2.2.2.1.1.2.2.2.2),(x.2.2.2.2.2.1.2.1.1,x.2.2.2.2.2.1.2.1.2.1,(),x.2.2.2.2.2.1.2.1.2.2.2),x.2.2.2.2.2.1.2.2),x.2.2.2.2.2.2),[],[],[],[],[],[],[],w.2.1,w.2.2.1,w.2.2.2.1,x.2.2.2.2.2.1.1.2.2.1,x.2.2.2.2.2.1.1.2.2.2.1,x.2.2.2.2.2.1.2.1.2.2.1)) ∨
  ∃l:List eL.D,(l.length≤1000∧∀v∈l,FJ 9 v)∧∃z1 z2,y = .inr (z1,z2,l,(w.1,(),(),(),w.2.2.2.2),e,c,c,[],[],[],[],[],[],[],w.2.1,w.2.2.1,w.2.2.2.1)) ?_ fun y hy=>?_
 ·unfold Wh.q6
  refine Rt.bif (fun _=>Rt.call (adY I E.nam) fun y hy=>Rt.ok (.inl ⟨y.1.1,y.1.2,hy,_,_,rfl⟩)) fun _=>Rt.bif (fun _=>Rt.call (adO I) fun y hy=>Rt.ok (.inl ⟨y.1.1,y.1.2,hy,_,_,rfl⟩)) fun _=>Rt.bif (fun _=>Rt.call (ad2 I) fun y hy=>Rt.ok (.inl ⟨y.1.1,y.1.2,hy,_,_,rfl⟩)) fun _=>Rt.call (ad3 I) fun y hy=>Rt.ok (.inr ⟨y.1,hy,_,_,rfl⟩)
 ·rcases hy with⟨x,l,⟨h1,h2,h3⟩,z1,z2,rfl⟩|⟨l,⟨h2,h3⟩,z1,z2,rfl⟩
  ·refine Rt.sum (fun y hy=>?_) fun y hy=>by cases hy
   cases hy
   refine Rt.all (by simp only[d0,d4,zU,zl92]) ?_
   exact Rt.call (OV (WS h1) (.inl rfl) h3 h2) fun u hu=>Rt.ok hu
  ·refine Rt.sum (fun y hy=>by cases hy) fun y hy=>?_
   cases hy
   refine Rt.all (by simp only[d0,d4,zU,zl92]) ?_
   exact Rt.call (OV (WS I) (.inl rfl) h3 h2) fun u hu=>Rt.ok hu
def put_si {s:b7.D}(S:SI s)(h:Int)(n t:List UInt8):SI (Kp s h n t).1:=by
 have sm:=ahl s S.sm h n t
 unfold Kp at sm ⊢
 cases ho:AL s with
 |false=>exact Pn
 |true=>
 rw[ho] at sm
 have k:=(TV _ (EX ho) h n t).len
 have so:=OW S.sm ho
 unfold Rq at sm ⊢
 cases hu:s.1 with
 |false=>exact so
 |true=>
 rw[hu] at sm
 cases hp:(Dv s.2.2.2.1 h n t).2 != 0 with
 |true=>exact so
 |false=>
 rw[hp] at sm
 cases ha:(xb s.2.2.1 (vT h n t)).2 with
 |false=>exact so
 |true=>
  rw[ha] at sm
  have:=JV _ _ ha
  exact⟨sm,by show(Dv s.2.2.2.1 h n t).1.2.1.length≤_;omega,by show(xb s.2.2.1 (vT h n t)).1.length≤_;omega⟩
def akh {s:b7.D}(S:SI s)(h:Int)(n:List UInt8):SI (Lh s h n).1:=by
 have sm:=akf s S.sm h n
 unfold Lh at sm ⊢
 cases ho:AL s with
 |false=>exact Pn
 |true=>
 rw[ho] at sm
 have k:=(Up _ (EX ho) h n).len
 have so:=OW S.sm ho
 unfold Rr at sm ⊢
 cases hu:s.1 with
 |false=>exact so
 |true=>
 rw[hu] at sm
 cases hp:C9 s.2.2.2.1.2.1 h n with
 |none=>exact so
 |some i=>
 rw[hp] at sm
 cases ha:(xb s.2.2.1 (vT h n [])).2 with
 |false=>exact so
 |true=>
  have:=JV _ _ ha
  dsimp only at sm ⊢
  rw[ha] at sm
  exact⟨sm,by show(FC s.2.2.2.1 h n).1.2.1.length≤_;omega,by show(xb s.2.2.1 (vT h n [])).1.length≤_;omega⟩
def aej (s:b7.D)(r:List UInt8)(b:Int):SI (IM s r b):=by
 have sm:=aei s r b
 refine⟨sm,by unfold IM;cases AL s<;>simp[C8],?_⟩
 unfold IM
 cases ho:AL s with
 |false=>simp[C8]
 |true=>
  have hl:=F0 ho
  change (LA s r b).length≤_
  unfold LA O7
  cases (bif s.1 then(CS s.2.2.2.1 r).2 else false) with
  |false=>change s.2.2.1.length≤_;omega
  |true=>
  cases h:(xb s.2.2.1 r).2 with
  |false=>change s.2.2.1.length≤_;omega
  |true=>
   have:=JV _ _ h
   simp only[dW,zl70,pO,zl3]
   omega
def ajd {s:b7.D}(S:SI s):SI (Le s):=by
 have sm:=ajc s S.sm
 unfold Le at sm ⊢
 cases ho:AL s with
 |false=>exact Pn
 |true=>
 rw[ho] at sm
 have hl:=F0 ho
 cases hu:s.1 with
 |true=>exact OW S.sm ho
 |false=>
  rw[hu] at sm
  have hc:(DA (Bz s).1).2=true:=by
   unfold AL at ho
   simp only[bB] at ho
   exact ho.2.2.1
  have:=(Px hc).len
  refine⟨sm,?_,?_⟩
  ·show(DA (Bz s).1).1.2.1.length≤_
   omega
  ·show(s.2.2.1.take (Bz s).2).length≤_
   rw[zl3];omega
def ajq {n:Nat}(hn:n≤900){w:fk.D}(W:WI n w){e:di.D}(E:EvI e):Rt (q55 (w,e)) (DoI (n+1)):=by
 have en:=E.nam
 have et:=E.txt
 have U:=W.up (Nat.le_succ n)
 have sm:=W.Au.sm
 have pe:=ajK w.1 sm e.2.1 e.2.2.2.1 e.2.2.2.2.1 (by omega) (by omega)
 have te:=ajR w.1 sm e.2.1 e.2.2.2.1 (by omega)
 unfold q55
 refine Rt.bif (fun _=>?_) fun _=>Rt.bif (fun _=>?_) fun _=>Rt.bif (fun _=>?_) fun _=>Rt.bif (fun _=>?_) fun _=>?_
 ·refine Rt.call (P:=fun y=>y=(Kp w.1 e.2.1 e.2.2.2.1 e.2.2.2.2.1,())) ⟨_,pe,rfl⟩ fun y hy=>?_
  subst hy
  exact Rt.call (Y3 (W.set (put_si W.Au _ _ _)) (by omega)) fun u hu=>Rt.ok hu
 ·refine Rt.call (P:=fun y=>y=(Lh w.1 e.2.1 e.2.2.2.1,())) ⟨_,te,rfl⟩ fun y hy=>?_
  subst hy
  exact Rt.ok (U.set (akh W.Au _ _))
 ·refine Rt.call (akn sm) fun y hy=>?_
  exact Rt.call (OV (U.set hy.1) (.inr rfl) hy.2.2 hy.2.1) fun u hu=>Rt.ok hu
 ·have rc:=O2 e.2.1 e.2.2.2.1 e.2.2.2.2.1 (by omega) (by omega)
  refine Rt.val (P:=fun y=>y.1=vT e.2.1 e.2.2.2.1 e.2.2.2.2.1) ?_ fun y hy e1=>?_
  ·unfold q54
   exact Rt.call (P:=fun y=>y.1=vT e.2.1 e.2.2.2.1 e.2.2.2.2.1) ⟨_,rc,rfl⟩ fun y hy=>Rt.ok hy
  have hl:=T7 (h:=e.2.1) (n:=e.2.2.2.1) (t:=e.2.2.2.2.1)
  have fe:=ajE w.1 sm y.1 e.2.2.1 (by rw[hy];omega) ⟨by have:=E.nu0;omega,by have:=E.nu1;omega⟩
  refine Rt.val (P:=fun z=>z=(IM w.1 y.1 e.2.2.1,())) ⟨_,fe,rfl⟩ fun z hz e2=>?_
  subst hz
  exact Rt.all (by simp only[e1,e2,qu,zU,zl92]) (Rt.ok (U.set (aej _ _ _)))
 ·refine Rt.call (P:=fun z=>z=(Le w.1,())) ⟨_,ajL w.1 sm,rfl⟩ fun z hz=>?_
  subst hz
  exact Rt.call (Y3 (W.set (ajd W.Au)) (by omega)) fun u hu=>Rt.ok hu
def do_rt {n:Nat}(hn:n≤900){w:fk.D}(W:WI n w){e:di.D}(E:EvI e):Rt (KS (w,e)) (DoI (n+1)):=by
 have U:∀{y},DoI n y→DoI (n+1) y:=fun h=>WI.up h (Nat.le_succ n)
 unfold KS
 refine Rt.box q75_v (P:=fun y=>∃v z,y=((v,(),(),(),e.1),z,e,(w.1,(),(),(),w.2.2.2.2),[],[],[],[],[],[],[],w.2.1,w.2.2.1,w.2.2.2.1)) ?_ fun y hy=>?_
 ·unfold q75
  repeat' refine Rt.bif (fun _=>?_) fun _=>?_
  all_goals exact Rt.ok ⟨_,_,rfl⟩
 obtain⟨v,z,rfl⟩:=hy
 refine Rt.bif (fun _=>Rt.call (ai8 W E) fun y hy=>Rt.ok (U hy)) fun _=>?_
 refine Rt.box q76_v (P:=fun y=>∃v z,y=((v,(),(),(),e.1),z,e,(w.1,(),(),(),w.2.2.2.2),[],[],[],[],[],[],[],w.2.1,w.2.2.1,w.2.2.2.1)) ?_ fun y hy=>?_
 ·unfold q76
  repeat' refine Rt.bif (fun _=>?_) fun _=>?_
  all_goals exact Rt.ok ⟨_,_,rfl⟩
 obtain⟨v,z,rfl⟩:=hy
 refine Rt.bif (fun _=>Rt.call (adV W E) fun y hy=>Rt.ok (U hy)) fun _=>?_
 refine Rt.box q77_v (P:=fun y=>∃v z,y=((v,(),(),()),z,e,(w.1,(),(),(),w.2.2.2.2),[],[],[],[],[],[],[],w.2.1,w.2.2.1,w.2.2.2.1)) ?_ fun y hy=>?_
 ·unfold q77
  repeat' refine Rt.bif (fun _=>?_) fun _=>?_
  all_goals exact Rt.ok ⟨_,_,rfl⟩
 obtain⟨v,z,rfl⟩:=hy
 exact Rt.bif (fun _=>Rt.call (ajq hn W E) fun y hy=>Rt.ok hy) fun _=>Rt.ok (W.up (Nat.le_succ n))
def afC {l:List Int}(h:∀x∈l,0≤x∧x≤255):Rt (Mk l) (fun y=>x4 y.1 0):=by
 unfold Mk
 refine Rt.bif (fun hc=>Rt.all (by simpa[kL] using Int.le_of_lt (zl79 hc)) (Rt.ok ⟨?_,?_,Int.le_refl _,Int.le_refl _⟩)) fun hc=>Rt.ok ⟨?_,h,Int.le_refl _,Int.le_refl _⟩
 ·show(List.take _ _).length≤_
  rw[zl3];exact Nat.min_le_left _ _
 ·exact fun x hx=>h x (List.mem_of_mem_drop (List.mem_of_mem_take hx))
 ·have:=zl101 hc
  show l.length≤_
  omega
def AV:b7.D:=Gs 0 [] (0,[],())
def aj9:SI AV:=⟨⟨by simp[AV,Gs],by unfold RW;simp[AV,Gs],by simp[AV,Gs],by unfold JU;simp[AV,Gs,frs],by simp[AV,Gs],by simp[AV,Gs]⟩,by simp[AV,Gs],by simp[AV,Gs]⟩
def ajp:q45 ()=some (AV,()):=by
 have e:=Yf 0
 simp only[q45,zov e,e,P6,zov P6,qu,zU,zl92,dW]
 rfl
def adS (n:Int):Rt (q43 n) (fun y=>CI y.1):=by
 unfold q43
 exact Rt.call (P:=fun _=>True) ⟨_,B4 _ _ _,trivial⟩ fun y _=>Rt.bif (fun _=>Rt.ok Nk) fun _=>Rt.ok ⟨by simp,Lw⟩
def akH:Rt (q72 ()) (fun y=>WI 0 y.1):=by
 unfold q72
 refine Rt.call (P:=fun y=>y=(AV,())) ⟨_,ajp,rfl⟩ fun y hy=>?_
 subst hy
 refine Rt.loop (P:=fun y=>∃cl,(cl.length=4∧∀c∈cl,CI c)∧y.2.2.1=((AV.1,AV.2.1,AV.2.2.1,(AV.2.2.2.1.1,(),AV.2.2.2.1.2.2),((),AV.2.2.2.2.1.2),(),(),AV.2.2.2.2.2.2.2),(),(),(),())∧y.2.2.2.2.2.2.2.2.2.2=(AV.2.2.2.1.2.1,AV.2.2.2.2.1.1,AV.2.2.2.2.2.1,AV.2.2.2.2.2.2.1,cl,[],[]))
  (DO (n:=4) (I:=fun i x=>∃cl,x=(((i:Int),(),()),((AV.1,AV.2.1,AV.2.2.1,(AV.2.2.2.1.1,(),AV.2.2.2.1.2.2),((),AV.2.2.2.2.1.2),(),(),AV.2.2.2.2.2.2.2),(),(),(),()),_,AV.2.2.2.1.2.1,AV.2.2.2.2.1.1,AV.2.2.2.2.2.1,AV.2.2.2.2.2.2.1,cl,[],[],_)∧cl.length=i∧∀c∈cl,CI c) ?_ ?_ 0 _ (lB _) ⟨[],rfl,rfl,by simp⟩) fun y hy=>?_
 ·rintro i _ hi ⟨cl,rfl,h1,h2⟩
  obtain⟨z,e2,hz⟩:=adS (i:Int)
  have d1:decide ((i:Int)<4)=true:=zdt
  refine .inl ⟨_,by simp only[QZ,d1,e2,zov e2,qu,Df (a:=cl.length) (b:=1) (by omega) (by omega),zU,zl92,dW,zw (i:=i)],cl ++ [z.1],rfl,by simp[h1],fun c hc=>?_⟩
  rcases bU.1 hc with hc|hc
  ·exact h2 c hc
  ·rw[i_.1 hc];exact hz
 ·rintro _ ⟨cl,rfl,h1,h2⟩
  have d1:decide (((4:Nat):Int)<4)=false:=zdf
  exact⟨_,by simp only[QZ,d1,pO];rfl,cl,⟨h1,h2⟩,rfl,rfl⟩
 ·obtain⟨cl,⟨h1,h2⟩,e1,e2⟩:=hy
  refine Rt.ok ?_
  dsimp only
  rw[e1,e2]
  exact⟨aj9,h1,h2,lB _,(fun _ h=>nomatch h),lB _,fun _ h=>nomatch h⟩
def CW (w:fk.D):Prop:=(3≤w.2.1.length∧w.2.1.length≤4)∧∀c∈w.2.1,CI c
def setC {l:List bm.D}(h:(3≤l.length∧l.length≤4)∧∀c∈l,CI c){c:bm.D}(hc:CI c)(i:Nat):(3≤(l.set i c).length∧(l.set i c).length≤4)∧∀x∈l.set i c,CI x:=⟨by rw[zl66];exact h.1,fun x hx=>Rl h.2 hc hx⟩
def aj7 {n:Nat}(hn:n≤1000){w:fk.D}(W:WI n w){r:dj.D}{p:Nat}(I:x4 r p)(hp:p≤900000000):Rt (Wh.q4 (r,w)) (fun y=>CW y.1∧x4 y.2.1 (p+3)):=by
 unfold Wh.q4
 refine Rt.call (Sb W hn) fun y V=>Rt.call (AM I (by omega) 8) fun z hz=>?_
 have J:=hz.2.2.2
 have U:=J.up (show p+1≤p+3 by omega)
 have hl:=V.cls
 have hr:=V.At
 have hg:=V.FM
 have lg:=V.Au.lg
 have C:(3≤y.1.2.1.length∧y.1.2.1.length≤4)∧∀c∈y.1.2.1,CI c:=⟨by omega,V.cl⟩
 have gc:∀i:Int,0≤i∧i<4→CI (y.1.2.1.getD i.toNat Gz):=fun i hi=>by
  rw[getD_eq _ _ _ (show i.toNat<y.1.2.1.length by omega)];exact V.cl _ (zl96 _)
 have bd:∀i:Int,0≤i∧i<4→decide (0≤i)=true∧decide (i<(y.1.2.1.length:Int))=true:=fun i hi=>⟨zl86 hi.1,zdt⟩
 refine Rt.bif (fun _=>?_) fun _=>Rt.bif (fun _=>?_) fun _=>Rt.bif (fun _=>?_) fun _=>Rt.bif (fun _=>?_) fun _=>Rt.bif (fun _=>Rt.ok ⟨C,U⟩) fun _=>Rt.bif (fun _=>?_) fun _=>Rt.bif (fun _=>?_) fun _=>Rt.ok ⟨C,U⟩
 ·refine Rt.val (AM J (by omega) 4) fun a ha e1=>Rt.val (AM ha.2.2.2 (by omega) 2) fun b hb e2=>?_
  have ka:=pk ha
  have kb:=pk hb
  exact Rt.all (by simp only[bd _ ka,zl86 kb.1,show decide (b.1<((2:Nat):Int))=true from zdt,e1,e2,qu,zU,zl92]) (Rt.ok ⟨setC C (by exact⟨(gc _ ka).name,(gc _ ka).g⟩) _,hb.2.2.2⟩)
 ·refine Rt.val (AM J (by omega) 4) fun a ha e1=>Rt.val (AM ha.2.2.2 (by omega) 6) fun b hb e2=>?_
  have ka:=pk ha
  exact Rt.all (by simp only[bd _ ka,e1,e2,qu,zU,zl92]) (Rt.ok ⟨setC C (by exact⟨(gc _ ka).name,(gc _ ka).g⟩) _,hb.2.2.2⟩)
 ·refine Rt.all (by simp only[hl];rfl) (Rt.ok ⟨⟨?_,fun c hc=>V.cl c (List.mem_of_mem_drop (List.mem_of_mem_take hc))⟩,U⟩)
  simp only[zl3,zl4,hl]
  decide
 ·exact Rt.all (by simp only[Df (a:=y.1.1.2.2.1.length) (b:=1) (by omega) (by omega),zU]) (Rt.ok ⟨C,U⟩)
 ·exact Rt.all (by simp only[Df (a:=y.1.2.2.2.1.length) (b:=1) (by omega) (by omega),zU]) (Rt.ok ⟨C,U⟩)
 ·exact Rt.all (by simp only[Df (a:=y.1.2.2.1.length) (b:=1) (by omega) (by omega),zU]) (Rt.ok ⟨C,U⟩)
def agP {s:List UInt8}(h:s.length≤1048576):Pc.Fp s=EA s:=by
 have a:=Pc.ac6 s (by omega)
 rw[Rn s (by omega)] at a
 injection a with a
 exact(Prod.mk.inj a).1.symm
def okC {c:bm.D}(ok:Pc.Bk c=true):(0≤c.1∧c.1≤3)∧(0≤c.2.1∧c.2.1≤99999)∧(0≤c.2.2.2.2.1∧c.2.2.2.2.1≤99999)∧((c.2.2.1==0)=false→(c.2.1==0)=false∧Pc.Fp c.2.2.2.1=true):=by
 unfold Pc.Bk at ok
 simp only[bB,mS] at ok
 obtain⟨⟨⟨⟨⟨h1,h2⟩,_⟩,h4⟩,_⟩,h6⟩:=ok
 refine⟨h1,h2,h4,fun h=>?_⟩
 rw[h] at h6
 simp only[pO,bB,zl63] at h6
 exact h6.1
def X1 {c:bm.D}(I:CI c):Gg c=some (Pc.Bk c,()):=Pc.X3 c I.g.sm (by have:=I.name;omega)
def X2 {c:bm.D}(I:CI c):Fy c=some (Pc.IL c,()):=Pc.afk c I.g.sm (by have:=I.name;omega)
def ajy {c:bm.D}(I:CI c)(ok:Pc.Bk c=true):F3 c=some (c,()):=by
 obtain⟨y,e,_,h⟩:=NU I
 rw[e,←h ok]
def afj {c:bm.D}(I:CI c):MI c=some (c,()):=by
 have a:q40 c.2.2.2.2.2.1.1=some (c.2.2.2.2.2.1.1,()):=by
  simp only[q40,Lf I.g.p3,Lf I.g.p4,zU,zl92,dW,zl17]
 have b:=Ks.adZ c.2.2.2.2.2.1.2.1.1 c.2.2.2.2.2.1.2.1.2.1 c.2.2.2.2.2.1.2.1.2.2.1 ⟨I.g.s3,fun f hf=>(I.g.row f hf).1⟩
 have d:q63 c.2.2.2.2.2.1=some (c.2.2.2.2.2.1,()):=by
  simp only[q63,a,zov a,b,zov b,qu,zU,zl92,dW]
 simp only[MI,d,zov d,qu,dW,ia]
def asks (c:bm.D):eL.D:=(1,c.1,c.2.1,c.2.2.2.2.1,0,c.2.2.2.1,[],())
def asksS (c:bm.D):Kx c=some ([asks c],()):=rfl
def asksI (c:bm.D):Wh.q1 c=some ([asks c],()):=rfl
def GD (c:bm.D):bm.D:=(c.1,c.2.1+1,1,c.2.2.2)
def Nn (c:bm.D):bm.D×List eL.D:=bif Pc.Bk c then(bif(c.2.1==99999 || c.2.2.2.2.1==0) || c.2.2.1==3 then(c,[]) else(GD c,[asks (GD c)])) else(Gz,[])
def next {c:bm.D}(ok:Pc.Bk c=true):IntKind.wrap .i64 (c.2.1+1)=c.2.1+1:=by
 have:=(okC ok).2.1
 exact wrap64 (by omega) (by omega)
def last {c:bm.D}(ok:Pc.Bk c=true):decide (c.2.1≥99999)=(c.2.1==99999):=by
 have:=(okC ok).2.1
 by_cases h:c.2.1=99999
 ·rw[h];rfl
 ·rw[zl89.2 h];exact zdf
def ajv {c:bm.D}(I:CI c):G4 c=some (Nn c,()):=by
 have e:=I.ok
 unfold Nn
 cases ok:Pc.Bk c with
 |false=>rw[ok] at e;simp only[G4,e,zov e,qu,dW,pO,zl98,ia]
 |true=>
  rw[ok] at e
  have d:=ajy I ok
  have a:=asksS (GD c)
  unfold GD at a ⊢
  simp only[G4,e,zov e,d,zov d,last ok,next ok,a,zov a,qu,dW,pO,zl70,ia]
  cases c.2.1==99999<;>cases c.2.2.2.2.1==0<;>cases c.2.2.1==3<;>rfl
def afi {c:bm.D}(I:CI c):K8 c=some (Nn c,()):=by
 have e:=X1 I
 unfold Nn
 cases ok:Pc.Bk c with
 |false=>rw[ok] at e;simp only[K8,e,zov e,qu,dW,pO,zl98,ia]
 |true=>
  rw[ok] at e
  have d:=afj I
  have a:=asksI (GD c)
  unfold GD at a ⊢
  simp only[K8,e,zov e,d,zov d,next ok,a,zov a,qu,dW,pO,zl70,ia]
  cases c.2.1==99999<;>cases c.2.2.2.2.1==0<;>cases c.2.2.1==3<;>rfl
def Uy {l:List Int}(h:l.length≤1048576):F5 (l,l)=some (true,()):=by
 have q:=A_ (r:=Mg) (st:=fun i=>(((i:Int),l,l),())) (n:=l.length) (y:=.inr ((),())) (fun i hi=>by
  simp only[Mg,gl hi,g0,bne_self_eq_false,zU,zl92,dW,pO,zw (i:=i)]) (by
  simp only[Mg,show decide ((l.length:Int)<(l.length:Int))=false from zdf,pO]) 0 (lB _)
 have q':Comes Mg (((0:Int),l,l),()) (.inr ((),())):=q
 simp only[F5,bne_self_eq_false,pO,cb q',cv q',dW,sumC,ia]
def akw {p:gv.D}(h3:p.2.2.1.length≤1048576)(h4:p.2.2.2.1.length≤1048576):KG (p,p)=some (true,()):=by
 have a:=Uy h3
 have b:=Uy h4
 simp only[KG,a,zov a,b,zov b,qu,zl95,zl99,zU,zl92,dW]
def akx {s:ei.D}(h:s.2.2.1.length≤1048576)(hs:∀x∈s.2.2.1,x.1.length≤1048576):q65 (s,s)=some (true,()):=by
 have q:=A_ (r:=MD) (st:=fun i=>(((i:Int),(),()),s,s)) (n:=s.2.2.1.length) (y:=.inr ((),())) (fun i hi=>by
  have gd:s.2.2.1.getD i ([],[],())=s.2.2.1[i]:=getD_eq _ _ _ hi
  have a:=Uy (hs _ (zl96 hi))
  simp only[MD,gl hi,g0,zl94,gd,a,zov a,qu,zl95,zl70,zl99,zU,zl92,dW,pO,zw (i:=i)]) (by
  simp only[MD,show decide ((s.2.2.1.length:Int)<(s.2.2.1.length:Int))=false from zdf,pO]) 0 (lB _)
 have q':Comes MD (((0:Int),(),()),s,s) (.inr ((),())):=q
 simp only[q65,bne_self_eq_false,pO,cb q',cv q',dW,sumC,ia]
def Ux {c:bm.D}(I:CI c):Ir (c,c)=some (true,()):=by
 have a:=akw I.g.p3 I.g.p4
 have b:=akx (s:=c.2.2.2.2.2.1.2.1) (by have:=I.g.s3;omega) fun x hx=>(I.g.row x hx).1
 have d:q41 (c.2.2.2.2.2.1,c.2.2.2.2.2.1)=some (true,()):=by
  simp only[q41,a,zov a,b,zov b,qu,zl99,zU,zl92,dW]
 simp only[Ir,d,zov d,qu,zl95,zl99,zU,dW]
def adm:G7 ([],[])=some (true,()):=by
 have q':Comes OB (((0:Int),[],[]),()) (.inr ((),())):=.out rfl
 simp only[G7,bne_self_eq_false,pO,cb q',cv q',dW,sumC,ia]
def akv {v:eL.D}(h:Ej v=true):G7 ([v],[v])=some (true,()):=by
 have hn:=RN h
 have a:=O3 v (by omega)
 rw[h] at a
 have q':Comes OB (((0:Int),[v],[v]),()) (.inr ((),())):=.again (x':=(((1:Int),[v],[v]),())) (by
  simp only[OB,show decide ((0:Int)<(([v].length:Nat):Int))=true from rfl,show [v].getD (Int.toNat 0) ((0:Int),(0:Int),(0:Int),(0:Int),(0:Int),[],[],())=v from rfl,a,zov a,qu,zl95,zl70,zl99,show decide ((0:Int)≤0)=true from rfl,zU,zl92,dW,pO,show IntKind.wrap .i64 (0+1)=1 by decide]) (.out rfl)
 simp only[G7,bne_self_eq_false,pO,cb q',cv q',dW,sumC,ia]
def adH {c:bm.D}(I:CI c)(ok:Pc.Bk c=true)(h:(c.2.2.1==0)=false):Ej (asks c)=true:=by
 obtain⟨h1,h2,h4,h6⟩:=okC ok
 obtain⟨h6,h7⟩:=h6 h
 rw[agP I.name] at h7
 have h6:=zl89.1 h6
 unfold asks Ej m6
 simp only[h7,zl95,dW,Bool.and_true,zl92]
 simp only[bB,mS]
 refine⟨⟨⟨⟨?_,?_⟩,?_⟩,?_⟩,rfl⟩<;>omega
def ajb {c x:bm.D}(ok:Pc.Bk c=true)(h1:x.1=c.1)(h2:x.2.1=c.2.1+1)(hn:(c.2.1==99999)=false)(h3:x.2.2.1=1)(h4:Pc.Fp x.2.2.2.1=true)(h5:0≤x.2.2.2.2.1∧x.2.2.2.2.1≤99999)(h6:(bif x.2.2.2.2.1==0 then Pc.GX x.2.2.2.2.2.1 else Pc.Da x.2.2.2.2.2.1)=true)(h7:(x.2.2.2.2.1==0 || !Pc.Eo x.2.2.2.2.2.1)=true):Pc.Bk x=true:=by
 obtain⟨k1,k2,_,_⟩:=okC ok
 have hn:=zl89.1 hn
 have hz:(x.2.1==0)=false:=zl89.2 (by omega)
 unfold Pc.Bk
 rw[h6,h3,h4,hz,zdt (p:=0≤x.1∧x.1≤3),zdt (p:=0≤x.2.1∧x.2.1≤99999),zl86 h5]
 simpa using h7
variable {r:dj.D} {p:Nat}
def aj_ (I:x4 r p)(hp:p≤100000000){most:Int}(hm:1≤most∧most≤110):Rt (q81 (r,most)) (fun y=>WI 110 y.1.2∧x4 y.2.1 (p+220001)):=by
 unfold q81
 refine Rt.call akH fun y W=>Rt.call (AM I (by omega) most) fun z hz=>?_
 obtain⟨k0,k1⟩:=pk hz
 have J:=hz.2.2.2
 obtain⟨n,hn⟩:=Int.eq_ofNat_of_zero_le k0
 rw[hn]
 have hn':n≤110:=by omega
 refine Rt.loop (P:=fun y=>WI 110 y.2.2.2.1∧x4 y.2.1 (p+220001)) (DO (n:=n) (I:=fun i x=>∃r' w es s,x=((((n-i:Nat):Int),(),(),(),()),r',w,es,s)∧x4 r' (p+1+2000*i)∧WI i w∧es.length=i) ?_ ?_ 0 _ (lB _) ⟨z.2.1,y.1,[],_,rfl,J,W,rfl⟩) fun y hy=>?_
 ·rintro i _ hi ⟨r',w,es,s,rfl,h1,h2,h3⟩
  left
  obtain⟨u,e1,hu,ju⟩:=aeh h1 (by omega) h2.ev
  obtain⟨c,e2,hc⟩:=Sb h2 (by omega)
  obtain⟨v,e3,hv⟩:=do_rt (show i≤900 by omega) hc hu
  have d1:decide (((n-i:Nat):Int)>0)=true:=zdt
  have w1:IntKind.wrap .i64 (((n-i:Nat):Int)-1)=((n-(i+1):Nat):Int):=by rw[wrap64 (by omega) (by omega)];omega
  have ju':=ju.up (show p+1+2000*i+2000≤p+1+2000*(i+1) by omega)
  simp only[Q3,d1,e1,zov e1,e2,zov e2,e3,zov e3,w1,qu,Df (a:=es.length) (b:=1) (by omega) (by omega),zU,zl92,dW]
  cases v.1.2
  ·exact⟨_,rfl,_,_,_,_,rfl,ju',h2.up (Nat.le_succ i),by simp[h3]⟩
  ·exact⟨_,rfl,_,_,_,_,rfl,ju',hv,by simp[h3]⟩
 ·rintro _ ⟨r',w,es,s,rfl,h1,h2,h3⟩
  have h1:=h1.up (show p+1+2000*n≤p+220001 by omega)
  have d1:decide (((n-n:Nat):Int)>0)=false:=zdf
  exact⟨_,by simp only[Q3,d1,pO];rfl,h2.up hn',h1⟩
 ·exact Rt.call (Sb hy.1 (by omega)) fun z hz=>Rt.ok ⟨hz,hy.2⟩
def akI (I:x4 r p)(hp:p≤100000000):Rt (q83 r) (fun y=>WI 110 y.1∧x4 y.2.1 (p+220001)):=by
 unfold q83
 exact Rt.call (aj_ I hp (by omega)) fun y hy=>Rt.ok hy
def adF (I:x4 r p)(hp:p≤100000000):Rt (q13 r) (fun y=>CW y.1∧x4 y.2.1 (p+220005)):=by
 unfold q13
 refine Rt.call (akI I hp) fun y hy=>Rt.call (AM hy.2 (by omega) 14) fun z hz=>Rt.bif (fun _=>?_) fun _=>?_
 ·exact Rt.call (aj7 (by omega) hy.1 hz.2.2.2 (by omega)) fun u hu=>Rt.ok ⟨hu.1,hu.2.up (by omega)⟩
 ·have:=hy.1.cls
  exact Rt.ok ⟨⟨(by omega:3≤y.1.2.1.length∧y.1.2.1.length≤4),hy.1.cl⟩,hz.2.2.2.up (by omega)⟩
def adE (I:x4 r p)(hp:p≤100000000):Rt (Wh.q7 r) (fun y=>CI y.1∧x4 y.2.1 (p+220006)):=by
 unfold Wh.q7
 refine Rt.call (adF I hp) fun y hy=>Rt.val (AM hy.2 (by omega) (y.1.2.1.length:Int)) fun z hz e=>?_
 obtain⟨⟨h1,h2⟩,h3⟩:=hy.1
 obtain⟨k0,k1⟩:=pk hz
 have gc:y.1.2.1.getD z.1.toNat Gz=y.1.2.1[z.1.toNat]:=getD_eq _ _ _ (by omega)
 refine Rt.all (by simp only[zl86 k0,zl86 k1,e,qu,zU,zl92]) (Rt.ok ⟨?_,hz.2.2.2⟩)
 show CI (y.1.2.1.getD z.1.toNat Gz)
 rw[gc]
 exact h3 _ (zl96 _)
variable {l:List Int}
def aef (h:∀x∈l,0≤x∧x≤255):Rt (Wh.q0 l) (fun y=>CI y.1):=by
 unfold Wh.q0
 refine Rt.call (afC h) fun y hy=>Rt.call (adE hy (by omega)) fun z hz=>Rt.val (AM hz.2 (by omega) 10) fun u hu e=>Rt.all (by simp only[e,qu,zU,zl99]) (Rt.bif (fun _=>?_) fun _=>Rt.ok hz.1)
 refine Rt.call (P:=fun _=>True) ?_ fun v _=>Rt.ok ⟨hz.1.name,hz.1.g⟩
 cases decide (z.1.2.1>0)
 ·exact(AM hz.2 (by omega) 2).mono fun _ _=>trivial
 ·exact(AM hu.2.2.2 (by omega) 2).mono fun _ _=>trivial
def agV:((([]:List eL.D).length:Int)==0)=true:=rfl
def ag0 (v:eL.D):(([v].length:Int)==0)=false:=rfl
def adB {c:bm.D}(I:CI c):CI (GD c):=⟨I.name,I.g⟩
def adC {c:bm.D}(ok:Pc.Bk c=true)(h:((c.2.1==99999 || c.2.2.2.2.1==0) || c.2.2.1==3)=false):Pc.Bk (GD c)=true:=by
 rw[ry,ry] at h
 obtain⟨⟨h1,h2⟩,h3⟩:=h
 obtain⟨_,_,k4,k6⟩:=okC ok
 have ok2:=ok
 unfold Pc.Bk at ok2
 simp only[bB,mS] at ok2
 obtain⟨⟨_,h5⟩,h6⟩:=ok2
 have h0:(c.2.2.1==0)=false:=by
  cases h0:c.2.2.1==0
  ·rfl
  ·rw[h0,h2] at h6;simp at h6
 refine ajb ok rfl rfl h1 rfl (k6 h0).2 k4 h5 ?_
 rw[h0,h2,h3] at h6
 show(c.2.2.2.2.1==0 || !Pc.Eo c.2.2.2.2.2.1)=true
 rw[h2]
 cases e:c.2.2.1==2<;>rw[e] at h6<;>simp only[pO,dW,bB] at h6
 ·exact h6.2
 ·exact h6.2.2
def adD {c:bm.D}(I:CI c){l:List Int}(hd:Wh.q0 l=some (c,())):Wh.q3 l=some (true,()):=by
 have a:=ajv I
 have b:=afi I
 have d:=I.ok
 by_cases hl:(l.length:Int)>1048576
 ·simp only[Wh.q3,zl86 hl,dW]
 have hl:=zl90 hl
 unfold Nn at a b
 cases ok:Pc.Bk c with
 |false=>
  rw[ok] at a b d
  have m:=adm
  have k:=Ux Nk
  simp only[pO] at a b
  simp only[Wh.q3,hl,hd,zov hd,a,zov a,b,zov b,d,zov d,m,zov m,k,zov k,qu,zl98,zl70,zl99,zU,zl92,dW,pO]
 |true=>
  rw[ok] at a b d
  simp only[dW] at a b
  cases h:((c.2.1==99999 || c.2.2.2.2.1==0) || c.2.2.1==3) with
  |true=>
   rw[h] at a b
   simp only[dW] at a b
   have m:=adm
   have k:=Ux I
   simp only[Wh.q3,hl,hd,zov hd,a,zov a,b,zov b,d,zov d,m,zov m,k,zov k,agV,qu,zl98,zl70,zl99,zl95,zU,zl92,dW,pO]
  |false=>
   rw[h] at a b
   simp only[pO] at a b
   have J:=adB I
   have ok':=adC ok h
   have m:=akv (adH J ok' rfl)
   have k:=Ux J
   have t:=X2 J
   have t2:=X2 I
   have o:=X1 J
   rw[ok'] at o
   have t0:Pc.IL (GD c)=Pc.IL c:=by unfold Pc.IL;rw[ok,ok'];rfl
   rw[t0] at t
   have k4:=(okC ok).2.2.1
   rw[ry,ry] at h
   have hp:decide (c.2.2.2.2.1>0)=true:=zl86 (by have:=zl89.1 h.1.2;omega)
   simp only[Wh.q3,hl,hd,zov hd,a,zov a,b,zov b,d,zov d,m,zov m,k,zov k,t,zov t,t2,zov t2,o,zov o,next ok,hp,ag0,qu,zl98,zl70,zl99,zl95,zU,zl92,dW,pO]
   simp[asks,GD]
variable {l:List Int}
def afE (h:∀x∈l,0≤x∧x≤255):Wh.q3 l=some (true,()):=by
 obtain⟨⟨c,u⟩,e,hc⟩:=aef h
 exact adD hc e
end Pl
