import Derived.Test.YthanhdmbelbfcaaGreatX9
set_option linter.defProp false
namespace Wh
end Wh
open Wh
open Go Go.Ab
namespace Pc
def aiX (s:e_.D)(hs:Fa s)(n:Int):KK (s,n)=some (DA s n,()):=by
 have CE:∀i,i<s.2.2.1.length→Mc (((i:Int),(),n),s)=bif !Em s n i then some (.inl ((((i+1:Nat):Int),(),n),s)) else some (.inr (.inl (((fk s i).2.1,true),()))):=by
  intro i hi
  have eA:List.getD s.2.2.1 i ([],[],())=fk s i:=rfl
  have f1:List.getD (fk s i).1 0 0=iL s i:=rfl
  have hi':decide ((i:Int)<(s.2.2.1.length:Int))=true:=by simpa using hi
  have h0:decide ((0:Int)≤(i:Int))=true:=by simp
  have w:=A4 (i:=i) (by have:=hs.1;omega)
  have d1:=len1 (fk s i).1
  have d2:(iL s i==n)=decide (iL s i=n):=rfl
  have d3:(!decide ((fk s i).1.length=1) || decide ((0:Int)<((fk s i).1.length:Int)))=true:=by
   by_cases e:(fk s i).1.length=1
   ·simp[e]
   ·simp[e]
  cases hA:decide ((fk s i).1.length=1)<;>cases hB:decide (iL s i=n)<;>simp only[hA,zl70,zl98,zl76,zl71] at d3<;>
   simp only[Mc,hi',h0,zl94,Int.toNat_zero,eA,f1,d1,d2,hA,hB,d3,w,Em,zU,dW,pO,zl70,zl98,Bool.and_true,zl74,zl76,zl99,zl92,zl73,Int.le_refl]
 have hl:Comes Mc (((0:Int),(),n),s) (if Cj s n<s.2.2.1.length then .inl (((fk s (Cj s n)).2.1,true),()) else .inr ((),())):=by
  refine Eh (fun i=>(((i:Int),(),n),s)) (fun i=> !Em s n i) (fun i=>if i<s.2.2.1.length then(.inl (((fk s i).2.1,true),()):((List UInt8×Bool)×Unit)⊕(Unit×Unit)) else .inr ((),())) ?_ ?_ ?_
  ·intro i hi h
   simp only[CE i hi];rw[h];rfl
  ·intro i hi h
   simp only[CE i hi];rw[h,bQ hi];rfl
  ·simp[Mc]
 by_cases h:Cj s n<s.2.2.1.length
 ·rw[bQ h] at hl
  simp only[KK,cb hl,cv hl,DA,bQ h,dW,ic]
 ·rw[cT h] at hl
  simp only[KK,cb hl,cv hl,DA,cT h,dW,ic]
end Pc
open Go Go.Ab Go.Lib
namespace Pl
structure E_ (r:List Int):Prop where
 mem:∀x∈r,0≤x∧x<24
 AL:r.Pairwise (· < ·)
def acT:∀{a b:List Int},a.Pairwise (· < ·)→b.Pairwise (· < ·)→(∀x,x∈a↔x∈b)→a=b:=fun {a b} ha hb h=>by
 refine List.Perm.eq_of_pairwise (le:=(· ≤ ·)) (fun x y _ _ h1 h2=>Int.le_antisymm h1 h2) (ha.imp fun h=>Int.le_of_lt h) (hb.imp fun h=>Int.le_of_lt h) ?_
 exact(List.perm_ext_iff_of_nodup (ha.imp fun h e=>by omega) (hb.imp fun h e=>by omega)).2 h
def TP {r:List Int}(h:E_ r):r.length≤24:=by
 have hn:(r.map Int.toNat).Nodup:=by
  rw[List.Nodup,List.pairwise_map]
  refine List.Pairwise.imp_of_mem ?_ h.AL
  intro a b ha hb hab e
  have:=h.mem a ha;have:=h.mem b hb;omega
 have hs:∀x∈r.map Int.toNat,x∈List.range 24:=by
  intro x hx
  obtain⟨y,hy,rfl⟩:=gG.1 hx
  have:=h.mem y hy
  rw[List.mem_range];omega
 have:=hn.length_le_of_subset hs
 simpa using this
def Ou (m:Nat):List Int:=((List.range 24).filter fun j=>m.testBit j).map fun(j:Nat)=>(j:Int)
def abR {m:Nat}{x:Int}:x∈Ou m↔0≤x∧x<24∧m.testBit x.toNat=true:=by
 unfold Ou
 simp only[gG,List.mem_filter,List.mem_range]
 constructor
 ·rintro⟨j,⟨h1,h2⟩,rfl⟩;exact⟨by omega,by omega,by simpa using h2⟩
 ·rintro⟨h1,h2,h3⟩;exact⟨x.toNat,⟨by omega,h3⟩,by omega⟩
def aic (m:Nat):E_ (Ou m):=by
 refine⟨fun x hx=>?_,?_⟩
 ·have:=abR.1 hx;omega
 ·unfold Ou
  rw[List.pairwise_map]
  exact((List.pairwise_lt_range (n:=24)).filter _).imp fun h=>by omega
def Yi {r:List Int}(h:E_ r){x:Int}(hx:0≤x∧x<24):(Pc.wX r).testBit x.toNat=true↔x∈r:=by
 rw[Pc.NX,List.any_eq_true]
 constructor
 ·rintro⟨y,hy,e⟩
  have:=h.mem y hy
  have e:=zl79 e
  have:y=x:=by omega
  subst this;exact hy
 ·intro hm;exact⟨x,hm,zl86 rfl⟩
def mk_lt {r:List Int}(h:E_ r):Pc.wX r<2 ^ 24:=Pc.NW r fun x hx=>(h.mem x hx).2
def D3 (a b:List Int):List Int:=Ou (Pc.wX a ^^^ Pc.wX b)
def Ue (a b:List Int):E_ (D3 a b):=aic _
def Lf {a b:List Int}(ha:E_ a)(hb:E_ b){x:Int}:x∈D3 a b↔(x∈a∧¬x∈b)∨(¬x∈a∧x∈b):=by
 unfold D3
 rw[abR]
 by_cases hx:0≤x∧x<24
 ·have ea:=Yi ha hx
  have eb:=Yi hb hx
  rw[Nat.testBit_xor]
  constructor
  ·rintro⟨_,_,h⟩
   cases e1:(Pc.wX a).testBit x.toNat<;>cases e2:(Pc.wX b).testBit x.toNat<;>simp[e1,e2] at h ea eb<;>simp[ea,eb]
  ·intro h
   refine⟨hx.1,hx.2,?_⟩
   cases e1:(Pc.wX a).testBit x.toNat<;>cases e2:(Pc.wX b).testBit x.toNat<;>simp[e1,e2] at ea eb ⊢ <;>simp[ea,eb] at h
 ·constructor
  ·rintro⟨h1,h2,_⟩;exact absurd ⟨h1,h2⟩ hx
  ·rintro(⟨h,_⟩|⟨_,h⟩)
   ·exact absurd (ha.mem x h) hx
   ·exact absurd (hb.mem x h) hx
def Dm:List Int→List Int→List Int
 | [],b=>b
 |x::a,[]=>x::a
 |x::a,y::b=>if x<y then x::Dm a (y::b) else if y<x then y::Dm (x::a) b else Dm a b
termination_by a b=>a.length+b.length
def Yg (a:List Int):Dm a []=a:=by cases a<;>simp[Dm]
def afM:∀(n:Nat) (a b:List Int),a.length+b.length≤n→a.Pairwise (· < ·)→b.Pairwise (· < ·) →
  (∀x,x∈Dm a b↔(x∈a∧¬x∈b)∨(¬x∈a∧x∈b))∧(Dm a b).Pairwise (· < ·):=by
 intro n
 induction n with
 |zero=>
  intro a b h ha hb
  have:a = []:=List.eq_nil_of_length_eq_zero (by omega)
  have:b = []:=List.eq_nil_of_length_eq_zero (by omega)
  subst_vars
  simp[Dm]
 |succ n ih=>
  intro a b h ha hb
  match a,b with
  | [],b=>simp only[Dm];exact⟨fun x=>by simp,hb⟩
  |x::a,[]=>simp only[Dm];exact⟨fun x=>by simp,ha⟩
  |x::a,y::b=>
   obtain⟨ax,ap⟩:=List.pairwise_cons.1 ha
   obtain⟨bx,bp⟩:=List.pairwise_cons.1 hb
   simp only[zl6] at h
   rw[Dm]
   by_cases h1:x<y
   ·rw[bQ h1]
    obtain⟨m,p⟩:=ih a (y::b) (by simp only[zl6];omega) ap hb
    refine⟨fun z=>?_,List.pairwise_cons.2 ⟨fun z hz=>?_,p⟩⟩
    ·rw[bN,m,bN,bN]
     constructor
     ·rintro(rfl|⟨h2,h3⟩|⟨h2,h3⟩)
      ·refine .inl ⟨.inl rfl,?_⟩
       rintro(rfl|h4)
       ·omega
       ·have:=bx z h4;omega
      ·exact .inl ⟨.inr h2,h3⟩
      ·refine .inr ⟨?_,h3⟩
       rintro(rfl|h4)
       ·rcases h3 with rfl|h3
        ·omega
        ·have:=bx z h3;omega
       ·exact h2 h4
     ·rintro(⟨rfl|h2,h3⟩|⟨h2,h3⟩)
      ·exact .inl rfl
      ·exact .inr (.inl ⟨h2,h3⟩)
      ·exact .inr (.inr ⟨fun q=>h2 (.inr q),h3⟩)
    ·rcases(m z).1 hz with⟨h2,_⟩|⟨_,h2⟩
     ·exact ax z h2
     ·rcases bN.1 h2 with rfl|h2
      ·exact h1
      ·have:=bx z h2;omega
   ·rw[cT h1]
    by_cases h2:y<x
    ·rw[bQ h2]
     obtain⟨m,p⟩:=ih (x::a) b (by simp only[zl6];omega) ha bp
     refine⟨fun z=>?_,List.pairwise_cons.2 ⟨fun z hz=>?_,p⟩⟩
     ·rw[bN,m,bN,bN]
      constructor
      ·rintro(rfl|⟨h3,h4⟩|⟨h3,h4⟩)
       ·refine .inr ⟨?_,.inl rfl⟩
        rintro(rfl|h4)
        ·omega
        ·have:=ax z h4;omega
       ·refine .inl ⟨h3,?_⟩
        rintro(rfl|h5)
        ·rcases h3 with rfl|h3
         ·omega
         ·have:=ax z h3;omega
        ·exact h4 h5
       ·exact .inr ⟨h3,.inr h4⟩
      ·rintro(⟨h3,h4⟩|⟨h3,rfl|h4⟩)
       ·exact .inr (.inl ⟨h3,fun q=>h4 (.inr q)⟩)
       ·exact .inl rfl
       ·exact .inr (.inr ⟨h3,h4⟩)
     ·rcases(m z).1 hz with⟨h3,_⟩|⟨_,h3⟩
      ·rcases bN.1 h3 with rfl|h3
       ·exact h2
       ·have:=ax z h3;omega
      ·exact bx z h3
    ·rw[cT h2]
     have e:x=y:=by omega
     subst e
     obtain⟨m,p⟩:=ih a b (by omega) ap bp
     refine⟨fun z=>?_,p⟩
     rw[m,bN,bN]
     constructor
     ·rintro(⟨h3,h4⟩|⟨h3,h4⟩)
      ·refine .inl ⟨.inr h3,?_⟩
       rintro(rfl|h5)
       ·have:=ax z h3;omega
       ·exact h4 h5
      ·refine .inr ⟨?_,.inr h4⟩
       rintro(rfl|h5)
       ·have:=bx z h4;omega
       ·exact h3 h5
     ·rintro(⟨rfl|h3,h4⟩|⟨h3,rfl|h4⟩)
      ·exact absurd (.inl rfl) h4
      ·exact .inl ⟨h3,fun q=>h4 (.inr q)⟩
      ·exact absurd (.inl rfl) h3
      ·exact .inr ⟨fun q=>h3 (.inr q),h4⟩
def afN {a b:List Int}(ha:E_ a)(hb:E_ b):Dm a b=D3 a b:=by
 obtain⟨m,p⟩:=afM _ a b (bA _) ha.AL hb.AL
 refine acT p (Ue a b).AL fun x=>?_
 rw[m,Lf ha hb]
end Pl
open Go Go.Ab Go.Lib
namespace Ks
open Pl
abbrev ia:Type:=gv.D
def pv (f:ia):Int:=f.1.getD 0 0
def zE:ia:=([],[],())
structure Ch (r:List Int) (c:Nat):Prop where
 mem:∀x∈r,0≤x∧x<(c:Int)
 AL:r.Pairwise (· < ·)
def Ch.i {r:List Int}{c:Nat}(h:Ch r c)(hc:c≤24):E_ r:=⟨fun x hx=>by have:=h.mem x hx;omega,h.AL⟩
def GQ {f:ia}(h:f.1 ≠ []):pv f∈f.1:=by
 obtain⟨r,d,u⟩:=f
 cases r with
 |nil=>exact absurd rfl h
 |cons a r=>simp[pv]
def Qk {f:ia}(h:f.1.Pairwise (· < ·)){x:Int}(hx:x∈f.1):pv f≤x:=by
 obtain⟨r,d,u⟩:=f
 cases r with
 |nil=>cases hx
 |cons a r=>
  rcases bN.1 hx with e|e
  ·simp[pv,e]
  ·have:=(List.pairwise_cons.1 h).1 x e
   have:pv (a::r,d,u)=a:=by simp[pv]
   omega
structure Hl (L:List ia) (c s:Nat):Prop where
 row:∀f∈L,Ch f.1 c∧f.1 ≠ []
 dat:∀f∈L,f.2.1.length=s
 Gn:L.Pairwise (fun f g=>pv f<pv g)
 crs:L.Pairwise (fun f g=>pv f∉g.1∧pv g∉f.1)
def Nm {L:List ia}{c s:Nat}(h:Hl L c s):L.length≤c:=by
 have hn:(L.map fun f=>(pv f).toNat).Nodup:=by
  rw[List.Nodup,List.pairwise_map]
  refine List.Pairwise.imp_of_mem ?_ h.Gn
  intro a b ha hb hab e
  have h1:=(h.row a ha).1.mem _ (GQ (h.row a ha).2)
  have h2:=(h.row b hb).1.mem _ (GQ (h.row b hb).2)
  omega
 have hs:∀x∈L.map fun f=>(pv f).toNat,x∈List.range c:=by
  intro x hx
  obtain⟨f,hf,rfl⟩:=gG.1 hx
  have h1:=(h.row f hf).1.mem _ (GQ (h.row f hf).2)
  rw[List.mem_range];omega
 have:=hn.length_le_of_subset hs
 simpa using this
def HD (e f:ia):ia:=if pv f∈e.1 then(D3 e.1 f.1,E7 e.2.1 f.2.1,()) else e
def s_ (L:List ia)(e:ia):ia:=L.foldl HD e
structure Dd (e:ia) (c s:Nat):Prop where
 row:Ch e.1 c
 dat:e.2.1.length=s
def acJ {a b:List Int}{c:Nat}(hc:c≤24)(ha:Ch a c)(hb:Ch b c):Ch (D3 a b) c:=by
 refine⟨fun x hx=>?_,(Ue a b).AL⟩
 rcases(Lf (ha.i hc) (hb.i hc)).1 hx with h|h
 ·exact ha.mem x h.1
 ·exact hb.mem x h.2
def PK {e f:ia}{c s:Nat}(hc:c≤24)(h:Dd e c s)(hf:Ch f.1 c):Dd (HD e f) c s:=by
 unfold HD
 split
 ·exact⟨acJ hc h.row hf,by rw[Uf];exact h.dat⟩
 ·exact h
def SC {L:List ia}{c s:Nat}(hc:c≤24)(h:Hl L c s):∀e,Dd e c s→Dd (s_ L e) c s:=by
 have:∀L:List ia,(∀f∈L,Ch f.1 c)→∀e,Dd e c s→Dd (s_ L e) c s:=by
  intro L
  induction L with
  |nil=>intro _ e he;exact he
  |cons f L ih=>
   intro hL e he
   exact ih (fun g hg=>hL g (by simp[hg])) _ (PK hc he (hL f (by simp)))
 exact this L fun f hf=>(h.row f hf).1
def aeN {L:List ia}{c s:Nat}(hc:c≤24)(h:Hl L c s){e:ia}(he:Dd e c s):∀f∈L,pv f∉(s_ L e).1:=by
 have keep:∀(M:List ia) (x:Int) (e:ia),Dd e c s→(∀g∈M,Ch g.1 c∧x∉g.1)→x∉e.1→x∉(s_ M e).1:=by
  intro M x
  induction M with
  |nil=>intro e _ _ hx;exact hx
  |cons g M ih=>
   intro e he hM hx
   have hg:=hM g (by simp)
   refine ih _ (PK hc he hg.1) (fun g' hg'=>hM g' (by simp[hg'])) ?_
   unfold HD
   split
   ·intro hm
    rcases(Lf (he.row.i hc) (hg.1.i hc)).1 hm with h|h
    ·exact hx h.1
    ·exact hg.2 h.2
   ·exact hx
 have all:∀(M:List ia),Hl M c s→∀e,Dd e c s→∀f∈M,pv f∉(s_ M e).1:=by
  intro M
  induction M with
  |nil=>intro _ e _ f hf;cases hf
  |cons g M ih=>
   intro hI e he f hf
   have hg:=hI.row g (by simp)
   have aI:=List.pairwise_cons.1 hI.crs
   have kO:Hl M c s:=⟨fun f hf=>hI.row f (by simp[hf]),fun f hf=>hI.dat f (by simp[hf]),(List.pairwise_cons.1 hI.Gn).2,aI.2⟩
   have he':=PK hc he hg.1
   rcases bN.1 hf with e1|e1
   ·subst e1
    refine keep M _ _ he' (fun g hg=>⟨(kO.row g hg).1,(aI.1 g hg).1⟩) ?_
    unfold HD
    split
    ·rename_i hm
     intro hx
     rcases(Lf (he.row.i hc) (hg.1.i hc)).1 hx with h|h
     ·exact h.2 (GQ hg.2)
     ·exact h.1 hm
    ·rename_i hm;exact hm
   ·exact ih kO _ he' f e1
 exact all L h e he
def zC (e f:ia):ia:=if pv e∈f.1 then(D3 f.1 e.1,E7 f.2.1 e.2.1,()) else f
def mw (L:List ia)(p:Int):Nat:=L.countP fun f=>decide (pv f<p)
def wh (L:List ia)(e:ia):List ia:=(L.map (zC e)).take (mw L (pv e))++e::(L.map (zC e)).drop (mw L (pv e))
def acz {e f:ia}{c:Nat}(hc:c≤24)(he:Ch e.1 c)(hn:e.1 ≠ [])(hf:Ch f.1 c)(hfn:f.1 ≠ [])(hx:pv f∉e.1):pv (zC e f)=pv f∧(zC e f).1 ≠ []:=by
 unfold zC
 split
 ·rename_i hm
  have h1:=Qk (f:=f) hf.AL hm
  have h2:pv e≠pv f:=fun h=>hx (h▸GQ hn)
  have hin:pv f∈D3 f.1 e.1:=(Lf (hf.i hc) (he.i hc)).2 (.inl ⟨GQ hfn,hx⟩)
  have hne:D3 f.1 e.1 ≠ []:=fun h=>by rw[h] at hin;cases hin
  refine⟨?_,hne⟩
  have h3:pv (D3 f.1 e.1,E7 f.2.1 e.2.1,())≤pv f:=Qk (f:=(D3 f.1 e.1,E7 f.2.1 e.2.1,())) (Ue _ _).AL hin
  have h4:pv (D3 f.1 e.1,E7 f.2.1 e.2.1,())∈D3 f.1 e.1:=GQ (f:=(D3 f.1 e.1,E7 f.2.1 e.2.1,())) hne
  rcases(Lf (hf.i hc) (he.i hc)).1 h4 with h|h
  ·have:=Qk (f:=f) hf.AL h.1;omega
  ·have:=Qk (f:=e) he.AL h.2;omega
 ·exact⟨rfl,hfn⟩
def ajn {e f:ia}{c:Nat}(hc:c≤24)(he:Ch e.1 c)(hf:Ch f.1 c):Ch (zC e f).1 c:=by
 unfold zC
 split
 ·exact acJ hc hf he
 ·exact hf
def ajm {e f:ia}{s:Nat}(hf:f.2.1.length=s):(zC e f).2.1.length=s:=by
 unfold zC
 split
 ·rw[Uf];exact hf
 ·exact hf
def T6 {e f:ia}{c:Nat}(hc:c≤24)(he:Ch e.1 c)(hf:Ch f.1 c){x:Int}(h:x∈(zC e f).1):(x∈f.1∨x∈e.1)∧(x=pv e→e.1 = []):=by
 unfold zC at h
 split at h
 ·rename_i hm
  rcases(Lf (hf.i hc) (he.i hc)).1 h with h'|h'
  ·refine⟨.inl h'.1,fun hx=>?_⟩
   subst hx
   refine Classical.byContradiction fun hne=>h'.2 (GQ hne)
  ·refine⟨.inr h'.2,fun hx=>?_⟩
   subst hx
   exact absurd hm h'.1
 ·rename_i hm
  exact⟨.inl h,fun hx=>absurd (hx▸h) hm⟩
def N9 (L:List ia)(p:Int):mw L p≤L.length:=List.countP_le_length
def YU {L:List ia}(hs:L.Pairwise (fun f g=>pv f<pv g))(p:Int):(∀f∈L.take (mw L p),pv f<p)∧(∀f∈L.drop (mw L p),¬pv f<p):=by
 induction L with
 |nil=>simp[mw]
 |cons f L ih=>
  obtain⟨h1,h2⟩:=List.pairwise_cons.1 hs
  obtain⟨i1,i2⟩:=ih h2
  by_cases hf:pv f<p
  ·have e:mw (f::L) p=mw L p+1:=by simp[mw,hf]
   rw[e]
   refine⟨fun g hg=>?_,fun g hg=>?_⟩
   ·rw[List.take_succ_cons] at hg
    rcases bN.1 hg with h|h
    ·rw[h];exact hf
    ·exact i1 g h
   ·rw[List.drop_succ_cons] at hg
    exact i2 g hg
  ·have e0:mw L p=0:=by
    unfold mw
    rw[List.countP_eq_zero]
    intro g hg
    have:=h1 g hg
    simp only[mS];omega
   have e:mw (f::L) p=0:=by
    unfold mw at e0 ⊢
    rw[List.countP_cons,e0];simp[hf]
   rw[e]
   refine⟨fun g hg=>by simp at hg,fun g hg=>?_⟩
   rw[zl84] at hg
   rcases bN.1 hg with h|h
   ·rw[h];exact hf
   ·have:=h1 g h;omega
def add_I {L:List ia}{c s:Nat}(hc:c≤24)(h:Hl L c s){e:ia}(he:Dd e c s)(hn:e.1 ≠ [])(hp:∀f∈L,pv f∉e.1):Hl (wh L e) c s:=by
 have hmem:∀g∈wh L e,g=e∨∃f∈L,g=zC e f:=by
  intro g hg
  unfold wh at hg
  rcases bU.1 hg with h1|h1
  ·obtain⟨f,hf,e1⟩:=gG.1 (List.mem_of_mem_take h1)
   exact .inr ⟨f,hf,e1.symm⟩
  ·rcases bN.1 h1 with h2|h2
   ·exact .inl h2
   ·obtain⟨f,hf,e1⟩:=gG.1 (List.mem_of_mem_drop h2)
    exact .inr ⟨f,hf,e1.symm⟩
 have pu:∀f∈L,pv (zC e f)=pv f∧(zC e f).1 ≠ []:=fun f hf=>acz hc he.row hn (h.row f hf).1 (h.row f hf).2 (hp f hf)
 have pne:∀f∈L,pv f≠pv e:=fun f hf e1=>hp f hf (e1▸GQ hn)
 obtain⟨t1,t2⟩:=YU h.Gn (pv e)
 have key:∀(R:ia→ia→Prop),(∀f g,f∈L→g∈L→pv f<pv g→(pv f∉g.1∧pv g∉f.1)→R (zC e f) (zC e g))→(∀f∈L,pv f<pv e→R (zC e f) e)→(∀f∈L,pv e<pv f→R e (zC e f))→(wh L e).Pairwise R:=by
  intro R r1 r2 r3
  have hm:(L.map (zC e)).Pairwise R:=by
   rw[List.pairwise_map]
   refine List.Pairwise.imp_of_mem ?_ (h.Gn.and h.crs)
   intro a b ha hb hab
   exact r1 a b ha hb hab.1 hab.2
  unfold wh
  rw[List.pairwise_append]
  refine⟨hm.sublist (List.take_sublist _ _),List.pairwise_cons.2 ⟨fun g hg=>?_,hm.sublist (List.drop_sublist _ _)⟩,fun a ha g hg=>?_⟩
  ·rw[←List.map_drop] at hg
   obtain⟨f,hf,e1⟩:=gG.1 hg
   subst e1
   have hfL:=List.mem_of_mem_drop hf
   have a1:=t2 f hf
   have a2:=pne f hfL
   exact r3 f hfL (by omega)
  ·rw[←List.map_take] at ha
   obtain⟨f,hf,e1⟩:=gG.1 ha
   subst e1
   have hfL:=List.mem_of_mem_take hf
   have a1:=t1 f hf
   rcases bN.1 hg with e2|e2
   ·subst e2;exact r2 f hfL a1
   ·rw[←List.map_drop] at e2
    obtain⟨g',hg',e3⟩:=gG.1 e2
    subst e3
    have hgL:=List.mem_of_mem_drop hg'
    have h2:(L.take (mw L (pv e))++L.drop (mw L (pv e))).Pairwise (fun f g=>pv f<pv g∧(pv f∉g.1∧pv g∉f.1)):=by
     rw[zl68];exact h.Gn.and h.crs
    have h3:=(List.pairwise_append.1 h2).2.2 f hf g' hg'
    exact r1 f g' hfL hgL h3.1 h3.2
 have cr:∀f g,f∈L→g∈L→pv f∉g.1→pv (zC e f)∉(zC e g).1:=by
  intro f g hf hg hx hm
  rw[(pu f hf).1] at hm
  rcases(T6 hc he.row (h.row g hg).1 hm).1 with h1|h1
  ·exact hx h1
  ·exact hp f hf h1
 refine⟨fun g hg=>?_,fun g hg=>?_,?_,?_⟩
 ·rcases hmem g hg with e1|⟨f,hf,e1⟩
  ·subst e1;exact⟨he.row,hn⟩
  ·subst e1;exact⟨ajn hc he.row (h.row f hf).1,(pu f hf).2⟩
 ·rcases hmem g hg with e1|⟨f,hf,e1⟩
  ·subst e1;exact he.dat
  ·subst e1;exact ajm (h.dat f hf)
 ·refine key _ (fun f g hf hg h1 _=>?_) (fun f hf h1=>?_) (fun f hf h1=>?_)
  ·rw[(pu f hf).1,(pu g hg).1];exact h1
  ·rw[(pu f hf).1];exact h1
  ·rw[(pu f hf).1];exact h1
 ·refine key _ (fun f g hf hg _ h1=>⟨cr f g hf hg h1.1,cr g f hg hf h1.2⟩) (fun f hf _=>?_) (fun f hf _=>?_)
  ·exact⟨by rw[(pu f hf).1];exact hp f hf,fun hm=>hn ((T6 hc he.row (h.row f hf).1 hm).2 rfl)⟩
  ·exact⟨fun hm=>hn ((T6 hc he.row (h.row f hf).1 hm).2 rfl),by rw[(pu f hf).1];exact hp f hf⟩
open Pl
def aid {r:List Int}{c:Nat}(h:Pc.Cu r (c:Int)=true):Ch r c:=by
 refine⟨fun x hx=>?_,?_⟩
 ·obtain⟨i,hi,rfl⟩:=List.mem_iff_getElem.1 hx
  have h':=h
  simp only[Pc.Cu,bB] at h'
  have:=Pc.v5.1 h'.1 i hi
  simp only[Pc.CF,bB,mS,Pc.getD_eq _ _ _ hi] at this
  omega
 ·rw[List.pairwise_iff_getElem]
  intro i j hi hj hij
  have h':=h
  simp only[Pc.Cu,bB] at h'
  have:=Pc.AL (f:=fun i=>r.getD i 0) (n:=r.length) (fun i h0 hi=>by
   have:=Pc.v5.1 h'.1 i hi
   simp only[Pc.CF,bB,rz,mS] at this
   exact this.2.resolve_left (by omega)) j i hij hj
  simp only[Pc.getD_eq _ _ _ hi,Pc.getD_eq _ _ _ hj] at this
  exact this
def Xo {r:List Int}{x:Int}:Pc.FH r x=true↔x∈r:=by
 rw[Pc.Sp,List.mem_iff_getElem]
 constructor
 ·rintro⟨i,hi,e⟩;rw[Pc.getD_eq _ _ _ hi] at e;exact⟨i,hi,e⟩
 ·rintro⟨i,hi,e⟩;exact⟨i,hi,by rw[Pc.getD_eq _ _ _ hi];exact e⟩
def ok_I {L:List ia}{c z:Int}(h:Pc.CY (c,z,L,())=true):(1≤c∧c≤24)∧(1≤z∧z≤16)∧Hl L c.toNat z.toNat:=by
 obtain⟨h1,h2,h3,h4⟩:=Pc.TR h
 have ce:c=(c.toNat:Int):=by have:(1:Int)≤c:=h1.1;omega
 have ze:z=(z.toNat:Int):=by have:(1:Int)≤z:=h2.1;omega
 have at_ (i:Nat) (hi:i<L.length):Pc.fk (c,z,L,()) i=L[i]:=by unfold Pc.fk;exact Pc.getD_eq _ _ _ hi
 have hd (i:Nat) (hi:i<L.length):Pc.iL (c,z,L,()) i=pv L[i]:=by unfold Pc.iL;rw[at_ i hi];rfl
 refine⟨h1,h2,⟨fun f hf=>?_,fun f hf=>?_,?_,?_⟩⟩
 ·obtain⟨i,hi,rfl⟩:=List.mem_iff_getElem.1 hf
  have h5:=Pc.v5.1 h3 i hi
  simp only[Pc.zP,bB,mS,at_ i hi] at h5
  refine⟨aid (by rw[←ce];exact h5.1.1.1),fun e=>h5.1.1.2 (by rw[e];rfl)⟩
 ·obtain⟨i,hi,rfl⟩:=List.mem_iff_getElem.1 hf
  have h5:=Pc.v5.1 h3 i hi
  simp only[Pc.zP,bB,mS,at_ i hi] at h5
  have:=h5.1.2
  omega
 ·rw[List.pairwise_iff_getElem]
  intro i j hi hj hij
  have:=Pc.Nu h3 j i hij hj
  rwa[hd i hi,hd j hj] at this
 ·rw[List.pairwise_iff_getElem]
  intro i j hi hj hij
  have cr (i k:Nat) (hi:i<L.length) (hk:k<L.length) (hne:k≠i):pv L[i]∉L[k].1:=by
   have h5:=Pc.v5.1 (Pc.v5.1 h4 i hi) k hk
   simp only[Pc.JP,rz,mS,at_ k hk,hd i hi] at h5
   have h6:=h5.resolve_left hne
   intro hm
   rw[Xo.2 hm] at h6
   cases h6
  exact⟨cr i j hi hj (by omega),cr j i hj hi (by omega)⟩
open Pl
def lnE (n:Nat):decide ((n:Int)<(n:Int))=false:=zdf
structure Lm (p:gh.D) (c z:Nat):Prop where
 long:1≤p.1∧p.1≤300
 size:p.2.1=(z:Int)∧1≤z∧z≤16
 cnt:Pc.cnt p=(c:Int)
 c1:1≤c∧c≤24
 n:1≤p.2.2.1.length∧p.2.2.1.length≤3
 m:p.2.2.2.1.length=p.2.2.1.length
 win:∀x∈p.2.2.1,1≤x∧x≤(c:Int)
 wgt:∀x∈p.2.2.2.1,1≤x∧x≤99
def plan_I {p:gh.D}(h:Pc.Bo p=true):Lm p (Pc.cnt p).toNat p.2.1.toNat:=by
 unfold Pc.Bo Pc.Cr at h
 simp only[bB,mS] at h
 obtain⟨⟨⟨⟨⟨⟨a1,a2⟩,a3⟩,a4⟩,a5⟩,a6⟩,_⟩:=h
 have hb:=Pc.M_ p a1 a2
 have hp:∀i,i<p.2.2.1.length→(1≤p.2.2.1.getD i 0∧p.2.2.1.getD i 0≤Pc.cnt p)∧(1≤p.2.2.2.1.getD i 0∧p.2.2.2.1.getD i 0≤99):=by
  intro i hi
  have:=Pc.v5.1 a6 i hi
  simp only[Pc.FZ,bB,mS] at this
  exact⟨this.1.1,this.2⟩
 refine⟨a1,⟨by omega,by omega,by omega⟩,by omega,⟨by omega,by omega⟩,a4,a5,fun x hx=>?_,fun x hx=>?_⟩
 ·obtain⟨i,hi,rfl⟩:=List.mem_iff_getElem.1 hx
  have:=(hp i hi).1
  rw[Pc.getD_eq _ _ _ hi] at this
  omega
 ·obtain⟨i,hi,rfl⟩:=List.mem_iff_getElem.1 hx
  have:=(hp i (by omega)).2
  rw[Pc.getD_eq _ _ _ hi] at this
  exact this
def JF:List Int→List Int→Int→Int
 |w::W,v::ws,k=>if k<v then w else JF W ws (k-v)
 |_,_,_=>0
def Ra:∀(ws:List Int),(∀x∈ws,1≤x∧x≤99)→(ws.length:Int)≤ws.sum∧ws.sum≤99*(ws.length:Int)
 | [],_=>by simp
 |v::ws,h=>by
  have a:=Ra ws fun x hx=>h x (by simp[hx])
  have b:=h v (by simp)
  simp only[zl82,zl6]
  omega
def acF:∀(W ws:List Int) (k:Int),W.length=ws.length→0≤k→k<ws.sum→JF W ws k∈W
 | [],[],k,_,h0,h=>by simp at h;omega
 |w::W,v::ws,k,hl,h0,h=>by
  unfold JF
  split
  ·simp
  ·have:=acF W ws (k-v) (by simpa using hl) (by omega) (by simp only[zl82] at h;omega)
   simp[this]
def sum_at (ws:List Int)(i:Nat)(hi:i<ws.length):(ws.drop i).sum=ws.getD i 0+(ws.drop (i+1)).sum:=by
 rw[zl109 hi,zl82,Pc.getD_eq _ _ _ hi]
def win_at (W ws:List Int)(i:Nat)(hi:i<ws.length)(hl:W.length=ws.length)(k:Int):JF (W.drop i) (ws.drop i) k=if k<ws.getD i 0 then W.getD i 0 else JF (W.drop (i+1)) (ws.drop (i+1)) (k-ws.getD i 0):=by
 rw[zl109 hi,zl109 (show i<W.length by omega),JF,Pc.getD_eq _ _ _ hi,Pc.getD_eq _ _ _ (show i<W.length by omega)]
def sumS (p:gh.D){c z:Nat}(I:Lm p c z)(id:Int):Comes Jt (((0:Int),(),(0:Int),id),p) (((),p.2.2.2.1.sum,id),p):=by
 have hm:=I.m
 have hn:=I.n
 have:=Br (r:=Jt) (st:=fun i=>(((i:Int),(),(p.2.2.2.1.take i).sum,id),p)) (n:=p.2.2.2.1.length) (y:=(((),p.2.2.2.1.sum,id),p)) (fun i hi=>by
  have b1:=Ra (p.2.2.2.1.take i) fun x hx=>I.wgt x (List.mem_of_mem_take hx)
  have b2:=I.wgt _ (zl96 hi)
  have b3:(p.2.2.2.1.take i).length≤i:=by rw[zl3];omega
  have e1:(p.2.2.2.1.take (i+1)).sum=(p.2.2.2.1.take i).sum+p.2.2.2.1.getD i 0:=by
   rw[zl88 hi,List.sum_append,Pc.getD_eq _ _ _ hi];simp
  have w1:=zw (i:=i)
  have w2:IntKind.wrap .i64 ((p.2.2.2.1.take i).sum+p.2.2.2.1.getD i 0)=(p.2.2.2.1.take i).sum+p.2.2.2.1.getD i 0:=by
   rw[Pc.getD_eq _ _ _ hi,Pc.wrap64]<;>omega
  simp only[Jt,gl hi,g0,zl94,zU,zl92,dW,w1,w2,e1]) (by simp only[Jt,lnE,pO,zl102]) 0 (lB _)
 exact this
def winS (p:gh.D){c z:Nat}(I:Lm p c z):∀d i:Nat,i+d=p.2.2.2.1.length→∀k:Int,0≤k→k<(p.2.2.2.1.drop i).sum→Comes Ju (((i:Int),(),k),p) (.inl (JF (p.2.2.1.drop i) (p.2.2.2.1.drop i) k,())):=by
 have hm:=I.m
 have hn:=I.n
 intro d
 induction d with
 |zero=>
  intro i hi k h0 h
  rw[List.drop_eq_nil_of_le (by omega)] at h
  simp at h;omega
 |succ d ih=>
  intro i hi k h0 h
  have hi':i<p.2.2.2.1.length:=by omega
  have hi2:i<p.2.2.1.length:=by omega
  rw[sum_at _ _ hi'] at h
  have b2:=I.wgt _ (zl96 hi')
  have b1:=Ra (p.2.2.2.1.drop (i+1)) fun x hx=>I.wgt x (List.mem_of_mem_drop hx)
  have b3:(p.2.2.2.1.drop (i+1)).length≤3:=by rw[zl4];omega
  have eg:=Pc.getD_eq p.2.2.2.1 i 0 hi'
  rw[win_at _ _ _ hi' (by omega)]
  have w1:=zw (i:=i)
  by_cases hk:k<p.2.2.2.1.getD i 0
  ·rw[bQ hk]
   refine .out ?_
   simp only[Ju,gl hi',gl hi2,g0,zl94,zU,zl92,dW,zl86 hk]
  ·rw[cT hk]
   have w2:IntKind.wrap .i64 (k-p.2.2.2.1.getD i 0)=k-p.2.2.2.1.getD i 0:=by rw[eg,Pc.wrap64]<;>omega
   refine .again (x':=((((i+1:Nat):Int),(),k-p.2.2.2.1.getD i 0),p)) ?_ (ih (i+1) (by omega) _ (by omega) (by omega))
   simp only[Ju,gl hi',g0,zl94,zU,zl92,dW,pO,zl90 hk,w1,w2]
def JE (p:gh.D)(id:Nat):Int:=JF p.2.2.1 p.2.2.2.1 (BL (nT id) p.2.2.2.1.sum.toNat)
def CF (p:gh.D)(c id:Nat):List Int:=if id<c then [(id:Int)] else G8 (JE p id).toNat id
def acE {p:gh.D}{c z:Nat}(I:Lm p c z)(id:Nat):(0≤(BL (nT id) p.2.2.2.1.sum.toNat:Int)∧(BL (nT id) p.2.2.2.1.sum.toNat:Int)<p.2.2.2.1.sum)∧0<p.2.2.2.1.sum.toNat∧p.2.2.2.1.sum.toNat≤297∧∃w:Nat,JE p id=(w:Int)∧1≤w∧w≤c:=by
 have hm:=I.m
 have hn:=I.n
 have b:=Ra p.2.2.2.1 I.wgt
 have h:=Kg (nT id) p.2.2.2.1.sum.toNat (by omega)
 have hw:=acF p.2.2.1 p.2.2.2.1 (BL (nT id) p.2.2.2.1.sum.toNat) (by omega) (by omega) (by omega)
 have:=I.win _ hw
 exact⟨⟨by omega,by omega⟩,by omega,by omega,(JE p id).toNat,by unfold JE;omega,by unfold JE;omega,by unfold JE;omega⟩
def rowP_C {p:gh.D}{c z:Nat}(I:Lm p c z)(id:Nat):Ch (CF p c id) c∧CF p c id ≠ []:=by
 obtain⟨_,_,_,w,e,h1,h2⟩:=acE I id
 unfold CF
 split
 ·exact⟨⟨fun x hx=>by simp at hx;omega,by simp⟩,by simp⟩
 ·rw[e,zl94]
  refine⟨⟨fun x hx=>?_,abS h1⟩,fun h=>?_⟩
  ·have:=abU h1 hx;omega
  ·have:=(abT (c:=w) (seed:=id) h1).1
   rw[h] at this;simp at this
def aie {p:gh.D}{c z:Nat}(I:Lm p c z)(id:Nat)(hid:id≤9999):Ft (p,(id:Int))=some (CF p c id,()):=by
 have ec:=Pc.MH p I.long (by have:=I.size;omega)
 rw[I.cnt] at ec
 obtain⟨⟨k0,k1⟩,s0,s1,w,e,h1,h2⟩:=acE I id
 have hc:=I.c1
 unfold CF
 by_cases hcc:id<c
 ·simp only[Ft,ec,zov ec,Fi,zU,dW,zdt (p:=(id:Int)<(c:Int)),bQ hcc]
 ·have n1:=OD id (by omega)
  have sl:=MD id
  have p1:=OE (nT id) p.2.2.2.1.sum.toNat sl s0
  have c1:=sumS p I (id:Int)
  have c2:=winS p I p.2.2.2.1.length 0 (by omega) (BL (nT id) p.2.2.2.1.sum.toNat) k0 k1
  have er:=acf w id h1 (by omega) (by omega)
  have es:((p.2.2.2.1.sum.toNat:Nat):Int)=p.2.2.2.1.sum:=by omega
  rw[es] at p1
  unfold JE at e
  rw[zl84,zl84,e] at c2
  have ew:G3 (p,(id:Int))=some ((w:Int),()):=by
   have c2':Comes Ju (((0:Int),(),(BL (nT id) p.2.2.2.1.sum.toNat:Int)),p) (.inl ((w:Int),())):=c2
   simp only[G3,cb c1,cv c1,n1,zov n1,p1,zov p1,Au,cb c2',cv c2',sumC]
  unfold JE
  simp only[Ft,ec,zov ec,ew,zov ew,er,zov er,Au,pO,zdf (p:=(id:Int)<(c:Int)),cT hcc,e,zl94]
open Pl
def gx {i n:Nat}(h:i<n):decide ((i:Int)<(n:Int))=true:=zdt
def gn {i n:Nat}(h:¬i<n):decide ((i:Int)<(n:Int))=false:=zdf
def ajD (a b:List Int)(ha:a.length≤1000)(hb:b.length≤1000):∀d i k:Nat,∀ls:List Int,(a.length-i)+(b.length-k)≤d→i≤a.length→k≤b.length→ls.length≤i+k →
  Comes F7 (((i:Int),a,(),(k:Int),b),ls) ((),ls++Dm (a.drop i) (b.drop k)):=by
 intro d
 induction d with
 |zero=>
  intro i k ls hd hi hk hl
  have e1:i=a.length:=by omega
  have e2:k=b.length:=by omega
  subst e1 e2
  refine .out ?_
  simp only[F7,lnE,pO,List.drop_length,Dm,jM]
 |succ d ih=>
  intro i k ls hd hi hk hl
  have w1:=zw (i:=i)
  have w2:=zw (i:=k)
  have lm:decide (ls.length+1≤eV)=true:=zl86 (by unfold eV;omega)
  by_cases hia:i<a.length
  ·have ga:decide ((i:Int)≥(a.length:Int))=false:=zdf
   have da:=zl109 hia
   have ea:=Pc.getD_eq a i 0 hia
   by_cases hkb:k<b.length
   ·have gb:decide ((k:Int)≥(b.length:Int))=false:=zdf
    have db:=zl109 hkb
    have eb:=Pc.getD_eq b k 0 hkb
    rw[da,db,Dm]
    by_cases h1:a[i]<b[k]
    ·rw[bQ h1]
     refine .again (x':=((((i+1:Nat):Int),a,(),(k:Int),b),ls ++ [a[i]])) ?_ ?_
     ·simp only[F7,gx hia,gx hkb,gb,g0,ea,eb,zl94,zl86 h1,lm,w1,zU,zl98,zl70,zl92,zl99,dW,pO]
     ·have:=ih (i+1) k (ls ++ [a[i]]) (by omega) (by omega) hk (by rw[eY];simp;omega)
      rw[cZ,db] at this
      exact this
    ·rw[cT h1]
     by_cases h2:b[k]<a[i]
     ·rw[bQ h2]
      refine .again (x':=(((i:Int),a,(),((k+1:Nat):Int),b),ls ++ [b[k]])) ?_ ?_
      ·simp only[F7,gx hia,gx hkb,ga,gb,g0,ea,eb,zl94,zl90 h1,zl86 h2,lm,w2,zU,zl98,zl70,zl92,zl99,dW,pO]
      ·have:=ih i (k+1) (ls ++ [b[k]]) (by omega) hi (by omega) (by rw[eY];simp;omega)
       rw[cZ,da] at this
       exact this
     ·rw[cT h2]
      have:=ih (i+1) (k+1) ls (by omega) (by omega) (by omega) (by omega)
      refine .again (x':=((((i+1:Nat):Int),a,(),((k+1:Nat):Int),b),ls)) ?_ this
      simp only[F7,gx hia,gx hkb,ga,gb,g0,ea,eb,zl94,zl90 h1,zl90 h2,w1,w2,zU,zl98,zl70,zl92,zl99,dW,pO]
   ·have gb:decide ((k:Int)≥(b.length:Int))=true:=zdt
    have db:b.drop k = []:=List.drop_eq_nil_of_le (by omega)
    rw[da,db,Yg]
    refine .again (x':=((((i+1:Nat):Int),a,(),(k:Int),b),ls ++ [a[i]])) ?_ ?_
    ·simp only[F7,gx hia,gn hkb,gb,g0,ea,zl94,lm,w1,zU,zl70,zl98,zl74,zl76,zl92,dW]
    ·have:=ih (i+1) k (ls ++ [a[i]]) (by omega) (by omega) hk (by rw[eY];simp;omega)
     rw[cZ,db,Yg] at this
     exact this
  ·have ga:decide ((i:Int)≥(a.length:Int))=true:=zdt
   by_cases hkn:¬k<b.length
   ·have e1:i=a.length:=by omega
    have e2:k=b.length:=by omega
    subst e1 e2
    refine .out ?_
    simp only[F7,lnE,pO,List.drop_length,Dm,jM]
   ·have hkb:k<b.length:=by omega
    have gb:decide ((k:Int)≥(b.length:Int))=false:=zdf
    have db:=zl109 hkb
    have eb:=Pc.getD_eq b k 0 hkb
    have da:a.drop i = []:=List.drop_eq_nil_of_le (by omega)
    rw[da,db,Dm]
    refine .again (x':=(((i:Int),a,(),((k+1:Nat):Int),b),ls ++ [b[k]])) ?_ ?_
    ·simp only[F7,gn hia,gx hkb,ga,gb,g0,eb,zl94,lm,w2,zU,zl98,zl70,zl93,zl76,zl92,zl99,dW,pO]
    ·have:=ih i (k+1) (ls ++ [b[k]]) (by omega) hi (by omega) (by rw[eY];simp;omega)
     rw[cZ,da,Dm] at this
     exact this
def acK {a b:List Int}(ha:E_ a)(hb:E_ b):H8 (a,b)=some (D3 a b,()):=by
 have la:=TP ha
 have lb:=TP hb
 have c:Comes F7 (((0:Int),a,(),(0:Int),b),[]) ((),D3 a b):=by
  have:=ajD a b (by omega) (by omega) _ 0 0 [] (bA _) (by omega) (by omega) (by simp)
  rw[zl84,zl84,afN ha hb,zl17] at this
  exact this
 simp only[H8,cb c,cv c,dW,ic]
open Pl
def hasS {r:List Int}(h:r.length≤1000)(x:Int):EC (r,x)=some (decide (x∈r),()):=by
 rw[Pc.aco r x (by omega)]
 congr 2
 rw[zl105,mS]
 exact Xo
structure Ln (L:List ia) (c z:Nat):Prop where
 c1:1≤c∧c≤24
 z1:1≤z∧z≤16
 eqs:Hl L c z
def Ov {r:List Int}{c:Nat}(hc:c≤24)(h:Ch r c):r.length≤24:=TP (h.i hc)
def P8 {r:List Int}(h:r ≠ []):decide ((0:Int)<(r.length:Int))=true:=zl86 (by
 have:r.length≠0:=fun e=>h (List.eq_nil_of_length_eq_zero e)
 omega)
def ah5 {M:List ia}{c s:Nat}(hc:c≤24)(hM:∀f∈M,Ch f.1 c){e:ia}(he:Dd e c s):Dd (s_ M e) c s:=by
 induction M generalizing e with
 |nil=>exact he
 |cons f M ih=>exact ih (fun g hg=>hM g (by simp[hg])) (PK hc he (hM f (by simp)))
def aeO (M:List ia)(f e:ia):s_ (M ++ [f]) e=HD (s_ M e) f:=by simp[s_]
def aeP (L:List ia)(i:Nat)(hi:i<L.length)(e:ia):s_ (L.take (i+1)) e=HD (s_ (L.take i) e) (L.getD i zE):=by
 rw[zl88 hi,aeO,Pc.getD_eq _ _ _ hi]
def aeM {L:List ia}{c z:Nat}(I:Ln L c z){e:ia}(he:Dd e c z):Kz (((c:Int),(z:Int),L,()),e)=some (s_ L e,()):=by
 have hc:=I.c1.2
 have hL:=Nm I.eqs
 have hr:∀i,Dd (s_ (L.take i) e) c z:=fun i=>ah5 hc (fun f hf=>(I.eqs.row f (List.mem_of_mem_take hf)).1) he
 have q:=Br (r:=KA) (st:=fun i=>(((i:Int),(),(),()),s_ (L.take i) e,((c:Int),(z:Int),L,()),((),[],()),[])) (n:=L.length) (y:=(((),()),((),[],()),s_ L e,[])) (fun i hi=>by
  have hm:L.getD i zE∈L:=by rw[Pc.getD_eq _ _ _ hi];exact zl96 hi
  have wr:=zw (i:=i)
  have f1:=I.eqs.row _ hm
  have f2:=I.eqs.dat _ hm
  have e1:=hr i
  have le:=Ov hc e1.row
  rw[aeP L i hi]
  generalize s_ (L.take i) e=g at *
  have h:=hasS (r:=g.1) (by omega) (pv (L.getD i zE))
  unfold HD
  unfold zE at *
  unfold pv at h ⊢
  generalize hg:List.getD L i (([]:List Int),([]:List UInt8),())=f at *
  have nl:=P8 f1.2
  by_cases hx:List.getD f.1 0 0∈g.1
  ·rw[zl86 hx] at h
   have x1:=acK (e1.row.i hc) (f1.1.i hc)
   have x2:=TU g.2.1 f.2.1 (by rw[e1.dat,f2]) (by rw[e1.dat];have:=I.z1;omega)
   rw[bQ hx]
   simp only[KA,gx hi,g0,zl94,hg,show Int.toNat 0=0 from rfl,h,zov h,nl,x1,zov x1,x2,zov x2,Au,wr]
  ·rw[zl90 hx] at h
   rw[cT hx]
   simp only[KA,gx hi,g0,zl94,hg,show Int.toNat 0=0 from rfl,h,zov h,nl,Au,pO,wr]) (by simp only[KA,lnE,pO,zl102,ic]) 0 (lB _)
 have q':Comes KA (((0:Int),(),(),()),e,((c:Int),(z:Int),L,()),((),[],()),[]) (((),()),((),[],()),s_ L e,[]):=q
 simp only[Kz,cb q',cv q',dW,ic]
open Pl
def lm1 {n:Nat}(h:n≤1000000):decide (n+1≤eV)=true:=zl86 (by unfold eV;omega)
def lm0 {n:Nat}(h:n≤1048576):decide ((0:Nat)+n≤eV)=true:=zl86 (by unfold eV;omega)
def ajb (L:List ia)(i:Nat)(hi:i<L.length):L.take i ++ [L.getD i zE]=L.take (i+1):=by
 rw[zl88 hi,Pc.getD_eq _ _ _ hi]
def SmS (L:List ia):Prop:=L.length≤1000000∧∀f∈L,f.1.length≤1048576
def Wu (c z:Int)(L:List ia)(h:SmS L):Je (c,z,L,())=some ((c,z,L,()),()):=by
 have q:=Br (r:=L6) (st:=fun i=>(((i:Int),(),(),()),(c,z,(),()),(c,z,L,()),(0,0,(),()),L.take i,[])) (n:=L.length) (y:=(((),()),(0,0,(),()),(c,z,(),()),[],L)) (fun i hi=>by
  have hm:L.getD i zE∈L:=by rw[Pc.getD_eq _ _ _ hi];exact zl96 hi
  have wr:=A4 (show i≤4611686018427387904 by have:=h.1;omega)
  have l1:=lm1 (n:=(L.take i).length) (by rw[zl3];have:=h.1;omega)
  have l2:=lm0 (h.2 _ hm)
  rw[←ajb L i hi]
  unfold zE at l2 ⊢
  generalize hg:List.getD L i (([]:List Int),([]:List UInt8),())=f at *
  simp only[L6,gx hi,g0,zl94,hg,l1,l2,zU,zl92,dW,wr,zl17]) (by simp only[L6,lnE,pO,zl102]) 0 (lB _)
 have q':Comes L6 (((0:Int),(),(),()),(c,z,(),()),(c,z,L,()),(0,0,(),()),[],[]) (((),()),(0,0,(),()),(c,z,(),()),[],L):=q
 simp only[Je,cb q',cv q',dW,ic]
structure JJ (L:List ia) (c z:Nat) (e:ia):Prop where
 s:Ln L c z
 r:Dd e c z
 ne:e.1 ≠ []
 np:∀f∈L,pv f∉e.1
def JJ.at {L:List ia}{c z:Nat}{e:ia}(A:JJ L c z e){i:Nat}(hi:i<L.length):pv (zC e (L.getD i zE))=Ks.pv (L.getD i zE)∧(zC e (L.getD i zE)).1 ≠ []∧Ks.pv (L.getD i zE)≠Ks.pv e∧(Ks.pv (L.getD i zE)<Ks.pv e↔i<mw L (Ks.pv e)):=by
 have hm:L.getD i zE∈L:=by rw[Pc.getD_eq _ _ _ hi];exact zl96 hi
 have hf:=A.s.eqs.row _ hm
 have h1:=acz A.s.c1.2 A.r.row A.ne hf.1 hf.2 (A.np _ hm)
 obtain⟨t1,t2⟩:=YU A.s.eqs.Gn (Ks.pv e)
 refine⟨h1.1,h1.2,fun h=>A.np _ hm (h▸GQ A.ne),?_⟩
 constructor
 ·intro h
  refine Classical.byContradiction fun hn=>?_
  refine t2 (L.getD i zE) ?_ h
  rw[Pc.getD_eq _ _ _ hi,List.mem_drop_iff_getElem]
  exact⟨i-mw L (Ks.pv e),by omega,by congr 1;omega⟩
 ·intro h
  refine t1 (L.getD i zE) ?_
  rw[Pc.getD_eq _ _ _ hi,List.mem_take_iff_getElem]
  exact⟨i,by omega,rfl⟩
def Cl (L:List ia)(e:ia)(i:Nat):List ia:=if i≤mw L (pv e) then(L.map (zC e)).take i else(L.map (zC e)).take (mw L (pv e))++e::((L.map (zC e)).take i).drop (mw L (pv e))
def T5 (L:List ia)(e:ia)(i:Nat)(hi:i<L.length):(L.map (zC e)).take (i+1)=(L.map (zC e)).take i ++ [zC e (L.getD i zE)]:=by
 rw[zl88 (by simpa using hi),List.getElem_map,Pc.getD_eq _ _ _ hi]
def out_lt {L:List ia}{e:ia}{i:Nat}(hi:i<L.length)(h:i<mw L (pv e)):Cl L e (i+1)=Cl L e i ++ [zC e (L.getD i zE)]:=by
 unfold Cl
 rw[bQ (by omega),bQ (by omega),T5 _ _ _ hi]
def out_eq {L:List ia}{e:ia}{i:Nat}(hi:i<L.length)(h:i=mw L (pv e)):Cl L e (i+1)=Cl L e i ++ [e] ++ [zC e (L.getD i zE)]:=by
 unfold Cl
 rw[cT (by omega),bQ (by omega),T5 _ _ _ hi,←h,List.drop_append_of_le_length (by rw[zl3,List.length_map];omega)]
 rw[show List.drop i (List.take i (List.map (zC e) L)) = [] from List.drop_eq_nil_of_le (by rw[zl3];omega)]
 simp
def out_gt {L:List ia}{e:ia}{i:Nat}(hi:i<L.length)(h:mw L (pv e)<i):Cl L e (i+1)=Cl L e i ++ [zC e (L.getD i zE)]:=by
 unfold Cl
 rw[cT (by omega),cT (by omega),T5 _ _ _ hi,List.drop_append_of_le_length (by rw[zl3,List.length_map];omega)]
 simp
def Yy (L:List ia)(e:ia)(i:Nat):(Cl L e i).length≤i+1:=by
 unfold Cl
 split
 ·rw[zl3];omega
 ·rw[eY,zl6,zl4,zl3,zl3];omega
def af0 (L:List ia)(e:ia):wh L e=if mw L (pv e)<L.length then Cl L e L.length else Cl L e L.length ++ [e]:=by
 have hp:=N9 L (pv e)
 have ht:(L.map (zC e)).take L.length=L.map (zC e):=zl57 (by simp)
 unfold wh Cl
 by_cases h:mw L (pv e)<L.length
 ·rw[bQ h,cT (by omega),ht]
 ·have:mw L (pv e)=L.length:=by omega
  rw[cT h,bQ (by omega),this,ht,List.drop_eq_nil_of_le (by simp)]
open Pl
def Wr {a b:Int}(h:a<b):decide (a>b)=false:=zdf
def Wq {a b:Int}(h:¬a<b)(hn:a≠b):decide (a>b)=true:=zdt
structure AtI (L:List ia) (c z:Nat) (e f:ia):Prop where
 row:Ch f.1 c∧f.1 ≠ []
 dat:f.2.1.length=z
 p1:pv (zC e f)=pv f
 ne:(zC e f).1 ≠ []
def JJ.Cn {L:List ia}{c z:Nat}{e:ia}(A:JJ L c z e){i:Nat}(hi:i<L.length):AtI L c z e (L.getD i zE):=by
 have hm:L.getD i zE∈L:=by rw[Pc.getD_eq _ _ _ hi];exact zl96 hi
 obtain⟨h1,h2,_⟩:=A.at hi
 exact⟨A.s.eqs.row _ hm,A.s.eqs.dat _ hm,h1,h2⟩
def acN {L:List ia}{c z:Nat}{e:ia}(A:JJ L c z e) :
  Comes F8 (((0:Int),(),(),false,(),()),((c:Int),(z:Int),(),()),e,((c:Int),(z:Int),(),()),((0:Int),(0:Int),(),()),[],L,[])
   (((),(),(),decide (mw L (pv e)<L.length)),((0:Int),(0:Int),(),()),((c:Int),(z:Int),(),()),e,[],Cl L e L.length):=by
 have hc:=A.s.c1.2
 have hL:=Nm A.s.eqs
 have q:=Br (r:=F8) (st:=fun i=>(((i:Int),(),(),decide (mw L (pv e)<i),(),()),((c:Int),(z:Int),(),()),e,((c:Int),(z:Int),(),()),((0:Int),(0:Int),(),()),Cl L e i,L,[])) (n:=L.length) (y:=(((),(),(),decide (mw L (pv e)<L.length)),((0:Int),(0:Int),(),()),((c:Int),(z:Int),(),()),e,[],Cl L e L.length)) (fun i hi=>by
  have B:=A.Cn hi
  obtain⟨_,_,a3,a4⟩:=A.at hi
  have wr:=zw (i:=i)
  have ol:=Yy L e i
  have l1:=lm1 (n:=(Cl L e i).length) (by omega)
  have l2:=lm1 (n:=(Cl L e i ++ [e]).length) (by rw[eY];simp;omega)
  have he:=P8 A.ne
  have e3:=out_lt (L:=L) (e:=e) hi
  have e4:=out_eq (L:=L) (e:=e) hi
  have e5:=out_gt (L:=L) (e:=e) hi
  have nl:=P8 B.ne
  have fl:=P8 B.row.2
  have h:=hasS (r:=(L.getD i zE).1) (by have:=Ov hc B.row.1;omega) (pv e)
  have x1:=acK (B.row.1.i hc) (A.r.row.i hc)
  have x2:=TU (L.getD i zE).2.1 e.2.1 (by rw[B.dat,A.r.dat]) (by rw[B.dat];have:=A.s.z1;omega)
  have bp:=B.p1
  have ex:List.getD e.1 0 0=pv e:=rfl
  have ef:List.getD (L.getD i zE).1 0 0=pv (L.getD i zE):=rfl
  have eu:List.getD (zC e (L.getD i zE)).1 0 0=pv (zC e (L.getD i zE)):=rfl
  have key:∀(D:Bool) (O:List ia),(decide (mw L (pv e)<i)=D)→Cl L e (i+1)=O→True:=fun _ _ _ _=>trivial
  clear key
  unfold zC at *
  unfold zE at *
  generalize hg:List.getD L i (([]:List Int),([]:List UInt8),())=f at *
  generalize hp:pv e=p at *
  have big:(decide (mw L p<i)=true∧decide (mw L p<i+1)=true∧mw L p<i)∨(decide (mw L p<i)=false∧decide (mw L p<i+1)=true∧i=mw L p)∨(decide (mw L p<i)=false∧decide (mw L p<i+1)=false∧i<mw L p):=by
   rcases Nat.lt_trichotomy i (mw L p) with h1|h1|h1
   ·exact .inr (.inr ⟨zdf,zdf,h1⟩)
   ·exact .inr (.inl ⟨zdf,zdt,h1⟩)
   ·exact .inl ⟨zl86 h1,zdt,h1⟩
  by_cases hx:p∈f.1
  ·rw[zl86 hx] at h
   rw[bQ hx] at e3 e4 e5 bp eu nl
   simp only at eu nl
   rw[bp] at eu
   rcases big with⟨d1,d2,d3⟩|⟨d1,d2,d3⟩|⟨d1,d2,d3⟩
   ·rw[d1,d2,e5 d3]
    simp only[F8,gx hi,g0,zl94,hg,show Int.toNat 0=0 from rfl,ex,h,zov h,he,x1,zov x1,x2,zov x2,l1,Au,zl70,zl98,zl76,pO,wr]
   ·have c1:=Wq (fun q=>by have:=a4.1 q;omega) a3
    rw[d1,d2,e4 d3]
    simp only[F8,gx hi,g0,zl94,hg,show Int.toNat 0=0 from rfl,ex,h,zov h,he,nl,x1,zov x1,x2,zov x2,eu,c1,l1,l2,Au,zl70,zl98,zl99,wr,show decide ((0:Int)≤0)=true from rfl]
   ·have c1:=Wr (a4.2 d3)
    rw[d1,d2,e3 d3]
    simp only[F8,gx hi,g0,zl94,hg,show Int.toNat 0=0 from rfl,ex,h,zov h,he,nl,x1,zov x1,x2,zov x2,eu,c1,l1,Au,zl70,zl98,zl99,pO,wr,show decide ((0:Int)≤0)=true from rfl]
  ·rw[zl90 hx] at h
   rw[cT hx] at e3 e4 e5 bp eu nl
   rcases big with⟨d1,d2,d3⟩|⟨d1,d2,d3⟩|⟨d1,d2,d3⟩
   ·rw[d1,d2,e5 d3]
    simp only[F8,gx hi,g0,zl94,hg,show Int.toNat 0=0 from rfl,ex,h,zov h,he,l1,Au,zl70,zl98,zl76,pO,wr]
   ·have c1:=Wq (fun q=>by have:=a4.1 q;omega) a3
    rw[d1,d2,e4 d3]
    simp only[F8,gx hi,g0,zl94,hg,show Int.toNat 0=0 from rfl,ex,h,zov h,he,fl,ef,c1,l1,l2,Au,zl70,zl98,zl99,pO,wr,show decide ((0:Int)≤0)=true from rfl]
   ·have c1:=Wr (a4.2 d3)
    rw[d1,d2,e3 d3]
    simp only[F8,gx hi,g0,zl94,hg,show Int.toNat 0=0 from rfl,ex,h,zov h,he,fl,ef,c1,l1,Au,zl70,zl98,zl99,pO,wr,show decide ((0:Int)≤0)=true from rfl]) (by simp only[F8,lnE,pO,ic]) 0 (lB _)
 have e0:Cl L e 0 = []:=by unfold Cl;rw[bQ (lB _)];rfl
 rw[e0] at q
 exact q
open Pl
def O3 (c z:Nat)(L:List ia)(row:List Int)(data:List UInt8):e_.D×Int:=
 if(s_ L (row,data,())).1 = [] then(((c:Int),(z:Int),L,()),if(s_ L (row,data,())).2.1=List.replicate z 0 then 1 else 2)
 else(((c:Int),(z:Int),wh L (s_ L (row,data,())),()),0)
def ain {L:List ia}{c z:Nat}(I:Ln L c z):SmS L:=by
 have:=Nm I.eqs
 have:=I.c1
 exact⟨by omega,fun f hf=>by have:=Ov I.c1.2 (I.eqs.row f hf).1;omega⟩
def XK {L:List ia}{c z:Nat}(I:Ln L c z){e:ia}(he:Dd e c z)(hn:(s_ L e).1 ≠ []):JJ L c z (s_ L e):=
 ⟨I,SC I.c1.2 I.eqs e he,hn,aeN I.c1.2 I.eqs he⟩
def acO {L:List ia}{c z:Nat}(I:Ln L c z){row:List Int}{data:List UInt8}(hr:Ch row c)(hd:data.length=z):GZ (((c:Int),(z:Int),L,()),row,data)=some (O3 c z L row data,()):=by
 have he:Dd (row,data,()) c z:=⟨hr,hd⟩
 have a:=aeM I he
 have b:=Wu (c:Int) (z:Int) L (ain I)
 have l0:=lm0 (n:=row.length) (by have:=Ov I.c1.2 hr;omega)
 have zz:=acj z (by have:=I.z1;omega)
 have le:=(SC I.c1.2 I.eqs _ he)
 unfold O3
 have al:∀hn:(s_ L (row,data,())).1 ≠ [],JJ L c z (s_ L (row,data,())):=fun hn=>XK I he hn
 generalize s_ L (row,data,())=e at *
 by_cases hn:e.1 = []
 ·rw[bQ hn]
  have h0:((e.1.length:Int)==(0:Int))=true:=by rw[hn];rfl
  by_cases hz:e.2.1=List.replicate z 0
  ·have hb:(e.2.1==List.replicate z 0)=true:=zl78.2 hz
   rw[bQ hz]
   simp only[GZ,zl17,a,zov a,b,zov b,l0,h0,zz,zov zz,hb,Au]
  ·have hb:(e.2.1==List.replicate z 0)=false:=zl89.2 hz
   rw[cT hz]
   simp only[GZ,zl17,a,zov a,b,zov b,l0,h0,zz,zov zz,hb,Au,pO]
 ·rw[cT hn]
  have h0:((e.1.length:Int)==(0:Int))=false:=zl89.2 (fun q=>hn (List.eq_nil_of_length_eq_zero (by omega)))
  have cm:=acN (al hn)
  have l2:=lm1 (n:=(Cl L e L.length).length) (by have:=Yy L e L.length;have:=Nm I.eqs;have:=I.c1;omega)
  rw[af0 L e]
  by_cases hp:mw L (pv e)<L.length
  ·rw[zl86 hp] at cm
   rw[bQ hp]
   simp only[GZ,zl17,a,zov a,b,zov b,l0,h0,cb cm,cv cm,Au,zl70,pO]
  ·rw[zl90 hp] at cm
   rw[cT hp]
   simp only[GZ,zl17,a,zov a,b,zov b,l0,h0,cb cm,cv cm,l2,Au,zl98,pO]
end Ks
open Go Go.Ab Go.Lib
namespace Pl
def YN:∀{R M:List Int},R.Nodup→(∀x∈R,x∈M)→R.length≤M.length
 | [],_,_,_=>by simp
 |a::R,M,h,k=>by
  obtain⟨h1,h2⟩:=dN.1 h
  have ha:=k a (by simp)
  have:=YN (R:=R) (M:=M.erase a) h2 fun x hx=>by
   have hne:x≠a:=by rintro rfl;exact h1 hx
   exact(List.mem_erase_of_ne hne).2 (k x (by simp[hx]))
  rw[List.length_erase_of_mem ha] at this
  have:=List.length_pos_of_mem ha
  simp only[zl6];omega
def GI.sm {g:x4.D}(I:GI g):Pc.Iz g:=⟨⟨by have:=I.p3;omega,by have:=I.p4;omega⟩,by have:=I.s3;omega,fun x hx=>by have:=(I.row x hx).1;omega⟩
def CI.ok {c:bm.D}(I:CI c):DU c=some (Pc.C7 c,()):=Pc.aiP c I.g.sm (by have:=I.name;omega)
abbrev zG:x4.D:=(((0:Int),(0:Int),[],[],()),((0:Int),(0:Int),[],()),())
def Ll:GI zG:=⟨by simp,by simp,by simp,by simp⟩
abbrev Hh:bm.D:=((0:Int),(0:Int),(0:Int),[],(0:Int),zG,())
def XI {p:gh.D}(h3:p.2.2.1.length≤1048576)(h4:p.2.2.2.1.length≤1048576):HW p=some (p,()):=by
 simp only[HW,zU,Ox h3,Ox h4,dW,zl17]
def XH {g:x4.D}(I:GI g):KB g=some (g,()):=by
 have a:=XI I.p3 I.p4
 have b:=Ks.Wu g.2.1.1 g.2.1.2.1 g.2.1.2.2.1 ⟨I.s3,fun f hf=>(I.row f hf).1⟩
 simp only[KB,a,zov a,b,zov b,qu,zU,zl92,dW]
def PD {c:bm.D}(I:CI c):Rt (GR c) (fun y=>CI y.1∧(Pc.C7 c=true→y.1=c)):=by
 unfold GR
 refine Rt.bif (fun _=>Rt.call (P:=fun y=>y=(c.2.2.2.2.2.1,())) ⟨_,XH I.g,rfl⟩ fun y hy=>?_) fun h0=>Rt.ok ⟨⟨I.name,Ll⟩,fun ok=>?_⟩
 ·subst hy
  exact Rt.ok ⟨I,fun _=>rfl⟩
 ·unfold Pc.C7 at ok
  simp only[bB,mS] at ok
  obtain⟨⟨⟨⟨⟨_,_⟩,_⟩,h4⟩,h5⟩,_⟩:=ok
  have e0:c.2.2.2.2.1=0:=by simp at h0;omega
  rw[e0] at h5
  have h5:Pc.HO c.2.2.2.2.2.1=true:=h5
  obtain⟨a,b,d,nm,e,⟨⟨p1,p2,p3,p4,pu⟩,⟨s1,s2,s3,su⟩,gu⟩,u⟩:=c
  simp only[Pc.HO,bB,zl78] at h5
  obtain⟨⟨⟨⟨⟨⟨q1,q2⟩,q3⟩,q4⟩,q5⟩,q6⟩,q7⟩:=h5
  obtain rfl:p3 = []:=List.eq_nil_of_length_eq_zero (by omega)
  obtain rfl:p4 = []:=List.eq_nil_of_length_eq_zero (by omega)
  obtain rfl:s3 = []:=List.eq_nil_of_length_eq_zero (by omega)
  subst q1 q2 q5 q6
  rfl
def agj {s:e_.D}(h:s.2.2.1.length≤1000000)(hs:∀x∈s.2.2.1,x.1.length≤1048576):Rt (q78 s) (fun _=>True):=by
 have hm:Pc.Fa s:=⟨by omega,fun x hx=>by have:=hs x hx;omega⟩
 unfold q78
 refine Rt.loop (P:=fun _=>True) (DN (n:=s.2.2.1.length+1) (I:=fun i x=>x=(((i:Int),()),s)∧∀k:Nat,k<i→(Pc.DA s (k:Int)).2=true) ?_ ?_ 0 _ (lB _) ⟨rfl,by omega⟩) fun _ _=>Rt.ok trivial
 ·rintro i _ hi ⟨rfl,hk⟩
  have e:=Pc.aiX s hm (i:Int)
  cases hg:(Pc.DA s (i:Int)).2 with
  |true=>exact .inl ⟨_,by simp only[QG,e,zov e,hg,qu,dW,zl70,pO,zw (i:=i),ic],rfl,fun k hk'=>by
   by_cases hki:k<i
   ·exact hk k hki
   ·rw[show k=i by omega];exact hg⟩
  |false=>exact .inr ⟨((i:Int),()),by simp only[QG,e,zov e,hg,qu,dW,zl98,ic],trivial⟩
 ·rintro _ ⟨rfl,hk⟩
  exfalso
  have hmem:∀x∈(List.range (s.2.2.1.length+1)).map (fun k:Nat=>(k:Int)),x∈s.2.2.1.map fun f=>f.1.getD 0 0:=by
   intro x hx
   obtain⟨k,hk1,rfl⟩:=gG.1 hx
   have hg:=hk k (List.mem_range.1 hk1)
   unfold Pc.DA at hg
   split at hg
   ·rename_i hlt
    have dJ:=Pc.Xm hlt
    unfold Pc.Em at dJ
    simp only[bB] at dJ
    refine gG.2 ⟨Pc.fk s (Pc.Cj s k),?_,zl79 dJ.2⟩
    unfold Pc.fk
    rw[getD_eq _ _ _ hlt]
    exact zl96 _
   ·cases hg
  have:=YN (List.pairwise_map.2 (List.Pairwise.imp (fun h e=>h (by omega)) List.nodup_range)) hmem
  simp only[List.length_map,List.length_range] at this
  omega
def Ub {g:x4.D}(I:GI g):Rt (q53 g) (fun _=>True):=by
 have h3:=I.p3
 unfold q53
 refine Rt.call (agj I.s3 fun x hx=>(I.row x hx).1) fun y _=>?_
 refine Rt.loop (P:=fun _=>True) (DN (n:=g.1.2.2.1.length) (I:=fun i x=>x=(((i:Int),y.1,()),g)) ?_ ?_ 0 _ (lB _) rfl) fun _ _=>Rt.ok trivial
 ·rintro i _ hi rfl
  simp only[Qz,gl hi,g0,zU,zl99,zl92,dW,zw (i:=i)]
  cases decide (List.getD g.1.2.2.1 (Int.toNat (i:Int)) 0≤y.1)
  ·exact .inr ⟨_,rfl,trivial⟩
  ·exact .inl ⟨_,rfl,rfl⟩
 ·rintro _ rfl
  have d1:decide ((g.1.2.2.1.length:Int)<(g.1.2.2.1.length:Int))=false:=zdf
  exact⟨((g.1.2.2.1.length:Int),()),by simp only[Qz,d1,pO,zU,zl98,zl76,zl92,dW],trivial⟩
def add_rt {g:x4.D}(I:GI g)(id:Int)(d:List UInt8):Rt (L3 (g,id,d)) (fun y=>GI y.1.1):=by
 have e0:=Pc.TV g I.sm
 unfold L3
 refine Rt.call (P:=fun y=>y.1=Pc.DO g) ⟨_,e0,rfl⟩ fun y hy=>Rt.bif (fun _=>Rt.ok Ll) fun hc=>?_
 rw[hy] at hc
 have ok:Pc.DO g=true:=by simpa using hc
 refine Rt.call (P:=fun y=>y=(g,())) ⟨_,XH I,rfl⟩ fun y hy=>?_
 subst hy
 refine Rt.val (P:=fun y=>y.1=m6 id 0 9999) ⟨_,BR _ _ _,rfl⟩ fun y hy e1=>Rt.all (by simp only[e1,qu,zU]) (Rt.bif (fun _=>Rt.ok I) fun hc=>?_)
 rw[hy] at hc
 obtain⟨o1,o2,o3,o4⟩:=Pc.Sn ok
 obtain⟨⟨p1,p2,W,ws,pu⟩,⟨cn,z,L,su⟩,u⟩:=g
 have hi:0≤id∧id≤9999:=by
  cases hb:m6 id 0 9999 with
  |true=>exact zl79 hb
  |false=>rw[hb] at hc;cases hc
 have hd:(d.length:Int)=z:=by
  rw[show m6 id 0 9999=true from zl86 hi] at hc
  have o4:z=p2:=o4
  simp at hc
  omega
 obtain⟨c1,z1,E⟩:=Ks.ok_I (L:=L) (c:=cn) (z:=z) o2
 have PI_:=Ks.plan_I o1
 have o3:cn=Pc.cnt (p1,p2,W,ws,pu):=o3
 obtain⟨n,rfl⟩:=Int.eq_ofNat_of_zero_le hi.1
 have e2:=Ks.aie PI_ n (by omega)
 obtain⟨r1,_⟩:=Ks.rowP_C PI_ n
 generalize Ks.CF (p1,p2,W,ws,pu) (Pc.cnt (p1,p2,W,ws,pu)).toNat n=row at *
 rw[←o3] at r1
 obtain⟨c,rfl⟩:=Int.eq_ofNat_of_zero_le (show 0≤cn by omega)
 obtain⟨s,rfl⟩:=Int.eq_ofNat_of_zero_le (show 0≤z by omega)
 have SI_:Ks.Ln L c s:=⟨by omega,by omega,E⟩
 have e3:=Ks.acO SI_ (row:=row) (data:=d) r1 (by omega)
 refine Rt.val (P:=fun y=>y=(row,())) ⟨_,e2,rfl⟩ fun y hy e4=>?_
 subst hy
 refine Rt.val (P:=fun y=>y=(Ks.O3 c s L row d,())) ⟨_,e3,rfl⟩ fun y hy e5=>?_
 subst hy
 refine Rt.all (by simp only[e4,e5,qu,zU,zl92]) (Rt.ok ?_)
 have he:Ks.Dd (row,d,()) c s:=⟨r1,by show d.length=s;omega⟩
 unfold Ks.O3
 split
 ·exact I
 ·rename_i hn
  have A:=Ks.XK SI_ he hn
  have E':=Ks.add_I (by omega) E (Ks.SC (by omega) E _ he) hn A.4
  have:=Ks.Nm E'
  refine⟨I.p3,I.p4,by show(Ks.wh L _).length≤_;omega,fun x hx=>?_⟩
  have:=Ks.Ov (by omega) (E'.row x hx).1
  have:=E'.dat x hx
  omega
def CrI (y:(bm.D×List ei.D)×Unit):Prop:=CI y.1.1∧y.1.2.length≤1000∧∀v∈y.1.2,FE 9 v
def OZ:CI Hh:=⟨by simp,Ll⟩
def Dy {c:bm.D}(h:CI c):CrI ((c,[]),()):=⟨h,by simp,by simp⟩
def cr1 {c:bm.D}(h:CI c){v:ei.D}(hv:v.2.2.2.2.2.1.length≤9999999):CrI ((c,[v]),()):=⟨h,by simp,by simpa using⟨hv,.inl (by omega)⟩⟩
def P9 {γ:Type}{Q:γ→Prop}{c:bm.D}(I:CI c){K:Bool×Unit→Option γ}(h:∀y:Bool×Unit,y.1=Pc.C7 c→Rt (K y) Q):Rt (c9 DU c K) Q:=Rt.call (P:=fun y=>y.1=Pc.C7 c) ⟨_,I.ok,rfl⟩ h
def aio (a b:Int):Rt (q42 (a,b)) (fun y=>y.1.2.2.1 = []):=by
 unfold q42
 refine Rt.val (P:=fun _=>True) ⟨_,BR _ _ _,trivial⟩ fun y _ e1=>Rt.val (P:=fun _=>True) ⟨_,BR _ _ _,trivial⟩ fun z _ e2=>?_
 exact Rt.all (by simp only[e1,e2,qu,zU,zl99,zl92]) (Rt.bif (fun _=>Rt.ok rfl) fun _=>Rt.ok rfl)
def aef {p:gh.D}(h3:p.2.2.1.length≤1048576)(h4:p.2.2.2.1.length≤1048576):Rt (L4 p) (fun y=>GI y.1):=by
 unfold L4
 refine Rt.call (P:=fun y=>y.1=Pc.Bo p) ⟨_,Pc.TW p,rfl⟩ fun y hy=>Rt.bif (fun _=>Rt.ok Ll) fun hc=>?_
 rw[hy] at hc
 obtain⟨k1,k2⟩:=Pc.Qj (p:=p) (by simpa using hc)
 have e0:=Pc.MH p k1 k2
 refine Rt.val (P:=fun y=>y=(p,())) ⟨_,XI h3 h4,rfl⟩ fun y hy e1=>?_
 subst hy
 refine Rt.val (P:=fun y=>True) ⟨_,e0,trivial⟩ fun y _ e2=>Rt.val (aio _ _) fun z hz e3=>?_
 exact Rt.all (by simp only[e1,e2,e3,qu,zU,zl92]) (Rt.ok ⟨h3,h4,by dsimp only;rw[hz];simp,by dsimp only;rw[hz];simp⟩)
def acL {c:bm.D}(I:CI c){w:ei.D}(hw:w.2.2.2.2.2.2.1.length≤1048576):Rt (q46 (c,w)) (fun y=>CI y.1):=by
 unfold q46
 refine Rt.call (agc hw) fun y hy=>Rt.bif (fun _=>Rt.ok I) fun _=>Rt.bif (fun _=>?_) fun _=>?_
 ·exact Rt.call (aef (by omega) (by omega)) fun z hz=>Rt.ok ⟨I.name,hz⟩
 ·refine Rt.val (Ts _) fun z _ e=>?_
  exact Rt.all (by simp only[e,qu,zU,zl99]) (Rt.bif (fun _=>Rt.ok ⟨I.name,I.g⟩) fun _=>Rt.ok I)
def ai8 {c:bm.D}(I:CI c){w:ei.D}:Rt (q47 (c,w)) CrI:=by
 have ends:Km w=some ([((5:Int),w.2.1,w.2.2.1,w.2.2.2.1,(0:Int),[],[],())],()):=rfl
 unfold q47
 refine Rt.bif (fun _=>Rt.ok (Dy I)) fun _=>Rt.bif (fun _=>?_) fun _=>?_
 ·refine Rt.call (P:=fun y=>y=_) ⟨_,ends,rfl⟩ fun y hy=>?_
  subst hy
  exact Rt.ok (cr1 I (by simp))
 refine Rt.call (Ub I.g) fun y0 _=>Rt.call (add_rt I.g _ _) fun y hy=>Rt.bif (fun _=>Rt.ok (Dy I)) fun _=>?_
 have J:∀s:Int,CI (c.1,c.2.1,s,c.2.2.2.1,c.2.2.2.2.1,y.1.1,c.2.2.2.2.2.2):=fun s=>⟨I.name,hy⟩
 have dn:=Pc.ack y.1.1 hy.sm
 refine Rt.call (P:=fun _=>True) ⟨_,dn,trivial⟩ fun z _=>Rt.bif (fun _=>?_) fun _=>?_
 ·refine Rt.call (P:=fun u=>u.1 = []∨∃v,u.1 = [v]∧v.2.2.2.2.2.1.length≤9999999) ?_ fun u hu=>?_
  ·unfold Kl
   exact Rt.bif (fun _=>Rt.ok (.inl rfl)) fun _=>Rt.ok (.inr ⟨_,rfl,by simp⟩)
  ·obtain⟨l,u⟩:=u
   rcases hu with rfl|⟨v,rfl,hv⟩
   ·exact Rt.ok (Dy (J 3))
   ·exact Rt.ok (cr1 (J 3) hv)
 ·refine Rt.call (Ub hy) fun u _=>Rt.bif (fun _=>?_) fun _=>Rt.ok (Dy (J _))
  obtain⟨q,e,_⟩:=Ub hy
  exact Rt.all (by simp only[e,qu,zU]) (Rt.ok (cr1 (J _) (by simp)))
def ac3 {c:bm.D}(I:CI c){w:ei.D}(hw:Ee w=true):Rt (q23 (c,w)) CrI:=by
 have sz:=Rr hw
 have ends:Km w=some ([((5:Int),w.2.1,w.2.2.1,w.2.2.2.1,(0:Int),[],[],())],()):=rfl
 have a:=OG w (by omega)
 unfold q23
 refine P9 I fun y _=>Rt.bif (fun _=>Rt.ok (Dy OZ)) fun _=>Rt.call (PD I) fun y hy=>?_
 have J:=hy.1
 refine Rt.val (P:=fun _=>True) ⟨_,a,trivial⟩ fun z _ e1=>Rt.all (by simp only[e1,qu,zU]) (Rt.bif (fun _=>Rt.ok (Dy J)) fun _=>Rt.bif (fun _=>Rt.bif (fun _=>?_) fun _=>Rt.ok (Dy J)) fun _=>Rt.bif (fun _=>?_) fun _=>Rt.bif (fun _=>?_) fun _=>Rt.bif (fun _=>Rt.bif (fun _=>Rt.ok (Dy ⟨J.name,J.g⟩)) fun _=>Rt.ok (Dy J)) fun _=>Rt.ok (Dy J))
 ·refine Rt.call (P:=fun y=>y=_) ⟨_,ends,rfl⟩ fun u hu=>?_
  subst hu
  exact Rt.ok (cr1 J (by simp))
 ·exact Rt.call (acL J (by show w.2.2.2.2.2.2.1.length≤_;omega)) fun u hu=>Rt.ok (Dy hu)
 ·exact Rt.call (ai8 J) fun u hu=>Rt.ok hu
def ac9 {c:bm.D}(I:CI c){name:List UInt8}(hn:name.length≤1048576):Rt (q24 (c,name)) CrI:=by
 have nm:=Q3 name (by omega)
 unfold q24
 refine P9 I fun y _=>Rt.bif (fun _=>Rt.ok (Dy OZ)) fun _=>Rt.val (P:=fun _=>True) ⟨_,nm,trivial⟩ fun z _ e1=>Rt.all (by simp only[e1,qu,zU,zl99]) (Rt.bif (fun _=>Rt.call (PD I) fun y hy=>Rt.ok (Dy hy.1)) fun _=>?_)
 refine Rt.call (P:=fun y=>y=_) ⟨_,rfl,rfl⟩ fun u hu=>?_
 subst hu
 exact Rt.ok (cr1 ⟨hn,Ll⟩ (by show name.length≤_;omega))
def ac0 {c:bm.D}(I:CI c):Rt (Mq c) CrI:=by
 unfold Mq
 refine P9 I fun y _=>Rt.bif (fun _=>Rt.ok (Dy OZ)) fun _=>Rt.call (PD I) fun y hy=>Rt.bif (fun _=>Rt.ok (Dy hy.1)) fun _=>?_
 refine Rt.call (P:=fun y=>y=_) ⟨_,rfl,rfl⟩ fun u hu=>?_
 subst hu
 exact Rt.ok (cr1 (c:=(y.1.1,IntKind.wrap .i64 (c.2.1+1),1,y.1.2.2.2)) ⟨hy.1.name,hy.1.g⟩ (by have:=hy.1.name;show y.1.2.2.2.1.length≤_;omega))
def adb {c:bm.D}(I:CI c):Rt (q25 c) CrI:=by
 unfold q25
 refine P9 I fun y _=>Rt.bif (fun _=>Rt.ok (Dy OZ)) fun _=>Rt.call (P:=fun u=>u.1 = []∨∃v,u.1 = [v]∧v.2.2.2.2.2.1.length≤9999999) ?_ fun u hu=>?_
 ·unfold Kl
  exact Rt.bif (fun _=>Rt.ok (.inl rfl)) fun _=>Rt.ok (.inr ⟨_,rfl,by simp⟩)
 ·obtain⟨l,u⟩:=u
  have J:CI (c.1,c.2.1,0,[],0,zG,()):=⟨by simp,Ll⟩
  rcases hu with rfl|⟨v,rfl,hv⟩
  ·exact Rt.ok (Dy J)
  ·exact Rt.ok (cr1 J hv)
def ade {c:bm.D}(I:CI c):Rt (F_ c) (fun y=>y.1.length≤1000∧∀v∈y.1,FE 9 v):=by
 unfold F_
 refine Rt.val (P:=fun _=>True) ⟨_,I.ok,trivial⟩ fun y _ e=>Rt.all (by simp only[e,qu,zU]) (Rt.bif (fun _=>Rt.ok ⟨by simp,by simp⟩) fun _=>?_)
 refine Rt.call (P:=fun y=>y=_) ⟨_,rfl,rfl⟩ fun u hu=>?_
 subst hu
 exact Rt.ok ⟨by simp,by simpa using⟨by have:=I.name;show c.2.2.2.1.length≤_;omega,.inl (by omega)⟩⟩
def WI.set {n:Nat}{w:eL.D}(W:WI n w){s:b7.D}(S:SI s){u:Unit}:WI n (s,w.2.1,w.2.2.1,w.2.2.2.1,u):=⟨S,W.cls,W.cl,W.Ar,W.pk,W.FG,W.gi⟩
def RP {n:Nat}{w:eL.D}(W:WI n w)(hn:n≤1000):Rt (HR w) (fun y=>WI n y.1):=by
 have hr:=W.Ar
 have hg:=W.FG
 have e:=ME w.1 W.As.sm (by have:=W.As.fy;omega)
 unfold HR
 refine Rt.val (P:=fun y=>y=(w.1,())) ⟨_,e,rfl⟩ fun y hy e1=>?_
 subst hy
 refine Rt.all (by simp only[e1,qu,Db (a:=0) (b:=w.2.2.1.length) (by omega) (by omega),Db (a:=0) (b:=w.2.2.2.1.length) (by omega) (by omega),zU,zl92]) ?_
 refine Rt.loop (P:=fun y=>∃cl,(cl.length=4∧∀c∈cl,CI c)∧y.2.2.1=((w.1.1,w.1.2.1,w.1.2.2.1,(w.1.2.2.2.1.1,(),w.1.2.2.2.1.2.2),((),w.1.2.2.2.2.1.2),(),(),w.1.2.2.2.2.2.2.2),(),(),(),())∧y.2.2.2.2.2.2.2.2.2.2=(w.1.2.2.2.1.2.1,w.1.2.2.2.2.1.1,w.1.2.2.2.2.2.1,w.1.2.2.2.2.2.2.1,cl,[]++w.2.2.1,[]++w.2.2.2.1))
  (DN (n:=4) (I:=fun i x=>∃cl,x=(((i:Int),(),(),()),((w.1.1,w.1.2.1,w.1.2.2.1,(w.1.2.2.2.1.1,(),w.1.2.2.2.1.2.2),((),w.1.2.2.2.2.1.2),(),(),w.1.2.2.2.2.2.2.2),(),(),(),()),w,_,w.1.2.2.2.1.2.1,w.1.2.2.2.2.1.1,w.1.2.2.2.2.2.1,w.1.2.2.2.2.2.2.1,cl,[]++w.2.2.1,[]++w.2.2.2.1,_)∧cl.length=i∧∀c∈cl,CI c) ?_ ?_ 0 _ (lB _) ⟨[],rfl,rfl,by simp⟩) fun y hy=>?_
 ·rintro i _ hi ⟨cl,rfl,h1,h2⟩
  have hi':i<w.2.1.length:=by rw[W.cls];exact hi
  obtain⟨z,e2,hz⟩:=PD (W.cl _ (zl96 hi'))
  have gd:w.2.1.getD i Hh=w.2.1[i]:=getD_eq _ _ _ hi'
  unfold Hh at gd
  refine .inl ⟨_,by simp only[Ql,gl hi',g0,zl94,gd,e2,zov e2,qu,Db (a:=cl.length) (b:=1) (by omega) (by omega),zU,zl92,dW,zw (i:=i)],cl ++ [z.1],rfl,by simp[h1],fun c hc=>?_⟩
  rcases bU.1 hc with hc|hc
  ·exact h2 c hc
  ·rw[i_.1 hc];exact hz.1
 ·rintro _ ⟨cl,rfl,h1,h2⟩
  have d1:decide (((4:Nat):Int)<(w.2.1.length:Int))=false:=zl90 (by rw[W.cls];omega)
  exact⟨_,by simp only[Ql,d1,pO];rfl,cl,⟨h1,h2⟩,rfl,rfl⟩
 ·obtain⟨cl,⟨h1,h2⟩,e1,e2⟩:=hy
  refine Rt.ok ?_
  dsimp only
  rw[e1,e2]
  exact⟨W.As,h1,h2,W.Ar,W.pk,W.FG,W.gi⟩
def WB {α:Type}{l:List α}{i:Nat}{p:α}(h:p∈l.take i++l.drop (i+1)):p∈l:=by
 rcases bU.1 h with h|h
 ·exact List.mem_of_mem_take h
 ·exact List.mem_of_mem_drop h
def WA {l:List cg.D}{a:Int}(h0:0≤a)(h1:a<l.length)(h2:l.length≤60):([]++List.take (Int.toNat (a-0)) (List.drop (Int.toNat 0) l))++List.take (Int.toNat ((l.length:Int)-IntKind.wrap .i64 (a+1))) (List.drop (Int.toNat (IntKind.wrap .i64 (a+1))) l)=l.take a.toNat++l.drop (a.toNat+1):=by
 rw[wrap64 (by omega) (by omega),show Int.toNat (a-0)=a.toNat by omega,show Int.toNat (a+1)=a.toNat+1 by omega,show Int.toNat 0=0 by rfl,zl84,zl17,zl57 (l:=l.drop (a.toNat+1)) (by rw[zl4];omega)]
def WC {l:List cg.D}{a:Int}(h0:0≤a)(h1:a<l.length)(h2:l.length≤60):decide ((([]:List cg.D)++List.take (Int.toNat (a-0)) (List.drop (Int.toNat 0) l)).length+(List.take (Int.toNat ((l.length:Int)-IntKind.wrap .i64 (a+1))) (List.drop (Int.toNat (IntKind.wrap .i64 (a+1))) l)).length≤eV)=true∧decide (0≤IntKind.wrap .i64 (a+1))=true∧decide (IntKind.wrap .i64 (a+1)≤(l.length:Int))=true∧decide ((l.length:Int)≤(l.length:Int))=true∧decide (0+(List.take (Int.toNat (a-0)) (List.drop (Int.toNat 0) l)).length≤eV)=true∧decide (0≤a)=true∧decide (a≤(l.length:Int))=true∧decide (a<(l.length:Int))=true:=by
 rw[wrap64 (by omega) (by omega)]
 refine⟨Db ?_ ?_,zdt,zdt,zdt,Db (by omega) ?_,zl86 h0,zdt,zl86 h1⟩<;>simp <;>omega
def WI.cut {n:Nat}{w:eL.D}(W:WI n w){s:b7.D}(S:SI s){cl:List bm.D}(hc:cl.length=4∧∀c∈cl,CI c){i:Nat}{u:Unit}(hi:i<w.2.2.1.length):WI n (s,cl,w.2.2.1.take i++w.2.2.1.drop (i+1),w.2.2.2.1,u):=
 ⟨S,hc.1,hc.2,by have:=W.Ar;simp;omega,fun p hp=>W.pk p (WB hp),W.FG,W.gi⟩
def Q1 {α:Type}{l:List α}{i:Nat}{x p:α}{P:α→Prop}(h:∀q∈l,P q)(hx:P x)(hp:p∈l.set i x):P p:=by
 rcases List.mem_or_eq_of_mem_set hp with h1|h1
 ·exact h p h1
 ·rw[h1];exact hx
def acY {n:Nat}{w:eL.D}(W:WI n w){e:di.D}(h0:0≤e.2.1)(h1:e.2.1<w.2.2.1.length):Rt (q66 (w,e)) (fun y=>WI n y.1):=by
 have hr:=W.Ar
 have ck:=WC h0 h1 hr
 have hi:e.2.1.toNat<w.2.2.1.length:=by omega
 have hp:=W.pk _ (zl96 hi)
 have gd:w.2.2.1.getD (Int.toNat e.2.1) ((0:Int),[],false,())=w.2.2.1[e.2.1.toNat]:=getD_eq _ _ _ hi
 unfold q66
 refine Rt.all (by simp only[ck,zU,zl92]) ?_
 simp only[gd]
 generalize w.2.2.1[e.2.1.toNat]=p at *
 refine Rt.box q9_v (P:=fun y=>∃Ar,(Ar.length≤60∧∀p∈Ar,PI p)∧y=(((),(),()),((false,(0:Int),[],((0:Int),(),()),((),(0:Int),()),(),(),()),(),(),(),()),(w.1,(),(),(),w.2.2.2.2),p,[],[],[],[],[],[],[],w.2.1,Ar,w.2.2.2.1)) ?_ fun y hy=>?_
 ·unfold Ms
  refine Rt.bif (fun _=>Rt.all (by simp only[ck,zU,zl92]) ?_) fun _=>Rt.ok ⟨_,⟨hr,W.pk⟩,rfl⟩
  dsimp only
  rw[WA h0 h1 hr]
  exact Rt.ok ⟨_,⟨by simp;omega,fun p hp=>W.pk p (WB hp)⟩,rfl⟩
 obtain⟨Ar,⟨r1,r2⟩,rfl⟩:=hy
 have WR:∀{s:b7.D} {cl:List bm.D},SI s→cl.length=4→(∀c∈cl,CI c)→WI n (s,cl,Ar,w.2.2.2.1,w.2.2.2.2):=fun S h1 h2=>⟨S,h1,h2,r1,r2,W.FG,W.gi⟩
 refine Rt.call (ajx hp.2) fun y hy=>Rt.bif (fun _=>Rt.ok (WR W.As W.cls W.cl)) fun hc=>?_
 have hw:=hy (by simpa using hc)
 refine Rt.bif (fun _=>?_) fun hc=>?_
 ·refine Rt.call (aek W.As.sm hw) fun z hz=>?_
  exact Rt.call (Oz (WR hz.1 W.cls W.cl) (.inr rfl) hz.2.2 hz.2.1) fun u hu=>Rt.ok hu
 ·have h9:p.1≠9:=by
   rintro e9
   rw[show(p.1==9)=true from zl78.2 e9] at hc
   cases hc
  obtain⟨p0,p4⟩:=hp.1.resolve_left h9
  have hj:p.1.toNat<w.2.1.length:=by rw[W.cls];omega
  have gc:w.2.1.getD (Int.toNat p.1) Hh=w.2.1[p.1.toNat]:=getD_eq _ _ _ hj
  have d0:decide (0≤p.1)=true:=zl86 p0
  have d4:decide (p.1<(w.2.1.length:Int))=true:=zl86 (by rw[W.cls];exact p4)
  unfold Hh at gc
  simp only[gc]
  refine Rt.val (ac3 (W.cl _ (zl96 hj)) hw) fun z hz e1=>Rt.all (by simp only[e1,qu,d0,d4,zU,zl92]) (Rt.all (by simp only[d0,d4,zU,zl92]) ?_)
  exact Rt.call (Oz (WR W.As (by rw[zl66];exact W.cls) fun c hc=>Q1 W.cl hz.1 hc) (.inl rfl) hz.2.2 hz.2.1) fun u hu=>Rt.ok hu
noncomputable def OL (log r:List UInt8) (b:Int):List UInt8:=
 bif !(wh log r).2 then log else(wh log r).1.take (log.length+min b.toNat ((wh log r).1.length-log.length))
def acP {log r:List UInt8}(h:(wh log r).2=true):∃q,(wh log r).1=log++q:=by
 unfold wh at h ⊢
 split
 ·exact⟨_,rfl⟩
 ·rename_i k;rw[cT k] at h;cases h
def aiM (log r:List UInt8)(b:Int)(hl:log.length≤9000)(hr:r.length≤9999999)(_hb:I64 b):q86 (log,r,b)=some (OL log r b,()):=by
 have a:=TS log r (by omega) hr
 simp only[q86,a,zov a,qu,zU,dW,OL]
 cases h:(wh log r).2 with
 |false=>rfl
 |true=>
  obtain⟨q,hq⟩:=acP h
  have h9:=JM log r h
  rw[hq] at h9 ⊢
  simp only[eY] at h9 ⊢
  have w1:IntKind.wrap .i64 (((log.length+q.length:Nat):Int)-(log.length:Int))=(q.length:Int):=wi (by omega) (by omega)
  rw[w1]
  simp only[zl70,pO]
  by_cases hneg:b<0
  ·rw[zl86 hneg]
   have:b.toNat=0:=by omega
   rw[this,Nat.zero_min,zl50,List.take_left]
   rfl
  ·rw[zl90 hneg]
   simp only[pO]
   by_cases hbig:b>(q.length:Int)
   ·rw[zl86 hbig]
    have:List.take (log.length+min b.toNat (log.length+q.length-log.length)) (log++q)=log++q:=zl57 (by rw[eY];omega)
    rw[this]
    rfl
   ·rw[zl90 hbig]
    have w2:IntKind.wrap .i64 ((log.length:Int)+b)=((log.length+b.toNat:Nat):Int):=wi (by omega) (by omega)
    rw[w2]
    have d1:decide ((0:Int)≤((log.length+b.toNat:Nat):Int))=true:=zdt
    have d2:decide (((log.length+b.toNat:Nat):Int)≤((log.length+q.length:Nat):Int))=true:=zdt
    have e:min b.toNat (log.length+q.length-log.length)=b.toNat:=by omega
    simp only[d1,d2,dW,pO,zl92,e,Int.sub_zero,zl94,show Int.toNat 0=0 from rfl,zl84]
noncomputable def Lp (s:b7.D) (r:List UInt8) (b:Int):List UInt8:=bif(bif s.1 then(CL s.2.2.2.1 r).2 else false) then OL s.2.2.1 r b else s.2.2.1
noncomputable def ID (s:b7.D) (r:List UInt8) (b:Int):b7.D:=
 bif !AI s then C4 else(false,s.2.1,Lp s r b,((0:Int),[],()),([],(0:Int),()),[],[],())
def aiw (s:b7.D)(S:CK s)(r:List UInt8)(b:Int)(hr:r.length≤9999999)(hb:I64 b):q27 (s,r,b)=some (ID s r b,()):=by
 have a:=MG s S
 unfold ID
 cases ho:AI s with
 |false=>
  rw[ho] at a
  simp only[q27,a,zov a,qu,zU,dW,zl98,C4]
 |true=>
 rw[ho] at a
 have I:=ER ho
 have hl:=FX ho
 have c:=PG s.2.2.2.1 I r hr
 have d:=aiM s.2.2.1 r b hl hr hb
 simp only[q27,a,zov a,c,zov c,d,zov d,qu,zU,dW,pO,zl70,Lp]
 cases s.1<;>cases (CL s.2.2.2.1 r).2<;>rfl
def adu (s:b7.D)(r:List UInt8)(b:Int):CK (ID s r b):=by
 unfold ID
 cases ho:AI s with
 |false=>exact Hi
 |true=>
  have hl:=FX ho
  refine⟨?_,Hi.cat,Hi.items,Hi.GP,Hi.bks,Hi.As⟩
  change (Lp s r b).length≤_
  unfold Lp OL
  cases (bif s.1 then(CL s.2.2.2.1 r).2 else false) with
  |false=>change s.2.2.1.length≤_;omega
  |true=>
  cases h:(wh s.2.2.1 r).2 with
  |false=>change s.2.2.1.length≤_;omega
  |true=>
   have:=JM _ _ h
   simp only[dW,zl70,pO,zl3]
   omega
def bkt (now:Int):cw.D:=(40,40,8,now,())
def frs:List b8.D:=List.replicate 8 (0,0,0,0,false,())
def Gm (now:Int)(log:List UInt8)(c:g7.D):b7.D:=(true,now,log,c,(frs,0,()),List.replicate 2 (bkt now),[],())
def PC:HT ()=some ((frs,0,()),()):=by simp[HT,frs,List.replicate]
def XF (now:Int):H9 now=some (List.replicate 2 (bkt now),()):=by
 have hc:Comes Mk (((0:Int),now,()),[]) ((),List.replicate 2 (bkt now)):=by
  refine Br (r:=Mk) (st:=fun i=>(((i:Int),now,()),List.replicate i (bkt now))) (n:=2) ?_ ?_ 0 (lB _)
  ·intro i hi
   have h2:=A4 (i:=i) (by omega)
   have h3:i+1≤eV:=by unfold eV;omega
   have h4:(i:Int)<2:=by omega
   simp[Mk,h4,h2,h3,zU,List.replicate_succ',bkt]
  ·simp[Mk]
 simp[H9,cb hc,cv hc,ic]
noncomputable def K6 (s:b7.D):b7.D:=
 bif !AI s then C4 else bif s.1 then s else Gm s.2.1 (s.2.2.1.take (Bp s).2) (Dx (Bp s).1).1
def aiD (s:b7.D)(S:CK s):q29 s=some (K6 s,()):=by
 have a:=MG s S
 unfold K6
 cases ho:AI s with
 |false=>
  rw[ho] at a
  simp only[q29,a,zov a,qu,zU,dW,zl98,C4]
 |true=>
 rw[ho] at a
 have I:=ER ho
 have h8:=I.len
 have hl:=FX ho
 have b:=ME s S (by omega)
 have c:=PF s.2.2.1 (by omega)
 obtain⟨r1,r2⟩:=abP s (by omega)
 have d:=ab7 (Bp s).1 r1 r2
 change Fp s.2.2.1=some (((Bp s).1,((Bp s).2:Int)),()) at c
 obtain⟨k1,k2⟩:=abM s.2.2.1
 have d2:decide (((Bp s).2:Int)≤(s.2.2.1.length:Int))=true:=zl86 (by unfold Bp;omega)
 have e:=XF s.2.1
 simp only[q29,a,zov a,b,zov b,c,zov c,d,zov d,e,zov e,PC,zov PC,qu,zU,dW,pO,zl70,zl92,d2,zl111,zl73,Int.sub_zero,zl94,show Int.toNat 0=0 from rfl,zl84,Gm]
 cases s.1<;>rfl
def ah6 (s:b7.D)(S:CK s):CK (K6 s):=by
 unfold K6
 cases ho:AI s with
 |false=>exact Hi
 |true=>
  cases s.1 with
  |true=>exact S
  |false=>
   have hl:=FX ho
   have hc:(Dx (Bp s).1).2=true:=by
    unfold AI at ho
    simp only[bB] at ho
    exact ho.2.2.1
   have I:=O8 hc
   have h8:=I.len
   refine⟨?_,by change (Dx (Bp s).1).1.2.1.length≤_;omega,fun x hx=>?_,by change frs.length≤_;simp[frs],by change (List.replicate 2 _).length≤_;simp,by change ([]:List Sv).length≤_;simp⟩
   ·change (s.2.2.1.take (Bp s).2).length≤_
    rw[zl3];omega
   ·obtain⟨_,h1,h2⟩:=I9 (I.ok x hx)
    have:=J9 _ h1
    exact⟨by omega,by omega⟩
def DoI (n:Nat)(y:(eL.D×Bool)×Unit):Prop:=WI n y.1.1
def ai1 {p:cg.D}(hp:PI p)(hne:p.2.1 ≠ []){a:Int}(h0:0≤a)(_h1:a≤70000):Rt (q71 (p,a)) (fun y=>PI y.1):=by
 have hl:0<p.2.1.length:=List.length_pos_iff.2 hne
 have bl:(bytesOf p.2.1).length=p.2.1.length:=by simp[bytesOf]
 obtain⟨t0,t1⟩:=K_ h0 (show 1≤(4096:Int) by omega)
 obtain⟨k0,k1⟩:=K_ t0 (show 1≤((bytesOf p.2.1).length:Int) by omega)
 have hm:=hp.2
 unfold q71
 refine Rt.all (by rw[RA];exact zl86 (by unfold eV;show p.2.1.length≤_;omega)) (Rt.all (by rw[V4,RA,Bool.and_true];exact bne_iff_ne.2 (show((bytesOf p.2.1).length:Int)≠0 by omega)) (Rt.all (by simp only[zl86 k0,zl86 k1,zU,zl92]) (Rt.ok ⟨hp.1,?_⟩)))
 show(tv _).length≤_
 rw[TY,zl66,bl]
 exact hm
def ah2 {n:Nat}{w:eL.D}(W:WI n w){e:di.D}(E:EvI e):Rt (q70 (w,e)) (DoI n):=by
 have hr:=W.Ar
 unfold q70
 have wr:IntKind.wrap .i64 ((w.2.2.1.length:Int)-1)=(w.2.2.1.length:Int)-1:=wrap64 (by omega) (by omega)
 dsimp only
 rw[wr]
 refine Rt.call (P:=fun y=>y.1=m6 e.2.1 0 ((w.2.2.1.length:Int)-1)) ⟨_,BR _ _ _,rfl⟩ fun y hy=>Rt.bif (fun _=>Rt.ok W) fun hc=>?_
 rw[hy] at hc
 have hb:m6 e.2.1 0 ((w.2.2.1.length:Int)-1)=true:=by simpa using hc
 have hb:=zl79 hb
 have h0:=hb.1
 have h1:e.2.1<(w.2.2.1.length:Int):=by omega
 have ck:=WC h0 h1 hr
 have hi:e.2.1.toNat<w.2.2.1.length:=by omega
 have gd:w.2.2.1.getD (Int.toNat e.2.1) ((0:Int),[],false,())=w.2.2.1[e.2.1.toNat]:=getD_eq _ _ _ hi
 refine Rt.bif (fun _=>Rt.call (acY W h0 h1) fun y hy=>Rt.ok hy) fun _=>Rt.bif (fun _=>Rt.all (by simp only[ck,zU,zl92]) ?_) fun _=>?_
 ·rw[WA h0 h1 hr]
  exact Rt.ok (W.cut W.As ⟨W.cls,W.cl⟩ hi)
 ·have hp:=W.pk _ (zl96 hi)
  simp only[gd]
  refine Rt.all (by simp only[ck,zl99,zU,zl92]) (Rt.bif (fun _=>Rt.ok W) fun hc=>?_)
  have hne:(w.2.2.1[e.2.1.toNat]).2.1 ≠ []:=by
   intro e0
   rw[e0] at hc
   cases h:(w.2.2.1[e.2.1.toNat]).2.2.1<;>rw[h] at hc<;>cases hc
  refine Rt.val (ai1 hp hne E.nu0 E.nu1) fun y hy e1=>Rt.all (by simp only[e1,qu,ck,zU,zl92]) (Rt.ok ?_)
  exact⟨W.As,W.cls,W.cl,by show(List.set _ _ _).length≤_;rw[zl66];exact hr,fun p hp=>Q1 W.pk hy hp,W.FG,W.gi⟩
def ac6 {n:Nat}{w:eL.D}(W:WI n w){e:di.D}(E:EvI e):Rt (q48 (w,e)) (DoI n):=by
 unfold q48
 refine Rt.call (P:=fun y=>y.1=m6 e.2.1 0 3) ⟨_,BR _ _ _,rfl⟩ fun y hy=>Rt.bif (fun _=>Rt.ok W) fun hc=>?_
 rw[hy] at hc
 have hb:m6 e.2.1 0 3=true:=by simpa using hc
 have hb:=zl79 hb
 have hj:e.2.1.toNat<w.2.1.length:=by rw[W.cls];omega
 have d0:decide (0≤e.2.1)=true:=zl86 hb.1
 have d4:decide (e.2.1<(w.2.1.length:Int))=true:=zl86 (by rw[W.cls];omega)
 have gc:w.2.1.getD (Int.toNat e.2.1) Hh=w.2.1[e.2.1.toNat]:=getD_eq _ _ _ hj
 have I:=W.cl _ (zl96 hj)
 unfold Hh at gc
 refine Rt.all (by simp only[d0,d4,zU,zl92]) ?_
 simp only[gc]
 have WS:∀{c:bm.D},CI c→WI n (w.1,w.2.1.set e.2.1.toNat c,w.2.2.1,w.2.2.2.1,w.2.2.2.2):=fun J=>⟨W.As,by show(List.set _ _ _).length=4;rw[zl66];exact W.cls,fun c hc=>Q1 W.cl J hc,W.Ar,W.pk,W.FG,W.gi⟩
 generalize w.2.1[e.2.1.toNat]=c at *
 refine Rt.box q6_v (P:=fun y=>(∃(x:bm.D) (l:List ei.D),(CI x∧l.length≤1000∧∀v∈l,FE 9 v)∧∃z1 z2,y = .inl (z1,z2,l,(w.1,(),(),(),w.2.2.2.2),e,c,(x.1,x.2.1,x.2.2.1,x.2.2.2.1,x.2.2.2.2.1,((x.2.2.2.2.2.1.1.1,x.2.2.2.2.2.1.1.2.1,(),(),x.2.2.2.2.2.1.1.2.2.2.2),(x.2.2.2.2.2.1.2.1.1,x.2.2.2.2.2.1.2.1.2.1,(),x.2.2.2.2.2.1.2.1.2.2.2),x.2.2.2.2.2.1.2.2),x.2.2.2.2.2.2),[],[],[],[],[],[],[],w.2.1,w.2.2.1,w.2.2.2.1,x.2.2.2.2.2.1.1.2.2.1,x.2.2.2.2.2.1.1.2.2.2.1,x.2.2.2.2.2.1.2.1.2.2.1)) ∨
  ∃l:List ei.D,(l.length≤1000∧∀v∈l,FE 9 v)∧∃z1 z2,y = .inr (z1,z2,l,(w.1,(),(),(),w.2.2.2.2),e,c,c,[],[],[],[],[],[],[],w.2.1,w.2.2.1,w.2.2.2.1)) ?_ fun y hy=>?_
 ·unfold Wh.q6
  refine Rt.bif (fun _=>Rt.call (ac9 I E.nam) fun y hy=>Rt.ok (.inl ⟨y.1.1,y.1.2,hy,_,_,rfl⟩)) fun _=>Rt.bif (fun _=>Rt.call (ac0 I) fun y hy=>Rt.ok (.inl ⟨y.1.1,y.1.2,hy,_,_,rfl⟩)) fun _=>Rt.bif (fun _=>Rt.call (adb I) fun y hy=>Rt.ok (.inl ⟨y.1.1,y.1.2,hy,_,_,rfl⟩)) fun _=>Rt.call (ade I) fun y hy=>Rt.ok (.inr ⟨y.1,hy,_,_,rfl⟩)
 ·rcases hy with⟨x,l,⟨h1,h2,h3⟩,z1,z2,rfl⟩|⟨l,⟨h2,h3⟩,z1,z2,rfl⟩
  ·refine Rt.sum (fun y hy=>?_) fun y hy=>by cases hy
   cases hy
   refine Rt.all (by simp only[d0,d4,zU,zl92]) ?_
   exact Rt.call (Oz (WS h1) (.inl rfl) h3 h2) fun u hu=>Rt.ok hu
  ·refine Rt.sum (fun y hy=>by cases hy) fun y hy=>?_
   cases hy
   refine Rt.all (by simp only[d0,d4,zU,zl92]) ?_
   exact Rt.call (Oz (WS I) (.inl rfl) h3 h2) fun u hu=>Rt.ok hu
def put_si {s:b7.D}(S:SI s)(h:Int)(n t:List UInt8):SI (Ki s h n t).1:=by
 have sm:=agk s S.sm h n t
 unfold Ki at sm ⊢
 cases ho:AI s with
 |false=>exact O0
 |true=>
 rw[ho] at sm
 have k:=(Tt _ (ER ho) h n t).len
 have so:=OA S.sm ho
 unfold Q6 at sm ⊢
 cases hu:s.1 with
 |false=>exact so
 |true=>
 rw[hu] at sm
 cases hp:(Dq s.2.2.2.1 h n t).2 != 0 with
 |true=>exact so
 |false=>
 rw[hp] at sm
 cases ha:(wh s.2.2.1 (tc h n t)).2 with
 |false=>exact so
 |true=>
  rw[ha] at sm
  have:=JM _ _ ha
  exact⟨sm,by show(Dq s.2.2.2.1 h n t).1.2.1.length≤_;omega,by show(wh s.2.2.1 (tc h n t)).1.length≤_;omega⟩
def aja {s:b7.D}(S:SI s)(h:Int)(n:List UInt8):SI (K8 s h n).1:=by
 have sm:=ai9 s S.sm h n
 unfold K8 at sm ⊢
 cases ho:AI s with
 |false=>exact O0
 |true=>
 rw[ho] at sm
 have k:=(T3 _ (ER ho) h n).len
 have so:=OA S.sm ho
 unfold Q7 at sm ⊢
 cases hu:s.1 with
 |false=>exact so
 |true=>
 rw[hu] at sm
 cases hp:C5 s.2.2.2.1.2.1 h n with
 |none=>exact so
 |some i=>
 rw[hp] at sm
 cases ha:(wh s.2.2.1 (tc h n [])).2 with
 |false=>exact so
 |true=>
  have:=JM _ _ ha
  dsimp only at sm ⊢
  rw[ha] at sm
  exact⟨sm,by show(Fx s.2.2.2.1 h n).1.2.1.length≤_;omega,by show(wh s.2.2.1 (tc h n [])).1.length≤_;omega⟩
def adv (s:b7.D)(r:List UInt8)(b:Int):SI (ID s r b):=by
 have sm:=adu s r b
 refine⟨sm,by unfold ID;cases AI s<;>simp[C4],?_⟩
 unfold ID
 cases ho:AI s with
 |false=>simp[C4]
 |true=>
  have hl:=FX ho
  change (Lp s r b).length≤_
  unfold Lp OL
  cases (bif s.1 then(CL s.2.2.2.1 r).2 else false) with
  |false=>change s.2.2.1.length≤_;omega
  |true=>
  cases h:(wh s.2.2.1 r).2 with
  |false=>change s.2.2.1.length≤_;omega
  |true=>
   have:=JM _ _ h
   simp only[dW,zl70,pO,zl3]
   omega
def ah7 {s:b7.D}(S:SI s):SI (K6 s):=by
 have sm:=ah6 s S.sm
 unfold K6 at sm ⊢
 cases ho:AI s with
 |false=>exact O0
 |true=>
 rw[ho] at sm
 have hl:=FX ho
 cases hu:s.1 with
 |true=>exact OA S.sm ho
 |false=>
  rw[hu] at sm
  have hc:(Dx (Bp s).1).2=true:=by
   unfold AI at ho
   simp only[bB] at ho
   exact ho.2.2.1
  have:=(O8 hc).len
  refine⟨sm,?_,?_⟩
  ·show(Dx (Bp s).1).1.2.1.length≤_
   omega
  ·show(s.2.2.1.take (Bp s).2).length≤_
   rw[zl3];omega
def aik {n:Nat}(hn:n≤900){w:eL.D}(W:WI n w){e:di.D}(E:EvI e):Rt (q50 (w,e)) (DoI (n+1)):=by
 have en:=E.nam
 have et:=E.txt
 have U:=W.up (Nat.le_succ n)
 have sm:=W.As.sm
 have pe:=aiC w.1 sm e.2.1 e.2.2.2.1 e.2.2.2.2.1 (by omega) (by omega)
 have te:=aiJ w.1 sm e.2.1 e.2.2.2.1 (by omega)
 unfold q50
 refine Rt.bif (fun _=>?_) fun _=>Rt.bif (fun _=>?_) fun _=>Rt.bif (fun _=>?_) fun _=>Rt.bif (fun _=>?_) fun _=>?_
 ·refine Rt.call (P:=fun y=>y=(Ki w.1 e.2.1 e.2.2.2.1 e.2.2.2.2.1,())) ⟨_,pe,rfl⟩ fun y hy=>?_
  subst hy
  exact Rt.call (Yt (W.set (put_si W.As _ _ _)) (by omega)) fun u hu=>Rt.ok hu
 ·refine Rt.call (P:=fun y=>y=(K8 w.1 e.2.1 e.2.2.2.1,())) ⟨_,te,rfl⟩ fun y hy=>?_
  subst hy
  exact Rt.ok (U.set (aja W.As _ _))
 ·refine Rt.call (aji sm) fun y hy=>?_
  exact Rt.call (Oz (U.set hy.1) (.inr rfl) hy.2.2 hy.2.1) fun u hu=>Rt.ok hu
 ·have rc:=OF e.2.1 e.2.2.2.1 e.2.2.2.2.1 (by omega) (by omega)
  refine Rt.val (P:=fun y=>y.1=tc e.2.1 e.2.2.2.1 e.2.2.2.2.1) ?_ fun y hy e1=>?_
  ·unfold q49
   exact Rt.call (P:=fun y=>y.1=tc e.2.1 e.2.2.2.1 e.2.2.2.2.1) ⟨_,rc,rfl⟩ fun y hy=>Rt.ok hy
  have hl:=TG (h:=e.2.1) (n:=e.2.2.2.1) (t:=e.2.2.2.2.1)
  have fe:=aiw w.1 sm y.1 e.2.2.1 (by rw[hy];omega) ⟨by have:=E.nu0;omega,by have:=E.nu1;omega⟩
  refine Rt.val (P:=fun z=>z=(ID w.1 y.1 e.2.2.1,())) ⟨_,fe,rfl⟩ fun z hz e2=>?_
  subst hz
  exact Rt.all (by simp only[e1,e2,qu,zU,zl92]) (Rt.ok (U.set (adv _ _ _)))
 ·refine Rt.call (P:=fun z=>z=(K6 w.1,())) ⟨_,aiD w.1 sm,rfl⟩ fun z hz=>?_
  subst hz
  exact Rt.call (Yt (W.set (ah7 W.As)) (by omega)) fun u hu=>Rt.ok hu
def do_rt {n:Nat}(hn:n≤900){w:eL.D}(W:WI n w){e:di.D}(E:EvI e):Rt (KI (w,e)) (DoI (n+1)):=by
 have U:∀{y},DoI n y→DoI (n+1) y:=fun h=>WI.up h (Nat.le_succ n)
 unfold KI
 refine Rt.box q67_v (P:=fun y=>∃v z,y=((v,(),(),(),e.1),z,e,(w.1,(),(),(),w.2.2.2.2),[],[],[],[],[],[],[],w.2.1,w.2.2.1,w.2.2.2.1)) ?_ fun y hy=>?_
 ·unfold q67
  repeat' refine Rt.bif (fun _=>?_) fun _=>?_
  all_goals exact Rt.ok ⟨_,_,rfl⟩
 obtain⟨v,z,rfl⟩:=hy
 refine Rt.bif (fun _=>Rt.call (ah2 W E) fun y hy=>Rt.ok (U hy)) fun _=>?_
 refine Rt.box q68_v (P:=fun y=>∃v z,y=((v,(),(),(),e.1),z,e,(w.1,(),(),(),w.2.2.2.2),[],[],[],[],[],[],[],w.2.1,w.2.2.1,w.2.2.2.1)) ?_ fun y hy=>?_
 ·unfold q68
  repeat' refine Rt.bif (fun _=>?_) fun _=>?_
  all_goals exact Rt.ok ⟨_,_,rfl⟩
 obtain⟨v,z,rfl⟩:=hy
 refine Rt.bif (fun _=>Rt.call (ac6 W E) fun y hy=>Rt.ok (U hy)) fun _=>?_
 refine Rt.box q69_v (P:=fun y=>∃v z,y=((v,(),(),()),z,e,(w.1,(),(),(),w.2.2.2.2),[],[],[],[],[],[],[],w.2.1,w.2.2.1,w.2.2.2.1)) ?_ fun y hy=>?_
 ·unfold q69
  repeat' refine Rt.bif (fun _=>?_) fun _=>?_
  all_goals exact Rt.ok ⟨_,_,rfl⟩
 obtain⟨v,z,rfl⟩:=hy
 exact Rt.bif (fun _=>Rt.call (aik hn W E) fun y hy=>Rt.ok hy) fun _=>Rt.ok (W.up (Nat.le_succ n))
def aeH {l:List Int}(h:∀x∈l,0≤x∧x≤255):Rt (Ky l) (fun y=>xe y.1 0):=by
 unfold Ky
 refine Rt.bif (fun hc=>Rt.all (by simpa[kL] using Int.le_of_lt (zl79 hc)) (Rt.ok ⟨?_,?_,Int.le_refl _,Int.le_refl _⟩)) fun hc=>Rt.ok ⟨?_,h,Int.le_refl _,Int.le_refl _⟩
 ·show(List.take _ _).length≤_
  rw[zl3];exact Nat.min_le_left _ _
 ·exact fun x hx=>h x (List.mem_of_mem_drop (List.mem_of_mem_take hx))
 ·have:=zl101 hc
  show l.length≤_
  omega
def AO:b7.D:=Gm 0 [] (0,[],())
def ai2:SI AO:=⟨⟨by simp[AO,Gm],by unfold Rz;simp[AO,Gm],by simp[AO,Gm],by unfold JL;simp[AO,Gm,frs],by simp[AO,Gm],by simp[AO,Gm]⟩,by simp[AO,Gm],by simp[AO,Gm]⟩
def aij:q40 ()=some (AO,()):=by
 have e:=XF 0
 simp only[q40,zov e,e,PC,zov PC,qu,zU,zl92,dW]
 rfl
def ac4 (n:Int):Rt (q38 n) (fun y=>CI y.1):=by
 unfold q38
 exact Rt.call (P:=fun _=>True) ⟨_,BR _ _ _,trivial⟩ fun y _=>Rt.bif (fun _=>Rt.ok OZ) fun _=>Rt.ok ⟨by simp,Ll⟩
def ajz:Rt (q64 ()) (fun y=>WI 0 y.1):=by
 unfold q64
 refine Rt.call (P:=fun y=>y=(AO,())) ⟨_,aij,rfl⟩ fun y hy=>?_
 subst hy
 refine Rt.loop (P:=fun y=>∃cl,(cl.length=4∧∀c∈cl,CI c)∧y.2.2.1=((AO.1,AO.2.1,AO.2.2.1,(AO.2.2.2.1.1,(),AO.2.2.2.1.2.2),((),AO.2.2.2.2.1.2),(),(),AO.2.2.2.2.2.2.2),(),(),(),())∧y.2.2.2.2.2.2.2.2.2.2=(AO.2.2.2.1.2.1,AO.2.2.2.2.1.1,AO.2.2.2.2.2.1,AO.2.2.2.2.2.2.1,cl,[],[]))
  (DN (n:=4) (I:=fun i x=>∃cl,x=(((i:Int),(),()),((AO.1,AO.2.1,AO.2.2.1,(AO.2.2.2.1.1,(),AO.2.2.2.1.2.2),((),AO.2.2.2.2.1.2),(),(),AO.2.2.2.2.2.2.2),(),(),(),()),_,AO.2.2.2.1.2.1,AO.2.2.2.2.1.1,AO.2.2.2.2.2.1,AO.2.2.2.2.2.2.1,cl,[],[],_)∧cl.length=i∧∀c∈cl,CI c) ?_ ?_ 0 _ (lB _) ⟨[],rfl,rfl,by simp⟩) fun y hy=>?_
 ·rintro i _ hi ⟨cl,rfl,h1,h2⟩
  obtain⟨z,e2,hz⟩:=ac4 (i:Int)
  have d1:decide ((i:Int)<4)=true:=zdt
  refine .inl ⟨_,by simp only[QA,d1,e2,zov e2,qu,Db (a:=cl.length) (b:=1) (by omega) (by omega),zU,zl92,dW,zw (i:=i)],cl ++ [z.1],rfl,by simp[h1],fun c hc=>?_⟩
  rcases bU.1 hc with hc|hc
  ·exact h2 c hc
  ·rw[i_.1 hc];exact hz
 ·rintro _ ⟨cl,rfl,h1,h2⟩
  have d1:decide (((4:Nat):Int)<4)=false:=zdf
  exact⟨_,by simp only[QA,d1,pO];rfl,cl,⟨h1,h2⟩,rfl,rfl⟩
 ·obtain⟨cl,⟨h1,h2⟩,e1,e2⟩:=hy
  refine Rt.ok ?_
  dsimp only
  rw[e1,e2]
  exact⟨ai2,h1,h2,lB _,(fun _ h=>nomatch h),lB _,fun _ h=>nomatch h⟩
def CW (w:eL.D):Prop:=(3≤w.2.1.length∧w.2.1.length≤4)∧∀c∈w.2.1,CI c
def setC {l:List bm.D}(h:(3≤l.length∧l.length≤4)∧∀c∈l,CI c){c:bm.D}(hc:CI c)(i:Nat):(3≤(l.set i c).length∧(l.set i c).length≤4)∧∀x∈l.set i c,CI x:=⟨by rw[zl66];exact h.1,fun x hx=>Q1 h.2 hc hx⟩
def ai0 {n:Nat}(hn:n≤1000){w:eL.D}(W:WI n w){r:dj.D}{p:Nat}(I:xe r p)(hp:p≤900000000):Rt (Wh.q3 (r,w)) (fun y=>CW y.1∧xe y.2.1 (p+3)):=by
 unfold Wh.q3
 refine Rt.call (RP W hn) fun y V=>Rt.call (A0 I (by omega) 8) fun z hz=>?_
 have J:=hz.2.2.2
 have U:=J.up (show p+1≤p+3 by omega)
 have hl:=V.cls
 have hr:=V.Ar
 have hg:=V.FG
 have lg:=V.As.lg
 have C:(3≤y.1.2.1.length∧y.1.2.1.length≤4)∧∀c∈y.1.2.1,CI c:=⟨by omega,V.cl⟩
 have gc:∀i:Int,0≤i∧i<4→CI (y.1.2.1.getD i.toNat Hh):=fun i hi=>by
  rw[getD_eq _ _ _ (show i.toNat<y.1.2.1.length by omega)];exact V.cl _ (zl96 _)
 have bd:∀i:Int,0≤i∧i<4→decide (0≤i)=true∧decide (i<(y.1.2.1.length:Int))=true:=fun i hi=>⟨zl86 hi.1,zdt⟩
 refine Rt.bif (fun _=>?_) fun _=>Rt.bif (fun _=>?_) fun _=>Rt.bif (fun _=>?_) fun _=>Rt.bif (fun _=>?_) fun _=>Rt.bif (fun _=>Rt.ok ⟨C,U⟩) fun _=>Rt.bif (fun _=>?_) fun _=>Rt.bif (fun _=>?_) fun _=>Rt.ok ⟨C,U⟩
 ·refine Rt.val (A0 J (by omega) 4) fun a ha e1=>Rt.val (A0 ha.2.2.2 (by omega) 2) fun b hb e2=>?_
  have ka:=pk ha
  have kb:=pk hb
  exact Rt.all (by simp only[bd _ ka,zl86 kb.1,show decide (b.1<((2:Nat):Int))=true from zdt,e1,e2,qu,zU,zl92]) (Rt.ok ⟨setC C (by exact⟨(gc _ ka).name,(gc _ ka).g⟩) _,hb.2.2.2⟩)
 ·refine Rt.val (A0 J (by omega) 4) fun a ha e1=>Rt.val (A0 ha.2.2.2 (by omega) 6) fun b hb e2=>?_
  have ka:=pk ha
  exact Rt.all (by simp only[bd _ ka,e1,e2,qu,zU,zl92]) (Rt.ok ⟨setC C (by exact⟨(gc _ ka).name,(gc _ ka).g⟩) _,hb.2.2.2⟩)
 ·refine Rt.all (by simp only[hl];rfl) (Rt.ok ⟨⟨?_,fun c hc=>V.cl c (List.mem_of_mem_drop (List.mem_of_mem_take hc))⟩,U⟩)
  simp only[zl3,zl4,hl]
  decide
 ·exact Rt.all (by simp only[Db (a:=y.1.1.2.2.1.length) (b:=1) (by omega) (by omega),zU]) (Rt.ok ⟨C,U⟩)
 ·exact Rt.all (by simp only[Db (a:=y.1.2.2.2.1.length) (b:=1) (by omega) (by omega),zU]) (Rt.ok ⟨C,U⟩)
 ·exact Rt.all (by simp only[Db (a:=y.1.2.2.1.length) (b:=1) (by omega) (by omega),zU]) (Rt.ok ⟨C,U⟩)
def afP {s:List UInt8}(h:s.length≤1048576):Pc.FW s=Eu s:=by
 have a:=Pc.acm s (by omega)
 rw[Q3 s (by omega)] at a
 injection a with a
 exact(Prod.mk.inj a).1.symm
def okC {c:bm.D}(ok:Pc.C7 c=true):(0≤c.1∧c.1≤3)∧(0≤c.2.1∧c.2.1≤99999)∧(0≤c.2.2.2.2.1∧c.2.2.2.2.1≤99999)∧((c.2.2.1==0)=false→(c.2.1==0)=false∧Pc.FW c.2.2.2.1=true):=by
 unfold Pc.C7 at ok
 simp only[bB,mS] at ok
 obtain⟨⟨⟨⟨⟨h1,h2⟩,_⟩,h4⟩,_⟩,h6⟩:=ok
 refine⟨h1,h2,h4,fun h=>?_⟩
 rw[h] at h6
 simp only[pO,bB,zl63] at h6
 exact h6.1
def Xt {c:bm.D}(I:CI c):G2 c=some (Pc.C7 c,()):=Pc.aeo c I.g.sm (by have:=I.name;omega)
def asks (c:bm.D):ei.D:=(1,c.1,c.2.1,c.2.2.2.2.1,0,c.2.2.2.1,[],())
def asksS (c:bm.D):Kk c=some ([asks c],()):=rfl
def asksI (c:bm.D):Wh.q0 c=some ([asks c],()):=rfl
def OJ (c:bm.D):List ei.D:=bif Pc.C7 c&&(c.2.2.1==1 || c.2.2.1==2) then [asks c] else []
def next {c:bm.D}(ok:Pc.C7 c=true):IntKind.wrap .i64 (c.2.1+1)=c.2.1+1:=by
 have:=(okC ok).2.1
 exact wrap64 (by omega) (by omega)
def last {c:bm.D}(ok:Pc.C7 c=true):decide (c.2.1≥99999)=(c.2.1==99999):=by
 have:=(okC ok).2.1
 by_cases h:c.2.1=99999
 ·rw[h];rfl
 ·rw[zl89.2 h];exact zdf
def aiL {c:bm.D}(I:CI c):F_ c=some (OJ c,()):=by
 have e:=I.ok
 simp only[F_,e,zov e,asksS,zov (asksS c),qu,zU,dW,OJ,bne]
 cases Pc.C7 c<;>cases c.2.2.1==1<;>cases c.2.2.1==2<;>rfl
def aen {c:bm.D}(I:CI c):q20 c=some (OJ c,()):=by
 have e:=Xt I
 simp only[q20,e,zov e,asksI,zov (asksI c),qu,zU,dW,OJ,bne]
 cases Pc.C7 c<;>cases c.2.2.1==1<;>cases c.2.2.1==2<;>rfl
def acB:GV ([],[])=some (true,()):=by
 have q':Comes Oe (((0:Int),[],[]),()) (.inr ((),())):=.out rfl
 simp only[GV,bne_self_eq_false,pO,cb q',cv q',dW,sumC,ic]
def acC {v:ei.D}(h:Ee v=true):GV ([v],[v])=some (true,()):=by
 have hn:=Rr h
 have a:=OG v (by omega)
 rw[h] at a
 have q':Comes Oe (((0:Int),[v],[v]),()) (.inr ((),())):=.again (x':=(((1:Int),[v],[v]),())) (by
  simp only[Oe,show decide ((0:Int)<(([v].length:Nat):Int))=true from rfl,show [v].getD (Int.toNat 0) ((0:Int),(0:Int),(0:Int),(0:Int),(0:Int),[],[],())=v from rfl,a,zov a,qu,zl95,zl70,zl99,show decide ((0:Int)≤0)=true from rfl,zU,zl92,dW,pO,show IntKind.wrap .i64 (0+1)=1 by decide]) (.out rfl)
 simp only[GV,bne_self_eq_false,pO,cb q',cv q',dW,sumC,ic]
def V9 {c:bm.D}(I:CI c)(ok:Pc.C7 c=true)(h:(c.2.2.1==0)=false):Ee (asks c)=true:=by
 obtain⟨h1,h2,h4,h6⟩:=okC ok
 obtain⟨h6,h7⟩:=h6 h
 rw[afP I.name] at h7
 have h6:=zl89.1 h6
 unfold asks Ee m6
 simp only[h7,zl95,dW,Bool.and_true,zl92]
 simp only[bB,mS]
 refine⟨⟨⟨⟨?_,?_⟩,?_⟩,?_⟩,rfl⟩<;>omega
def ajh {c:bm.D}(I:CI c){l:List Int}(hd:Wh.q1 l=some (c,())):Wh.q5 l=some (true,()):=by
 have a:=aiL I
 have b:=aen I
 have d:=I.ok
 have e:=Xt I
 by_cases hl:(l.length:Int)>1048576
 ·simp only[Wh.q5,zl86 hl,dW]
 have hl:=zl90 hl
 unfold OJ at a b
 cases ok:Pc.C7 c with
 |false=>
  rw[ok] at a b d e
  have m:=acB
  simp only[Wh.q5,hl,hd,zov hd,a,zov a,b,zov b,d,zov d,e,zov e,zl93,m,zov m,qu,zl98,zl70,zl99,zl95,zU,zl92,dW,pO]
 |true=>
  rw[ok] at a b d e
  cases h1:c.2.2.1==1 with
  |false=>
   cases h2:c.2.2.1==2 with
   |false=>
    rw[h1,h2] at a b
    have m:=acB
    simp only[Wh.q5,hl,hd,zov hd,a,zov a,b,zov b,d,zov d,e,zov e,h1,h2,Bool.or_self,zl74,m,zov m,qu,zl98,zl70,zl99,zl95,zU,zl92,dW,pO]
    rfl
   |true=>
    rw[h1,h2] at a b
    have m:=acC (V9 I ok (by rw[zl78.1 h2];rfl))
    simp only[Wh.q5,hl,hd,zov hd,a,zov a,b,zov b,d,zov d,e,zov e,h1,h2,zl99,m,zov m,qu,zl98,zl70,zl95,zU,zl92,dW,pO]
    simp[asks]
  |true=>
   rw[h1] at a b
   have m:=acC (V9 I ok (by rw[zl78.1 h1];rfl))
   simp only[Wh.q5,hl,hd,zov hd,a,zov a,b,zov b,d,zov d,e,zov e,h1,zl76,zl99,m,zov m,qu,zl98,zl70,zl95,zU,zl92,dW,pO]
   simp[asks]
variable {r:dj.D} {p:Nat}
def ai3 (I:xe r p)(hp:p≤100000000){most:Int}(hm:1≤most∧most≤110):Rt (q73 (r,most)) (fun y=>WI 110 y.1.2∧xe y.2.1 (p+220001)):=by
 unfold q73
 refine Rt.call ajz fun y W=>Rt.call (A0 I (by omega) most) fun z hz=>?_
 obtain⟨k0,k1⟩:=pk hz
 have J:=hz.2.2.2
 obtain⟨n,hn⟩:=Int.eq_ofNat_of_zero_le k0
 rw[hn]
 have hn':n≤110:=by omega
 refine Rt.loop (P:=fun y=>WI 110 y.2.2.2.1∧xe y.2.1 (p+220001)) (DN (n:=n) (I:=fun i x=>∃r' w es s,x=((((n-i:Nat):Int),(),(),(),()),r',w,es,s)∧xe r' (p+1+2000*i)∧WI i w∧es.length=i) ?_ ?_ 0 _ (lB _) ⟨z.2.1,y.1,[],_,rfl,J,W,rfl⟩) fun y hy=>?_
 ·rintro i _ hi ⟨r',w,es,s,rfl,h1,h2,h3⟩
  left
  obtain⟨u,e1,hu,ju⟩:=adt h1 (by omega) h2.ev
  obtain⟨c,e2,hc⟩:=RP h2 (by omega)
  obtain⟨v,e3,hv⟩:=do_rt (show i≤900 by omega) hc hu
  have d1:decide (((n-i:Nat):Int)>0)=true:=zdt
  have w1:IntKind.wrap .i64 (((n-i:Nat):Int)-1)=((n-(i+1):Nat):Int):=by rw[wrap64 (by omega) (by omega)];omega
  have ju':=ju.up (show p+1+2000*i+2000≤p+1+2000*(i+1) by omega)
  simp only[QE,d1,e1,zov e1,e2,zov e2,e3,zov e3,w1,qu,Db (a:=es.length) (b:=1) (by omega) (by omega),zU,zl92,dW]
  cases v.1.2
  ·exact⟨_,rfl,_,_,_,_,rfl,ju',h2.up (Nat.le_succ i),by simp[h3]⟩
  ·exact⟨_,rfl,_,_,_,_,rfl,ju',hv,by simp[h3]⟩
 ·rintro _ ⟨r',w,es,s,rfl,h1,h2,h3⟩
  have h1:=h1.up (show p+1+2000*n≤p+220001 by omega)
  have d1:decide (((n-n:Nat):Int)>0)=false:=zdf
  exact⟨_,by simp only[QE,d1,pO];rfl,h2.up hn',h1⟩
 ·exact Rt.call (RP hy.1 (by omega)) fun z hz=>Rt.ok ⟨hz,hy.2⟩
def ajA (I:xe r p)(hp:p≤100000000):Rt (q75 r) (fun y=>WI 110 y.1∧xe y.2.1 (p+220001)):=by
 unfold q75
 exact Rt.call (ai3 I hp (by omega)) fun y hy=>Rt.ok hy
def acS (I:xe r p)(hp:p≤100000000):Rt (q10 r) (fun y=>CW y.1∧xe y.2.1 (p+220005)):=by
 unfold q10
 refine Rt.call (ajA I hp) fun y hy=>Rt.call (A0 hy.2 (by omega) 14) fun z hz=>Rt.bif (fun _=>?_) fun _=>?_
 ·exact Rt.call (ai0 (by omega) hy.1 hz.2.2.2 (by omega)) fun u hu=>Rt.ok ⟨hu.1,hu.2.up (by omega)⟩
 ·have:=hy.1.cls
  exact Rt.ok ⟨⟨(by omega:3≤y.1.2.1.length∧y.1.2.1.length≤4),hy.1.cl⟩,hz.2.2.2.up (by omega)⟩
def acR (I:xe r p)(hp:p≤100000000):Rt (Wh.q7 r) (fun y=>CI y.1∧xe y.2.1 (p+220006)):=by
 unfold Wh.q7
 refine Rt.call (acS I hp) fun y hy=>Rt.val (A0 hy.2 (by omega) (y.1.2.1.length:Int)) fun z hz e=>?_
 obtain⟨⟨h1,h2⟩,h3⟩:=hy.1
 obtain⟨k0,k1⟩:=pk hz
 have gc:y.1.2.1.getD z.1.toNat Hh=y.1.2.1[z.1.toNat]:=getD_eq _ _ _ (by omega)
 refine Rt.all (by simp only[zl86 k0,zl86 k1,e,qu,zU,zl92]) (Rt.ok ⟨?_,hz.2.2.2⟩)
 show CI (y.1.2.1.getD z.1.toNat Hh)
 rw[gc]
 exact h3 _ (zl96 _)
variable {l:List Int}
def adr (h:∀x∈l,0≤x∧x≤255):Rt (Wh.q1 l) (fun y=>CI y.1):=by
 unfold Wh.q1
 exact Rt.val (aeH h) fun y hy e1=>Rt.val (acR hy (by omega)) fun z hz e2=>Rt.all (by simp only[e1,e2,qu,zU,zl92]) (Rt.ok hz.1)
def aeJ (h:∀x∈l,0≤x∧x≤255):Wh.q5 l=some (true,()):=by
 obtain⟨⟨c,u⟩,e,hc⟩:=adr h
 exact ajh hc e
end Pl
