import Derived.Test.YtfeoanopdlpabaaGreatDoorX4
import Derived.Lib.ItoaNum
import Derived.Lib.AtoiAll
import Derived.Lib.IndexMore
import Derived.Lib.Join
set_option linter.defProp false
namespace Wh
end Wh
open Wh
open Go Go.Ab
namespace Pl
def wrap64 {n:Int}(h1: -9223372036854775808≤n)(h2:n≤9223372036854775807):IntKind.wrap .i64 n=n:=by
 simp[IntKind.wrap,IntKind.signed,IntKind.bits]
 omega
def s4 {X Y:Type}{r:X→Option (X⊕Y)}(st:Nat→X){n:Nat}{y:Y}(hs:∀i,i<n→r (st i)=some (.inl (st (i+1))))(he:r (st n)=some (.inr y)):∀k,k≤n→Comes r (st k) y:=by
 intro k hk
 have:∀d k,k+d=n→Comes r (st k) y:=by
  intro d
  induction d with
  |zero=>intro k hk;have:k=n:=by omega
         subst this;exact .out he
  |succ d ih=>intro k hk;exact .again (hs k (by omega)) (ih (k+1) (by omega))
 exact this (n-k) k (by omega)
def cb {X Y:Type}{r:X→Option (X⊕Y)}{x:X}{y:Y}(h:Comes r x y):pY r x=true:=(h.is (y0:=y)).1
def cv {X Y:Type}{r:X→Option (X⊕Y)}{x:X}{y:Y}(h:Comes r x y)(y0:Y):oa r y0 x=y:=h.is.2
def Ag {α:Type}(x:α):isSm (some x)=true:=rfl
def X9 {α:Type}(b:Bool){x y:Option (α×Unit)}(h1:∃v,x=some (v,()))(h2:∃v,y=some (v,())):∃v,(bif b then x else y)=some (v,()):=by cases b;exact h2;exact h1
def getD_eq {α:Type}(l:List α)(i:Nat)(z:α)(h:i<l.length):l.getD i z=l[i]:=by simp[h]
def xb:Nat→(Nat→Bool)→Bool
 |0,_=>true
 |n+1,p=>xb n p&&p n
def BA {p:Nat→Bool}:∀{n:Nat},xb n p=true↔∀i,i<n→p i=true
 |0=>by simp[xb]
 |n+1=>by
  rw[xb,aF,BA]
  constructor
  ·rintro⟨h1,h2⟩ i hi
   by_cases e:i=n
   ·subst e;exact h2
   ·exact h1 i (by omega)
  ·intro h
   exact⟨fun i hi=>h i (by omega),h n (by omega)⟩
def CA {X Y:Type}{r:X→Option (X⊕Y)}(st:Nat→X){n:Nat}{p:Nat→Bool}{yf yt:Y}(hs:∀i,i<n→(∀j,j<i→p j=true)→p i=true→r (st i)=some (.inl (st (i+1))))
  (hf:∀i,i<n→(∀j,j<i→p j=true)→p i=false→r (st i)=some (.inr yf)) (he:r (st n)=some (.inr yt)):Comes r (st 0) (if xb n p=true then yt else yf):=by
 have main:∀d k,k+d=n→(∀j,j<k→p j=true)→Comes r (st k) (if xb n p=true then yt else yf):=by
  intro d
  induction d with
  |zero=>
   intro k hk hp
   have:k=n:=by omega
   subst this
   rw[bf (BA.2 hp)]
   exact .out he
  |succ d ih=>
   intro k hk hp
   cases hpk:p k with
   |true=>
    refine .again (hs k (by omega) hp hpk) (ih (k+1) (by omega) fun j hj=>?_)
    by_cases e:j=k
    ·subst e;exact hpk
    ·exact hp j (by omega)
   |false=>
    have:¬xb n p=true:=by
     intro h
     have:=BA.1 h k (by omega)
     rw[hpk] at this;cases this
    rw[bY this]
    exact .out (hf k (by omega) hp hpk)
 exact main n 0 (by omega) (fun j hj=>by omega)
def adU {X Y:Type}{r:X→Option (X⊕Y)}(st:Nat→X){n:Nat}{p:Nat→Bool}{yt:Nat→Y}{yn:Y}(hs:∀i,i<n→p i=false→r (st i)=some (.inl (st (i+1))))
  (hf:∀i,i<n→p i=true→r (st i)=some (.inr (yt i))) (he:r (st n)=some (.inr yn)) :
  (∃i,i<n∧p i=true∧(∀j,j<i→p j=false)∧Comes r (st 0) (yt i))∨((∀j,j<n→p j=false)∧Comes r (st 0) yn):=by
 have main:∀d k,k+d=n→(∀j,j<k→p j=false)→(∃i,i<n∧p i=true∧(∀j,j<i→p j=false)∧Comes r (st k) (yt i))∨((∀j,j<n→p j=false)∧Comes r (st k) yn):=by
  intro d
  induction d with
  |zero=>
   intro k hk hp
   have:k=n:=by omega
   subst this
   exact .inr ⟨hp,.out he⟩
  |succ d ih=>
   intro k hk hp
   cases hpk:p k with
   |true=>exact .inl ⟨k,by omega,hpk,hp,.out (hf k (by omega) hpk)⟩
   |false=>
    rcases ih (k+1) (by omega) (fun j hj=>by
     by_cases e:j=k
     ·subst e;exact hpk
     ·exact hp j (by omega)) with⟨i,h1,h2,h3,h4⟩|⟨h1,h2⟩
    ·exact .inl ⟨i,h1,h2,h3,.again (hs k (by omega) hpk) h4⟩
    ·exact .inr ⟨h1,.again (hs k (by omega) hpk) h2⟩
 exact main n 0 (by omega) (fun j hj=>by omega)
def zX {i:Nat}(h:i≤4611686018427387904):IntKind.wrap .i64 ((i:Int)+1)=((i+1:Nat):Int):=by rw[wrap64]<;>omega
def Np {i:Nat}(h:i≤4611686018427387904):IntKind.wrap .i64 ((i:Int)-1)=(i:Int)-1:=by rw[wrap64]<;>omega
def wrap1:IntKind.wrap .i64 1=1:=by decide
def ads {α:Type}(f:α→Nat):∀(l:List α) (x:α),x∈l→f x≤(l.map f).sum
 |a::l,x,h=>by
  rw[kD,zl82]
  rcases aX.1 h with rfl|h
  ·omega
  ·have:=ads f l x h;omega
def N0 {α:Type}(f:α→Nat)(h:∀x,1≤f x):∀l:List α,l.length≤(l.map f).sum
 | []=>by simp
 |a::l=>by
  rw[kD,zl82,kF]
  have:=N0 f h l;have:=h a;omega
def Bo {α:Type}(a:List α)(z:α)(i:Nat):List α:=a.take i++List.replicate (a.length-i) z
def Px {α:Type}(a:List α)(z:α)(i:Nat)(h:i≤a.length):(Bo a z i).length=a.length:=by
 rw[Bo,cK,zl3,zl67];omega
def Pz {α:Type}(a:List α)(z:α):Bo a z 0=List.replicate a.length z:=by simp[Bo]
def Pw {α:Type}(a:List α)(z:α):Bo a z a.length=a:=by simp[Bo]
def Py {α:Type}(a:List α)(z z':α)(i:Nat)(h:i<a.length):(Bo a z i).set i (a.getD i z')=Bo a z (i+1):=by
 have e1:a.length-i=(a.length-(i+1))+1:=by omega
 have e2:(a.take i).length=i:=by rw[zl3];omega
 rw[Bo,Bo,e1,mK,zl87 _ _ (by omega),e2,Nat.sub_self,zl16,zl88 h,bX,getD_eq _ _ _ h]
 rfl
def M7 {α:Type}(l:List α)(i:Nat)(x y:α):(l.set i x).set i y=l.set i y:=by simp
def JK {α:Type}(l:List α)(i:Nat)(x z:α)(h:i<l.length):(l.set i x).getD i z=x:=by simp[h]
def mb {i:Nat}(h:i≤4611686018427387904:=by omega):IntKind.wrap .i64 ((i:Int)+1)=((i+1:Nat):Int):=zX h
open Go.Lib
def AQ (c:UInt8):Prop:=48≤c.toNat∧c.toNat≤57
instance (c:UInt8):Decidable (AQ c):=inferInstanceAs (Decidable (_∧_))
def ov (l:List UInt8):Nat:=l.foldl (fun n c=>n*10+(c.toNat-48)) 0
def canon (l:List UInt8):Prop:=l ≠ []∧(∀c∈l,AQ c)∧(l.length=1∨l.head?≠some 48)
def Rg (l:List UInt8)(c:UInt8):ov (l ++ [c])=ov l*10+(c.toNat-48):=by simp[ov]
def NK {k:Nat}(h:k<10):(UInt8.ofNat (48+k)).toNat=48+k:=by
 rw[UInt8.toNat_ofNat'];omega
def RU (n:Nat):∀c∈decDigits n,AQ c:=by
 induction n using Nat.strongRecOn with
 |ind n ih=>
  rw[decDigits]
  split
  ·rename_i h
   intro c hc
   simp only[eH] at hc
   subst hc
   unfold AQ
   rw[NK h]
   omega
  ·rename_i h
   intro c hc
   rcases bB.1 hc with hc|hc
   ·exact ih (n / 10) (by omega) c hc
   ·simp only[eH] at hc
    subst hc
    unfold AQ
    rw[NK (by omega)]
    omega
def Yn (n:Nat):decDigits n ≠ []:=by
 rw[decDigits]
 split<;>simp
def HT (n:Nat):ov (decDigits n)=n:=by
 induction n using Nat.strongRecOn with
 |ind n ih=>
  rw[decDigits]
  split
  ·rename_i h
   simp only[ov,List.foldl_cons,List.foldl_nil]
   rw[NK h]
   omega
  ·rename_i h
   rw[Rg,ih (n / 10) (by omega),NK (by omega)]
   omega
def Ym {n m:Nat}(h:decDigits n=decDigits m):n=m:=by rw[←HT n,h,HT m]
def Y8 {l r:List UInt8}(h:l ≠ []):(l++r).head? = l.head? :=by
 cases l with
 |nil=>exact absurd rfl h
 |cons a l=>rfl
def ad0 (n:Nat)(h:0<n):(decDigits n).head?≠some 48:=by
 induction n using Nat.strongRecOn with
 |ind n ih=>
  rw[decDigits]
  split
  ·rename_i h1
   simp only[List.head?_cons,ne_eq,au]
   intro e
   have:=congrArg UInt8.toNat e
   rw[NK h1] at this
   simp at this
   omega
  ·rename_i h1
   have hne:=Yn (n / 10)
   rw[Y8 hne]
   exact ih (n / 10) (by omega) (by omega)
def Yl (n:Nat):canon (decDigits n):=by
 refine⟨Yn n,RU n,?_⟩
 by_cases h:n=0
 ·left;subst h;rw[decDigits,dif_pos (by omega)];rfl
 ·right;exact ad0 n (by omega)
def adR:∀(l:List UInt8),canon l→decDigits (ov l)=l:=by
 intro l
 generalize hn:l.length=n
 induction n using Nat.strongRecOn generalizing l with
 |ind n ih=>
  intro h
  obtain⟨h1,h2,h3⟩:=h
  rcases List.eq_nil_or_concat l with e|⟨p,c,e⟩
  ·exact absurd e h1
  ·subst e
   simp only[List.concat_eq_append] at *
   rw[Rg]
   have hc:AQ c:=h2 c (by simp)
   have hcc:UInt8.ofNat (48+(c.toNat-48))=c:=by
    unfold AQ at hc
    rw[show 48+(c.toNat-48)=c.toNat by omega]
    simp
   by_cases hp:p = []
   ·subst hp
    simp only[ov,List.foldl_nil,zl17]
    rw[decDigits,dif_pos (by unfold AQ at hc;omega),show 48+(0*10+(c.toNat-48))=48+(c.toNat-48) by omega,hcc]
   ·have hpos:p.head?≠some 48:=by
     rcases h3 with h3|h3
     ·exfalso
      simp only[cK,kF,nQ] at h3
      exact hp (dM.1 (by omega))
     ·rwa[Y8 hp] at h3
    have hcan:canon p:=⟨hp,fun x hx=>h2 x (by simp[hx]),.inr hpos⟩
    have ihp:=ih p.length (by simp at hn;omega) p rfl hcan
    have hv:0<ov p:=by
     rcases zl83 (ov p) with e|e
     ·rw[e] at ihp
      rw[decDigits,dif_pos (by omega)] at ihp
      rw[←ihp] at hpos
      exact absurd (by decide) hpos
     ·exact e
    rw[decDigits,dif_neg (by omega)]
    have d1:(ov p*10+(c.toNat-48)) / 10=ov p:=by unfold AQ at hc;omega
    have d2:(ov p*10+(c.toNat-48)) % 10=c.toNat-48:=by unfold AQ at hc;omega
    rw[d1,d2,hcc,ihp]
def RW {n:Nat}{k:Nat}(h:n<10 ^ k)(hk:1≤k):(decDigits n).length≤k:=by
 rw[decDigits_length]
 by_cases h0:nDigits n≤1
 ·omega
 ·rcases Nat.lt_or_ge k (nDigits n) with hlt|hge
  ·exfalso
   have main:∀(k n:Nat),1≤k→k<nDigits n→10 ^ k≤n:=by
    intro k
    induction k with
    |zero=>intro n h _;omega
    |succ k ih=>
     intro n _ hlt
     by_cases hn:n<10
     ·rw[nDigits_small hn] at hlt;omega
     ·rw[nDigits_big hn] at hlt
      by_cases hk0:k=0
      ·subst hk0;simp;omega
      ·have:=ih (n / 10) (by omega) (by omega)
       rw[Nat.pow_succ]
       omega
   have:=main k n hk hlt
   omega
  ·exact hge
def adA:∀(l:List UInt8),(∀c∈l,AQ c)→ov l<10 ^ l.length:=by
 intro l
 generalize hn:l.length=n
 induction n generalizing l with
 |zero=>intro _;rw[dM.1 hn];simp[ov]
 |succ n ih=>
  intro h
  rcases List.eq_nil_or_concat l with e|⟨p,c,e⟩
  ·subst e;simp at hn
  ·subst e
   simp only[List.concat_eq_append] at *
   rw[Rg]
   have hc:AQ c:=h c (by simp)
   have:=ih p (by simpa using hn) fun x hx=>h x (by simp[hx])
   rw[Nat.pow_succ]
   unfold AQ at hc
   omega
def isNum (l:List UInt8):Prop:=canon l∧l.length≤6
instance (l:List UInt8):Decidable (canon l):=inferInstanceAs (Decidable (_∧_∧_))
instance (l:List UInt8):Decidable (isNum l):=inferInstanceAs (Decidable (_∧_))
def NU {n:Nat}(h:n≤999999):isNum (decDigits n):=⟨Yl n,RW (by omega) (by omega)⟩
def Zz {l:List UInt8}(h:isNum l):ov l≤999999:=by
 have h1:=adA l h.1.2.1
 have h2:(10:Nat) ^ l.length≤10 ^ 6:=Nat.pow_le_pow_right (by omega) h.2
 omega
def aaN:∀(l:List UInt8) (acc:Nat),(∀c∈l,AQ c)→acc*10 ^ l.length+10 ^ l.length<1000000000000000000→parseUint10 acc l = .ok (l.foldl (fun n c=>n*10+(c.toNat-48)) acc)
 | [],acc,_,_=>rfl
 |c::r,acc,h,hb=>by
  have hc:AQ c:=h c (by simp)
  have hp:1≤10 ^ r.length:=Nat.one_le_pow _ _ (by decide)
  simp only[kF,Nat.pow_succ] at hb
  have e1:acc*(10 ^ r.length*10)=(acc*10)*10 ^ r.length:=by rw[Nat.mul_comm (10 ^ r.length) 10,←Nat.mul_assoc]
  have e2:acc*10≤(acc*10)*10 ^ r.length:=Nat.le_mul_of_pos_right _ hp
  have hd:c.toNat-48≤9:=by unfold AQ at hc;omega
  have e3:(acc*10+(c.toNat-48))*10 ^ r.length≤(acc*10)*10 ^ r.length+9*10 ^ r.length:=by
   rw[bP]
   exact Nat.add_le_add_left (gD _ hd) _
  unfold AQ at hc
  rw[parseUint10,bf hc,bY (by omega),bY (by omega),List.foldl_cons]
  exact aaN r _ (fun x hx=>h x (by simp[hx])) (by omega)
def X4 {l:List UInt8}(h:isNum l):atoiAll l = .ok (ov l:Int):=by
 obtain⟨⟨h1,h2,_⟩,h4⟩:=h
 have h5:=Zz ⟨⟨h1,h2,by assumption⟩,h4⟩
 cases l with
 |nil=>exact absurd rfl h1
 |cons c r=>
  have hc:AQ c:=h2 c (by simp)
  unfold AQ at hc
  have hp:parseUint10 0 (c::r) = .ok (ov (c::r)):=by
   refine aaN (c::r) 0 h2 ?_
   have:(10:Nat) ^ (c::r).length≤10 ^ 6:=Nat.pow_le_pow_right (by omega) h4
   omega
  unfold atoiAll
  have n1:¬(c.toNat=43∨c.toNat=45):=by omega
  have n2:¬c.toNat=45:=by omega
  simp only[n1,bI,parseMag,hp,reduceCtorEq]
  have n3:¬(9223372036854775808≤ov (c::r)):=by omega
  simp[n2,n3]
end Pl
open Go Go.Ab Go.Lib
namespace Pl
def Zq (c:UInt8):∀(p q:List UInt8),(∀x∈p,x≠c)→index (p++c::q) [c]=p.length
 | [],q,_=>by simp[index]
 |a::p,q,h=>by
  have ha:a≠c:=h a (by simp)
  have ih:=Zq c p q fun x hx=>h x (by simp[hx])
  rw[zl20]
  unfold index
  rw[ih]
  have h0:([c]:List UInt8).isPrefixOf (a::(p++c::q))=false:=by
   simp only[List.isPrefixOf,Bool.and_true]
   exact zl89.2 (Ne.symm ha)
  have h1:((p.length:Int) == -1)=false:=zl89.2 (by omega)
  rw[h0,h1]
  simp
def Zr (c:UInt8):∀(p:List UInt8),(∀x∈p,x≠c)→index p [c] = -1
 | [],_=>by simp[index]
 |a::p,h=>by
  have ha:a≠c:=h a (by simp)
  have ih:=Zr c p fun x hx=>h x (by simp[hx])
  unfold index
  rw[ih]
  have h0:([c]:List UInt8).isPrefixOf (a::p)=false:=by
   simp only[List.isPrefixOf,Bool.and_true]
   exact zl89.2 (Ne.symm ha)
  rw[h0]
  rfl
def HS (c:UInt8)(p q:List UInt8)(h:∀x∈p,x≠c):cut (p++c::q) [c]=(p,q,true):=by
 have hi:=Zq c p q h
 unfold cut
 rw[hi,bf (by omega)]
 simp
def PC (c:UInt8)(p:List UInt8)(h:∀x∈p,x≠c):cut p [c]=(p,[],false):=by
 have hi:=Zr c p h
 unfold cut
 rw[hi,bY (by omega)]
def Lu (c:UInt8)(l:List UInt8):(∀x∈l,x≠c)∨∃p q,l=p++c::q∧∀x∈p,x≠c:=by
 induction l with
 |nil=>exact .inl (by simp)
 |cons a l ih=>
  by_cases h:a=c
  ·subst h;exact .inr ⟨[],l,rfl,by simp⟩
  ·rcases ih with ih|⟨p,q,e,hp⟩
   ·left
    intro x hx
    rcases aX.1 hx with rfl|hx
    ·exact h
    ·exact ih x hx
   ·right
    refine⟨a::p,q,by rw[e];rfl,fun x hx=>?_⟩
    rcases aX.1 hx with rfl|hx
    ·exact h
    ·exact hp x hx
def NL {c:UInt8}:∀{p p' q q':List UInt8},(∀x∈p,x≠c)→(∀x∈p',x≠c)→p++c::q=p'++c::q'→p=p'∧q=q'
 | [],[],q,q',_,_,h=>by simpa using h
 | [],b::p',q,q',_,h2,h=>by
  simp only[zl17,zl20,eG] at h
  exact absurd h.1.symm (h2 b (by simp))
 |a::p,[],q,q',h1,_,h=>by
  simp only[zl17,zl20,eG] at h
  exact absurd h.1 (h1 a (by simp))
 |a::p,b::p',q,q',h1,h2,h=>by
  simp only[zl20,eG] at h
  obtain⟨e1,e2⟩:=NL (fun x hx=>h1 x (by simp[hx])) (fun x hx=>h2 x (by simp[hx])) h.2
  exact⟨by rw[h.1,e1],e2⟩
def EG (n:Nat):∀x∈decDigits n,x≠32:=by
 intro x hx e
 have:=RU n x hx
 subst e
 revert this
 decide
section
variable (H:List UInt8→List UInt8)
def Ah (n:Nat)(r:List UInt8):List UInt8:=decDigits n ++ [32]++decDigits r.length ++ [32]
def line (n:Nat)(r:List UInt8):List UInt8:=Ah n r++(H (Ah n r++r)).take 16 ++ [32]++r ++ [10]
def Nu (t:List UInt8)(n:Nat)(r:List UInt8):Prop:=1≤r.length∧r.length≤500∧line H n r <+:t
def Su (n:Nat)(r:List UInt8):line H n r=decDigits n++32::(decDigits r.length++32::((H (Ah n r++r)).take 16++32::(r ++ [10]))):=by
 simp[line,Ah]
def P9 (hH:∀x,(H x).length=64)(n:Nat)(r:List UInt8):(line H n r).length=(decDigits n).length+1+(decDigits r.length).length+18+r.length+1:=by
 rw[Su]
 simp[hH]
 omega
def agv (hH:∀x,(H x).length=64){n:Nat}{t r r':List UInt8}(h:line H n r <+:t)(h':line H n r' <+:t):r=r':=by
 obtain⟨s,hs⟩:=h
 obtain⟨s',hs'⟩:=h'
 rw[Su] at hs hs'
 have e:=hs.trans hs'.symm
 simp only[bX,zl20] at e
 obtain⟨_,e1⟩:=NL (EG n) (EG n) e
 obtain⟨e2,e3⟩:=NL (EG _) (EG _) e1
 have hl:=Ym e2
 have e4:=List.append_inj_right e3 (by simp[hH])
 simp only[eG,true_and] at e4
 exact List.append_inj_left e4 hl
open Classical in
noncomputable def CH (t:List UInt8) (n:Nat):Option (List UInt8):=if h:∃r,Nu H t n r then some (Classical.choose h) else none
def aaE (hH:∀x,(H x).length=64){t r:List UInt8}{n:Nat}(h:Nu H t n r):CH H t n=some r:=by
 have hex:∃r,Nu H t n r:=⟨r,h⟩
 unfold CH
 rw[dif_pos hex]
 exact congrArg some (agv H hH (zl85 hex).2.2 h.2.2)
def GV {t r:List UInt8}{n:Nat}(h:CH H t n=some r):Nu H t n r:=by
 unfold CH at h
 split at h
 ·rename_i hex
  cases h
  exact zl85 hex
 ·cases h
noncomputable def AR:Nat→List UInt8→Nat→List (List UInt8)×Nat
 |0,_,_=>([],0)
 |f+1,t,n=>match CH H t n with
  |none=>([],0)
  |some r=>(r::(AR f (t.drop (line H n r).length) (n+1)).1,(line H n r).length+(AR f (t.drop (line H n r).length) (n+1)).2)
def N3 (hH:∀x,(H x).length=64)(n:Nat)(r:List UInt8):20≤(line H n r).length:=by
 rw[P9 H hH];omega
def ZM (hH:∀x,(H x).length=64):∀(f g:Nat) (t:List UInt8) (n:Nat),t.length<f→t.length<g→AR H f t n=AR H g t n
 |0,_,_,_,h,_=>by omega
 |_+1,0,_,_,_,h=>by omega
 |f+1,g+1,t,n,h1,h2=>by
  unfold AR
  cases hn:CH H t n with
  |none=>rfl
  |some r=>
   have hp:=N3 H hH n r
   have hle:(line H n r).length≤t.length:=(GV H hn).2.2.length_le
   have hd:(t.drop (line H n r).length).length=t.length-(line H n r).length:=by simp
   have:=ZM hH f g (t.drop (line H n r).length) (n+1) (by omega) (by omega)
   simp only[this]
noncomputable def Fu (t:List UInt8):List (List UInt8)×Nat:=AR H (t.length+1) t 0
def agw (hH:∀x,(H x).length=64){t r:List UInt8}{n:Nat}(h:CH H t n=some r):AR H (t.length+1) t n =
  (r::(AR H ((t.drop (line H n r).length).length+1) (t.drop (line H n r).length) (n+1)).1,(line H n r).length+(AR H ((t.drop (line H n r).length).length+1) (t.drop (line H n r).length) (n+1)).2):=by
 have hp:=N3 H hH n r
 have hle:(line H n r).length≤t.length:=(GV H h).2.2.length_le
 rw[AR,h]
 simp only
 rw[ZM H hH t.length ((t.drop (line H n r).length).length+1) (t.drop (line H n r).length) (n+1) (by simp;omega) (by omega)]
def agx {t:List UInt8}{n:Nat}(h:CH H t n=none):AR H (t.length+1) t n=([],0):=by
 rw[AR,h]
def ZN (hH:∀x,(H x).length=64):∀(f:Nat) (t:List UInt8) (n:Nat),(AR H f t n).2≤t.length∧20*(AR H f t n).1.length≤(AR H f t n).2∧∀r∈(AR H f t n).1,1≤r.length∧r.length≤500
 |0,t,n=>by simp[AR]
 |f+1,t,n=>by
  unfold AR
  cases hn:CH H t n with
  |none=>simp
  |some r=>
   have hp:=N3 H hH n r
   have hle:(line H n r).length≤t.length:=(GV H hn).2.2.length_le
   obtain⟨h1,h2,h3⟩:=ZN hH f (t.drop (line H n r).length) (n+1)
   have hd:(t.drop (line H n r).length).length=t.length-(line H n r).length:=by simp
   simp only[kF]
   refine⟨by omega,by omega,fun x hx=>?_⟩
   rcases aX.1 hx with rfl|hx
   ·exact⟨(GV H hn).1,(GV H hn).2.1⟩
   ·exact h3 x hx
end
end Pl
open Go Go.Ab
def e_ {α β γ:Type}[Inhabited β](f:α→Option β)(x:α)(k:β→Option γ):Option γ:=bif jZ [isSm (f x)] then k (zog f x) else none
def zU:(jZ []=true)∧(∀a,jZ [a]=a)∧(∀a b l,jZ (a::b::l)=(a&&jZ (b::l)))∧(∀{α β γ:Type} [Inhabited β] (f:α→Option β) (x:α) (k:β→Option γ),e_ f x k=bif jZ [isSm (f x)] then k (zog f x) else none):=⟨rfl,fun _=>rfl,fun _ _ _=>rfl,fun _ _ _=>rfl⟩
def w9:(jZ []=true)∧(∀a,jZ [a]=a)∧(∀a b l,jZ (a::b::l)=(a&&jZ (b::l)))∧(∀{α β γ:Type} [Inhabited β] (f:α→Option β) (x:α) (k:β→Option γ),e_ f x k=bif jZ [isSm (f x)] then k (zog f x) else none)∧(∀b:Bool,(b&&b)=b)∧(∀{α:Type} (a b:α),cond true a b=a)∧(∀{α:Type} (x:α),isSm (some x)=true):=⟨rfl,fun _=>rfl,fun _ _ _=>rfl,fun _ _ _=>rfl,by decide,fun _ _=>rfl,fun _=>rfl⟩
noncomputable section
def Wh.Fj:List Int:=[0x428a2f98,0x71374491,0xb5c0fbcf,0xe9b5dba5,0x3956c25b,0x59f111f1,0x923f82a4,0xab1c5ed5,
 0xd807aa98,0x12835b01,0x243185be,0x550c7dc3,0x72be5d74,0x80deb1fe,0x9bdc06a7,0xc19bf174,
 0xe49b69c1,0xefbe4786,0x0fc19dc6,0x240ca1cc,0x2de92c6f,0x4a7484aa,0x5cb0a9dc,0x76f988da,
 0x983e5152,0xa831c66d,0xb00327c8,0xbf597fc7,0xc6e00bf3,0xd5a79147,0x06ca6351,0x14292967,
 0x27b70a85,0x2e1b2138,0x4d2c6dfc,0x53380d13,0x650a7354,0x766a0abb,0x81c2c92e,0x92722c85,
 0xa2bfe8a1,0xa81a664b,0xc24b8b70,0xc76c51a3,0xd192e819,0xd6990624,0xf40e3585,0x106aa070,
 0x19a4c116,0x1e376c08,0x2748774c,0x34b0bcb5,0x391c0cb3,0x4ed8aa4a,0x5b9cca4f,0x682e6ff3,
 0x748f82ee,0x78a5636f,0x84c87814,0x8cc70208,0x90befffa,0xa4506ceb,0xbef9a3f7,0xc67178f2]
def Wh.strconv_Itoa (n:Int):Option (List UInt8×Unit):=bif decide (-9223372036854775808≤n)&&decide (n≤9223372036854775807) then some (Go.Lib.itoa n,()) else none
def Wh.strings_Cut (x:List UInt8×List UInt8):Option ((List UInt8×List UInt8×Bool)×Unit):=bif decide (x.1.length<4294967281) then some (Go.Lib.cut x.1 x.2,()) else none
def Wh.bits_Len (n:Int):Option (Int×Unit):=bif decide (0≤n)&&decide (n≤18446744073709551615) then some ((Go.Lib.bitLen n.toNat:Int),()) else none
def Wh.D9 (s:List UInt8):Option ((Int×Bool)×Unit):=bif decide (s.length≤281474976710656) then some (if Pl.isNum s then((Pl.ov s:Int),true) else(0,false),()) else none
def Wh.slices_Sort_int (x:List Int):Option (Unit×List Int×Unit):=bif decide (x.length<4611686018427387904) then some ((),x.mergeSort (fun a b=>decide (a≤b)),()) else none
end
