import Derived.Test.YtfeoanopdlpabaaGreatDoorX5
import Derived.Lib.ItoaNum
import Derived.Lib.AtoiAll
import Derived.Lib.IndexMore
import Derived.Lib.Join
open Go Go.Ab
namespace Pl
theorem wrap64 {n:Int}(h1: -9223372036854775808≤n)(h2:n≤9223372036854775807):IntKind.wrap .i64 n=n:=by
 simp[IntKind.wrap,IntKind.signed,IntKind.bits]
 omega
theorem x7 {X Y:Type}{r:X→Option (X⊕Y)}(st:Nat→X){n:Nat}{y:Y}(hs:∀i,i<n→r (st i)=some (.inl (st (i+1))))(he:r (st n)=some (.inr y)):∀k,k≤n→Comes r (st k) y:=by
 intro k hk
 have:∀d k,k+d=n→Comes r (st k) y:=by
  intro d
  induction d with
  |zero=>intro k hk;have:k=n:=by omega
         subst this;exact .out he
  |succ d ih=>intro k hk;exact .again (hs k (by omega)) (ih (k+1) (by omega))
 exact this (n-k) k (by omega)
theorem cb {X Y:Type}{r:X→Option (X⊕Y)}{x:X}{y:Y}(h:Comes r x y):lF r x=true:=(h.is (y0:=y)).1
theorem cv {X Y:Type}{r:X→Option (X⊕Y)}{x:X}{y:Y}(h:Comes r x y)(y0:Y):kG r y0 x=y:=h.is.2
theorem n_ {α:Type}(x:α):nQ (some x)=true:=rfl
theorem Ui {α:Type}(b:Bool){x y:Option (α×Unit)}(h1:∃v,x=some (v,()))(h2:∃v,y=some (v,())):∃v,(bif b then x else y)=some (v,()):=by cases b;exact h2;exact h1
theorem getD_eq {α:Type}(l:List α)(i:Nat)(z:α)(h:i<l.length):l.getD i z=l[i]:=by simp[h]
def jS:Nat→(Nat→Bool)→Bool
 |0,_=>true
 |n+1,p=>jS n p&&p n
theorem oL {p:Nat→Bool}:∀{n:Nat},jS n p=true↔∀i,i<n→p i=true
 |0=>by simp[jS]
 |n+1=>by
  rw[jS,Bool.and_eq_true,oL]
  constructor
  ·rintro⟨h1,h2⟩ i hi
   by_cases e:i=n
   ·subst e;exact h2
   ·exact h1 i (by omega)
  ·intro h
   exact⟨fun i hi=>h i (by omega),h n (by omega)⟩
theorem Ac {X Y:Type}{r:X→Option (X⊕Y)}(st:Nat→X){n:Nat}{p:Nat→Bool}{yf yt:Y}(hs:∀i,i<n→(∀j,j<i→p j=true)→p i=true→r (st i)=some (.inl (st (i+1))))
  (hf:∀i,i<n→(∀j,j<i→p j=true)→p i=false→r (st i)=some (.inr yf)) (he:r (st n)=some (.inr yt)):Comes r (st 0) (if jS n p=true then yt else yf):=by
 have main:∀d k,k+d=n→(∀j,j<k→p j=true)→Comes r (st k) (if jS n p=true then yt else yf):=by
  intro d
  induction d with
  |zero=>
   intro k hk hp
   have:k=n:=by omega
   subst this
   rw[if_pos (oL.2 hp)]
   exact .out he
  |succ d ih=>
   intro k hk hp
   cases hpk:p k with
   |true=>
    refine .again (hs k (by omega) hp hpk) (ih (k+1) (by omega) fun j hj=>?_)
    by_cases e:j=k
    ·subst e;exact hpk
    ·exact hp j (by omega)
   |false=>
    have:¬jS n p=true:=by
     intro h
     have:=oL.1 h k (by omega)
     rw[hpk] at this;cases this
    rw[if_neg this]
    exact .out (hf k (by omega) hp hpk)
 exact main n 0 (by omega) (fun j hj=>by omega)
theorem ZK {X Y:Type}{r:X→Option (X⊕Y)}(st:Nat→X){n:Nat}{p:Nat→Bool}{yt:Nat→Y}{yn:Y}(hs:∀i,i<n→p i=false→r (st i)=some (.inl (st (i+1))))
  (hf:∀i,i<n→p i=true→r (st i)=some (.inr (yt i))) (he:r (st n)=some (.inr yn)) :
  (∃i,i<n∧p i=true∧(∀j,j<i→p j=false)∧Comes r (st 0) (yt i))∨((∀j,j<n→p j=false)∧Comes r (st 0) yn):=by
 have main:∀d k,k+d=n→(∀j,j<k→p j=false)→(∃i,i<n∧p i=true∧(∀j,j<i→p j=false)∧Comes r (st k) (yt i))∨((∀j,j<n→p j=false)∧Comes r (st k) yn):=by
  intro d
  induction d with
  |zero=>
   intro k hk hp
   have:k=n:=by omega
   subst this
   exact .inr ⟨hp,.out he⟩
  |succ d ih=>
   intro k hk hp
   cases hpk:p k with
   |true=>exact .inl ⟨k,by omega,hpk,hp,.out (hf k (by omega) hpk)⟩
   |false=>
    rcases ih (k+1) (by omega) (fun j hj=>by
     by_cases e:j=k
     ·subst e;exact hpk
     ·exact hp j (by omega)) with⟨i,h1,h2,h3,h4⟩|⟨h1,h2⟩
    ·exact .inl ⟨i,h1,h2,h3,.again (hs k (by omega) hpk) h4⟩
    ·exact .inr ⟨h1,.again (hs k (by omega) hpk) h2⟩
 exact main n 0 (by omega) (fun j hj=>by omega)
theorem mw {i:Nat}(h:i≤4611686018427387904):IntKind.wrap .i64 ((i:Int)+1)=((i+1:Nat):Int):=by rw[wrap64]<;>omega
theorem HF {i:Nat}(h:i≤4611686018427387904):IntKind.wrap .i64 ((i:Int)-1)=(i:Int)-1:=by rw[wrap64]<;>omega
theorem RW:IntKind.wrap .i64 1=1:=by decide
theorem xg {α:Type}(f:α→Nat):∀(l:List α) (x:α),x∈l→f x≤(l.map f).sum
 |a::l,x,h=>by
  rw[List.map_cons,List.sum_cons]
  rcases List.mem_cons.1 h with rfl|h
  ·omega
  ·have:=xg f l x h;omega
theorem vH {α:Type}(f:α→Nat)(h:∀x,1≤f x):∀l:List α,l.length≤(l.map f).sum
 | []=>by simp
 |a::l=>by
  rw[List.map_cons,List.sum_cons,List.length_cons]
  have:=vH f h l;have:=h a;omega
def iB {α:Type}(a:List α)(z:α)(i:Nat):List α:=a.take i++List.replicate (a.length-i) z
theorem Lh {α:Type}(a:List α)(z:α)(i:Nat)(h:i≤a.length):(iB a z i).length=a.length:=by
 rw[iB,List.length_append,List.length_take,List.length_replicate];omega
theorem Lj {α:Type}(a:List α)(z:α):iB a z 0=List.replicate a.length z:=by simp[iB]
theorem Lg {α:Type}(a:List α)(z:α):iB a z a.length=a:=by simp[iB]
theorem Li {α:Type}(a:List α)(z z':α)(i:Nat)(h:i<a.length):(iB a z i).set i (a.getD i z')=iB a z (i+1):=by
 have e1:a.length-i=(a.length-(i+1))+1:=by omega
 have e2:(a.take i).length=i:=by rw[List.length_take];omega
 rw[iB,iB,e1,List.replicate_succ,List.set_append_right _ _ (by omega),e2,Nat.sub_self,List.set_cons_zero,List.take_succ_eq_append_getElem h,List.append_assoc,getD_eq _ _ _ h]
 rfl
theorem KA {α:Type}(l:List α)(i:Nat)(x y:α):(l.set i x).set i y=l.set i y:=by simp
theorem Jw {α:Type}(l:List α)(i:Nat)(x z:α)(h:i<l.length):(l.set i x).getD i z=x:=by simp[h]
end Pl
namespace Pl
open Go.Lib
def eg (c:UInt8):Prop:=48≤c.toNat∧c.toNat≤57
instance (c:UInt8):Decidable (eg c):=inferInstanceAs (Decidable (_∧_))
def er (l:List UInt8):Nat:=l.foldl (fun n c=>n*10+(c.toNat-48)) 0
def canon (l:List UInt8):Prop:=l ≠ []∧(∀c∈l,eg c)∧(l.length=1∨l.head?≠some 48)
theorem qA (l:List UInt8)(c:UInt8):er (l ++ [c])=er l*10+(c.toNat-48):=by simp[er]
theorem lG {k:Nat}(h:k<10):(UInt8.ofNat (48+k)).toNat=48+k:=by
 rw[UInt8.toNat_ofNat'];omega
theorem rm (n:Nat):∀c∈decDigits n,eg c:=by
 induction n using Nat.strongRecOn with
 |ind n ih=>
  rw[decDigits]
  split
  ·rename_i h
   intro c hc
   simp only[List.mem_singleton] at hc
   subst hc
   unfold eg
   rw[lG h]
   omega
  ·rename_i h
   intro c hc
   rcases List.mem_append.1 hc with hc|hc
   ·exact ih (n / 10) (by omega) c hc
   ·simp only[List.mem_singleton] at hc
    subst hc
    unfold eg
    rw[lG (by omega)]
    omega
theorem rq (n:Nat):decDigits n ≠ []:=by
 rw[decDigits]
 split<;>simp
theorem ru (n:Nat):er (decDigits n)=n:=by
 induction n using Nat.strongRecOn with
 |ind n ih=>
  rw[decDigits]
  split
  ·rename_i h
   simp only[er,List.foldl_cons,List.foldl_nil]
   rw[lG h]
   omega
  ·rename_i h
   rw[qA,ih (n / 10) (by omega),lG (by omega)]
   omega
theorem uD {n m:Nat}(h:decDigits n=decDigits m):n=m:=by rw[←ru n,h,ru m]
theorem rN {l r:List UInt8}(h:l ≠ []):(l++r).head? = l.head? :=by
 cases l with
 |nil=>exact absurd rfl h
 |cons a l=>rfl
theorem uC (n:Nat)(h:0<n):(decDigits n).head?≠some 48:=by
 induction n using Nat.strongRecOn with
 |ind n ih=>
  rw[decDigits]
  split
  ·rename_i h1
   simp only[List.head?_cons,ne_eq,Option.some.injEq]
   intro e
   have:=congrArg UInt8.toNat e
   rw[lG h1] at this
   simp at this
   omega
  ·rename_i h1
   have hne:=rq (n / 10)
   rw[rN hne]
   exact ih (n / 10) (by omega) (by omega)
theorem uB (n:Nat):canon (decDigits n):=by
 refine⟨rq n,rm n,?_⟩
 by_cases h:n=0
 ·left;subst h;rw[decDigits,dif_pos (by omega)];rfl
 ·right;exact uC n (by omega)
theorem ZH:∀(l:List UInt8),canon l→decDigits (er l)=l:=by
 intro l
 generalize hn:l.length=n
 induction n using Nat.strongRecOn generalizing l with
 |ind n ih=>
  intro h
  obtain⟨h1,h2,h3⟩:=h
  rcases List.eq_nil_or_concat l with e|⟨p,c,e⟩
  ·exact absurd e h1
  ·subst e
   simp only[List.concat_eq_append] at *
   rw[qA]
   have hc:eg c:=h2 c (by simp)
   have hcc:UInt8.ofNat (48+(c.toNat-48))=c:=by
    unfold eg at hc
    rw[show 48+(c.toNat-48)=c.toNat by omega]
    simp
   by_cases hp:p = []
   ·subst hp
    simp only[er,List.foldl_nil,List.nil_append]
    rw[decDigits,dif_pos (by unfold eg at hc;omega),show 48+(0*10+(c.toNat-48))=48+(c.toNat-48) by omega,hcc]
   ·have hpos:p.head?≠some 48:=by
     rcases h3 with h3|h3
     ·exfalso
      simp only[List.length_append,List.length_cons,List.length_nil] at h3
      exact hp (List.length_eq_zero_iff.1 (by omega))
     ·rwa[rN hp] at h3
    have hcan:canon p:=⟨hp,fun x hx=>h2 x (by simp[hx]),.inr hpos⟩
    have ihp:=ih p.length (by simp at hn;omega) p rfl hcan
    have hv:0<er p:=by
     rcases Nat.eq_zero_or_pos (er p) with e|e
     ·rw[e] at ihp
      rw[decDigits,dif_pos (by omega)] at ihp
      rw[←ihp] at hpos
      exact absurd (by decide) hpos
     ·exact e
    rw[decDigits,dif_neg (by omega)]
    have d1:(er p*10+(c.toNat-48)) / 10=er p:=by unfold eg at hc;omega
    have d2:(er p*10+(c.toNat-48)) % 10=c.toNat-48:=by unfold eg at hc;omega
    rw[d1,d2,hcc,ihp]
theorem uE {n:Nat}{k:Nat}(h:n<10 ^ k)(hk:1≤k):(decDigits n).length≤k:=by
 rw[decDigits_length]
 by_cases h0:nDigits n≤1
 ·omega
 ·rcases Nat.lt_or_ge k (nDigits n) with hlt|hge
  ·exfalso
   have main:∀(k n:Nat),1≤k→k<nDigits n→10 ^ k≤n:=by
    intro k
    induction k with
    |zero=>intro n h _;omega
    |succ k ih=>
     intro n _ hlt
     by_cases hn:n<10
     ·rw[nDigits_small hn] at hlt;omega
     ·rw[nDigits_big hn] at hlt
      by_cases hk0:k=0
      ·subst hk0;simp;omega
      ·have:=ih (n / 10) (by omega) (by omega)
       rw[Nat.pow_succ]
       omega
   have:=main k n hk hlt
   omega
  ·exact hge
theorem Zl:∀(l:List UInt8),(∀c∈l,eg c)→er l<10 ^ l.length:=by
 intro l
 generalize hn:l.length=n
 induction n generalizing l with
 |zero=>intro _;rw[List.length_eq_zero_iff.1 hn];simp[er]
 |succ n ih=>
  intro h
  rcases List.eq_nil_or_concat l with e|⟨p,c,e⟩
  ·subst e;simp at hn
  ·subst e
   simp only[List.concat_eq_append] at *
   rw[qA]
   have hc:eg c:=h c (by simp)
   have:=ih p (by simpa using hn) fun x hx=>h x (by simp[hx])
   rw[Nat.pow_succ]
   unfold eg at hc
   omega
def isNum (l:List UInt8):Prop:=canon l∧l.length≤6
instance (l:List UInt8):Decidable (canon l):=inferInstanceAs (Decidable (_∧_∧_))
instance (l:List UInt8):Decidable (isNum l):=inferInstanceAs (Decidable (_∧_))
theorem JB {n:Nat}(h:n≤999999):isNum (decDigits n):=⟨uB n,uE (by omega) (by omega)⟩
theorem vF {l:List UInt8}(h:isNum l):er l≤999999:=by
 have h1:=Zl l h.1.2.1
 have h2:(10:Nat) ^ l.length≤10 ^ 6:=Nat.pow_le_pow_right (by omega) h.2
 omega
theorem tg:∀(l:List UInt8) (acc:Nat),(∀c∈l,eg c)→acc*10 ^ l.length+10 ^ l.length<1000000000000000000→parseUint10 acc l = .ok (l.foldl (fun n c=>n*10+(c.toNat-48)) acc)
 | [],acc,_,_=>rfl
 |c::r,acc,h,hb=>by
  have hc:eg c:=h c (by simp)
  have hp:1≤10 ^ r.length:=Nat.one_le_pow _ _ (by decide)
  simp only[List.length_cons,Nat.pow_succ] at hb
  have e1:acc*(10 ^ r.length*10)=(acc*10)*10 ^ r.length:=by rw[Nat.mul_comm (10 ^ r.length) 10,←Nat.mul_assoc]
  have e2:acc*10≤(acc*10)*10 ^ r.length:=Nat.le_mul_of_pos_right _ hp
  have hd:c.toNat-48≤9:=by unfold eg at hc;omega
  have e3:(acc*10+(c.toNat-48))*10 ^ r.length≤(acc*10)*10 ^ r.length+9*10 ^ r.length:=by
   rw[Nat.add_mul]
   exact Nat.add_le_add_left (Nat.mul_le_mul_right _ hd) _
  unfold eg at hc
  rw[parseUint10,if_pos hc,if_neg (by omega),if_neg (by omega),List.foldl_cons]
  exact tg r _ (fun x hx=>h x (by simp[hx])) (by omega)
theorem Ue {l:List UInt8}(h:isNum l):atoiAll l = .ok (er l:Int):=by
 obtain⟨⟨h1,h2,_⟩,h4⟩:=h
 have h5:=vF ⟨⟨h1,h2,by assumption⟩,h4⟩
 cases l with
 |nil=>exact absurd rfl h1
 |cons c r=>
  have hc:eg c:=h2 c (by simp)
  unfold eg at hc
  have hp:parseUint10 0 (c::r) = .ok (er (c::r)):=by
   refine tg (c::r) 0 h2 ?_
   have:(10:Nat) ^ (c::r).length≤10 ^ 6:=Nat.pow_le_pow_right (by omega) h4
   omega
  unfold atoiAll
  have n1:¬(c.toNat=43∨c.toNat=45):=by omega
  have n2:¬c.toNat=45:=by omega
  simp only[n1,if_false,parseMag,hp,reduceCtorEq]
  have n3:¬(9223372036854775808≤er (c::r)):=by omega
  simp[n2,n3]
end Pl
open Go Go.Ab Go.Lib
namespace Pl
theorem rX (c:UInt8):∀(p q:List UInt8),(∀x∈p,x≠c)→index (p++c::q) [c]=p.length
 | [],q,_=>by simp[index]
 |a::p,q,h=>by
  have ha:a≠c:=h a (by simp)
  have ih:=rX c p q fun x hx=>h x (by simp[hx])
  rw[List.cons_append]
  unfold index
  rw[ih]
  have h0:([c]:List UInt8).isPrefixOf (a::(p++c::q))=false:=by
   simp only[List.isPrefixOf,Bool.and_true]
   exact beq_eq_false_iff_ne.2 (Ne.symm ha)
  have h1:((p.length:Int) == -1)=false:=beq_eq_false_iff_ne.2 (by omega)
  rw[h0,h1]
  simp
theorem rY (c:UInt8):∀(p:List UInt8),(∀x∈p,x≠c)→index p [c] = -1
 | [],_=>by simp[index]
 |a::p,h=>by
  have ha:a≠c:=h a (by simp)
  have ih:=rY c p fun x hx=>h x (by simp[hx])
  unfold index
  rw[ih]
  have h0:([c]:List UInt8).isPrefixOf (a::p)=false:=by
   simp only[List.isPrefixOf,Bool.and_true]
   exact beq_eq_false_iff_ne.2 (Ne.symm ha)
  rw[h0]
  rfl
theorem EY (c:UInt8)(p q:List UInt8)(h:∀x∈p,x≠c):cut (p++c::q) [c]=(p,q,true):=by
 have hi:=rX c p q h
 unfold cut
 rw[hi,if_pos (by omega)]
 simp
theorem Ln (c:UInt8)(p:List UInt8)(h:∀x∈p,x≠c):cut p [c]=(p,[],false):=by
 have hi:=rY c p h
 unfold cut
 rw[hi,if_neg (by omega)]
theorem Hz (c:UInt8)(l:List UInt8):(∀x∈l,x≠c)∨∃p q,l=p++c::q∧∀x∈p,x≠c:=by
 induction l with
 |nil=>exact .inl (by simp)
 |cons a l ih=>
  by_cases h:a=c
  ·subst h;exact .inr ⟨[],l,rfl,by simp⟩
  ·rcases ih with ih|⟨p,q,e,hp⟩
   ·left
    intro x hx
    rcases List.mem_cons.1 hx with rfl|hx
    ·exact h
    ·exact ih x hx
   ·right
    refine⟨a::p,q,by rw[e];rfl,fun x hx=>?_⟩
    rcases List.mem_cons.1 hx with rfl|hx
    ·exact h
    ·exact hp x hx
theorem pI {c:UInt8}:∀{p p' q q':List UInt8},(∀x∈p,x≠c)→(∀x∈p',x≠c)→p++c::q=p'++c::q'→p=p'∧q=q'
 | [],[],q,q',_,_,h=>by simpa using h
 | [],b::p',q,q',_,h2,h=>by
  simp only[List.nil_append,List.cons_append,List.cons.injEq] at h
  exact absurd h.1.symm (h2 b (by simp))
 |a::p,[],q,q',h1,_,h=>by
  simp only[List.nil_append,List.cons_append,List.cons.injEq] at h
  exact absurd h.1 (h1 a (by simp))
 |a::p,b::p',q,q',h1,h2,h=>by
  simp only[List.cons_append,List.cons.injEq] at h
  obtain⟨e1,e2⟩:=pI (fun x hx=>h1 x (by simp[hx])) (fun x hx=>h2 x (by simp[hx])) h.2
  exact⟨by rw[h.1,e1],e2⟩
theorem ny (n:Nat):∀x∈decDigits n,x≠32:=by
 intro x hx e
 have:=rm n x hx
 subst e
 revert this
 decide
section
variable (H:List UInt8→List UInt8)
def nX (n:Nat)(r:List UInt8):List UInt8:=decDigits n ++ [32]++decDigits r.length ++ [32]
def line (n:Nat)(r:List UInt8):List UInt8:=nX n r++(H (nX n r++r)).take 16 ++ [32]++r ++ [10]
def mY (t:List UInt8)(n:Nat)(r:List UInt8):Prop:=1≤r.length∧r.length≤500∧line H n r <+:t
theorem si (n:Nat)(r:List UInt8):line H n r=decDigits n++32::(decDigits r.length++32::((H (nX n r++r)).take 16++32::(r ++ [10]))):=by
 simp[line,nX]
theorem vJ (hH:∀x,(H x).length=64)(n:Nat)(r:List UInt8):(line H n r).length=(decDigits n).length+1+(decDigits r.length).length+18+r.length+1:=by
 rw[si]
 simp[hH]
 omega
theorem vK (hH:∀x,(H x).length=64){n:Nat}{t r r':List UInt8}(h:line H n r <+:t)(h':line H n r' <+:t):r=r':=by
 obtain⟨s,hs⟩:=h
 obtain⟨s',hs'⟩:=h'
 rw[si] at hs hs'
 have e:=hs.trans hs'.symm
 simp only[List.append_assoc,List.cons_append] at e
 obtain⟨_,e1⟩:=pI (ny n) (ny n) e
 obtain⟨e2,e3⟩:=pI (ny _) (ny _) e1
 have hl:=uD e2
 have e4:=List.append_inj_right e3 (by simp[hH])
 simp only[List.cons.injEq,true_and] at e4
 exact List.append_inj_left e4 hl
open Classical in
noncomputable def jn (t:List UInt8) (n:Nat):Option (List UInt8):=if h:∃r,mY H t n r then some (Classical.choose h) else none
theorem WE (hH:∀x,(H x).length=64){t r:List UInt8}{n:Nat}(h:mY H t n r):jn H t n=some r:=by
 have hex:∃r,mY H t n r:=⟨r,h⟩
 unfold jn
 rw[dif_pos hex]
 exact congrArg some (vK H hH (Classical.choose_spec hex).2.2 h.2.2)
theorem mq {t r:List UInt8}{n:Nat}(h:jn H t n=some r):mY H t n r:=by
 unfold jn at h
 split at h
 ·rename_i hex
  cases h
  exact Classical.choose_spec hex
 ·cases h
noncomputable def eE:Nat→List UInt8→Nat→List (List UInt8)×Nat
 |0,_,_=>([],0)
 |f+1,t,n=>match jn H t n with
  |none=>([],0)
  |some r=>(r::(eE f (t.drop (line H n r).length) (n+1)).1,(line H n r).length+(eE f (t.drop (line H n r).length) (n+1)).2)
theorem pU (hH:∀x,(H x).length=64)(n:Nat)(r:List UInt8):20≤(line H n r).length:=by
 rw[vJ H hH];omega
theorem sG (hH:∀x,(H x).length=64):∀(f g:Nat) (t:List UInt8) (n:Nat),t.length<f→t.length<g→eE H f t n=eE H g t n
 |0,_,_,_,h,_=>by omega
 |_+1,0,_,_,_,h=>by omega
 |f+1,g+1,t,n,h1,h2=>by
  unfold eE
  cases hn:jn H t n with
  |none=>rfl
  |some r=>
   have hp:=pU H hH n r
   have hle:(line H n r).length≤t.length:=(mq H hn).2.2.length_le
   have hd:(t.drop (line H n r).length).length=t.length-(line H n r).length:=by simp
   have:=sG hH f g (t.drop (line H n r).length) (n+1) (by omega) (by omega)
   simp only[this]
noncomputable def CE (t:List UInt8):List (List UInt8)×Nat:=eE H (t.length+1) t 0
theorem abV (hH:∀x,(H x).length=64){t r:List UInt8}{n:Nat}(h:jn H t n=some r):eE H (t.length+1) t n =
  (r::(eE H ((t.drop (line H n r).length).length+1) (t.drop (line H n r).length) (n+1)).1,(line H n r).length+(eE H ((t.drop (line H n r).length).length+1) (t.drop (line H n r).length) (n+1)).2):=by
 have hp:=pU H hH n r
 have hle:(line H n r).length≤t.length:=(mq H h).2.2.length_le
 rw[eE,h]
 simp only
 rw[sG H hH t.length ((t.drop (line H n r).length).length+1) (t.drop (line H n r).length) (n+1) (by simp;omega) (by omega)]
theorem abW {t:List UInt8}{n:Nat}(h:jn H t n=none):eE H (t.length+1) t n=([],0):=by
 rw[eE,h]
theorem vQ (hH:∀x,(H x).length=64):∀(f:Nat) (t:List UInt8) (n:Nat),(eE H f t n).2≤t.length∧20*(eE H f t n).1.length≤(eE H f t n).2∧∀r∈(eE H f t n).1,1≤r.length∧r.length≤500
 |0,t,n=>by simp[eE]
 |f+1,t,n=>by
  unfold eE
  cases hn:jn H t n with
  |none=>simp
  |some r=>
   have hp:=pU H hH n r
   have hle:(line H n r).length≤t.length:=(mq H hn).2.2.length_le
   obtain⟨h1,h2,h3⟩:=vQ hH f (t.drop (line H n r).length) (n+1)
   have hd:(t.drop (line H n r).length).length=t.length-(line H n r).length:=by simp
   simp only[List.length_cons]
   refine⟨by omega,by omega,fun x hx=>?_⟩
   rcases List.mem_cons.1 hx with rfl|hx
   ·exact⟨(mq H hn).1,(mq H hn).2.1⟩
   ·exact h3 x hx
end
end Pl
open Go Go.Ab
noncomputable section
def Wh.Cy:List Int:=[0x428a2f98,0x71374491,0xb5c0fbcf,0xe9b5dba5,0x3956c25b,0x59f111f1,0x923f82a4,0xab1c5ed5,
 0xd807aa98,0x12835b01,0x243185be,0x550c7dc3,0x72be5d74,0x80deb1fe,0x9bdc06a7,0xc19bf174,
 0xe49b69c1,0xefbe4786,0x0fc19dc6,0x240ca1cc,0x2de92c6f,0x4a7484aa,0x5cb0a9dc,0x76f988da,
 0x983e5152,0xa831c66d,0xb00327c8,0xbf597fc7,0xc6e00bf3,0xd5a79147,0x06ca6351,0x14292967,
 0x27b70a85,0x2e1b2138,0x4d2c6dfc,0x53380d13,0x650a7354,0x766a0abb,0x81c2c92e,0x92722c85,
 0xa2bfe8a1,0xa81a664b,0xc24b8b70,0xc76c51a3,0xd192e819,0xd6990624,0xf40e3585,0x106aa070,
 0x19a4c116,0x1e376c08,0x2748774c,0x34b0bcb5,0x391c0cb3,0x4ed8aa4a,0x5b9cca4f,0x682e6ff3,
 0x748f82ee,0x78a5636f,0x84c87814,0x8cc70208,0x90befffa,0xa4506ceb,0xbef9a3f7,0xc67178f2]
def Wh.strconv_Itoa (n:Int):Option (List UInt8×Unit):=bif decide (-9223372036854775808≤n)&&decide (n≤9223372036854775807) then some (Go.Lib.itoa n,()) else none
def Wh.tJ (n:Int):List UInt8×Unit:=match Wh.strconv_Itoa n with | some y=>y|none=>default
theorem Wh.xL (x:Int)(y:List UInt8×Unit)(h:Wh.strconv_Itoa x=some y):Wh.tJ x=y:=by unfold Wh.tJ;rw[h]
def Wh.strings_Cut (x:List UInt8×List UInt8):Option ((List UInt8×List UInt8×Bool)×Unit):=bif decide (x.1.length<4294967281) then some (Go.Lib.cut x.1 x.2,()) else none
def Wh.tK (x:List UInt8×List UInt8):(List UInt8×List UInt8×Bool)×Unit:=match Wh.strings_Cut x with | some y=>y|none=>default
theorem Wh.xM (x:List UInt8×List UInt8)(y:(List UInt8×List UInt8×Bool)×Unit)(h:Wh.strings_Cut x=some y):Wh.tK x=y:=by unfold Wh.tK;rw[h]
def Wh.bits_Len (n:Int):Option (Int×Unit):=bif decide (0≤n)&&decide (n≤18446744073709551615) then some ((Go.Lib.bitLen n.toNat:Int),()) else none
def Wh.qX (n:Int):Int×Unit:=match Wh.bits_Len n with | some y=>y|none=>default
theorem Wh.ZE (x:Int)(y:Int×Unit)(h:Wh.bits_Len x=some y):Wh.qX x=y:=by unfold Wh.qX;rw[h]
def Wh.rV (s:List UInt8):Option ((Int×Bool)×Unit):=bif decide (s.length≤281474976710656) then some (if Pl.isNum s then((Pl.er s:Int),true) else(0,false),()) else none
def Wh.rW (s:List UInt8):(Int×Bool)×Unit:=match Wh.rV s with | some y=>y|none=>default
theorem Wh.xK (x:List UInt8)(y:(Int×Bool)×Unit)(h:Wh.rV x=some y):Wh.rW x=y:=by unfold Wh.rW;rw[h]
def Wh.strings_Join (x:List (List UInt8)×List UInt8):Option (List UInt8×Unit):=bif decide (x.1.length≤140737488355328)&&decide ((Go.Lib.join x.1 x.2).length≤281474976710656) then some (Go.Lib.join x.1 x.2,()) else none
def Wh.MW (x:List (List UInt8)×List UInt8):List UInt8×Unit:=match Wh.strings_Join x with | some y=>y|none=>default
theorem Wh.RM (x:List (List UInt8)×List UInt8)(y:List UInt8×Unit)(h:Wh.strings_Join x=some y):Wh.MW x=y:=by unfold Wh.MW;rw[h]
end
