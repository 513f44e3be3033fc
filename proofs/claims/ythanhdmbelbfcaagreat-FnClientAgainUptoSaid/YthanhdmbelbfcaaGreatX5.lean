import Derived.Test.YthanhdmbelbfcaaGreatX4
import Derived.Lib.ItoaNum
import Derived.Lib.AtoiAll
import Derived.Lib.IndexMore
import Derived.Lib.Join
set_option linter.defProp false
namespace Wh
end Wh
open Wh
open Go Go.Ab
namespace Pl
def wrap64 {n:Int}(h1: -9223372036854775808≤n)(h2:n≤9223372036854775807):IntKind.wrap .i64 n=n:=by
 simp[IntKind.wrap,IntKind.signed,IntKind.bits]
 omega
def A_ {X Y:Type}{r:X→Option (X⊕Y)}(st:Nat→X){n:Nat}{y:Y}(hs:∀i,i<n→r (st i)=some (.inl (st (i+1))))(he:r (st n)=some (.inr y)):∀k,k≤n→Comes r (st k) y:=by
 intro k hk
 have:∀d k,k+d=n→Comes r (st k) y:=by
  intro d
  induction d with
  |zero=>intro k hk;have:k=n:=by omega
         subst this;exact .out he
  |succ d ih=>intro k hk;exact .again (hs k (by omega)) (ih (k+1) (by omega))
 exact this (n-k) k (by omega)
def cb {X Y:Type}{r:X→Option (X⊕Y)}{x:X}{y:Y}(h:Comes r x y):p8 r x=true:=(h.is (y0:=y)).1
def cv {X Y:Type}{r:X→Option (X⊕Y)}{x:X}{y:Y}(h:Comes r x y)(y0:Y):oh r y0 x=y:=h.is.2
def RX (a:Bool):kL [a]=a:=rfl
def WA (a b:Bool)(l:List Bool):kL (a::b::l)=(a&&kL (b::l)):=rfl
def Fk {α:Type}(x:α):qu (some x)=true:=rfl
def getD_eq {α:Type}(l:List α)(i:Nat)(z:α)(h:i<l.length):l.getD i z=l[i]:=by simp[h]
def ld:Nat→(Nat→Bool)→Bool
 |0,_=>true
 |n+1,p=>ld n p&&p n
def wh {p:Nat→Bool}:∀{n:Nat},ld n p=true↔∀i,i<n→p i=true
 |0=>by simp[ld]
 |n+1=>by
  rw[ld,bB,wh]
  constructor
  ·rintro⟨h1,h2⟩ i hi
   by_cases e:i=n
   ·subst e;exact h2
   ·exact h1 i (by omega)
  ·intro h
   exact⟨fun i hi=>h i (by omega),h n (by omega)⟩
def Cs {X Y:Type}{r:X→Option (X⊕Y)}(st:Nat→X){n:Nat}{p:Nat→Bool}{yf yt:Y}(hs:∀i,i<n→(∀j,j<i→p j=true)→p i=true→r (st i)=some (.inl (st (i+1))))
  (hf:∀i,i<n→(∀j,j<i→p j=true)→p i=false→r (st i)=some (.inr yf)) (he:r (st n)=some (.inr yt)):Comes r (st 0) (if ld n p=true then yt else yf):=by
 have main:∀d k,k+d=n→(∀j,j<k→p j=true)→Comes r (st k) (if ld n p=true then yt else yf):=by
  intro d
  induction d with
  |zero=>
   intro k hk hp
   have:k=n:=by omega
   subst this
   rw[bQ (wh.2 hp)]
   exact .out he
  |succ d ih=>
   intro k hk hp
   cases hpk:p k with
   |true=>
    refine .again (hs k (by omega) hp hpk) (ih (k+1) (by omega) fun j hj=>?_)
    by_cases e:j=k
    ·subst e;exact hpk
    ·exact hp j (by omega)
   |false=>
    have:¬ld n p=true:=by
     intro h
     have:=wh.1 h k (by omega)
     rw[hpk] at this;cases this
    rw[cT this]
    exact .out (hf k (by omega) hp hpk)
 exact main n 0 (by omega) (fun j hj=>by omega)
def adW {X Y:Type}{r:X→Option (X⊕Y)}(st:Nat→X){n:Nat}{p:Nat→Bool}{yt:Nat→Y}{yn:Y}(hs:∀i,i<n→p i=false→r (st i)=some (.inl (st (i+1))))
  (hf:∀i,i<n→p i=true→r (st i)=some (.inr (yt i))) (he:r (st n)=some (.inr yn)) :
  (∃i,i<n∧p i=true∧(∀j,j<i→p j=false)∧Comes r (st 0) (yt i))∨((∀j,j<n→p j=false)∧Comes r (st 0) yn):=by
 have main:∀d k,k+d=n→(∀j,j<k→p j=false)→(∃i,i<n∧p i=true∧(∀j,j<i→p j=false)∧Comes r (st k) (yt i))∨((∀j,j<n→p j=false)∧Comes r (st k) yn):=by
  intro d
  induction d with
  |zero=>
   intro k hk hp
   have:k=n:=by omega
   subst this
   exact .inr ⟨hp,.out he⟩
  |succ d ih=>
   intro k hk hp
   cases hpk:p k with
   |true=>exact .inl ⟨k,by omega,hpk,hp,.out (hf k (by omega) hpk)⟩
   |false=>
    rcases ih (k+1) (by omega) (fun j hj=>by
     by_cases e:j=k
     ·subst e;exact hpk
     ·exact hp j (by omega)) with⟨i,h1,h2,h3,h4⟩|⟨h1,h2⟩
    ·exact .inl ⟨i,h1,h2,h3,.again (hs k (by omega) hpk) h4⟩
    ·exact .inr ⟨h1,.again (hs k (by omega) hpk) h2⟩
 exact main n 0 (by omega) (fun j hj=>by omega)
def AX {i:Nat}(h:i≤4611686018427387904):IntKind.wrap .i64 ((i:Int)+1)=((i+1:Nat):Int):=by rw[wrap64]<;>omega
def Gx {i:Nat}(h:i≤4611686018427387904):IntKind.wrap .i64 ((i:Int)-1)=(i:Int)-1:=by rw[wrap64]<;>omega
def Pe:IntKind.wrap .i64 1=1:=by decide
def ajs {α:Type}(l:List α)(i:Nat)(x y:α):(l.set i x).set i y=l.set i y:=by simp
def ae9 {α:Type}(l:List α)(i:Nat)(x z:α)(h:i<l.length):(l.set i x).getD i z=x:=by simp[h]
def I64 (n:Int):Prop:= -9223372036854775808≤n∧n≤9223372036854775807
def zw {i:Nat}(h:i≤4611686018427387904:=by omega):IntKind.wrap .i64 ((i:Int)+1)=((i+1:Nat):Int):=AX h
open Go.Lib
def D7 (c:UInt8):Prop:=48≤c.toNat∧c.toNat≤57
instance (c:UInt8):Decidable (D7 c):=inferInstanceAs (Decidable (_∧_))
def BY (l:List UInt8):Nat:=l.foldl (fun n c=>n*10+(c.toNat-48)) 0
def canon (l:List UInt8):Prop:=l ≠ []∧(∀c∈l,D7 c)∧(l.length=1∨l.head?≠some 48)
def Uw (l:List UInt8)(c:UInt8):BY (l ++ [c])=BY l*10+(c.toNat-48):=by simp[BY]
def Ny {k:Nat}(h:k<10):(UInt8.ofNat (48+k)).toNat=48+k:=by
 rw[UInt8.toNat_ofNat'];omega
def Sj (n:Nat):∀c∈decDigits n,D7 c:=by
 induction n using Nat.strongRecOn with
 |ind n ih=>
  rw[decDigits]
  split
  ·rename_i h
   intro c hc
   simp only[i_] at hc
   subst hc
   unfold D7
   rw[Ny h]
   omega
  ·rename_i h
   intro c hc
   rcases bU.1 hc with hc|hc
   ·exact ih (n / 10) (by omega) c hc
   ·simp only[i_] at hc
    subst hc
    unfold D7
    rw[Ny (by omega)]
    omega
def Xf (n:Nat):decDigits n ≠ []:=by
 rw[decDigits]
 split<;>simp
def Nw (n:Nat):BY (decDigits n)=n:=by
 induction n using Nat.strongRecOn with
 |ind n ih=>
  rw[decDigits]
  split
  ·rename_i h
   simp only[BY,List.foldl_cons,List.foldl_nil]
   rw[Ny h]
   omega
  ·rename_i h
   rw[Uw,ih (n / 10) (by omega),Ny (by omega)]
   omega
def Xe {n m:Nat}(h:decDigits n=decDigits m):n=m:=by rw[←Nw n,h,Nw m]
def afc {l r:List UInt8}(h:l ≠ []):(l++r).head? = l.head? :=by
 cases l with
 |nil=>exact absurd rfl h
 |cons a l=>rfl
def ad9 (n:Nat)(h:0<n):(decDigits n).head?≠some 48:=by
 induction n using Nat.strongRecOn with
 |ind n ih=>
  rw[decDigits]
  split
  ·rename_i h1
   simp only[List.head?_cons,ne_eq,aX]
   intro e
   have:=congrArg UInt8.toNat e
   rw[Ny h1] at this
   simp at this
   omega
  ·rename_i h1
   have hne:=Xf (n / 10)
   rw[afc hne]
   exact ih (n / 10) (by omega) (by omega)
def ad8 (n:Nat):canon (decDigits n):=by
 refine⟨Xf n,Sj n,?_⟩
 by_cases h:n=0
 ·left;subst h;rw[decDigits,dif_pos (by omega)];rfl
 ·right;exact ad9 n (by omega)
def Sk {n:Nat}{k:Nat}(h:n<10 ^ k)(hk:1≤k):(decDigits n).length≤k:=by
 rw[decDigits_length]
 by_cases h0:nDigits n≤1
 ·omega
 ·rcases Nat.lt_or_ge k (nDigits n) with hlt|hge
  ·exfalso
   have main:∀(k n:Nat),1≤k→k<nDigits n→10 ^ k≤n:=by
    intro k
    induction k with
    |zero=>intro n h _;omega
    |succ k ih=>
     intro n _ hlt
     by_cases hn:n<10
     ·rw[nDigits_small hn] at hlt;omega
     ·rw[nDigits_big hn] at hlt
      by_cases hk0:k=0
      ·subst hk0;simp;omega
      ·have:=ih (n / 10) (by omega) (by omega)
       rw[Nat.pow_succ]
       omega
   have:=main k n hk hlt
   omega
  ·exact hge
def val_lt:∀(l:List UInt8),(∀c∈l,D7 c)→BY l<10 ^ l.length:=by
 intro l
 generalize hn:l.length=n
 induction n generalizing l with
 |zero=>intro _;rw[eC.1 hn];simp[BY]
 |succ n ih=>
  intro h
  rcases List.eq_nil_or_concat l with e|⟨p,c,e⟩
  ·subst e;simp at hn
  ·subst e
   simp only[List.concat_eq_append] at *
   rw[Uw]
   have hc:D7 c:=h c (by simp)
   have:=ih p (by simpa using hn) fun x hx=>h x (by simp[hx])
   rw[Nat.pow_succ]
   unfold D7 at hc
   omega
def isNum (l:List UInt8):Prop:=canon l∧l.length≤6
instance (l:List UInt8):Decidable (canon l):=inferInstanceAs (Decidable (_∧_∧_))
instance (l:List UInt8):Decidable (isNum l):=inferInstanceAs (Decidable (_∧_))
def SX {n:Nat}(h:n≤999999):isNum (decDigits n):=⟨ad8 n,Sk (by omega) (by omega)⟩
end Pl
open Go Go.Ab Go.Lib
namespace Pl
def Uk (c:UInt8)(l:List UInt8):(∀x∈l,x≠c)∨∃p q,l=p++c::q∧∀x∈p,x≠c:=by
 induction l with
 |nil=>exact .inl (by simp)
 |cons a l ih=>
  by_cases h:a=c
  ·subst h;exact .inr ⟨[],l,rfl,by simp⟩
  ·rcases ih with ih|⟨p,q,e,hp⟩
   ·left
    intro x hx
    rcases bN.1 hx with rfl|hx
    ·exact h
    ·exact ih x hx
   ·right
    refine⟨a::p,q,by rw[e];rfl,fun x hx=>?_⟩
    rcases bN.1 hx with rfl|hx
    ·exact h
    ·exact hp x hx
def NI {c:UInt8}:∀{p p' q q':List UInt8},(∀x∈p,x≠c)→(∀x∈p',x≠c)→p++c::q=p'++c::q'→p=p'∧q=q'
 | [],[],q,q',_,_,h=>by simpa using h
 | [],b::p',q,q',_,h2,h=>by
  simp only[zl17,zl20,jY] at h
  exact absurd h.1.symm (h2 b (by simp))
 |a::p,[],q,q',h1,_,h=>by
  simp only[zl17,zl20,jY] at h
  exact absurd h.1 (h1 a (by simp))
 |a::p,b::p',q,q',h1,h2,h=>by
  simp only[zl20,jY] at h
  obtain⟨e1,e2⟩:=NI (fun x hx=>h1 x (by simp[hx])) (fun x hx=>h2 x (by simp[hx])) h.2
  exact⟨by rw[h.1,e1],e2⟩
def HE (n:Nat):∀x∈decDigits n,x≠32:=by
 intro x hx e
 have:=Sj n x hx
 subst e
 revert this
 decide
section
variable (H:List UInt8→List UInt8)
def CU (n:Nat)(r:List UInt8):List UInt8:=decDigits n ++ [32]++decDigits r.length ++ [32]
def line (n:Nat)(r:List UInt8):List UInt8:=CU n r++(H (CU n r++r)).take 16 ++ [32]++r ++ [10]
def Nl (t:List UInt8)(n:Nat)(r:List UInt8):Prop:=1≤r.length∧r.length≤500∧line H n r <+:t
def S7 (n:Nat)(r:List UInt8):line H n r=decDigits n++32::(decDigits r.length++32::((H (CU n r++r)).take 16++32::(r ++ [10]))):=by
 simp[line,CU]
def S6 (hH:∀x,(H x).length=64)(n:Nat)(r:List UInt8):(line H n r).length=(decDigits n).length+1+(decDigits r.length).length+18+r.length+1:=by
 rw[S7]
 simp[hH]
 omega
def afP (hH:∀x,(H x).length=64){n:Nat}{t r r':List UInt8}(h:line H n r <+:t)(h':line H n r' <+:t):r=r':=by
 obtain⟨s,hs⟩:=h
 obtain⟨s',hs'⟩:=h'
 rw[S7] at hs hs'
 have e:=hs.trans hs'.symm
 simp only[cZ,zl20] at e
 obtain⟨_,e1⟩:=NI (HE n) (HE n) e
 obtain⟨e2,e3⟩:=NI (HE _) (HE _) e1
 have hl:=Xe e2
 have e4:=List.append_inj_right e3 (by simp[hH])
 simp only[jY,true_and] at e4
 exact List.append_inj_left e4 hl
open Classical in
noncomputable def EB (t:List UInt8) (n:Nat):Option (List UInt8):=if h:∃r,Nl H t n r then some (Classical.choose h) else none
def agU (hH:∀x,(H x).length=64){t r:List UInt8}{n:Nat}(h:Nl H t n r):EB H t n=some r:=by
 have hex:∃r,Nl H t n r:=⟨r,h⟩
 unfold EB
 rw[dif_pos hex]
 exact congrArg some (afP H hH (zl85 hex).2.2 h.2.2)
def Kg {t r:List UInt8}{n:Nat}(h:EB H t n=some r):Nl H t n r:=by
 unfold EB at h
 split at h
 ·rename_i hex
  cases h
  exact zl85 hex
 ·cases h
noncomputable def Cd:Nat→List UInt8→Nat→List (List UInt8)×Nat
 |0,_,_=>([],0)
 |f+1,t,n=>match EB H t n with
  |none=>([],0)
  |some r=>(r::(Cd f (t.drop (line H n r).length) (n+1)).1,(line H n r).length+(Cd f (t.drop (line H n r).length) (n+1)).2)
def Qb (hH:∀x,(H x).length=64)(n:Nat)(r:List UInt8):20≤(line H n r).length:=by
 rw[S6 H hH];omega
def Yo (hH:∀x,(H x).length=64):∀(f g:Nat) (t:List UInt8) (n:Nat),t.length<f→t.length<g→Cd H f t n=Cd H g t n
 |0,_,_,_,h,_=>by omega
 |_+1,0,_,_,_,h=>by omega
 |f+1,g+1,t,n,h1,h2=>by
  unfold Cd
  cases hn:EB H t n with
  |none=>rfl
  |some r=>
   have hp:=Qb H hH n r
   have hle:(line H n r).length≤t.length:=(Kg H hn).2.2.length_le
   have hd:(t.drop (line H n r).length).length=t.length-(line H n r).length:=by simp
   have:=Yo hH f g (t.drop (line H n r).length) (n+1) (by omega) (by omega)
   simp only[this]
noncomputable def DF (t:List UInt8):List (List UInt8)×Nat:=Cd H (t.length+1) t 0
def afS (hH:∀x,(H x).length=64){t r:List UInt8}{n:Nat}(h:EB H t n=some r):Cd H (t.length+1) t n =
  (r::(Cd H ((t.drop (line H n r).length).length+1) (t.drop (line H n r).length) (n+1)).1,(line H n r).length+(Cd H ((t.drop (line H n r).length).length+1) (t.drop (line H n r).length) (n+1)).2):=by
 have hp:=Qb H hH n r
 have hle:(line H n r).length≤t.length:=(Kg H h).2.2.length_le
 rw[Cd,h]
 simp only
 rw[Yo H hH t.length ((t.drop (line H n r).length).length+1) (t.drop (line H n r).length) (n+1) (by simp;omega) (by omega)]
def afT {t:List UInt8}{n:Nat}(h:EB H t n=none):Cd H (t.length+1) t n=([],0):=by
 rw[Cd,h]
def S_ (hH:∀x,(H x).length=64):∀(f:Nat) (t:List UInt8) (n:Nat),(Cd H f t n).2≤t.length∧20*(Cd H f t n).1.length≤(Cd H f t n).2∧∀r∈(Cd H f t n).1,1≤r.length∧r.length≤500
 |0,t,n=>by simp[Cd]
 |f+1,t,n=>by
  unfold Cd
  cases hn:EB H t n with
  |none=>simp
  |some r=>
   have hp:=Qb H hH n r
   have hle:(line H n r).length≤t.length:=(Kg H hn).2.2.length_le
   obtain⟨h1,h2,h3⟩:=S_ hH f (t.drop (line H n r).length) (n+1)
   have hd:(t.drop (line H n r).length).length=t.length-(line H n r).length:=by simp
   simp only[zl6]
   refine⟨by omega,by omega,fun x hx=>?_⟩
   rcases bN.1 hx with rfl|hx
   ·exact⟨(Kg H hn).1,(Kg H hn).2.1⟩
   ·exact h3 x hx
end
end Pl
open Go Go.Ab
def c9 {α β γ:Type}[Inhabited β](f:α→Option β)(x:α)(k:β→Option γ):Option γ:=bif kL [qu (f x)] then k (zog f x) else none
def CQ {α β γ:Type}(f:α→Option β)(f':α→β)(x:α)(k:β→Option γ):Option γ:=bif qu (f x) then k (f' x) else none
noncomputable def g8 {X Y γ:Type} (r:X→Option (X⊕Y)) (y0:Y) (x:X) (k:Y→Option γ):Option γ:=bif p8 r x then k (oh r y0 x) else none
def bn {β γ:Type}(v:β)(k:β→Option γ):Option γ:=k v
def ia:(∀{α β γ:Type} [Inhabited β] (f:α→Option β) (x:α) (k:β→Option γ),c9 f x k=bif qu (f x) then k (zog f x) else none)∧(∀{α β γ:Type} (f:α→Option β) (g:α→β) (x:α) (k:β→Option γ),CQ f g x k=bif qu (f x) then k (g x) else none)∧(∀{X Y γ:Type} (r:X→Option (X⊕Y)) (y0:Y) (x:X) (k:Y→Option γ),g8 r y0 x k=bif p8 r x then k (oh r y0 x) else none)∧(∀{β γ:Type} (v:β) (k:β→Option γ),bn v k=k v):=⟨fun _ _ _=>rfl,fun _ _ _ _=>rfl,fun _ _ _ _=>rfl,fun _ _=>rfl⟩
def zU:(kL []=true)∧(∀a,kL [a]=a)∧(∀a b l,kL (a::b::l)=(a&&kL (b::l)))∧(∀{α β γ:Type} [Inhabited β] (f:α→Option β) (x:α) (k:β→Option γ),c9 f x k=bif qu (f x) then k (zog f x) else none)∧(∀{α β γ:Type} (f:α→Option β) (g:α→β) (x:α) (k:β→Option γ),CQ f g x k=bif qu (f x) then k (g x) else none)∧(∀{X Y γ:Type} (r:X→Option (X⊕Y)) (y0:Y) (x:X) (k:Y→Option γ),g8 r y0 x k=bif p8 r x then k (oh r y0 x) else none)∧(∀{β γ:Type} (v:β) (k:β→Option γ),bn v k=k v):=⟨rfl,fun _=>rfl,fun _ _ _=>rfl,ia⟩
def Ax:(kL []=true)∧(∀a,kL [a]=a)∧(∀a b l,kL (a::b::l)=(a&&kL (b::l)))∧(∀b:Bool,(b&&b)=b)∧(∀{α:Type} (a b:α),cond true a b=a)∧(∀{α:Type} (x:α),qu (some x)=true)∧(∀{α β γ:Type} [Inhabited β] (f:α→Option β) (x:α) (k:β→Option γ),c9 f x k=bif qu (f x) then k (zog f x) else none)∧(∀{α β γ:Type} (f:α→Option β) (g:α→β) (x:α) (k:β→Option γ),CQ f g x k=bif qu (f x) then k (g x) else none)∧(∀{X Y γ:Type} (r:X→Option (X⊕Y)) (y0:Y) (x:X) (k:Y→Option γ),g8 r y0 x k=bif p8 r x then k (oh r y0 x) else none)∧(∀{β γ:Type} (v:β) (k:β→Option γ),bn v k=k v):=⟨rfl,fun _=>rfl,fun _ _ _=>rfl,by decide,fun _ _=>rfl,fun _=>rfl,ia⟩
noncomputable section
def Wh.LJ:List Int:=[0x428a2f98,0x71374491,0xb5c0fbcf,0xe9b5dba5,0x3956c25b,0x59f111f1,0x923f82a4,0xab1c5ed5,
 0xd807aa98,0x12835b01,0x243185be,0x550c7dc3,0x72be5d74,0x80deb1fe,0x9bdc06a7,0xc19bf174,
 0xe49b69c1,0xefbe4786,0x0fc19dc6,0x240ca1cc,0x2de92c6f,0x4a7484aa,0x5cb0a9dc,0x76f988da,
 0x983e5152,0xa831c66d,0xb00327c8,0xbf597fc7,0xc6e00bf3,0xd5a79147,0x06ca6351,0x14292967,
 0x27b70a85,0x2e1b2138,0x4d2c6dfc,0x53380d13,0x650a7354,0x766a0abb,0x81c2c92e,0x92722c85,
 0xa2bfe8a1,0xa81a664b,0xc24b8b70,0xc76c51a3,0xd192e819,0xd6990624,0xf40e3585,0x106aa070,
 0x19a4c116,0x1e376c08,0x2748774c,0x34b0bcb5,0x391c0cb3,0x4ed8aa4a,0x5b9cca4f,0x682e6ff3,
 0x748f82ee,0x78a5636f,0x84c87814,0x8cc70208,0x90befffa,0xa4506ceb,0xbef9a3f7,0xc67178f2]
end
