import Derived.Test.YthanhdmbelbfcaaGreatX7
set_option linter.defProp false
namespace Wh
end Wh
open Wh
open Go Go.Ab Go.Lib
namespace Pl
def AH (n lo hi:Int):gh (n,lo,hi)=some (decide (lo≤n∧n≤hi),()):=by
 by_cases h:lo≤n<;>simp[gh,h]
def Bo (n lo hi:Int):A8 (n,lo,hi)=some (decide (lo≤n∧n≤hi),()):=by
 by_cases h:lo≤n<;>simp[A8,h]
def Yg:∀(k n:Nat),n<10 ^ k→k≤18→1≤k→EZ k (n:Int)=some (decDigits n,())
 |0,_,_,_,h=>by omega
 |k+1,n,hn,hk,_=>by
  have hb:(10:Nat) ^ (k+1)≤10 ^ 18:=Nat.pow_le_pow_right (by omega) hk
  have c1:decide ((n:Int) < -9223372036854775807)=false:=zdf
  have c2:decide ((n:Int)<0)=false:=zdf
  rw[TZ]
  by_cases h10:n<10
  ·have c3:decide ((n:Int)<10)=true:=zdt
   have w1:IntKind.wrap .u8 (IntKind.wrap .i64 (48+(n:Int)))=((48+n:Nat):Int):=by
    rw[wrap64 (by omega) (by omega)]
    simp[IntKind.wrap,IntKind.signed,IntKind.bits]
    omega
   simp only[q39,c1,c2,c3,pO,dW,w1]
   rw[decDigits,dif_pos h10]
   rfl
  ·have c3:decide ((n:Int)<10)=false:=zdf
   have hk1:1≤k:=by
    rcases k with _|k
    ·simp at hn;omega
    ·omega
   have ih:=Yg k (n / 10) (by rw[Nat.pow_succ] at hn;omega) (by omega) hk1
   have w1:IntKind.wrap .u8 (IntKind.wrap .i64 (48+Int.tmod (n:Int) 10))=((48+n % 10:Nat):Int):=by
    have:Int.tmod (n:Int) 10=((n % 10:Nat):Int):=by rw[Int.tmod_eq_emod_of_nonneg (by omega)];omega
    rw[this,wrap64 (by omega) (by omega)]
    simp[IntKind.wrap,IntKind.signed,IntKind.bits]
    omega
   have w2:IntKind.wrap .i64 (Int.tdiv (n:Int) 10)=((n / 10:Nat):Int):=by
    have:Int.tdiv (n:Int) 10=((n / 10:Nat):Int):=by rw[zl91 (by omega)];omega
    rw[this,wrap64 (by omega) (by omega)]
   have hlen:(decDigits (n / 10)).length+1≤eV:=by
    have:=Sk (n:=n / 10) (k:=18) (by omega) (by omega)
    unfold eV;omega
   simp only[q39,c1,c2,c3,pO,w1,w2,ih,zU,qu,hlen,zl73,dW,zl92]
   rw[decDigits.eq_1 n,dif_neg h10]
   rfl
def P7 (n:Nat)(h:n<10 ^ 18):As (n:Int)=some (decDigits n,()):=by
 have mono:∀(k:Nat) (x:Int) y,EZ k x=some y→EZ (k+1) x=some y:=by
  intro k
  induction k with
  |zero=>intro x y h;cases h
  |succ k ih=>
   intro x y h
   rw[TZ] at h ⊢
   unfold q39 at h ⊢
   cases c1:decide (x<(-9223372036854775807:Int)) with
   |true=>simp only[c1,dW] at h ⊢;exact h
   |false=>
    simp only[c1,pO] at h ⊢
    cases c2:decide (x<(0:Int)) with
    |true=>
     simp only[c2,dW] at h ⊢
     cases hr:EZ k (IntKind.wrap .i64 (0-x)) with
     |none=>simp only[hr,zU,qu,zl74,pO,reduceCtorEq] at h
     |some z=>simp only[hr,ih _ _ hr] at h ⊢;exact h
    |false=>
     simp only[c2,pO] at h ⊢
     cases c3:decide (x<(10:Int)) with
     |true=>simp only[c3,dW] at h ⊢;exact h
     |false=>
      simp only[c3,pO] at h ⊢
      cases hr:EZ k (IntKind.wrap .i64 (Int.tdiv x 10)) with
      |none=>simp only[hr,zU,qu,zl74,zl93,pO,reduceCtorEq] at h
      |some z=>simp only[hr,ih _ _ hr] at h ⊢;exact h
 exact mono 19 _ _ (mono 18 _ _ (Yg 18 n h (by omega) (by omega)))
def LP (s p q:List UInt8)(at_:Nat)(b:UInt8)(hs:s.length≤4611686018427387904)(hd:s.drop at_=p++b::q)(hp:∀x∈p,x≠b) :
  Cz (s,(at_:Int),(b.toNat:Int))=some (((at_+p.length:Nat):Int),()):=by
 have hlen:s.length=at_+p.length+1+q.length:=by
  have:=congrArg List.length hd
  simp only[zl4,eY,zl6] at this
  by_cases h:at_≤s.length
  ·omega
  ·omega
 have mG:∀i,i<p.length→s.getD (at_+i) 0=p.getD i 0:=by
  intro i hi
  have:(s.drop at_).getD i 0=(p++b::q).getD i 0:=by rw[hd]
  simp only[zl26,zl5,eM hi] at this ⊢
  exact this
 have hb:s.getD (at_+p.length) 0=b:=by
  have:(s.drop at_).getD p.length 0=(p++b::q).getD p.length 0:=by rw[hd]
  simp only[zl26,zl5] at this ⊢
  rw[this]
  simp
 have hc:∀d i,i+d=p.length→Comes F8 ((((at_+i:Nat):Int),(b.toNat:Int),s),()) (.inl (((at_+p.length:Nat):Int),())):=by
  intro d
  induction d with
  |zero=>
   intro i hi
   have:i=p.length:=by omega
   subst this
   refine .out ?_
   have c1:decide (((at_+p.length:Nat):Int)<(s.length:Int))=true:=zdt
   have c0:decide ((0:Int)≤((at_+p.length:Nat):Int))=true:=zdt
   simp only[F8,c1,c0,zl94,hb,zl95,zU,dW,zl92]
  |succ d ih=>
   intro i hi
   refine .again ?_ (ih (i+1) (by omega))
   have c1:decide (((at_+i:Nat):Int)<(s.length:Int))=true:=zdt
   have c0:decide ((0:Int)≤((at_+i:Nat):Int))=true:=zdt
   have c2:((((s.getD (at_+i) 0).toNat:Nat):Int)==((b.toNat:Nat):Int))=false:=by
    rw[zl89]
    intro e
    have e1:(s.getD (at_+i) 0).toNat=b.toNat:=by omega
    have e2:=UInt8.toNat_inj.1 e1
    rw[mG i (by omega)] at e2
    refine hp _ ?_ e2
    rw[getD_eq _ _ _ (by omega)]
    exact zl96 _
   have w:=AX (i:=at_+i) (by omega)
   simp only[F8,c1,c0,zl94,c2,w,zU,dW,pO,zl92]
   rfl
 have h0:=hc p.length 0 (by omega)
 rw[zl50] at h0
 simp only[Cz,cb h0,cv h0,dW,ia]
def SY (s:List UInt8)(at_:Nat)(b:UInt8)(hs:s.length≤4611686018427387904)(ha:at_≤4611686018427387904)(hd:∀x∈s.drop at_,x≠b) :
  Cz (s,(at_:Int),(b.toNat:Int))=some (-1,()):=by
 have hc:∀d i,at_+i+d=max s.length at_→Comes F8 ((((at_+i:Nat):Int),(b.toNat:Int),s),()) (.inr ((),())):=by
  intro d
  induction d with
  |zero=>
   intro i hi
   refine .out ?_
   have c1:decide (((at_+i:Nat):Int)<(s.length:Int))=false:=zdf
   simp only[F8,c1,pO]
  |succ d ih=>
   intro i hi
   refine .again ?_ (ih (i+1) (by omega))
   have hlt:at_+i<s.length:=by omega
   have c1:decide (((at_+i:Nat):Int)<(s.length:Int))=true:=zdt
   have c0:decide ((0:Int)≤((at_+i:Nat):Int))=true:=zdt
   have c2:((((s.getD (at_+i) 0).toNat:Nat):Int)==((b.toNat:Nat):Int))=false:=by
    rw[zl89]
    intro e
    have e1:(s.getD (at_+i) 0).toNat=b.toNat:=by omega
    have e2:=UInt8.toNat_inj.1 e1
    refine hd _ ?_ e2
    rw[getD_eq _ _ _ hlt]
    have:(s.drop at_)[i]'(by simp;omega)=s[at_+i]:=by simp
    rw[←this]
    exact zl96 _
   have w:=AX (i:=at_+i) (by omega)
   simp only[F8,c1,c0,zl94,c2,w,zU,dW,pO,zl92]
   rfl
 have h0:=hc (max s.length at_-at_) 0 (by omega)
 rw[zl50] at h0
 simp only[Cz,cb h0,cv h0,dW,ia]
def X_ (c:UInt8):((bif decide (((c.toNat:Nat):Int)<48) then true else decide (((c.toNat:Nat):Int)>57))=false)↔D7 c:=by
 unfold D7
 by_cases h:c.toNat<48
 ·have:decide (((c.toNat:Nat):Int)<48)=true:=by simp;omega
  simp only[this,dW]
  constructor
  ·intro h;cases h
  ·intro hh;omega
 ·have:decide (((c.toNat:Nat):Int)<48)=false:=by simp;omega
  simp only[this,pO,zl97]
  constructor<;>intro hh<;>omega
def wrapU8 {x:Nat}(h:48≤x)(h':x≤57):IntKind.wrap .u8 ((x:Int)-48)=((x-48:Nat):Int):=by
 simp[IntKind.wrap,IntKind.signed,IntKind.bits]
 omega
def akt (s:List UInt8)(i:Nat)(h:i<s.length):BY (s.take (i+1))=BY (s.take i)*10+(s[i].toNat-48):=by
 rw[zl88 h,Uw]
def IZ (s:List UInt8)(hs:s.length≤4611686018427387904):AD s=some (if isNum s then(BY s:Int) else -1,()):=by
 have hin:=AH (s.length:Int) 1 6
 by_cases hl:1≤s.length∧s.length≤6
 ·have c0:decide ((1:Int)≤(s.length:Int)∧(s.length:Int)≤6)=true:=zdt
  rw[c0] at hin
  by_cases hz:1<s.length∧s.getD 0 0=48
  ·have hn:¬isNum s:=by
    rintro⟨⟨h1,_,h3⟩,_⟩
    rcases h3 with h3|h3
    ·omega
    ·apply h3
     rw[getD_eq _ _ _ (by omega)] at hz
     cases s with
     |nil=>exact absurd rfl h1
     |cons a l=>simp at hz ⊢;exact hz.2
   have d1:decide ((s.length:Int)>1)=true:=zdt
   have d2:decide ((0:Int)<(s.length:Int))=true:=zdt
   have d3:((((s.getD (Int.toNat 0) 0).toNat:Nat):Int)==(48:Int))=true:=by
    rw[show Int.toNat 0=0 from rfl,hz.2];rfl
   simp only[AD,hin,zov hin,d1,d2,d3,cT hn,zU,qu,dW,pO,zl70,zl99,zl92,Int.le_refl,zl73]
  ·have key:∀(b:Bool),b=decide ((s.length:Int)>1)→(bif b then((((s.getD (Int.toNat 0) 0).toNat:Nat):Int)==(48:Int)) else false)=false:=by
    intro b hb
    subst hb
    by_cases h1:1<s.length
    ·have d1:decide ((s.length:Int)>1)=true:=zdt
     simp only[d1,dW,zl89]
     intro e
     apply hz
     refine⟨h1,?_⟩
     rw[show Int.toNat 0=0 from rfl] at e
     have:(s.getD 0 0).toNat=(48:UInt8).toNat:=by simpa using(by omega:(s.getD 0 0).toNat=48)
     exact UInt8.toNat_inj.1 this
    ·have d1:decide ((s.length:Int)>1)=false:=zdf
     simp only[d1,pO]
   have d2:decide ((0:Int)<(s.length:Int))=true:=zdt
   let p:Nat→Bool:=fun i=>decide (D7 (s.getD i 0))
   have hc:=Cs (r:=Mw) (st:=fun i=>(((i:Int),s,(BY (s.take i):Int)),())) (n:=s.length) (p:=p) (yf:=.inl ((-1:Int),())) (yt:=.inr ((BY s:Int),()))
    (fun i hi hprev aJ=>by
     have hp:D7 (s.getD i 0):=zl79 aJ
     have c1:decide ((i:Int)<(s.length:Int))=true:=zdt
     have c2:decide ((0:Int)≤(i:Int))=true:=zdt
     have c3:=(X_ (s.getD i 0)).2 hp
     have hval:BY (s.take i)<10 ^ 6:=by
      have h1:=val_lt (s.take i) fun c hc=>by
       obtain⟨j,hj,e⟩:=zl100 hc
       have hj':j<i:=by simp at hj;omega
       have:=zl79 (hprev j hj')
       rw[getD_eq _ _ _ (by omega)] at this
       rw[←e,List.getElem_take]
       exact this
      have h2:(10:Nat) ^ (s.take i).length≤10 ^ 6:=Nat.pow_le_pow_right (by omega) (by simp;omega)
      omega
     have hg:=getD_eq s i 0 hi
     unfold D7 at hp
     have w1:IntKind.wrap .i64 ((BY (s.take i):Int)*10)=(BY (s.take i):Int)*10:=wrap64 (by omega) (by omega)
     have w2:IntKind.wrap .u8 ((((s.getD i 0).toNat:Nat):Int)-48)=(((s.getD i 0).toNat-48:Nat):Int):=wrapU8 hp.1 hp.2
     have w3:IntKind.wrap .i64 ((((s.getD i 0).toNat-48:Nat):Int))=(((s.getD i 0).toNat-48:Nat):Int):=wrap64 (by omega) (by omega)
     have w4:IntKind.wrap .i64 ((BY (s.take i):Int)*10+(((s.getD i 0).toNat-48:Nat):Int))=(BY (s.take (i+1)):Int):=by
      rw[akt s i hi,wrap64 (by omega) (by omega),hg]
      omega
     simp only[Mw,c1,c2,c3,zl94,w1,w2,w3,w4,AX (i:=i) (by omega),zU,dW,pO,zl99,zl92])
    (fun i hi hprev aJ=>by
     have hp:¬D7 (s.getD i 0):=zl101 aJ
     have c1:decide ((i:Int)<(s.length:Int))=true:=zdt
     have c2:decide ((0:Int)≤(i:Int))=true:=zdt
     have c3:(bif decide ((((s.getD i 0).toNat:Nat):Int)<48) then true else decide ((((s.getD i 0).toNat:Nat):Int)>57))=true:=by
      cases hh:(bif decide ((((s.getD i 0).toNat:Nat):Int)<48) then true else decide ((((s.getD i 0).toNat:Nat):Int)>57)) with
      |true=>rfl
      |false=>exact absurd ((X_ _).1 hh) hp
     simp only[Mw,c1,c2,c3,zl94,zU,dW,zl99,zl92])
    (by
     have c1:decide (((s.length:Nat):Int)<(s.length:Int))=false:=zdf
     simp only[Mw,c1,pO,zl102])
   simp only[List.take_zero] at hc
   rw[show((BY []:Nat):Int)=0 from rfl,show(((0:Nat):Int))=0 from rfl] at hc
   have hiff:ld s.length p=true↔isNum s:=by
    rw[wh]
    constructor
    ·intro h
     refine⟨⟨fun e=>by rw[e] at hl;simp at hl,fun c hc=>?_,?_⟩,hl.2⟩
     ·obtain⟨j,hj,e⟩:=zl100 hc
      have:=zl79 (h j hj)
      rw[getD_eq _ _ _ hj,e] at this
      exact this
     ·by_cases h1:s.length=1
      ·exact .inl h1
      ·right
       intro e
       apply hz
       refine⟨by omega,?_⟩
       cases s with
       |nil=>simp at hl
       |cons a l=>simp at e ⊢;exact e
    ·intro h i hi
     refine zl86 ?_
     rw[getD_eq _ _ _ hi]
     exact h.1.2.1 _ (zl96 _)
   have hk:=key _ rfl
   simp only[AD,hin,zov hin,d2,hk,cb hc,cv hc,zU,qu,dW,pO,zl70,zl99,zl92,Int.le_refl,zl73]
   by_cases hn:isNum s
   ·simp only[bQ (hiff.2 hn),bQ hn]
   ·have:¬ld s.length p=true:=fun h=>hn (hiff.1 h)
    simp only[cT this,cT hn]
 ·have hn:¬isNum s:=by
   rintro⟨⟨h1,_⟩,h2⟩
   apply hl
   refine⟨?_,h2⟩
   rcases zl83 s.length with e|e
   ·exact absurd (eC.1 e) h1
   ·exact e
  have c0:decide ((1:Int)≤(s.length:Int)∧(s.length:Int)≤6)=false:=zdf
  rw[c0] at hin
  simp only[AD,hin,zov hin,cT hn,zU,qu,dW,zl70,zl98,zl74,zl76,zl92]
end Pl
open Go Go.Ab
namespace Pl
set_option maxRecDepth 20000
def rolled_turn:q130=x3:=rfl
def ako (x:Int)(n:Int)(h0:0≤n)(h1:n≤32):qu (x3 (x,n))=true:=by
 have e1:decide ((0:Int)≤IntKind.wrap .i64 (32-n))=true:=by rw[wrap64 (by omega) (by omega)];exact zdt
 have e2:decide ((0:Int)≤n)=true:=zl86 h0
 simp only[x3,e1,e2,zU,qu,zl92,dW]
def wrap32 (x:Int):IntKind.wrap .u32 x=x % 4294967296:=by simp[IntKind.wrap,IntKind.signed,IntKind.bits]
def Fb (n:Nat):List Int:=List.replicate n 0
def akM (l:List Int)(n:Nat):l++Fb n ++ [(0:Int)]=l++Fb (n+1):=by
 rw[Fb,Fb,cZ,List.replicate_succ']
def zn (n:Nat):Nat:=(119-n % 64) % 64
def zn_at (n:Nat):(n+1+zn n) % 64=56:=by unfold zn;omega
def UI (n:Nat):zn n<64:=by unfold zn;omega
def zn_no (n j:Nat)(h:j<zn n):(n+1+j) % 64≠56:=by unfold zn at h;omega
def O6 (n k:Nat):Int.tmod (n:Int) (k:Int)=((n % k:Nat):Int):=by rw[Int.tmod_eq_emod_of_nonneg (by omega)];omega
def L3 (x:List UInt8):List Int:=bytesOf x ++ [128]++Fb (zn x.length)
def Pw (x:List UInt8):(bytesOf x).length=x.length:=by simp[bytesOf]
def Y_ (x:List UInt8):(L3 x).length=x.length+1+zn x.length:=by simp[L3,Fb,Pw];omega
def ag6 (x:List UInt8)(h:x.length≤2147483648):Comes MH (((),x),bytesOf x ++ [128]) (((),x),L3 x):=by
 have h0:=A_ (r:=MH) (fun i=>(((),x),bytesOf x ++ [128]++Fb i)) (n:=zn x.length) (y:=(((),x),L3 x)) (fun i hi=>by
   have hl:(bytesOf x ++ [128]++Fb i).length=x.length+1+i:=by simp[Fb,Pw];omega
   have c1:(Int.tmod ((x.length+1+i:Nat):Int) (64:Int) != (56:Int))=true:=by
    have:=O6 (x.length+1+i) 64
    have h2:=zn_no _ _ hi
    rw[bne_iff_ne]
    intro hc
    rw[show((64:Int))=((64:Nat):Int) from rfl,this] at hc
    omega
   have c2:decide (x.length+1+i+1≤eV)=true:=zl86 (by have:=UI x.length;unfold eV;omega)
   simp only[MH,hl,c1,c2,zU,dW,akM]) (by
   have hl:(bytesOf x ++ [128]++Fb (zn x.length)).length=x.length+1+zn x.length:=by simp[Fb,Pw];omega
   have c1:(Int.tmod ((x.length+1+zn x.length:Nat):Int) (64:Int) != (56:Int))=false:=by
    have:=O6 (x.length+1+zn x.length) 64
    rw[show((64:Int))=((64:Nat):Int) from rfl,this,zn_at];rfl
   simp only[MH,hl,c1,pO];rfl) 0 (lB _)
 simpa[Fb] using h0
def lenB (n:Int)(k:Nat):Int:=IntKind.wrap .u8 (Int.fdiv n ((2:Int) ^ (8*k)))
def GP (n:Int):Nat→List Int
 |0=>[]
 |i+1=>GP n i ++ [lenB n (7-i)]
def S2 (n:Int):∀i,(GP n i).length=i
 |0=>rfl
 |i+1=>by rw[GP,eY,S2 n i];rfl
def afG (l:List Int)(n:Int)(h:l.length≤4294967296):Comes OI ((7,n,()),l) ((),l++GP n 8):=by
 have h0:=A_ (r:=OI) (fun i=>((7-(i:Int),n,()),l++GP n i)) (n:=8) (y:=((),l++GP n 8)) (fun i hi=>by
   have c1:decide ((7-(i:Int))≥0)=true:=zdt
   have w1:IntKind.wrap .i64 (8*(7-(i:Int)))=((8*(7-i):Nat):Int):=by rw[wrap64 (by omega) (by omega)];omega
   have w2:IntKind.wrap .i64 (7-(i:Int)-1)=7-((i+1:Nat):Int):=by rw[wrap64 (by omega) (by omega)];omega
   have c2:decide ((l++GP n i).length+1≤eV)=true:=zl86 (by rw[eY,S2];unfold eV;omega)
   have c3:decide ((0:Int)≤((8*(7-i):Nat):Int))=true:=zdt
   have w3:Min.min (8*(7-i)) (Go.IntKind.bits Go.IntKind.i64)=8*(7-i):=Nat.min_eq_left (by simp[IntKind.bits];omega)
   simp only[OI,c1,w1,w2,c2,c3,zU,zl92,dW,zl94,w3]
   rw[GP,←cZ];rfl) (by rfl) 0 (lB _)
 simpa[GP] using h0
def GY (x:List UInt8):List Int:=L3 x++GP ((x.length:Int)*8) 8
def Za (x:List UInt8):(GY x).length=x.length+1+zn x.length+8:=by simp[GY,Y_,S2]
def ag7 (x:List UInt8):(GY x).length % 64=0:=by rw[Za];have:=zn_at x.length;omega
def ag8 (x:List UInt8)(h:x.length≤2147483648):q85 x=some (GY x,()):=by
 have c1:decide (x.length+1≤eV)=true:=zl86 (by unfold eV;omega)
 have c2:decide (x.length≤eV)=true:=zl86 (by unfold eV;omega)
 have a:=ag6 x h
 have w:IntKind.wrap .i64 ((x.length:Int)*8)=(x.length:Int)*8:=wrap64 (by omega) (by omega)
 have b:=afG (L3 x) ((x.length:Int)*8) (by rw[Y_];have:=UI x.length;omega)
 simp only[q85,Pw,c1,c2,zU,zl92,dW,cb a,cv a,w,cb b,cv b]
 rfl
def word (b:List Int)(o i:Nat):Int:=
 pZ Go.BinOp.or Go.IntKind.u32 (pZ Go.BinOp.or Go.IntKind.u32 (pZ Go.BinOp.or Go.IntKind.u32 (IntKind.wrap .u32 (IntKind.wrap .u32 (List.getD b (o+4*i) (0:Int))*(2:Int) ^ Min.min (Int.toNat (24:Int)) (Go.IntKind.bits Go.IntKind.u32))) (IntKind.wrap .u32 (IntKind.wrap .u32 (List.getD b (o+(4*i+1)) (0:Int))*(2:Int) ^ Min.min (Int.toNat (16:Int)) (Go.IntKind.bits Go.IntKind.u32)))) (IntKind.wrap .u32 (IntKind.wrap .u32 (List.getD b (o+(4*i+2)) (0:Int))*(2:Int) ^ Min.min (Int.toNat (8:Int)) (Go.IntKind.bits Go.IntKind.u32)))) (IntKind.wrap .u32 (List.getD b (o+(4*i+3)) (0:Int)))
def sig (x n m k:Int):Int:=pZ Go.BinOp.xor Go.IntKind.u32 (pZ Go.BinOp.xor Go.IntKind.u32 (zog x3 (x,n)).1 (zog x3 (x,m)).1) (Int.fdiv x ((2:Int) ^ Min.min (Int.toNat k) (Go.IntKind.bits Go.IntKind.u32)))
def ws (b:List Int)(o:Nat):Nat→List Int
 |0=>[]
 |i+1=>ws b o i ++ [if i<16 then word b o i else IntKind.wrap .u32 (IntKind.wrap .u32 (IntKind.wrap .u32 ((ws b o i).getD (i-16) 0+sig ((ws b o i).getD (i-15) 0) 7 18 3)+(ws b o i).getD (i-7) 0)+sig ((ws b o i).getD (i-2) 0) 17 19 10)]
def M_ (b:List Int)(o:Nat):∀i,(ws b o i).length=i
 |0=>rfl
 |i+1=>by rw[ws,eY,M_ b o i];rfl
def w4 {i:Nat}(h:i≤1000):IntKind.wrap .i64 ((4:Int)*(i:Int))=((4*i:Nat):Int):=by rw[wrap64 (by omega) (by omega)];omega
def Rx (b:List Int)(o j:Nat)(h:j<64):(List.take 64 (List.drop o b)).getD j 0=b.getD (o+j) 0:=by
 simp[List.getD,h]
def w41 {i:Nat}(h:i≤100000):IntKind.wrap .i64 ((i:Int)+1)=((i+1:Nat):Int):=by rw[wrap64 (by omega) (by omega)];omega
def w42 {i:Nat}(h:i≤100000):IntKind.wrap .i64 ((i:Int)+2)=((i+2:Nat):Int):=by rw[wrap64 (by omega) (by omega)];omega
def w43 {i:Nat}(h:i≤100000):IntKind.wrap .i64 ((i:Int)+3)=((i+3:Nat):Int):=by rw[wrap64 (by omega) (by omega)];omega
def m2 {i:Nat}(h:i≤1000)(hk:16≤i):IntKind.wrap .i64 ((i:Int)-2)=((i-2:Nat):Int):=by rw[wrap64 (by omega) (by omega)];omega
def m7 {i:Nat}(h:i≤1000)(hk:16≤i):IntKind.wrap .i64 ((i:Int)-7)=((i-7:Nat):Int):=by rw[wrap64 (by omega) (by omega)];omega
def m15 {i:Nat}(h:i≤1000)(hk:16≤i):IntKind.wrap .i64 ((i:Int)-15)=((i-15:Nat):Int):=by rw[wrap64 (by omega) (by omega)];omega
def m16 {i:Nat}(h:i≤1000)(hk:16≤i):IntKind.wrap .i64 ((i:Int)-16)=((i-16:Nat):Int):=by rw[wrap64 (by omega) (by omega)];omega
def g0 (n:Nat):decide ((0:Int)≤(n:Int))=true:=zdt
def gl {n m:Nat}(hn:n<m):decide ((n:Int)<(m:Int))=true:=zdt
def RA (x:Int):qu (x3 (x,7))=true∧qu (x3 (x,18))=true∧qu (x3 (x,17))=true∧qu (x3 (x,19))=true ∧
  qu (x3 (x,6))=true∧qu (x3 (x,11))=true∧qu (x3 (x,25))=true∧qu (x3 (x,2))=true∧qu (x3 (x,13))=true∧qu (x3 (x,22))=true:=by
 refine⟨?_,?_,?_,?_,?_,?_,?_,?_,?_,?_⟩<;>exact ako _ _ (by omega) (by omega)
def adX {X Y:Type}{r:X→Option (X⊕Y)}(st:Nat→X){n:Nat}{y:Y}(k:Nat)(hk:k≤n)(hs:∀i,k≤i→i<n→r (st i)=some (.inl (st (i+1))))(he:r (st n)=some (.inr y)):Comes r (st k) y:=by
 have:=A_ (r:=r) (fun i=>st (k+i)) (n:=n-k) (y:=y) (fun i hi=>hs (k+i) (by omega) (by omega)) (by rw[show k+(n-k)=n by omega];exact he) 0 (lB _)
 simpa using this
def akG (b:List Int)(o:Nat)(h:o+64≤b.length):Md (List.take 64 (List.drop o b))=some (ws b o 64,()):=by
 have hb:(List.take 64 (List.drop o b)).length=64:=by simp;omega
 have a:=A_ (r:=Oz) (fun i=>(((i:Int),List.take 64 (List.drop o b),()),ws b o i)) (n:=16) (y:=((),ws b o 16)) (fun i hi=>by
   have c1:decide ((i:Int)<16)=true:=zdt
   have k0:=w4 (i:=i) (by omega)
   have k1:=w41 (i:=4*i) (by omega)
   have k2:=w42 (i:=4*i) (by omega)
   have k3:=w43 (i:=4*i) (by omega)
   have c2:decide ((ws b o i).length+1≤eV)=true:=zl86 (by rw[M_];unfold eV;omega)
   simp only[Oz,c1,k0,k1,k2,k3,c2,g0,hb,gl (show 4*i<64 by omega),gl (show 4*i+1<64 by omega),gl (show 4*i+2<64 by omega),gl (show 4*i+3<64 by omega),zU,zl92,dW,zl94,zw (i:=i),Rx b o _ (show 4*i<64 by omega),Rx b o _ (show 4*i+1<64 by omega),Rx b o _ (show 4*i+2<64 by omega),Rx b o _ (show 4*i+3<64 by omega)]
   rw[ws,bQ hi];rfl) (by rfl) 0 (lB _)
 have c:=adX (r:=OA) (fun i=>(((i:Int),()),ws b o i)) (n:=64) (y:=((),ws b o 64)) 16 (by omega) (fun i hi0 hi=>by
   have c1:decide ((i:Int)<64)=true:=zdt
   have c2:decide ((ws b o i).length+1≤eV)=true:=zl86 (by rw[M_];unfold eV;omega)
   obtain⟨t7,t18,t17,t19,_⟩:=RA ((ws b o i).getD (i-15) 0)
   obtain⟨_,_,t17,t19,_⟩:=RA ((ws b o i).getD (i-2) 0)
   rw[M_] at c2
   simp only[OA,c1,c2,m2 (show i≤1000 by omega) hi0,m7 (show i≤1000 by omega) hi0,m15 (show i≤1000 by omega) hi0,m16 (show i≤1000 by omega) hi0,g0,M_,gl (show i-2<i by omega),gl (show i-7<i by omega),gl (show i-15<i by omega),gl (show i-16<i by omega),t7,t18,t17,t19,zU,zl92,dW,zl94,zw (i:=i)]
   rw[ws,cT (by omega)];rfl) (by rfl)
 have a':Comes Oz ((0,List.take 64 (List.drop o b),()),[]) ((),ws b o 16):=a
 have c':Comes OA ((16,()),ws b o 16) ((),ws b o 64):=c
 simp only[Md,cb a',cv a',cb c',cv c',dW,ia]
def arr (l:List Int):List Int:=l++Fb (64-l.length)
def big (x n m k:Int):Int:=pZ Go.BinOp.xor Go.IntKind.u32 (pZ Go.BinOp.xor Go.IntKind.u32 (zog x3 (x,n)).1 (zog x3 (x,m)).1) (zog x3 (x,k)).1
def chs (e f g:Int):Int:=pZ Go.BinOp.xor Go.IntKind.u32 (pZ Go.BinOp.and Go.IntKind.u32 e f) (pZ Go.BinOp.and Go.IntKind.u32 (pZ Go.BinOp.xor Go.IntKind.u32 (Go.IntKind.max Go.IntKind.u32) e) g)
def mjr (a b c:Int):Int:=pZ Go.BinOp.xor Go.IntKind.u32 (pZ Go.BinOp.xor Go.IntKind.u32 (pZ Go.BinOp.and Go.IntKind.u32 a b) (pZ Go.BinOp.and Go.IntKind.u32 a c)) (pZ Go.BinOp.and Go.IntKind.u32 b c)
def tee (e f g h k w:Int):Int:=IntKind.wrap .u32 (IntKind.wrap .u32 (IntKind.wrap .u32 (IntKind.wrap .u32 (h+big e 6 11 25)+chs e f g)+k)+w)
def CM (k w:Int):List Int→List Int
 | [a,b,c,d,e,f,g,h]=>[IntKind.wrap .u32 (IntKind.wrap .u32 (tee e f g h k w+big a 2 13 22)+mjr a b c),a,b,c,IntKind.wrap .u32 (d+tee e f g h k w),e,f,g]
 |_=>[0,0,0,0,0,0,0,0]
def aje (k w:Int)(l:List Int):(CM k w l).length=8:=by unfold CM;split<;>rfl
def JI (w h:List Int):Nat→List Int
 |0=>h
 |i+1=>CM (LJ.getD i 0) (w.getD i 0) (JI w h i)
def acD (w h:List Int)(hh:h.length=8):∀i,(JI w h i).length=8
 |0=>hh
 |_i+1=>aje ..
def eight (l:List Int)(h:l.length=8):∃a b c d e f g k,l = [a,b,c,d,e,f,g,k]:=by
 match l,h with
 | [a,b,c,d,e,f,g,k],_=>exact⟨a,b,c,d,e,f,g,k,rfl⟩
def shift8 (a b c d e f g k i m s t:Int)(h l1 l2:List Int):Comes TW ((7,(),(),(),h,i,m,s,t),[a,b,c,d,e,f,g,k],l1,l2) (((),(),(),h,i,m,s,t),[a,a,b,c,d,e,f,g],l1,l2):=
 .again (x':=((6,(),(),(),h,i,m,s,t),[a,b,c,d,e,f,g,g],l1,l2)) rfl <|
 .again (x':=((5,(),(),(),h,i,m,s,t),[a,b,c,d,e,f,f,g],l1,l2)) rfl <|
 .again (x':=((4,(),(),(),h,i,m,s,t),[a,b,c,d,e,e,f,g],l1,l2)) rfl <|
 .again (x':=((3,(),(),(),h,i,m,s,t),[a,b,c,d,d,e,f,g],l1,l2)) rfl <|
 .again (x':=((2,(),(),(),h,i,m,s,t),[a,b,c,c,d,e,f,g],l1,l2)) rfl <|
 .again (x':=((1,(),(),(),h,i,m,s,t),[a,b,b,c,d,e,f,g],l1,l2)) rfl <|
 .again (x':=((0,(),(),(),h,i,m,s,t),[a,a,b,c,d,e,f,g],l1,l2)) rfl <| .out rfl
def W4:q84 ()=some (LJ,()):=rfl
def aji (w h:List Int)(hw:w.length=64)(hh:h.length=8):Comes Oy (((),0,(),(),h),h,w,LJ) (((),h),JI w h 64):=
 A_ (r:=Oy) (fun i=>(((),(i:Int),(),(),h),JI w h i,w,LJ)) (n:=64) (y:=(((),h),JI w h 64)) (fun i hi=>by
  obtain⟨a,b,c,d,e,f,g,k,hs⟩:=eight _ (acD w h hh i)
  have c1:decide ((i:Int)<64)=true:=zdt
  obtain⟨_,_,_,_,t6,t11,t25,_⟩:=RA e
  obtain⟨_,_,_,_,_,_,_,t2,t13,t22⟩:=RA a
  have hk:LJ.length=64:=rfl
  have d4:decide ((4:Int)<((8:Nat):Int))=true:=rfl
  have d5:decide ((5:Int)<((8:Nat):Int))=true:=rfl
  have d6:decide ((6:Int)<((8:Nat):Int))=true:=rfl
  have d7:decide ((7:Int)<((8:Nat):Int))=true:=rfl
  have d0:decide ((0:Int)<((8:Nat):Int))=true:=rfl
  have d1:decide ((1:Int)<((8:Nat):Int))=true:=rfl
  have d2:decide ((2:Int)<((8:Nat):Int))=true:=rfl
  have l8: [a,b,c,d,e,f,g,k].length=8:=rfl
  have q0: [a,b,c,d,e,f,g,k].getD (Int.toNat 0) 0=a:=rfl
  have q1: [a,b,c,d,e,f,g,k].getD (Int.toNat 1) 0=b:=rfl
  have q2: [a,b,c,d,e,f,g,k].getD (Int.toNat 2) 0=c:=rfl
  have q4: [a,b,c,d,e,f,g,k].getD (Int.toNat 4) 0=e:=rfl
  have q5: [a,b,c,d,e,f,g,k].getD (Int.toNat 5) 0=f:=rfl
  have q6: [a,b,c,d,e,f,g,k].getD (Int.toNat 6) 0=g:=rfl
  have q7: [a,b,c,d,e,f,g,k].getD (Int.toNat 7) 0=k:=rfl
  have sh (i m s t:Int):=shift8 a b c d e f g k i m s t h w LJ
  have sb (i m s t:Int):=cb (sh i m s t)
  have sv (i m s t:Int):=cv (sh i m s t) TX
  simp only[Oy,hs,c1,q0,q1,q2,q4,q5,q6,q7,l8,t6,t11,t25,t2,t13,t22,d0,d1,d2,d4,d5,d6,d7,hk,hw,g0,gl hi,zU,zl92,dW,zl94,sb,sv,zw (i:=i)]
  rw[JI,hs];rfl) rfl 0 (lB _)
def Pq:List Int→List Int→List Int
 | [a,b,c,d,e,f,g,h],[a',b',c',d',e',f',g',h']=>[IntKind.wrap .u32 (a+a'),IntKind.wrap .u32 (b+b'),IntKind.wrap .u32 (c+c'),IntKind.wrap .u32 (d+d'),IntKind.wrap .u32 (e+e'),IntKind.wrap .u32 (f+f'),IntKind.wrap .u32 (g+g'),IntKind.wrap .u32 (h+h')]
 |_,_=>[0,0,0,0,0,0,0,0]
def adw (a b:List Int):(Pq a b).length=8:=by unfold Pq;split<;>rfl
def adA (h v:List Int)(hh:h.length=8)(hv:v.length=8):Comes TY ((0,(),h,()),v,[]) ((),Pq h v):=by
 obtain⟨a,b,c,d,e,f,g,k,rfl⟩:=eight _ hh
 obtain⟨a',b',c',d',e',f',g',k',rfl⟩:=eight _ hv
 exact .again rfl <| .again rfl <| .again rfl <| .again rfl <| .again rfl <| .again rfl <| .again rfl <| .again rfl <| .out rfl
def aN (b:List Int)(o:Nat)(h:List Int):List Int:=Pq h (JI (ws b o 64) h 64)
def JX (b:List Int)(h:List Int):Nat→List Int
 |0=>h
 |i+1=>aN b (64*i) (JX b h i)
def R7 (b h:List Int)(hh:h.length=8):∀i,(JX b h i).length=8
 |0=>hh
 |_i+1=>adw ..
def adJ (b h:List Int)(o:Nat)(hb:o+64≤b.length)(hh:h.length=8):KD (h,List.take 64 (List.drop o b))=some (aN b o h,()):=by
 have e1:=akG b o hb
 have a:=aji (ws b o 64) h (M_ ..) hh
 have c:=adA h (JI (ws b o 64) h 64) hh (acD _ _ hh _)
 have c2:decide (0+h.length≤eV)=true:=zl86 (by unfold eV;omega)
 simp only[KD,zov e1,e1,zov W4,W4,qu,zU,c2,zl17,dW,cb a,cv a,cb c,cv c]
 rfl
def akd (b h:List Int)(m:Nat)(hb:b.length=64*m)(hm:m≤100000000)(hh:h.length=8):Comes Mq ((0,(),()),b,h) ((),JX b h m):=
 A_ (r:=Mq) (fun i=>((((64*i:Nat):Int),(),()),b,JX b h i)) (n:=m) (y:=((),JX b h m)) (fun i hi=>by
  have c1:decide (((64*i:Nat):Int)<((64*m:Nat):Int))=true:=gl (by omega)
  have w:IntKind.wrap .i64 (((64*i:Nat):Int)+64)=((64*(i+1):Nat):Int):=by rw[wrap64 (by omega) (by omega)];omega
  have e:=adJ b (JX b h i) (64*i) (by omega) (R7 b h hh i)
  have e64:Int.toNat (((64*(i+1):Nat):Int)-((64*i:Nat):Int))=64:=by omega
  have c2:decide (((64*i:Nat):Int)≤((64*(i+1):Nat):Int))=true:=zdt
  have c3:decide (((64*(i+1):Nat):Int)≤((64*m:Nat):Int))=true:=zdt
  simp only[Mq,hb,c1,w,e64,zl94,e,zov e,qu,c2,c3,g0,zU,zl92,dW]
  rfl) (by
  have c1:decide (((64*m:Nat):Int)<((64*m:Nat):Int))=false:=zdf
  simp only[Mq,hb,c1,pO,ia]) 0 (lB _)
def four (x:Int):List Int:=[IntKind.wrap .u8 (Int.fdiv x ((2:Int) ^ Min.min (Int.toNat (24:Int)) (Go.IntKind.bits Go.IntKind.u32))),IntKind.wrap .u8 (Int.fdiv x ((2:Int) ^ Min.min (Int.toNat (16:Int)) (Go.IntKind.bits Go.IntKind.u32))),IntKind.wrap .u8 (Int.fdiv x ((2:Int) ^ Min.min (Int.toNat (8:Int)) (Go.IntKind.bits Go.IntKind.u32))),IntKind.wrap .u8 x]
def SN:List Int→List Int
 | [a,b,c,d,e,f,g,h]=>[]++four a++four b++four c++four d++four e++four f++four g++four h
 |_=>[]
def ae7 (l:List Int)(h:l.length=8):(SN l).length=32:=by
 obtain⟨a,b,c,d,e,f,g,k,rfl⟩:=eight _ h
 rfl
def ag3 (l:List Int)(h:l.length=8):Comes T0 ((0,(),()),l,[]) ((),SN l):=by
 obtain⟨a,b,c,d,e,f,g,k,rfl⟩:=eight _ h
 exact .again rfl <| .again rfl <| .again rfl <| .again rfl <| .again rfl <| .again rfl <| .again rfl <| .again rfl <| .out rfl
def H0:List Int:=[1779033703,3144134277,1013904242,2773480762,1359893119,2600822924,528734635,1541459225]
def sha (x:List UInt8):List UInt8:=tv (SN (JX (GY x) H0 ((GY x).length / 64)))
def acO (x:List UInt8):(sha x).length=32:=by
 rw[sha,tv,List.length_map,ae7 _ (R7 _ _ rfl _)]
def aj6 (x:List UInt8)(h:x.length≤2147483648):KT x=some (sha x,()):=by
 have e:=ag8 x h
 have hl:=Za x
 have hz:=UI x.length
 have hm:=ag7 x
 have a:=akd (GY x) H0 ((GY x).length / 64) (by omega) (by omega) rfl
 have d:=ag3 _ (R7 (GY x) H0 rfl ((GY x).length / 64))
 unfold H0 at a d
 simp only[KT,e,zov e,qu,zU,dW,cb a,cv a,cb d,cv d]
 rfl
def hexI (n:Nat)(h:n<256):IntKind.wrap .u8 (Int.tdiv (n:Int) 16)=((n / 16:Nat):Int):=by
 have:Int.tdiv (n:Int) 16=((n / 16:Nat):Int):=by rw[zl91 (by omega)];omega
 rw[this];simp[IntKind.wrap,IntKind.signed,IntKind.bits];omega
def hexJ (n:Nat):Int.tmod (n:Int) 16=((n % 16:Nat):Int):=O6 n 16
def hex_eq (s:List UInt8)(h:s.length≤2147483648):∃t,Il s=some (t,())∧t.length=2*s.length:=by
 have main:∀d k,k+d=s.length→∀l:List Int,l.length=2*k→∃l',l'.length=2*s.length∧Comes Mp (((k:Int),s,()),l) ((),l'):=by
  intro d
  induction d with
  |zero=>
   intro k hk l hl
   have:k=s.length:=by omega
   subst this
   have c1:decide ((s.length:Int)<(s.length:Int))=false:=zdf
   exact⟨l,hl,.out (by simp only[Mp,c1,pO])⟩
  |succ d ih=>
   intro k hk l hl
   have c1:decide ((k:Int)<(s.length:Int))=true:=gl (by omega)
   have hb:(s.getD k 0).toNat<256:=(s.getD k 0).toNat_lt
   have c2:decide (l.length+2≤eV)=true:=zl86 (by unfold eV;omega)
   obtain⟨l',h1,h2⟩:=ih (k+1) (by omega) (l ++ [_,_]) (by rw[eY,hl];simp;omega)
   exact⟨l',h1,.again (by
    simp only[Mp,c1,zl94,hexI _ hb,hexJ,g0,c2,gl (show(s.getD k 0).toNat / 16<16 by omega),gl (show(s.getD k 0).toNat % 16<16 by omega),zU,zl92,dW,zw (i:=k)];rfl) h2⟩
 obtain⟨l',h1,h2⟩:=main s.length 0 (by omega) [] rfl
 refine⟨tv l',?_,by rw[tv,List.length_map,h1]⟩
 have h2':Comes Mp ((0,s,()),[]) ((),l'):=h2
 simp only[Il,cb h2',cv h2',dW,ia]
noncomputable def hash (x:List UInt8):List UInt8:=(zog Il (sha x)).1
def XZ (x:List UInt8):Il (sha x)=some (hash x,())∧(hash x).length=64:=by
 obtain⟨t,h1,h2⟩:=hex_eq (sha x) (by rw[acO];omega)
 have:hash x=t:=by rw[hash,zov h1]
 rw[this]
 exact⟨h1,by rw[h2,acO]⟩
def HJ (x:List UInt8):(hash x).length=64:=(XZ x).2
def aj5 (x:List UInt8)(h:x.length≤2147483648):q93 x=some (hash x,()):=by
 have a:=aj6 x h
 have b:=(XZ x).1
 simp only[q93,a,zov a,b,zov b,qu,zU,zl92,dW]
def Fg (n:Nat)(h:n≤9999999):(decDigits n).length≤7:=Sk (by omega) (by omega)
def afN (n:Nat)(r:List UInt8)(hn:n≤9999999)(hr:r.length≤9999999):(CU n r++r).length≤16+r.length:=by
 have:=Fg n hn;have:=Fg r.length hr
 simp only[CU,eY,zl103];omega
def S8 (n:Nat)(r:List UInt8)(hn:n≤9999999)(hr:r.length≤9999999):Ig ((n:Int),r)=some (line hash n r,()):=by
 have d1:=Fg n hn
 have d2:=Fg r.length hr
 have e1:=P7 n (by omega)
 have e2:=P7 r.length (by omega)
 have hl:=afN n r hn hr
 have e3:=aj5 (CU n r++r) (by omega)
 have e4:=HJ (CU n r++r)
 have c1:decide ((decDigits n ++ [(32:UInt8)]++decDigits r.length).length+1≤eV)=true:=zl86 (by simp only[eY,zl103];unfold eV;omega)
 have c2:decide ((decDigits n ++ [(32:UInt8)]).length+(decDigits r.length).length≤eV)=true:=zl86 (by simp only[eY,zl103];unfold eV;omega)
 have c3:decide ((decDigits n).length+1≤eV)=true:=zl86 (by unfold eV;omega)
 have q1:(List.take (Int.toNat ((16:Int)-(0:Int))) (List.drop (Int.toNat (0:Int)) (hash (CU n r++r))))=(hash (CU n r++r)).take 16:=rfl
 have q2:((hash (CU n r++r)).take 16).length=16:=by rw[zl3,e4];rfl
 have lh:(CU n r).length≤16:=by simp only[CU,eY,zl103];omega
 unfold CU at e3 q1 q2 lh
 have c4 (k:Nat) (hk:k≤20000100):decide (k≤eV)=true:=zl86 (by unfold eV;omega)
 have c5:decide ((16:Int)≤((64:Nat):Int))=true:=rfl
 unfold CU at e4
 simp only[Ig,e1,zov e1,e2,zov e2,c1,c2,c3,qu,zU,zl92,dW,e3,zov e3,q1,e4,c5]
 rw[c4 _ (by simp only[eY,zl103,zl3,e4] at lh ⊢;omega),c4 _ (by simp only[eY,zl103,zl3,e4] at lh ⊢;omega),c4 _ (by simp only[eY,zl103,zl3,e4] at lh ⊢;omega),c4 _ (by simp only[eY,zl103,zl3,e4] at lh ⊢;omega),c4 _ (by simp only[eY,zl103] at lh ⊢;omega)]
 rfl
def MY (log:List UInt8)(a:Nat)(p q:List UInt8)(h:log.drop a=p++q):List.take (Int.toNat (((a+p.length:Nat):Int)-(a:Int))) (List.drop a log)=p:=by
 rw[h,show Int.toNat (((a+p.length:Nat):Int)-(a:Int))=p.length by omega,List.take_left'];rfl
def NB (log:List UInt8)(a:Nat)(p q:List UInt8)(h:log.drop a=p++q):log.drop (a+p.length)=q:=by
 rw[←List.drop_drop,h,List.drop_left'];rfl
def NV (log:List UInt8)(a:Nat)(p q:List UInt8)(ha:a≤log.length)(h:log.drop a=p++q):a+p.length+q.length=log.length:=by
 have:=congrArg List.length h
 simp only[zl4,eY] at this;omega
def Yl (n:Nat)(r s:List UInt8):line hash n r++s=decDigits n++32::(decDigits r.length++32::((hash (CU n r++r)).take 16++32::(r++10::s))):=by
 rw[S7];simp
def h16 (n:Nat)(r:List UInt8):((hash (CU n r++r)).take 16).length=16:=by rw[zl3,HJ];rfl
noncomputable def L0 (t:List UInt8) (n:Nat):List UInt8×Int:=match EB hash t n with | none=>([],0)|some r=>(r,((line hash n r).length:Int))
def afD (log:List UInt8)(a n:Nat)(LK:log.length≤9999999)(ha:a≤log.length)(hn:n≤999999) :
  Js (log,(a:Int),(n:Int))=some (L0 (log.drop a) n,()):=by
 unfold L0
 have g0' (k:Nat):decide ((k:Int)<0)=false:=zdf
 have le (x y:Nat) (h:x≤y):decide ((x:Int)≤(y:Int))=true:=zdt
 cases hx:EB hash (log.drop a) n with
 |some r=>
  obtain⟨hr1,hr2,s,hs⟩:=Kg hash hx
  rw[Yl] at hs
  have hs:=hs.symm
  have f1:=LP log (decDigits n) _ a 32 (by omega) hs (HE n)
  have l1:=NV _ _ _ _ ha hs
  have t1:=MY _ _ _ _ hs
  have n1:=IZ (decDigits n) (by have:=Fg n (by omega);omega)
  rw[bQ (SX hn),Nw] at n1
  have GJ:log.drop (a+(decDigits n).length+1)=decDigits r.length++32::((hash (CU n r++r)).take 16++32::(r++10::s)):=by
   have:=NB log a (decDigits n ++ [32]) (decDigits r.length++32::((hash (CU n r++r)).take 16++32::(r++10::s))) (by rw[hs];simp)
   rw[eY,zl103,←iM] at this;exact this
  have l2:=NV _ _ _ _ (by simp at l1;omega) GJ
  have f2:=LP log (decDigits r.length) _ _ 32 (by omega) GJ (HE _)
  have t2:=MY _ _ _ _ GJ
  have n2:=IZ (decDigits r.length) (by have:=Fg r.length (by omega);omega)
  rw[bQ (SX (by omega)),Nw] at n2
  have hs3:log.drop (a+(decDigits n).length+1+(decDigits r.length).length+18)=r++10::s:=by
   have:=NB log _ (decDigits r.length++32::((hash (CU n r++r)).take 16 ++ [32])) (r++10::s) (by rw[GJ];simp)
   rw[←this];congr 1
   simp only[eY,zl6,rA,h16];omega
  have l3:=NV _ _ _ _ (by simp only[eY,zl6,h16] at l2;omega) hs3
  simp only[zl6] at l3
  have t3:=MY _ _ _ _ hs3
  have ls:=S8 n r (by omega) (by omega)
  have hw:line hash n r++s=log.drop a:=by rw[Yl];exact hs.symm
  have hll:=S6 hash HJ n r
  have t4:=MY _ _ _ _ hw.symm
  have w1:=AX (i:=a+(decDigits n).length) (by omega)
  have w2:IntKind.wrap .i64 (((a+(decDigits n).length+1+(decDigits r.length).length:Nat):Int)+18)=((a+(decDigits n).length+1+(decDigits r.length).length+18:Nat):Int):=by rw[wrap64 (by omega) (by omega)];omega
  have w3:IntKind.wrap .i64 (((a+(decDigits n).length+1+(decDigits r.length).length+18:Nat):Int)+(r.length:Int))=((a+(decDigits n).length+1+(decDigits r.length).length+18+r.length:Nat):Int):=by rw[wrap64 (by omega) (by omega)];omega
  have w4:=AX (i:=a+(decDigits n).length+1+(decDigits r.length).length+18+r.length) (by omega)
  have e5:a+(decDigits n).length+1+(decDigits r.length).length+18+r.length+1=a+(line hash n r).length:=by omega
  rw[e5] at w4
  have cin:=AH (r.length:Int) 1 500
  rw[zl86 (show(1:Int)≤(r.length:Int)∧(r.length:Int)≤500 from⟨by omega,by omega⟩)] at cin
  have c6:decide (((a+(line hash n r).length:Nat):Int)>(log.length:Int))=false:=zdf
  have c7:(((n:Int)) != (n:Int))=false:=by simp
  have c8:(line hash n r==line hash n r)=true:=zl95 _
  have f1':Cz (log,(a:Int),32)=_:=f1
  have f2':Cz (log,((a+(decDigits n).length+1:Nat):Int),32)=_:=f2
  simp only[Js,f1',zov f1',zl94,g0',t1,n1,zov n1,c7,pO,qu,zl99,le a (a+(decDigits n).length) (by omega),le (a+(decDigits n).length) log.length (by omega),g0,zU,zl92,dW,w1,f2',zov f2',t2,n2,zov n2,le (a+(decDigits n).length+1) (a+(decDigits n).length+1+(decDigits r.length).length) (by omega),le (a+(decDigits n).length+1+(decDigits r.length).length) log.length (by omega),cin,zov cin,zl70,w2,w3,w4,c6,t3,ls,zov ls,le (a+(decDigits n).length+1+(decDigits r.length).length+18) (a+(decDigits n).length+1+(decDigits r.length).length+18+r.length) (by omega),le (a+(decDigits n).length+1+(decDigits r.length).length+18+r.length) log.length (by omega),le a (a+(line hash n r).length) (by omega),le (a+(line hash n r).length) log.length (by omega),t4,c8,zl70]
 |none=>
  simp only
  rcases Uk 32 (log.drop a) with h1|⟨p,q,hs,hp⟩
  ·have f1:Cz (log,(a:Int),32)=_:=SY log a 32 (by omega) (by omega) h1
   have c1:decide ((-1:Int)<0)=true:=rfl
   simp only[Js,f1,zov f1,c1,qu,zl70,zU,dW]
   rfl
  have f1:Cz (log,(a:Int),32)=_:=LP log p _ a 32 (by omega) hs hp
  have l1:=NV _ _ _ _ ha hs
  have t1:=MY _ _ _ _ hs
  simp only[zl6] at l1
  have n1:=IZ p (by omega)
  have w1:=AX (i:=a+p.length) (by omega)
  simp only[Js,f1,zov f1,zl94,g0',t1,n1,zov n1,pO,qu,zl99,le a (a+p.length) (by omega),le (a+p.length) log.length (by omega),g0,zU,zl92,dW,w1]
  cases hm:((if isNum p then(BY p:Int) else -1) != (n:Int)) with
  |true=>rfl
  |false=>
  simp only[pO]
  have GJ:log.drop (a+p.length+1)=q:=by
   have:=NB log a (p ++ [32]) q (by rw[hs];simp)
   rw[eY,zl103,←iM] at this;exact this
  rcases Uk 32 q with h2|⟨p2,q2,hq,hp2⟩
  ·have f2:Cz (log,((a+p.length+1:Nat):Int),32)=_:=SY log (a+p.length+1) 32 (by omega) (by omega) (by rw[GJ];exact h2)
   have c1:decide ((-1:Int)<0)=true:=rfl
   simp only[f2,zov f2,c1,dW]
  rw[hq] at GJ
  have l2:=NV _ _ _ _ (by omega) GJ
  simp only[zl6] at l2
  have f2:Cz (log,((a+p.length+1:Nat):Int),32)=_:=LP log p2 _ _ 32 (by omega) GJ hp2
  have t2:=MY _ _ _ _ GJ
  have n2:=IZ p2 (by omega)
  have cin:=AH (if isNum p2 then(BY p2:Int) else -1) 1 500
  have w2:IntKind.wrap .i64 (((a+p.length+1+p2.length:Nat):Int)+18)=((a+p.length+1+p2.length+18:Nat):Int):=by rw[wrap64 (by omega) (by omega)];omega
  simp only[f2,zov f2,g0',pO,t2,n2,zov n2,le (a+p.length+1) (a+p.length+1+p2.length) (by omega),le (a+p.length+1+p2.length) log.length (by omega),cin,zov cin,w2,dW]
  by_cases hk:(1:Int)≤(if isNum p2 then(BY p2:Int) else -1)∧(if isNum p2 then(BY p2:Int) else -1)≤500
  ·obtain⟨k,hk1,hk2,hkv⟩:∃k:Nat,1≤k∧k≤500∧(if isNum p2 then(BY p2:Int) else -1)=(k:Int):=by
    refine⟨Int.toNat (if isNum p2 then(BY p2:Int) else -1),?_,?_,?_⟩<;>omega
   have w3:IntKind.wrap .i64 (((a+p.length+1+p2.length+18:Nat):Int)+(k:Int))=((a+p.length+1+p2.length+18+k:Nat):Int):=by rw[wrap64 (by omega) (by omega)];omega
   have w4:=AX (i:=a+p.length+1+p2.length+18+k) (by omega)
   simp only[hkv,zl86 (show(1:Int)≤(k:Int)∧(k:Int)≤500 from⟨by omega,by omega⟩),zl70,pO,w3,w4]
   cases hc:decide (((a+p.length+1+p2.length+18+k+1:Nat):Int)>(log.length:Int)) with
   |true=>rfl
   |false=>
   have aI:=zl101 hc
   simp only[pO]
   have e1:Int.toNat (((a+p.length+1+p2.length+18+k:Nat):Int)-((a+p.length+1+p2.length+18:Nat):Int))=k:=by omega
   have hrl:(List.take k (List.drop (a+p.length+1+p2.length+18) log)).length=k:=by rw[zl3,zl4];omega
   have ls:=S8 n (List.take k (List.drop (a+p.length+1+p2.length+18) log)) (by omega) (by omega)
   simp only[e1,ls,zov ls,le (a+p.length+1+p2.length+18) (a+p.length+1+p2.length+18+k) (by omega),le (a+p.length+1+p2.length+18+k) log.length (by omega),le (a+p.length+1+p2.length+18+k+1) log.length (by omega),le a (a+p.length+1+p2.length+18+k+1) (by omega),dW,zl94,zl92,g0]
   cases hb:(List.take (Int.toNat (((a+p.length+1+p2.length+18+k+1:Nat):Int)-(a:Int))) (List.drop a log)==line hash n (List.take k (List.drop (a+p.length+1+p2.length+18) log))) with
   |false=>rfl
   |true=>
    exfalso
    have hb':=eq_of_beq hb
    have:Nl hash (log.drop a) n (List.take k (List.drop (a+p.length+1+p2.length+18) log)):=by
     refine⟨by omega,by omega,?_⟩
     rw[←hb'];exact List.take_prefix _ _
    rw[agU hash HJ this] at hx
    cases hx
  ·rw[zl90 hk]
   rfl
def afU (t:List UInt8)(n:Nat):Cd hash (t.length+1) t n=match EB hash t n with
  |none=>([],0)
  |some r=>(r::(Cd hash ((t.drop (line hash n r).length).length+1) (t.drop (line hash n r).length) (n+1)).1,(line hash n r).length+(Cd hash ((t.drop (line hash n r).length).length+1) (t.drop (line hash n r).length) (n+1)).2):=by
 cases h:EB hash t n with
 |none=>exact afT hash h
 |some r=>exact afS hash HJ h
def Yj (log:List UInt8)(LK:log.length≤9999999):∀(d a:Nat) (l:List (List UInt8)),a≤log.length→log.length-a≤d→20*l.length≤a →
  Comes Mm (((a:Int),(),log),l) (((),((a+(Cd hash ((log.drop a).length+1) (log.drop a) l.length).2:Nat):Int)),l++(Cd hash ((log.drop a).length+1) (log.drop a) l.length).1)
 |d,a,l,ha,hd,hl=>by
  have e:=afD log a l.length LK ha (by omega)
  rw[afU]
  cases hx:EB hash (log.drop a) l.length with
  |none=>
   refine .out ?_
   have ev:L0 (log.drop a) l.length=([],0):=by rw[L0,hx]
   rw[ev] at e
   simp only[Mm,e,zov e,qu,zU,dW]
   simp
  |some r=>
   have ev:L0 (log.drop a) l.length=(r,((line hash l.length r).length:Int)):=by rw[L0,hx]
   rw[ev] at e
   have hp:=Qb hash HJ l.length r
   have hle:(line hash l.length r).length≤(log.drop a).length:=(Kg hash hx).2.2.length_le
   rw[zl4] at hle
   have c1:(((line hash l.length r).length:Int)==0)=false:=zl89.2 (by omega)
   have c2:decide (l.length+1≤eV)=true:=zl86 (by unfold eV;omega)
   have w:IntKind.wrap .i64 ((a:Int)+((line hash l.length r).length:Int))=((a+(line hash l.length r).length:Nat):Int):=by rw[wrap64 (by omega) (by omega)];omega
   match d with
   |0=>omega
   |d+1=>
    have ih:=Yj log LK d (a+(line hash l.length r).length) (l ++ [r]) (by omega) (by omega) (by simp;omega)
    refine .again ?_ (x':=((((a+(line hash l.length r).length:Nat):Int),(),log),l ++ [r])) ?_
    ·simp only[Mm,e,zov e,qu,zU,dW,c1,pO,c2,w]
    ·rw[←List.drop_drop,eY,zl103,cZ] at ih
     simp only[zl104] at ih
     simpa[iM] using ih
def P8 (log:List UInt8)(LK:log.length≤9999999):Fu log=some (((DF hash log).1,((DF hash log).2:Int)),()):=by
 have h:=Yj log LK log.length 0 [] (by omega) (by omega) (by simp)
 have h':Comes Mm ((0,(),log),[]) (((),((DF hash log).2:Int)),(DF hash log).1):=by simpa[DF] using h
 simp only[Fu,cb h',cv h',dW,ia]
def wi {x:Int}{y:Nat}(h:x=(y:Int))(hy:y≤4611686018427387904):IntKind.wrap .i64 x=(y:Int):=by rw[h,wrap64 (by omega) (by omega)]
def first:Nat→(Nat→Bool)→Option Nat
 |0,_=>none
 |n+1,p=>match first n p with | some i=>some i|none=>if p n=true then some n else none
def CE {p:Nat→Bool}:∀{n i:Nat},first n p=some i↔i<n∧p i=true∧∀j,j<i→p j=false
 |0,i=>by simp[first]
 |n+1,i=>by
  rw[first]
  cases h:first n p with
  |some k=>
   obtain⟨h1,h2,h3⟩:=CE.1 h
   simp only[aX]
   constructor
   ·rintro rfl;exact⟨by omega,h2,h3⟩
   ·rintro⟨g1,g2,g3⟩
    rcases Nat.lt_trichotomy k i with h4|h4|h4
    ·rw[g3 k h4] at h2;cases h2
    ·exact h4
    ·rw[h3 i h4] at g2;cases g2
  |none=>
   have hn:∀j,j<n→p j=false:=by
    intro j hj
    cases hp:p j with
    |false=>rfl
    |true=>
     exfalso
     have:∀m,m≤n→(∃i,i<m∧p i=true)→first m p≠none:=by
      intro m
      induction m with
      |zero=>rintro _ ⟨i,hi,_⟩;omega
      |succ m ih=>
       rintro hm ⟨i,hi,aJ⟩
       rw[first]
       cases hf:first m p with
       |some _=>simp
       |none=>
        have:i=m:=by
         rcases Nat.lt_or_ge i m with h5|h5
         ·exact absurd hf (ih (by omega) ⟨i,h5,aJ⟩)
         ·omega
        subst this
        simp[aJ]
     exact this n (bA _) ⟨j,hj,hp⟩ h
   simp only
   constructor
   ·intro h1
    split at h1
    ·cases h1;rename_i hp;exact⟨by omega,hp,hn⟩
    ·cases h1
   ·rintro⟨g1,g2,g3⟩
    have:i=n:=by
     rcases Nat.lt_or_ge i n with h5|h5
     ·rw[hn i h5] at g2;cases g2
     ·omega
    subst this
    rw[bQ g2]
def NH {p:Nat→Bool}{n:Nat}:first n p=none↔∀j,j<n→p j=false:=by
 constructor
 ·intro h j hj
  cases hp:p j with
  |false=>rfl
  |true=>
   exfalso
   have:∀m,(∃i,i<m∧p i=true)→∃i,first m p=some i:=by
    intro m
    induction m with
    |zero=>rintro⟨i,hi,_⟩;omega
    |succ m ih=>
     rintro⟨i,hi,aJ⟩
     rw[first]
     cases hf:first m p with
     |some k=>exact⟨k,rfl⟩
     |none=>
      by_cases hm:p m=true
      ·exact⟨m,by simp[hm]⟩
      ·have:i≠m:=by rintro rfl;exact hm aJ
       obtain⟨k,hk⟩:=ih ⟨i,by omega,aJ⟩
       rw[hf] at hk;cases hk
   obtain⟨k,hk⟩:=this n ⟨j,hj,hp⟩
   rw[h] at hk;cases hk
 ·intro h
  cases hf:first n p with
  |none=>rfl
  |some i=>
   obtain⟨h1,h2,_⟩:=CE.1 hf
   rw[h i h1] at h2;cases h2
def El {X Y:Type}{r:X→Option (X⊕Y)}(st:Nat→X){n:Nat}{p:Nat→Bool}{yt:Nat→Y}{yn:Y}(hs:∀i,i<n→p i=false→r (st i)=some (.inl (st (i+1))))
  (hf:∀i,i<n→p i=true→r (st i)=some (.inr (yt i))) (he:r (st n)=some (.inr yn)):Comes r (st 0) (match first n p with | some i=>yt i|none=>yn):=by
 rcases adW st hs hf he with⟨i,h1,h2,h3,h4⟩|⟨h1,h2⟩
 ·rw[CE.2 ⟨h1,h2,h3⟩];exact h4
 ·rw[NH.2 h1];exact h2
def R6 (a b:UInt8)(x y:List UInt8):Op.bytesLess (a::x) (b::y)=true↔a<b∨(a=b∧Op.bytesLess x y=true):=by
 rw[Op.bytesLess]
 by_cases h1:a<b<;>by_cases h2:a=b<;>simp[h1,h2]
def WT:∀(x y z:List UInt8),Op.bytesLess x y=true→Op.bytesLess y z=true→Op.bytesLess x z=true
 |_,[],_,h,_=>by cases ‹List UInt8› <;>simp[Op.bytesLess] at h
 |_,_::_,[],_,h=>by simp[Op.bytesLess] at h
 | [],_::_,_::_,_,_=>by simp[Op.bytesLess]
 |a::x,b::y,c::z,h,h'=>by
  rw[R6] at h h' ⊢
  rcases h with h|⟨rfl,h⟩<;>rcases h' with h'|⟨e,h'⟩
  ·left;rw[zl107] at h h' ⊢;omega
  ·subst e;exact .inl h
  ·exact .inl h'
  ·subst e;exact .inr ⟨rfl,WT x y z h h'⟩
def WQ:∀(x y:List UInt8),Op.bytesLess x y=true∨x=y∨Op.bytesLess y x=true
 | [],[]=>by simp
 |_::_,[]=>by simp[Op.bytesLess]
 | [],_::_=>by simp[Op.bytesLess]
 |a::x,b::y=>by
  rw[R6,R6]
  rcases Nat.lt_trichotomy a.toNat b.toNat with h|h|h
  ·exact .inl (.inl (zl107.2 h))
  ·have:a=b:=UInt8.toNat_inj.1 h
   subst this
   rcases WQ x y with h1|h1|h1
   ·exact .inl (.inr ⟨rfl,h1⟩)
   ·exact .inr (.inl (by rw[h1]))
   ·exact .inr (.inr (.inr ⟨rfl,h1⟩))
  ·exact .inr (.inr (.inl (zl107.2 h)))
abbrev It:Type:=Int×List UInt8×Int×List UInt8×Unit
abbrev Ct:Type:=Int×List It×Unit
def z0:It:=((0:Int),[],(0:Int),[],())
def th (a:It)(h:Int)(n:List UInt8):Bool:=bif decide (a.1<h) then true else bif a.1==h then Op.bytesLess a.2.1 n else false
def SZ (a:It)(h:Int)(n:List UInt8):Jt (a,h,n)=some (th a h n,()):=rfl
def S5 {a:It}{h:Int}{n:List UInt8}:th a h n=true↔a.1<h∨(a.1=h∧Op.bytesLess a.2.1 n=true):=by
 unfold th
 by_cases h1:a.1<h
 ·simp[h1]
 ·by_cases h2:a.1=h<;>simp[h1,h2]
def afM {a b c:It}(h:th a b.1 b.2.1=true)(h':th b c.1 c.2.1=true):th a c.1 c.2.1=true:=by
 rw[S5] at h h' ⊢
 rcases h with h|⟨h1,h2⟩<;>rcases h' with h'|⟨h3,h4⟩
 ·left;omega
 ·left;omega
 ·left;omega
 ·exact .inr ⟨by omega,WT _ _ _ h2 h4⟩
def afL {a b:It}(hk:¬(a.1=b.1∧a.2.1=b.2.1))(h:th a b.1 b.2.1=false):th b a.1 a.2.1=true:=by
 rw[Bool.eq_false_iff,Ne,S5] at h
 rw[S5]
 rcases Int.lt_trichotomy a.1 b.1 with h1|h1|h1
 ·exact absurd (.inl h1) h
 ·rcases WQ a.2.1 b.2.1 with h2|h2|h2
  ·exact absurd (.inr ⟨h1,h2⟩) h
  ·exact absurd ⟨h1,h2⟩ hk
  ·exact .inr ⟨h1.symm,h2⟩
 ·exact .inl h1
def EA (s:List UInt8):Bool:=ld s.length (fun i=>decide (97≤(s.getD i 0).toNat∧(s.getD i 0).toNat≤122))&&decide (1≤s.length∧s.length≤6)
def Y1 (c:Nat):(bif decide ((c:Int)<97) then true else decide ((c:Int)>122)) = !decide (97≤c∧c≤122):=by
 by_cases h1:(c:Int)<97
 ·rw[zl86 h1,dW,zdf];rfl
 ·rw[zl90 h1,pO]
  by_cases h2:(c:Int)>122
  ·rw[zl86 h2,zdf];rfl
  ·rw[zl90 h2,zdt];rfl
def Rn (s:List UInt8)(hs:s.length≤9999999):DU s=some (EA s,()):=by
 have h:=Cs (r:=Fs) (fun i=>(((i:Int),s),())) (n:=s.length) (p:=fun i=>decide (97≤(s.getD i 0).toNat∧(s.getD i 0).toNat≤122)) (yf:=.inl (false,())) (yt:=.inr (s,())) (fun i hi _ hp=>by
   have hp':decide (97≤(s.getD i 0).toNat∧(s.getD i 0).toNat≤122)=true:=hp
   simp only[Fs,gl hi,g0,zl94,Y1,hp',zl99,zU,zl92,dW,zl70,pO,zw (i:=i)]) (fun i hi _ hp=>by
   have hp':decide (97≤(s.getD i 0).toNat∧(s.getD i 0).toNat≤122)=false:=hp
   simp only[Fs,gl hi,g0,zl94,Y1,hp',zl99,zU,zl92,dW,zl98]) (by
   have c1:decide ((s.length:Int)<(s.length:Int))=false:=zdf
   simp only[Fs,c1,pO])
 have h':Comes Fs ((0,s),()) _:=h
 have cin:=AH (s.length:Int) 1 6
 simp only[DU,cb h',cv h',dW,ia]
 unfold EA
 cases hp:ld s.length (fun i=>decide (97≤(s.getD i 0).toNat∧(s.getD i 0).toNat≤122)) with
 |false=>rfl
 |true=>
  have e:decide ((1:Int)≤(s.length:Int)∧(s.length:Int)≤6)=decide (1≤s.length∧s.length≤6):=by congr 1;simp only[eq_iff_iff];omega
  simp only[fE]
  dsimp only[sumC]
  simp only[cin,zov cin,qu,dW,e,zl108]
def Y2 (s:List UInt8)(h:EA s=true)(c:UInt8)(hc:c.toNat<97):∀x∈s,x≠c:=by
 unfold EA at h
 rw[bB,wh] at h
 intro x hx e
 subst e
 obtain⟨i,hi,rfl⟩:=zl100 hx
 have:=zl79 (h.1 i hi)
 rw[getD_eq _ _ _ hi] at this
 omega
def Kf (s:List UInt8)(h:EA s=true):1≤s.length∧s.length≤6:=by
 unfold EA at h
 rw[bB] at h
 exact zl79 h.2
def EC (h:Int)(n t:List UInt8):Bool:=decide (0≤h∧h≤1)&&EA n&&decide (1≤t.length∧t.length≤300)
def P_ (t:It)(h1:t.2.1.length≤9999999):Hf t=some (EC t.1 t.2.1 t.2.2.2.1,()):=by
 have a:=AH t.1 0 1
 have b:=Rn t.2.1 h1
 have c:=AH (t.2.2.2.1.length:Int) 1 300
 have e:decide ((1:Int)≤(t.2.2.2.1.length:Int)∧(t.2.2.2.1.length:Int)≤300)=decide (1≤t.2.2.2.1.length∧t.2.2.2.1.length≤300):=by congr 1;simp only[eq_iff_iff];omega
 rw[e] at c
 simp only[Hf,a,zov a,b,zov b,c,zov c,qu,zU,zl99,zl92,dW,EC]
 cases decide (0≤t.1∧t.1≤1)<;>cases EA t.2.1<;>rfl
def r_ (l:List It)(h:Int):Nat:=(l.map fun t=>if t.1=h then t.2.2.2.1.length else 0).sum
def adN (l:List It)(h:Int)(i:Nat)(hi:i<l.length):r_ (l.take (i+1)) h=r_ (l.take i) h+if(l.getD i z0).1=h then(l.getD i z0).2.2.2.1.length else 0:=by
 rw[getD_eq _ _ _ hi,zl88 hi,r_,zl54,List.sum_append]
 simp only[mT,List.map_nil,zl82,List.sum_nil,zl50]
 rfl
def Np (a b:List It)(h:Int):r_ (a++b) h=r_ a h+r_ b h:=by simp[r_]
def Ug (l:List It)(h:Int)(hl:r_ l h≤9999999)(hn:l.length≤9999999):Jk (l,h)=some ((r_ l h:Int),()):=by
 have mono:∀i,i≤l.length→r_ (l.take i) h≤r_ l h:=by
  intro i hi
  have:r_ l h=r_ (l.take i) h+r_ (l.drop i) h:=by rw[←Np,zl68]
  omega
 have c:=A_ (r:=KE) (fun i=>(((i:Int),l,(r_ (l.take i) h:Int),h),())) (n:=l.length) (y:=((r_ l h:Int),())) (fun i hi=>by
  have hb:=adN l h i hi
  have hm:=mono (i+1) hi
  have h0:=mono i (by omega)
  by_cases hh:(l.getD i z0).1=h
  ·rw[bQ hh] at hb
   have c1:((l.getD i z0).1==h)=true:=zl78.2 hh
   have w:IntKind.wrap .i64 ((r_ (l.take i) h:Int)+((l.getD i z0).2.2.2.1.length:Int))=(r_ (l.take (i+1)) h:Int):=wi (by omega) (by omega)
   unfold z0 at c1 w
   simp only[KE,gl hi,g0,zl94,c1,w,zU,zl92,dW,zw (i:=i)]
  ·rw[cT hh] at hb
   have c1:((l.getD i z0).1==h)=false:=zl89.2 hh
   unfold z0 at c1
   simp only[KE,gl hi,g0,zl94,c1,zU,zl92,dW,pO,hb,zl50,zw (i:=i)]) (by
  have c1:decide ((l.length:Int)<(l.length:Int))=false:=zdf
  simp only[KE,c1,pO,zl102]) 0 (lB _)
 have c':Comes KE ((0,l,0,h),()) ((r_ l h:Int),()):=c
 simp only[Jk,cb c',cv c',dW,ia]
def C9 (l:List It)(h:Int)(n:List UInt8):Option Nat:=first l.length fun i=>(l.getD i z0).1==h&&(l.getD i z0).2.1==n
def Cr:Option Nat→Int
 |some i=>(i:Int)
 |none=> -1
def OZ (c:Ct)(h:Int)(n:List UInt8)(hn:c.2.1.length≤9999999):Ge (c,h,n)=some (Cr (C9 c.2.1 h n),()):=by
 obtain⟨ce,l,u⟩:=c
 have hl:l.length≤9999999:=hn
 have q:=El (r:=K0) (fun i=>(((i:Int),n,(),h),(ce,l,u))) (n:=l.length) (p:=fun i=>(l.getD i z0).1==h&&(l.getD i z0).2.1==n) (yt:=fun i=>.inl ((i:Int),())) (yn:=.inr ((),())) (fun i hi hp=>by
   have hp':(bif(l.getD i z0).1==h then(l.getD i z0).2.1==n else false)=false:=by
    cases e:((l.getD i z0).1==h) with
    |false=>rfl
    |true=>simp only[e,zl108] at hp;exact hp
   unfold z0 at hp'
   simp only[K0,gl hi,g0,zl94,hp',zl99,zU,zl92,dW,pO,zw (i:=i)]) (fun i hi hp=>by
   have hp':(bif(l.getD i z0).1==h then(l.getD i z0).2.1==n else false)=true:=by
    cases e:((l.getD i z0).1==h) with
    |false=>simp only[e,zl93] at hp;cases hp
    |true=>simp only[e,zl108] at hp;exact hp
   unfold z0 at hp'
   simp only[K0,gl hi,g0,zl94,hp',zl99,zU,zl92,dW]) (by
   have c1:decide ((l.length:Int)<(l.length:Int))=false:=zdf
   simp only[K0,c1,pO])
 have q':Comes K0 ((0,n,(),h),(ce,l,u)) _:=q
 simp only[Ge,cb q',cv q',dW,C9,ia]
 cases first l.length (fun i=>(l.getD i z0).1==h&&(l.getD i z0).2.1==n)<;>rfl
def lt2 (a b:It):Prop:=th a b.1 b.2.1=true
def mw (l:List It)(h:Int)(n:List UInt8):Nat:=match first l.length (fun i=> !th (l.getD i z0) h n) with | some i=>i|none=>l.length
def Ov (l:List It)(h:Int)(n:List UInt8):mw l h n≤l.length:=by
 unfold mw;split
 ·rename_i hf;have:=(CE.1 hf).1;omega
 ·exact bA _
def pos_lt (l:List It)(h:Int)(n:List UInt8):∀j,j<mw l h n→th (l.getD j z0) h n=true:=by
 unfold mw;split
 ·rename_i hf
  intro j hj
  have:=(CE.1 hf).2.2 j hj
  simpa using this
 ·rename_i hf
  intro j hj
  have:=NH.1 hf j hj
  simpa using this
def pos_ge (l:List It)(h:Int)(n:List UInt8)(hk:mw l h n<l.length):th (l.getD (mw l h n) z0) h n=false:=by
 revert hk
 unfold mw;split
 ·rename_i hf
  intro _
  have:=(CE.1 hf).2.1
  simpa using this
 ·intro hk;omega
def Tx {R:It→It→Prop}{l:List It}(h:l.Pairwise R){i j:Nat}(hij:i<j)(hj:j<l.length):R (l.getD i z0) (l.getD j z0):=by
 rw[getD_eq _ _ _ (by omega),getD_eq _ _ _ hj]
 exact List.pairwise_iff_getElem.1 h i j (by omega) hj hij
def pos_gt (l:List It)(t:It)(hs:l.Pairwise lt2)(hk:C9 l t.1 t.2.1=none):∀j,mw l t.1 t.2.1≤j→j<l.length→th t (l.getD j z0).1 (l.getD j z0).2.1=true:=by
 intro j hj hl
 have h0:=pos_ge l t.1 t.2.1 (by omega)
 have hne (i:Nat) (hi:i<l.length):¬((l.getD i z0).1=t.1∧(l.getD i z0).2.1=t.2.1):=by
  have:=NH.1 hk i hi
  rintro⟨h1,h2⟩
  rw[h1,h2] at this
  simp at this
 have h1:=afL (hne _ (by omega)) h0
 rcases Nat.lt_or_ge (mw l t.1 t.2.1) j with h2|h2
 ·exact afM h1 (Tx hs h2 hl)
 ·have:j=mw l t.1 t.2.1:=by omega
  rw[this];exact h1
def FP (l:List It)(t:It):List It:=l.take (mw l t.1 t.2.1)++t::l.drop (mw l t.1 t.2.1)
structure BK (c:Ct):Prop where
 ed:0≤c.1∧c.1≤99999
 len:c.2.1.length≤8
 ok:∀t∈c.2.1,EC t.1 t.2.1 t.2.2.2.1=true
 eds:∀t∈c.2.1,1≤t.2.2.1∧t.2.2.1≤c.1
 Gt:c.2.1.Pairwise lt2
 dis:c.2.1.Pairwise (fun a b=>a.2.2.1≠b.2.2.1)
 GF:∀h:Int,r_ c.2.1 h≤500
def Dv (c:Ct)(h:Int)(n t:List UInt8):Ct×Int:=
 bif !EC h n t then(c,1) else match C9 c.2.1 h n with
  |some _=>(c,2)
  |none=>if 8≤c.2.1.length∨99999≤c.1∨500<r_ c.2.1 h+t.length then(c,4) else((c.1+1,FP c.2.1 (h,n,c.1+1,t,()),()),0)
def FC (c:Ct)(h:Int)(n:List UInt8):Ct×Int:=
 match C9 c.2.1 h n with
 |none=>(c,3)
 |some i=>((c.1,c.2.1.take i++c.2.1.drop (i+1),()),0)
def Ji {h:Int}{n t:List UInt8}(hp:EC h n t=true):(0≤h∧h≤1)∧EA n=true∧1≤t.length∧t.length≤300:=by
 unfold EC at hp
 rw[bB,bB] at hp
 exact⟨zl79 hp.1.1,hp.1.2,zl79 hp.2⟩
def Nq (c:Ct)(I:BK c):Ij c=some (true,()):=by
 obtain⟨ce,l,u⟩:=c
 have hed:0≤ce∧ce≤99999:=I.ed
 have hlen:l.length≤8:=I.len
 have hok:∀t∈l,EC t.1 t.2.1 t.2.2.2.1=true:=I.ok
 have heds:∀t∈l,1≤t.2.2.1∧t.2.2.1≤ce:=I.eds
 have hsrt:l.Pairwise lt2:=I.Gt
 have ij:l.Pairwise (fun a b=>a.2.2.1≠b.2.2.1):=I.dis
 have PX:∀h:Int,r_ l h≤500:=I.GF
 have hmem (i:Nat) (hi:i<l.length):l.getD i z0∈l:=by rw[getD_eq _ _ _ hi];exact zl96 hi
 have c0:=AH ce 0 99999
 rw[zl86 hed] at c0
 have c1:decide ((l.length:Int)>8)=false:=zdf
 have q0:=A_ (r:=KO) (fun i=>(((),(i:Int)),(ce,l,u))) (n:=l.length) (y:=.inr ((),(ce,l,u))) (fun i hi=>by
  have hmm:=hmem i hi
  have hp:=hok _ hmm
  have hn:=Kf _ (Ji hp).2.1
  have a1:=P_ (l.getD i z0) (by omega)
  rw[hp] at a1
  have a2:=AH (l.getD i z0).2.2.1 1 ce
  rw[zl86 (heds _ hmm)] at a2
  have qi:=A_ (r:=Mo) (fun k=>(((k:Int),(),(),(i:Int)),l.getD i z0,(ce,l,u))) (n:=i) (y:=.inr (((),(i:Int)),(ce,l,u))) (fun k hk=>by
   have hd:=Tx ij hk hi
   have d1:((l.getD k ((0:Int),[],(0:Int),[],())).2.2.1==(l.getD i z0).2.2.1)=false:=zl89.2 hd
   have d2:decide ((k:Int)<(l.length:Int))=true:=gl (by omega)
   simp only[Mo,gl hk,g0,zl94,d1,d2,zU,zl92,dW,pO,zw (i:=k)]) (by
   have d1:decide ((i:Int)<(i:Int))=false:=zdf
   simp only[Mo,d1,pO]) 0 (lB _)
  have Gn:Comes Mo ((0,(),(),(i:Int)),l.getD i z0,(ce,l,u)) _:=qi
  unfold z0 at a1 a2 Gn
  have wi1:=zw (i:=i)
  rcases zl83 i with h0|h0
  ·subst h0
   have d3:decide (((0:Nat):Int)>0)=false:=rfl
   simp only[KO,gl hi,g0,zl94,a1,zov a1,a2,zov a2,d3,qu,zl70,zl98,zl93,zl76,zl99,zU,zl92,dW,pO,cb Gn,cv Gn,sumC,wi1]
  ·obtain⟨m,rfl⟩:∃m,i=m+1:=⟨i-1,by omega⟩
   have hl:=Tx hsrt (i:=m) (j:=m+1) (by omega) hi
   have a3:=SZ (l.getD m z0) (l.getD (m+1) z0).1 (l.getD (m+1) z0).2.1
   rw[show th _ _ _=true from hl] at a3
   unfold z0 at a3
   have w1:IntKind.wrap .i64 (((m+1:Nat):Int)-1)=(m:Int):=wi (by omega) (by omega)
   have d3:decide (((m+1:Nat):Int)>0)=true:=zdt
   simp only[KO,gl hi,gl (show m<l.length by omega),w1,g0,zl94,a1,zov a1,a2,zov a2,a3,zov a3,d3,qu,zl70,zl99,zU,zl92,dW,pO,cb Gn,cv Gn,sumC,wi1]) (by
  have d1:decide ((l.length:Int)<(l.length:Int))=false:=zdf
  simp only[KO,d1,pO,ia]) 0 (lB _)
 have q0':Comes KO (((),0),(ce,l,u)) _:=q0
 have b0:=Ug l 0 (by have:=PX 0;omega) (by omega)
 have b1:=Ug l 1 (by have:=PX 1;omega) (by omega)
 have e0:decide ((r_ l 0:Int)>500)=false:=zl90 (by have:=PX 0;omega)
 have e1:decide ((r_ l 1:Int)>500)=false:=zl90 (by have:=PX 1;omega)
 have q2:Comes OD ((0,()),(ce,l,u)) (.inr ((),())):=by
  refine .again (x':=((1,()),(ce,l,u))) ?_ (.again (x':=((2,()),(ce,l,u))) ?_ (.out rfl))
  ·simp only[OD,b0,zov b0,e0,qu,zU,dW,pO];rfl
  ·simp only[OD,b1,zov b1,e1,qu,zU,dW,pO];rfl
 simp only[Ij,c0,zov c0,c1,qu,zU,zl70,dW,pO,cb q0',cv q0',sumC,cb q2,cv q2]
def copy_eq (c:Ct)(h:c.2.1.length≤99999):G9 c=some (c,()):=by
 have d:decide (0+c.2.1.length≤eV)=true:=zl86 (by unfold eV;omega)
 simp only[G9,d,zU,dW,zl17]
def at_lt {l:List It}{h:Int}{n:List UInt8}{i:Nat}(e:C9 l h n=some i):i<l.length:=(CE.1 e).1
def WM:decide (Cr none<0)=true:=rfl
def ajS (c:Ct)(I:BK c)(h:Int)(n:List UInt8):Iu (c,h,n)=some (FC c h n,()):=by
 have hl:=I.len
 have a:=Nq c I
 have b:=OZ c h n (by omega)
 unfold FC
 cases e:C9 c.2.1 h n with
 |none=>
  rw[e] at b
  have d:=copy_eq c (by omega)
  simp only[Iu,a,zov a,b,zov b,WM,d,zov d,qu,zU,dW,pO,zl70]
 |some i=>
  rw[e] at b
  have hi:=at_lt e
  have w1:IntKind.wrap .i64 ((i:Int)+1)=((i+1:Nat):Int):=wi (by omega) (by omega)
  have t0:List.take (Int.toNat ((i:Int)-0)) (List.drop (Int.toNat 0) c.2.1)=c.2.1.take i:=by simp
  have t1:List.take (Int.toNat ((c.2.1.length:Int)-((i+1:Nat):Int))) (List.drop (i+1) c.2.1)=c.2.1.drop (i+1):=by
   rw[zl57];rw[zl4];omega
  have d1:decide ((c.2.1.take i).length+(c.2.1.drop (i+1)).length≤eV)=true:=zl86 (by rw[zl3,zl4];unfold eV;omega)
  have d2:decide (((i+1:Nat):Int)≤(c.2.1.length:Int))=true:=zdt
  have d3:decide ((c.2.1.length:Int)≤(c.2.1.length:Int))=true:=zdt
  have d4:decide ((i:Int)≤(c.2.1.length:Int))=true:=zdt
  have d5:decide (0+(c.2.1.take i).length≤eV)=true:=zl86 (by rw[zl3];unfold eV;omega)
  have f:Mn (c,(i:Int))=some ((c.1,c.2.1.take i++c.2.1.drop (i+1),()),()):=by
   simp only[Mn,w1,t0,t1,zl94,zl17,d1,d2,d3,d4,d5,g0,zU,zl92,dW]
  have b':Ge (c,h,n)=some ((i:Int),()):=b
  have e1:decide ((i:Int)<0)=false:=zdf
  simp only[Iu,a,zov a,b',zov b',e1,f,zov f,qu,zU,dW,pO,zl70]
def acZ (c:Ct)(I:BK c)(h:Int)(n t:List UInt8)(hn:n.length≤9999999)(ht:t.length≤9999999):F6 (c,h,n,t)=some (Dv c h n t,()):=by
 have hl:=I.len
 have hb:=I.GF h
 have hed:=I.ed
 have a:=Nq c I
 have a2:=P_ (h,n,0,t,()) hn
 have d:=copy_eq c (by omega)
 unfold Dv
 simp only at a2
 cases hp:EC h n t with
 |false=>
  rw[hp] at a2
  simp only[F6,a,zov a,a2,zov a2,d,zov d,qu,zU,dW,pO,zl70,zl98]
 |true=>
  rw[hp] at a2
  have b:=OZ c h n (by omega)
  cases e:C9 c.2.1 h n with
  |some i=>
   rw[e] at b
   have b':Ge (c,h,n)=some ((i:Int),()):=b
   have e1:decide ((i:Int)≥0)=true:=zdt
   simp only[F6,a,zov a,a2,zov a2,b',zov b',e1,d,zov d,qu,zU,dW,pO,zl70]
  |none=>
   rw[e] at b
   have b':Ge (c,h,n)=some (-1,()):=b
   have e1:decide ((-1:Int)≥0)=false:=rfl
   have f:=Ug c.2.1 h (by omega) (by omega)
   have w1:IntKind.wrap .i64 ((r_ c.2.1 h:Int)+(t.length:Int))=((r_ c.2.1 h+t.length:Nat):Int):=wi (by omega) (by omega)
   have cc:(bif bif decide ((c.2.1.length:Int)≥8) then true else decide (c.1≥99999) then true else decide (((r_ c.2.1 h+t.length:Nat):Int)>500))=decide (8≤c.2.1.length∨99999≤c.1∨500<r_ c.2.1 h+t.length):=by
    by_cases h1:(c.2.1.length:Int)≥8
    ·rw[zl86 h1,zl86 (p:=8≤c.2.1.length∨99999≤c.1∨500<r_ c.2.1 h+t.length) (by omega)];rfl
    ·rw[zl90 h1]
     by_cases h2:c.1≥99999
     ·rw[zl86 h2,zl86 (p:=8≤c.2.1.length∨99999≤c.1∨500<r_ c.2.1 h+t.length) (by omega)];rfl
     ·rw[zl90 h2]
      simp only[pO]
      congr 1;simp only[eq_iff_iff];omega
   simp only[F6,a,zov a,a2,zov a2,b',zov b',e1,f,zov f,w1,cc,d,zov d,qu,zl99,zU,dW,pO,zl70]
   by_cases hc:8≤c.2.1.length∨99999≤c.1∨500<r_ c.2.1 h+t.length
   ·rw[zl86 hc,bQ hc];rfl
   ·rw[zl90 hc,cT hc]
    obtain⟨ce,l,u⟩:=c
    simp only at hed hl hc
    have hx:=El (r:=KZ) (fun i=>(((i:Int),(),(),()),(((0:Int),(),()),(ce,l,u),(h,n,(0:Int),t,()),[]))) (n:=l.length) (p:=fun i=> !th (l.getD i z0) h n) (yt:=fun i=>(((),(i:Int),(),()),(((0:Int),(),()),(ce,l,u),(h,n,(0:Int),t,()),[]))) (yn:=(((),(l.length:Int),(),()),(((0:Int),(),()),(ce,l,u),(h,n,(0:Int),t,()),[]))) (fun i hi hp=>by
      have q:=SZ (l.getD i z0) h n
      have hp':th (l.getD i z0) h n=true:=by simpa using hp
      rw[hp'] at q
      unfold z0 at q
      simp only[KZ,gl hi,g0,zl94,q,zov q,qu,zl99,zU,zl92,dW,zw (i:=i)]) (fun i hi hp=>by
      have q:=SZ (l.getD i z0) h n
      have hp':th (l.getD i z0) h n=false:=by simpa using hp
      rw[hp'] at q
      unfold z0 at q
      simp only[KZ,gl hi,g0,zl94,q,zov q,qu,zl99,zU,zl92,dW,pO]) (by
      have d1:decide ((l.length:Int)<(l.length:Int))=false:=zdf
      simp only[KZ,d1,zl98,zl76,zU,zl92,dW,pO])
    have hx':Comes KZ ((0,(),(),()),(((0:Int),(),()),(ce,l,u),(h,n,(0:Int),t,()),[])) (((),(mw l h n:Int),(),()),(((0:Int),(),()),(ce,l,u),(h,n,(0:Int),t,()),[])):=by
     have:(match first l.length (fun i=> !th (l.getD i z0) h n) with | some i=>(((),(i:Int),(),()),(((0:Int),(),()),(ce,l,u),(h,n,(0:Int),t,()),([]:List It)))|none=>(((),(l.length:Int),(),()),(((0:Int),(),()),(ce,l,u),(h,n,(0:Int),t,()),[])))=(((),(mw l h n:Int),(),()),(((0:Int),(),()),(ce,l,u),(h,n,(0:Int),t,()),[])):=by
      unfold mw;cases first l.length (fun i=> !th (l.getD i z0) h n)<;>rfl
     rw[←this];exact hx
    have hpl:=Ov l h n
    have w2:IntKind.wrap .i64 (ce+1)=ce+1:=wrap64 (by omega) (by omega)
    have t0:List.take (Int.toNat ((mw l h n:Int)-0)) (List.drop (Int.toNat 0) l)=l.take (mw l h n):=by simp
    have t1:List.take (Int.toNat ((l.length:Int)-(mw l h n:Int))) (List.drop (mw l h n) l)=l.drop (mw l h n):=by
     rw[zl57];rw[zl4];omega
    have d1 (k:Nat) (hk:k≤100):decide (k≤eV)=true:=zl86 (by unfold eV;omega)
    have d2:decide ((mw l h n:Int)≤(l.length:Int))=true:=zdt
    have d3:decide ((l.length:Int)≤(l.length:Int))=true:=zdt
    have hf:Mx ((ce,l,u),h,n,0,t,())=some ((ce+1,FP l (h,n,ce+1,t,()),()),()):=by
     simp only[Mx,cb hx',cv hx',dW,w2,t0,t1,zl94,zl17,g0,d2,d3,ia]
     rw[d1 _ (by simp only[eY,zl3,zl4,zl6,rA];omega),d1 _ (by simp only[zl3];omega),d1 _ (by simp only[zl3];omega)]
     simp only[zU,zl92,dW,FP,cZ]
     rfl
    simp only[hf,zov hf,dW,pO]
def X8 {l:List It}{t x:It}(h:x∈FP l t):x=t∨x∈l:=by
 unfold FP at h
 rcases bU.1 h with h|h
 ·exact .inr (List.mem_of_mem_take h)
 ·rcases bN.1 h with h|h
  ·exact .inl h
  ·exact .inr (List.mem_of_mem_drop h)
def afy (l:List It)(t:It):(FP l t).length=l.length+1:=by
 have:=Ov l t.1 t.2.1
 simp only[FP,eY,zl6,zl3,zl4];omega
def afx (l:List It)(t:It)(h:Int):r_ (FP l t) h=r_ l h+if t.1=h then t.2.2.2.1.length else 0:=by
 have e:r_ l h=r_ (l.take (mw l t.1 t.2.1)) h+r_ (l.drop (mw l t.1 t.2.1)) h:=by rw[←Np,zl68]
 have e2:r_ (t::l.drop (mw l t.1 t.2.1)) h=(if t.1=h then t.2.2.2.1.length else 0)+r_ (l.drop (mw l t.1 t.2.1)) h:=by simp[r_]
 rw[FP,Np,e2,e];omega
def agL {l:List It}{k:Nat}{x:It}(hk:k≤l.length)(h:x∈l.take k):∃i,i<k∧l.getD i z0=x:=by
 obtain⟨i,hi,rfl⟩:=zl100 h
 rw[zl3] at hi
 exact⟨i,by omega,by rw[getD_eq _ _ _ (by omega),List.getElem_take]⟩
def agK {l:List It}{k:Nat}{x:It}(h:x∈l.drop k):∃i,k≤i∧i<l.length∧l.getD i z0=x:=by
 obtain⟨i,hi,rfl⟩:=zl100 h
 rw[zl4] at hi
 exact⟨k+i,by omega,by omega,by rw[getD_eq _ _ _ (by omega),List.getElem_drop]⟩
def X9 {R:It→It→Prop}{l:List It}{t:It}(h:l.Pairwise R)(h1:∀x∈l.take (mw l t.1 t.2.1),R x t)(h2:∀x∈l.drop (mw l t.1 t.2.1),R t x):(FP l t).Pairwise R:=by
 unfold FP
 rw[List.pairwise_append]
 have hs:(l.take (mw l t.1 t.2.1)++l.drop (mw l t.1 t.2.1)).Pairwise R:=by rw[zl68];exact h
 rw[List.pairwise_append] at hs
 refine⟨hs.1,List.pairwise_cons.2 ⟨h2,hs.2.1⟩,?_⟩
 intro a ha b hb
 rcases bN.1 hb with rfl|hb
 ·exact h1 a ha
 ·exact hs.2.2 a ha b hb
def TV (c:Ct)(I:BK c)(h:Int)(n t:List UInt8):BK (Dv c h n t).1:=by
 unfold Dv
 cases hp:EC h n t with
 |false=>exact I
 |true=>
  simp only[zl70,pO]
  cases e:C9 c.2.1 h n with
  |some i=>exact I
  |none=>
   simp only
   split
   ·exact I
   ·rename_i hc
    obtain⟨ce,l,u⟩:=c
    have hed:0≤ce∧ce≤99999:=I.ed
    have hlen:l.length≤8:=I.len
    simp only at hc e ⊢
    refine⟨⟨by simp only;omega,by simp only;omega⟩,?_,?_,?_,?_,?_,?_⟩
    ·simp only[afy];omega
    ·intro x hx
     rcases X8 hx with rfl|hx
     ·exact hp
     ·exact I.ok x hx
    ·intro x hx
     rcases X8 hx with rfl|hx
     ·simp only;omega
     ·have:=I.eds x hx;simp only at this ⊢;omega
    ·refine X9 I.Gt ?_ ?_
     ·intro x hx
      obtain⟨i,hi,rfl⟩:=agL (Ov _ _ _) hx
      exact pos_lt l h n i hi
     ·intro x hx
      obtain⟨i,h1,h2,rfl⟩:=agK hx
      exact pos_gt l (h,n,ce+1,t,()) I.Gt e i h1 h2
    ·refine X9 I.dis ?_ ?_
     ·intro x hx
      have:=I.eds x (List.mem_of_mem_take hx);simp only at this ⊢;omega
     ·intro x hx
      have:=I.eds x (List.mem_of_mem_drop hx);simp only at this ⊢;omega
    ·intro g
     have hb:=I.GF g
     simp only at hb
     simp only[afx]
     by_cases hg:h=g
     ·subst hg;rw[bQ rfl];omega
     ·rw[cT hg];omega
def Up (c:Ct)(I:BK c)(h:Int)(n:List UInt8):BK (FC c h n).1:=by
 unfold FC
 cases e:C9 c.2.1 h n with
 |none=>exact I
 |some i=>
  obtain⟨ce,l,u⟩:=c
  simp only at e ⊢
  have hlen:l.length≤8:=I.len
  have hsub:(l.take i++l.drop (i+1)).Sublist l:=by
   have e1:l.take i++l.drop i=l:=zl68 ..
   have:(l.take i++l.drop (i+1)).Sublist (l.take i++l.drop i):=List.Sublist.append_left (by rw[←List.drop_drop];exact List.drop_sublist _ _) _
   rw[e1] at this;exact this
  refine⟨I.ed,?_,fun x hx=>I.ok x (hsub.subset hx),fun x hx=>I.eds x (hsub.subset hx),I.Gt.sublist hsub,I.dis.sublist hsub,?_⟩
  ·have:=hsub.length_le;simp only;omega
  ·intro g
   have:=I.GF g
   simp only at this ⊢
   have e1:r_ l g=r_ (l.take i) g+r_ (l.drop i) g:=by rw[←Np,zl68]
   have e2:r_ (l.drop i) g=r_ (l.drop i) g:=rfl
   have e3:r_ (l.drop (i+1)) g≤r_ (l.drop i) g:=by
    have hi:=at_lt e
    rw[zl109 hi,r_,r_,mT,zl82]
    exact Nat.le_add_left _ _
   rw[Np];omega
def R9:BK (0,[],()):=by
 refine⟨⟨by simp,by simp⟩,by simp,by simp,by simp,.nil,.nil,by simp[r_]⟩
def Dx (h:Int)(n t:List UInt8):Bool:=decide (0≤h∧h≤1)&&EA n&&decide (t.length≤300)
def vT (h:Int)(n t:List UInt8):List UInt8:=if Dx h n t=true then decDigits h.toNat++32::(n++58::t) else []
def MR {h:Int}{n t:List UInt8}(hp:Dx h n t=true):(0≤h∧h≤1)∧EA n=true∧t.length≤300:=by
 unfold Dx at hp
 rw[bB,bB] at hp
 exact⟨zl79 hp.1.1,hp.1.2,zl79 hp.2⟩
def O2 (h:Int)(n t:List UInt8)(hn:n.length≤9999999)(ht:t.length≤9999999):E4 (h,n,t)=some (vT h n t,()):=by
 have body (hr:Dx h n t=true):As h=some (decDigits h.toNat,())∧(∀k,k≤1000→decide (k≤eV)=true)∧(decDigits h.toNat).length≤7∧n.length≤6∧t.length≤300:=by
  obtain⟨h1,h2,h3⟩:=MR hr
  have:=P7 h.toNat (by omega)
  rw[show((h.toNat:Nat):Int)=h by omega] at this
  exact⟨this,fun k hk=>zl86 (by unfold eV;omega),Fg _ (by omega),(Kf _ h2).2,h3⟩
 have fin (hr:Dx h n t=true):(bif kL [decide (List.length ((zog As h).1 ++ [(32:UInt8)]++n ++ [(58:UInt8)])+List.length t≤eV),decide (List.length ((zog As h).1 ++ [(32:UInt8)]++n)+(1:Nat)≤eV),decide (List.length ((zog As h).1 ++ [(32:UInt8)])+List.length n≤eV),decide (List.length (zog As h).1+(1:Nat)≤eV),qu (As h)] then some ((zog As h).1 ++ [(32:UInt8)]++n ++ [(58:UInt8)]++t,()) else none)=some (vT h n t,()):=by
  obtain⟨e,d,l1,l2,l3⟩:=body hr
  rw[zov e,e]
  simp only
  rw[d _ (by simp only[eY,zl103];omega),d _ (by simp only[eY,zl103];omega),d _ (by simp only[eY,zl103];omega),d _ (by omega)]
  simp[zU,qu,vT,hr]
 by_cases HK:t = []
 ·have c1:(t==([]:List UInt8))=true:=zl78.2 HK
  have a:=P_ (h,n,0,[(120:UInt8)],()) hn
  have hr:EC h n [120]=Dx h n t:=by subst HK;rfl
  simp only[hr] at a
  simp only[E4,c1,dW,a,zov a,qu,zU]
  cases hx:Dx h n t with
  |false=>simp[vT,hx]
  |true=>exact fin hx
 ·have c1:(t==([]:List UInt8))=false:=zl89.2 HK
  have a:=P_ (h,n,0,t,()) hn
  have hr:EC h n t=Dx h n t:=by
   have:1≤t.length:=by cases t;exact absurd rfl HK;simp
   unfold EC Dx
   congr 2;simp only[eq_iff_iff];omega
  simp only[hr] at a
  simp only[E4,c1,pO,a,zov a,qu,zU,dW]
  cases hx:Dx h n t with
  |false=>simp[vT,hx]
  |true=>exact fin hx
def ai9 {h:Int}{n t s:List UInt8}(hs:vT h n t=s)(hne:s ≠ []):Dx h n t=true∧s=decDigits h.toNat++32::(n++58::t):=by
 unfold vT at hs
 split at hs
 ·rename_i hr;exact⟨hr,hs.symm⟩
 ·exact absurd hs.symm hne
def JT (s:List UInt8)(p:Int×List UInt8×List UInt8):Prop:=Dx p.1 p.2.1 p.2.2=true∧s=decDigits p.1.toNat++32::(p.2.1++58::p.2.2)
def T8 {h:Int}{n t:List UInt8}(hr:Dx h n t=true):∀x∈decDigits h.toNat++32::n,x≠58:=by
 intro x hx
 rcases bU.1 hx with hx|hx
 ·have:=Sj _ x hx
  intro e;subst e
  unfold D7 at this
  have h58:(58:UInt8).toNat=58:=rfl
  omega
 ·rcases bN.1 hx with rfl|hx
  ·decide
  ·exact Y2 n (MR hr).2.1 58 (by decide) x hx
def afB {s:List UInt8}{p q:Int×List UInt8×List UInt8}(h:JT s p)(h':JT s q):p=q:=by
 obtain⟨h1,n1,t1⟩:=p
 obtain⟨h2,n2,t2⟩:=q
 have e:=h.2.symm.trans h'.2
 have a1:(decDigits h1.toNat++32::n1)++58::t1=(decDigits h2.toNat++32::n2)++58::t2:=by simpa using e
 obtain⟨e1,e2⟩:=NI (T8 h.1) (T8 h'.1) a1
 obtain⟨e3,e4⟩:=NI (HE _) (HE _) e1
 have e5:=Xe e3
 have r1:=(MR h.1).1
 have r2:=(MR h'.1).1
 simp only at r1 r2
 have:h1=h2:=by omega
 simp only at e4
 rw[this,e2,e4]
open Classical in
noncomputable def HY (s:List UInt8):Option (Int×List UInt8×List UInt8):=if h:∃p,JT s p then some (Classical.choose h) else none
def ag9 {s:List UInt8}{p:Int×List UInt8×List UInt8}(h:HY s=some p):JT s p:=by
 unfold HY at h
 split at h
 ·rename_i hex;cases h;exact zl85 hex
 ·cases h
def Tz {s:List UInt8}{p:Int×List UInt8×List UInt8}(h:JT s p):HY s=some p:=by
 have hex:∃p,JT s p:=⟨p,h⟩
 unfold HY
 rw[dif_pos hex]
 exact congrArg some (afB (zl85 hex) h)
noncomputable def CS (c:Ct) (s:List UInt8):Ct×Bool:=match HY s with
 |none=>((0,[],()),false)
 |some (h,n,t)=>if t = [] then((FC c h n).1,(FC c h n).2==0) else((Dv c h n t).1,(Dv c h n t).2==0)
def Sg (s)(k:Nat)(hk:k≤s.length)(hs:s.length≤9999999)(from_:Int)(ls:List (List UInt8))(y):∀d i,i+d=k→(∀j,i≤j→j<k→s.getD j 0≠32)→Comes DI (((k:Int),from_,s,(),32),ls) y→Comes DI (((i:Int),from_,s,(),32),ls) y
 |0,i,h1,_,h3=>by have:i=k:=by omega
                  rw[this];exact h3
 |d+1,i,h1,h2,h3=>by
  refine .again ?_ (Sg s k hk hs from_ ls y d (i+1) (by omega) (fun j hj=>h2 j (by omega)) h3)
  have c1:(((s.getD i 0).toNat:Int)==32)=false:=zl89.2 (by
   intro e
   exact h2 i (bA _) (by omega) (UInt8.toNat_inj.1 (by have:(32:UInt8).toNat=32:=rfl;omega)))
  simp only[DI,gl (show i<s.length by omega),g0,zl94,c1,zU,zl92,dW,pO,zw (i:=i)]
def ad7 (p q:List UInt8)(hp:∀x∈p,x≠32)(hq:∀x∈q,x≠32)(hl:(p++32::q).length≤9999999):DH (p++32::q,32)=some ([p,q],()):=by
 have hlen:(p++32::q).length=p.length+1+q.length:=by simp;omega
 have gp (j:Nat) (hj:j<p.length):(p++32::q).getD j 0≠32:=by
  simp only[List.getD,eM hj,zl27 hj,Option.getD_some]
  exact hp _ (zl96 hj)
 have gm:(p++32::q).getD p.length 0=32:=by rw[List.getD,gj (bA _),Nat.sub_self];rfl
 have gq (j:Nat) (h1:p.length+1≤j) (h2:j<p.length+1+q.length):(p++32::q).getD j 0≠32:=by
  obtain⟨m,rfl⟩:∃m,j=p.length+1+m:=⟨j-(p.length+1),by omega⟩
  have e:p.length+1+m-p.length=m+1:=by omega
  rw[List.getD,gj (by omega),e,List.getElem?_cons_succ]
  rw[zl27 (by omega),Option.getD_some]
  exact hq _ (zl96 _)
 have hend:Comes DI ((((p.length+1+q.length:Nat):Int),((p.length+1:Nat):Int),p++32::q,(),32),[p]) ((((p.length+1:Nat):Int),p++32::q,()),[p]):=by
  refine .out ?_
  have c1:decide (((p.length+1+q.length:Nat):Int)<((p.length+1+q.length:Nat):Int))=false:=zdf
  simp only[DI,hlen,c1,pO]
 have h2:=Sg (p++32::q) (p.length+1+q.length) (by omega) (by omega) ((p.length+1:Nat):Int) [p] _ q.length (p.length+1) (by omega) (fun j h1 h2=>gq j h1 h2) hend
 have h1:Comes DI (((p.length:Int),0,p++32::q,(),32),[]) ((((p.length+1:Nat):Int),p++32::q,()),[p]):=by
  refine .again ?_ h2
  have c1:(((32:UInt8).toNat:Int)==32)=true:=rfl
  have t0:List.take (Int.toNat ((p.length:Int)-0)) (List.drop (Int.toNat 0) (p++32::q))=p:=by simp
  have d1:decide ((p.length:Int)≤((p.length+1+q.length:Nat):Int))=true:=zdt
  have d2:decide (([]:List (List UInt8)).length+1≤eV)=true:=rfl
  have d3:decide ((0:Int)≤0)=true:=rfl
  simp only[DI,hlen,gl (show p.length<p.length+1+q.length by omega),g0,zl94,gm,c1,t0,d1,d2,d3,zU,zl92,dW,zw (i:=p.length),zl17]
 have h0:Comes DI ((0,0,p++32::q,(),32),[]) _:=Sg (p++32::q) p.length (by omega) (by omega) 0 [] _ p.length 0 (by omega) (fun j _ h=>gp j h) h1
 have t1:List.take (Int.toNat (((p.length+1+q.length:Nat):Int)-((p.length+1:Nat):Int))) (List.drop (p.length+1) (p++32::q))=q:=by
  have:List.drop (p.length+1) (p++32::q)=q:=by rw[←List.drop_drop];simp
  rw[this,zl57 (by omega)]
 have d1:decide (((p.length+1:Nat):Int)≤((p.length+1+q.length:Nat):Int))=true:=zdt
 have d2:decide (((p.length+1+q.length:Nat):Int)≤((p.length+1+q.length:Nat):Int))=true:=zdt
 have d3:decide ([p].length+1≤eV)=true:=rfl
 simp only[DH,cb h0,cv h0,dW,hlen,zl94,t1,g0,d1,d2,d3,zU,zl92]
 rfl
def Xd (s:List UInt8)(hs:s.length≤9999999):∃l,DH (s,32)=some (l,())∧∀x∈l,x.length≤s.length:=by
 have main:∀d i (from_:Nat) (ls:List (List UInt8)),i+d=s.length→from_≤i→ls.length≤i→(∀x∈ls,x.length≤s.length) →
   ∃(f:Nat) (l:List (List UInt8)),f≤s.length∧l.length≤s.length∧(∀x∈l,x.length≤s.length)∧Comes DI (((i:Int),(from_:Int),s,(),32),ls) (((f:Int),s,()),l):=by
  intro d
  induction d with
  |zero=>
   intro i from_ ls h1 h2 h3 h4
   have:i=s.length:=by omega
   subst this
   have c1:decide ((s.length:Int)<(s.length:Int))=false:=zdf
   exact⟨from_,ls,h2,h3,h4,.out (by simp only[DI,c1,pO])⟩
  |succ d ih=>
   intro i from_ ls h1 h2 h3 h4
   by_cases hc:((s.getD i 0).toNat:Int)=32
   ·have hx:(List.take (Int.toNat ((i:Int)-(from_:Int))) (List.drop from_ s)).length≤s.length:=by simp;omega
    obtain⟨f,l,a1,a2,a3,a4⟩:=ih (i+1) (i+1) (ls ++ [List.take (Int.toNat ((i:Int)-(from_:Int))) (List.drop from_ s)]) (by omega) (bA _) (by simp;omega) (by
     intro x hx'
     rcases bU.1 hx' with hx'|hx'
     ·exact h4 x hx'
     ·rw[i_.1 hx'];exact hx)
    refine⟨f,l,a1,a2,a3,.again ?_ a4⟩
    have c1:(((s.getD i 0).toNat:Int)==32)=true:=zl78.2 hc
    have d1:decide ((from_:Int)≤(i:Int))=true:=zdt
    have d2:decide ((i:Int)≤(s.length:Int))=true:=zdt
    have d3:decide (ls.length+1≤eV)=true:=zl86 (by unfold eV;omega)
    simp only[DI,gl (show i<s.length by omega),g0,zl94,c1,d1,d2,d3,zU,zl92,dW,zw (i:=i)]
   ·obtain⟨f,l,a1,a2,a3,a4⟩:=ih (i+1) from_ ls (by omega) (by omega) (by omega) h4
    refine⟨f,l,a1,a2,a3,.again ?_ a4⟩
    have c1:(((s.getD i 0).toNat:Int)==32)=false:=zl89.2 hc
    simp only[DI,gl (show i<s.length by omega),g0,zl94,c1,zU,zl92,dW,pO,zw (i:=i)]
 obtain⟨f,l,a1,a2,a3,a4⟩:=main s.length 0 0 [] (by omega) (bA _) (lB _) (by simp)
 have Dz:Comes DI ((0,0,s,(),32),[]) _:=a4
 refine⟨l ++ [List.take (Int.toNat ((s.length:Int)-(f:Int))) (List.drop f s)],?_,?_⟩
 ·have d1:decide ((f:Int)≤(s.length:Int))=true:=zdt
  have d2:decide ((s.length:Int)≤(s.length:Int))=true:=zdt
  have d3:decide (l.length+1≤eV)=true:=zl86 (by unfold eV;omega)
  simp only[DH,cb Dz,cv Dz,dW,zl94,g0,d1,d2,d3,zU,zl92]
 ·intro x hx
  rcases bU.1 hx with hx|hx
  ·exact a3 x hx
  ·rw[i_.1 hx];simp
def WD {c:Ct}{s:List UInt8}(h:HY s=none):CS c s=((0,[],()),false):=by unfold CS;rw[h]
def Pt {c:Ct}{s:List UInt8}{h:Int}{n t:List UInt8}(hp:HY s=some (h,n,t)):CS c s=if t = [] then((FC c h n).1,(FC c h n).2==0) else((Dv c h n t).1,(Dv c h n t).2==0):=by unfold CS;rw[hp]
def P9 (c:Ct)(I:BK c)(s:List UInt8)(hs:s.length≤9999999):F9 (c,s)=some (CS c s,()):=by
 have le (x y:Nat) (h:x≤y):decide ((x:Int)≤(y:Int))=true:=zdt
 have g0' (k:Nat):decide ((k:Int)<0)=false:=zdf
 cases hp:HY s with
 |some p=>
  obtain⟨h,n,t⟩:=p
  obtain⟨hr,hsh⟩:=ag9 hp
  simp only at hr hsh
  obtain⟨hh,hn,ht⟩:=MR hr
  have jm:=Kf n hn
  have hdl:=Fg h.toNat (by omega)
  have hsh2:s=(decDigits h.toNat++32::n)++58::t:=by rw[hsh];simp
  have hd:s.drop 0=(decDigits h.toNat++32::n)++58::t:=hsh2
  have f1:Cz (s,0,58)=some (((0+(decDigits h.toNat++32::n).length:Nat):Int),()):=LP s _ t 0 58 (by omega) hd (T8 hr)
  rw[lA] at f1
  have hlen:s.length=(decDigits h.toNat++32::n).length+1+t.length:=by rw[hsh2];simp;omega
  have t1:List.take (Int.toNat (((decDigits h.toNat++32::n).length:Int)-0)) (List.drop (Int.toNat 0) s)=decDigits h.toNat++32::n:=by
   rw[show Int.toNat (((decDigits h.toNat++32::n).length:Int)-0)=(decDigits h.toNat++32::n).length by omega,show Int.toNat 0=0 from rfl,hd,List.take_left'];rfl
  have cu:=ad7 (decDigits h.toNat) n (HE _) (Y2 n hn 32 (by decide)) (by simp;omega)
  have w1:=AX (i:=(decDigits h.toNat++32::n).length) (by omega)
  have t2:List.take (Int.toNat ((s.length:Int)-(((decDigits h.toNat++32::n).length+1:Nat):Int))) (List.drop ((decDigits h.toNat++32::n).length+1) s)=t:=by
   have:=NB s 0 ((decDigits h.toNat++32::n) ++ [58]) t (by rw[zl84,hsh2];simp)
   rw[lA,eY,zl103] at this
   rw[this,zl57 (by omega)]
  have nu:=IZ (decDigits h.toNat) (by omega)
  rw[bQ (SX (by omega)),Nw,show((h.toNat:Nat):Int)=h by omega] at nu
  have re:=O2 h n t (by omega) (by omega)
  have rs:vT h n t=s:=by rw[vT,bQ hr,hsh]
  rw[rs] at re
  have q0: [decDigits h.toNat,n].getD (Int.toNat 0) []=decDigits h.toNat:=rfl
  have q1: [decDigits h.toNat,n].getD (Int.toNat 1) []=n:=rfl
  have c1:(((([decDigits h.toNat,n]:List (List UInt8)).length:Nat):Int) != 2)=false:=rfl
  have c2:(s==s)=true:=zl95 _
  have tk:=ajS c I h n
  have pu:=acZ c I h n t (by omega) (by omega)
  rw[Pt hp]
  have k1:decide ((0:Int)<((([decDigits h.toNat,n]:List (List UInt8)).length:Nat):Int))=true:=rfl
  have k2:decide ((1:Int)<((([decDigits h.toNat,n]:List (List UInt8)).length:Nat):Int))=true:=rfl
  have k3:decide ((0:Int)≤0)=true:=rfl
  have k4:decide ((0:Int)≤1)=true:=rfl
  simp only[F9,f1,zov f1,g0',t1,cu,zov cu,w1,t2,zl94,q0,q1,nu,zov nu,re,zov re,c1,c2,tk,zov tk,pu,zov pu,qu,g0,k1,k2,k3,k4,le (decDigits h.toNat++32::n).length s.length (by omega),le ((decDigits h.toNat++32::n).length+1) s.length (by omega),le s.length s.length (bA _),zl99,zl70,zl98,zU,zl92,dW,pO]
  by_cases HK:t = []
  ·rw[zl78.2 HK,bQ HK];rfl
  ·rw[zl89.2 HK,cT HK];rfl
 |none=>
  rw[WD hp]
  rcases Uk 58 s with h1|⟨p,t,hsh,hp58⟩
  ·have f1:Cz (s,0,58)=some (-1,()):=SY s 0 58 (by omega) (by omega) h1
   have c1:decide ((-1:Int)<0)=true:=rfl
   simp only[F9,f1,zov f1,c1,qu,zU,dW]
  ·have hd:s.drop 0=p++58::t:=hsh
   have f1:Cz (s,0,58)=some (((0+p.length:Nat):Int),()):=LP s _ t 0 58 (by omega) hd hp58
   rw[lA] at f1
   have hlen:s.length=p.length+1+t.length:=by rw[hsh];simp;omega
   have t1:List.take (Int.toNat ((p.length:Int)-0)) (List.drop (Int.toNat 0) s)=p:=by
    rw[show Int.toNat ((p.length:Int)-0)=p.length by omega,show Int.toNat 0=0 from rfl,hd,List.take_left'];rfl
   obtain⟨F,cu,hF⟩:=Xd p (by omega)
   have w1:=AX (i:=p.length) (by omega)
   have t2:List.take (Int.toNat ((s.length:Int)-((p.length+1:Nat):Int))) (List.drop (p.length+1) s)=t:=by
    have:=NB s 0 (p ++ [58]) t (by rw[zl84,hsh];simp)
    rw[lA,eY,zl103] at this
    rw[this,zl57 (by omega)]
   simp only[F9,f1,zov f1,g0',t1,cu,zov cu,w1,t2,zl94,qu,g0,le p.length s.length (by omega),le (p.length+1) s.length (by omega),le s.length s.length (bA _),zU,zl92,dW,pO]
   cases h2:((F.length:Int) != 2) with
   |true=>simp only[zl70,zl98,zl76,zl92,dW]
   |false=>
    have hF2:F.length=2:=by
     have:=bne_eq_false_iff_eq.1 h2;omega
    obtain⟨a,b,rfl⟩:∃a b,F = [a,b]:=by
     match F,hF2 with
     | [a,b],_=>exact⟨a,b,rfl⟩
    have ha:=hF a (by simp)
    have hb:=hF b (by simp)
    have q0: [a,b].getD (Int.toNat 0) []=a:=rfl
    have q1: [a,b].getD (Int.toNat 1) []=b:=rfl
    have nu:=IZ a (by omega)
    have re:=O2 (if isNum a then(BY a:Int) else -1) b t (by omega) (by omega)
    have k1:decide ((0:Int)<((([a,b]:List (List UInt8)).length:Nat):Int))=true:=rfl
    have k2:decide ((1:Int)<((([a,b]:List (List UInt8)).length:Nat):Int))=true:=rfl
    have k3:decide ((0:Int)≤0)=true:=rfl
    have k4:decide ((0:Int)≤1)=true:=rfl
    have hne:(vT (if isNum a then(BY a:Int) else -1) b t==s)=false:=by
     rw[zl89]
     intro e
     obtain⟨r1,r2⟩:=ai9 e (by rw[hsh];simp)
     rw[Tz (p:=(_,b,t)) ⟨r1,r2⟩] at hp
     cases hp
    simp only[q0,q1,nu,zov nu,re,zov re,hne,k1,k2,k3,k4,zl98,zl99,zl92,dW,pO]
def WC (c:Ct)(I:BK c)(s:List UInt8)(h:(CS c s).2=true):BK (CS c s).1:=by
 cases hp:HY s with
 |none=>rw[WD hp] at h;cases h
 |some p=>
  obtain⟨g,n,t⟩:=p
  rw[Pt hp]
  split
  ·exact Up c I g n
  ·exact TV c I g n t
noncomputable def GG:Ct→List (List UInt8)→Option Ct
 |c,[]=>some c
 |c,r::l=>if(CS c r).2=true then GG (CS c r).1 l else none
def WW:∀(l:List (List UInt8)) (c c':Ct),BK c→GG c l=some c'→BK c'
 | [],c,c',I,h=>by rw[GG] at h;cases h;exact I
 |r::l,c,c',I,h=>by
  rw[GG] at h
  split at h
  ·rename_i hb;exact WW l _ c' (WC c I r hb) h
  ·cases h
noncomputable def DA (l:List (List UInt8)):Ct×Bool:=match GG (0,[],()) l with
 |some c=>(c,true)
 |none=>((0,[],()),false)
def acT (l:List (List UInt8))(hl:l.length≤9999999)(hr:∀r∈l,r.length≤9999999):∀d i (c:Ct),i+d=l.length→BK c →
  Comes KN (((),(i:Int),(),l),((0:Int),(),()),(c.1,(),c.2.2),[],c.2.1) (match GG c (l.drop i) with
   |some c'=>.inr (((),()),((0:Int),(),()),(c'.1,(),c'.2.2),[],c'.2.1)
   |none=>.inl (((),false),((0:Int),(),()),[]))
 |0,i,c,h1,I=>by
  have:i=l.length:=by omega
  subst this
  rw[List.drop_length,GG]
  have c1:decide ((l.length:Int)<(l.length:Int))=false:=zdf
  exact .out (by simp only[KN,c1,pO,ia])
 |d+1,i,c,h1,I=>by
  have hi:i<l.length:=by omega
  rw[zl109 hi,GG]
  have e:=P9 c I l[i] (hr _ (zl96 hi))
  rw[←getD_eq l i [] hi] at e ⊢
  obtain⟨c1,c2,c3⟩:=c
  cases hb:(CS (c1,c2,c3) (l.getD i [])).2 with
  |true=>
   rw[bQ rfl]
   refine .again ?_ (acT l hl hr d (i+1) _ (by omega) (WC _ I _ hb))
   simp only[KN,gl hi,g0,zl94,e,zov e,hb,qu,zU,zl92,dW,pO,zl70,zw (i:=i)]
  |false=>
   rw[cT (by simp)]
   exact .out (by simp only[KN,gl hi,g0,zl94,e,zov e,hb,qu,zU,zl92,dW,zl98])
def acU (l:List (List UInt8))(hl:l.length≤9999999)(hr:∀r∈l,r.length≤9999999):Jv l=some (DA l,()):=by
 have h:=acT l hl hr l.length 0 (0,[],()) (by omega) R9
 have h':Comes KN (((),0,(),l),((0:Int),(),()),((0:Int),(),()),[],[]) _:=h
 simp only[Jv,cb h',cv h',dW,zl84,DA,ia]
 cases GG (0,[],()) l<;>rfl
abbrev Fr:Type:=Int×Int×Int×Int×Bool×Unit
abbrev Po:Type:=List Fr×Int×Unit
def zF:Fr:=((0:Int),(0:Int),(0:Int),(0:Int),false,())
def m6 (n lo hi:Int):Bool:=decide (lo≤n∧n≤hi)
def B4 (n lo hi:Int):gh (n,lo,hi)=some (m6 n lo hi,()):=AH n lo hi
def JP (n lo hi:Int):A8 (n,lo,hi)=some (m6 n lo hi,()):=Bo n lo hi
def okF (f:Fr):Bool:=bif f.2.1==0 then(f.1==0&&(f.2.1==0&&(f.2.2.1==0&&(f.2.2.2.1==0&&(f.2.2.2.2.1==false&&true))))) else m6 f.1 0 1&&m6 f.2.1 1 99999&&m6 f.2.2.1 0 23&&m6 f.2.2.2.1 0 99999
def Ye (f:Fr):Jx f=some (okF f,()):=by
 unfold okF
 cases h:(f.2.1==0) with
 |true=>simp only[Jx,h,dW,ia]
 |false=>
  simp only[Jx,h,pO,B4,zov (B4 _ _ _),qu,zl99,zU,zl92,dW]
  cases m6 f.1 0 1<;>cases m6 f.2.1 1 99999<;>cases m6 f.2.2.1 0 23<;>cases m6 f.2.2.2.1 0 99999<;>rfl
def DY (l:List Fr)(i k:Nat):Bool:=bif bif decide ((l.getD i zF).2.1>0) then(l.getD i zF).2.1==(l.getD k zF).2.1 else false then(l.getD i zF).2.2.1==(l.getD k zF).2.2.1 else false
def Iy (l:List Fr)(i:Nat):Bool:=okF (l.getD i zF)&&ld i (fun k=> !DY l i k)
def nC (l:List Fr)(h:Int):Nat→Nat
 |0=>0
 |i+1=>nC l h i+if(bif decide ((l.getD i zF).2.1>0) then(l.getD i zF).1==h else false)=true then 1 else 0
def Y5 (l:List Fr)(h:Int):∀i,nC l h i≤i
 |0=>bA _
 |i+1=>by have:=Y5 l h i;rw[nC];split<;>omega
def Jh (p:Po):Bool:=(p.1.length==8&&m6 p.2.1 0 7)&&(ld 8 (Iy p.1)&&(decide (nC p.1 0 8≤5)&&decide (nC p.1 1 8≤5)))
def acX (p:Po)(h:Int)(hl:p.1.length≤9999999):KQ (p,h)=some ((nC p.1 h p.1.length:Int),()):=by
 obtain⟨l,nx,u⟩:=p
 have hl:l.length≤9999999:=hl
 have q:=A_ (r:=KR) (fun i=>(((i:Int),(nC l h i:Int),h,()),(l,nx,u))) (n:=l.length) (y:=((nC l h l.length:Int),())) (fun i hi=>by
  have hb:=Y5 l h i
  cases e:(bif decide ((l.getD i zF).2.1>0) then(l.getD i zF).1==h else false) with
  |true=>
   have e2:nC l h (i+1)=nC l h i+1:=by rw[nC,bQ e]
   unfold zF at e
   simp only[KR,gl hi,g0,zl94,e,zl99,zU,zl92,dW,zw (i:=i),zw (i:=nC l h i),e2]
  |false=>
   have e2:nC l h (i+1)=nC l h i:=by rw[nC,e,cT (by simp)];rfl
   unfold zF at e
   simp only[KR,gl hi,g0,zl94,e,zl99,zU,zl92,dW,pO,zw (i:=i),e2]) (by
  have c1:decide ((l.length:Int)<(l.length:Int))=false:=zdf
  simp only[KR,c1,pO]) 0 (lB _)
 have q':Comes KR ((0,0,h,()),(l,nx,u)) _:=q
 simp only[KQ,cb q',cv q',dW,ia]
def akq (p:Po)(hl:p.1.length=8):∃y,Comes Jn ((0,()),p) y∧y=(if(decide (nC p.1 0 8≤5)&&decide (nC p.1 1 8≤5))=true then .inr ((),()) else .inl (false,())):=by
 have a (h:Int):=acX p h (by omega)
 rw[hl] at a
 by_cases h0:nC p.1 0 8≤5
 ·have c0:decide ((nC p.1 0 8:Int)>5)=false:=zdf
  by_cases h1:nC p.1 1 8≤5
  ·have c1:decide ((nC p.1 1 8:Int)>5)=false:=zdf
   refine⟨.inr ((),()),.again (x':=((1,()),p)) ?_ (.again (x':=((2,()),p)) ?_ (.out rfl)),by simp[h0,h1]⟩
   ·simp only[Jn,a,zov (a _),c0,qu,zU,dW,pO];rfl
   ·simp only[Jn,a,zov (a _),c1,qu,zU,dW,pO];rfl
  ·have c1:decide ((nC p.1 1 8:Int)>5)=true:=zdt
   refine⟨.inl (false,()),.again (x':=((1,()),p)) ?_ (.out ?_),by simp[h0,h1]⟩
   ·simp only[Jn,a,zov (a _),c0,qu,zU,dW,pO];rfl
   ·simp only[Jn,a,zov (a _),c1,qu,zU,dW];rfl
 ·have c0:decide ((nC p.1 0 8:Int)>5)=true:=zdt
  refine⟨.inl (false,()),.out ?_,by simp[h0]⟩
  simp only[Jn,a,zov (a _),c0,qu,zU,dW];rfl
def acY (p:Po)(hp:p.1.length≤9999999):H_ p=some (Jh p,()):=by
 obtain⟨l,nx,u⟩:=p
 have hlm:l.length≤9999999:=hp
 unfold Jh
 by_cases hl:l.length=8
 ·have c1:((l.length:Int) != 8)=false:=by rw[hl];rfl
  have c2:(l.length==8)=true:=by rw[hl];rfl
  simp only[H_,c1,c2,B4,zov (B4 _ _ _),pO,qu,zl99,zU,dW,zl108]
  cases hn:m6 nx 0 7 with
  |false=>rfl
  |true=>
   simp only[zl70,pO,zl108]
   have q:=Cs (r:=Jm) (fun i=>(((),(i:Int)),(l,nx,u))) (n:=8) (p:=Iy l) (yf:=.inl (false,())) (yt:=.inr ((),(l,nx,u))) (fun i hi _ hr=>by
     have hi8:i<l.length:=by omega
     unfold Iy at hr
     rw[bB] at hr
     have a:=Ye (l.getD i zF)
     rw[hr.1] at a
     have qi:=Cs (r:=Ft) (fun k=>(((k:Int),(),(i:Int)),(l,nx,u))) (n:=i) (p:=fun k=> !DY l i k) (yf:=.inl (false,())) (yt:=.inr (((),(i:Int)),(l,nx,u))) (fun k hk _ ht=>by
       have ht':DY l i k=false:=by simpa using ht
       unfold DY zF at ht'
       simp only[Ft,gl hk,gl hi8,gl (show k<l.length by omega),g0,zl94,ht',zl99,zU,zl92,dW,pO,zw (i:=k)]) (fun k hk _ ht=>by
       have ht':DY l i k=true:=by simpa using ht
       unfold DY zF at ht'
       simp only[Ft,gl hk,gl hi8,gl (show k<l.length by omega),g0,zl94,ht',zl99,zU,zl92,dW]) (by
       have d1:decide ((i:Int)<(i:Int))=false:=zdf
       simp only[Ft,d1,pO])
     rw[bQ hr.2] at qi
     have Gn:Comes Ft ((0,(),(i:Int)),(l,nx,u)) _:=qi
     unfold zF at a
     simp only[Jm,gl hi8,g0,zl94,a,zov a,qu,zU,zl92,dW,zl70,pO,cb Gn,cv Gn,sumC,zw (i:=i)]) (fun i hi _ hr=>by
     have hi8:i<l.length:=by omega
     unfold Iy at hr
     have a:=Ye (l.getD i zF)
     cases hok:okF (l.getD i zF) with
     |false=>
      rw[hok] at a
      unfold zF at a
      simp only[Jm,gl hi8,g0,zl94,a,zov a,qu,zU,zl92,dW,zl98]
     |true=>
      rw[hok] at a
      rw[hok,zl108] at hr
      have qi:=Cs (r:=Ft) (fun k=>(((k:Int),(),(i:Int)),(l,nx,u))) (n:=i) (p:=fun k=> !DY l i k) (yf:=.inl (false,())) (yt:=.inr (((),(i:Int)),(l,nx,u))) (fun k hk _ ht=>by
       have ht':DY l i k=false:=by simpa using ht
       unfold DY zF at ht'
       simp only[Ft,gl hk,gl hi8,gl (show k<l.length by omega),g0,zl94,ht',zl99,zU,zl92,dW,pO,zw (i:=k)]) (fun k hk _ ht=>by
       have ht':DY l i k=true:=by simpa using ht
       unfold DY zF at ht'
       simp only[Ft,gl hk,gl hi8,gl (show k<l.length by omega),g0,zl94,ht',zl99,zU,zl92,dW]) (by
       have d1:decide ((i:Int)<(i:Int))=false:=zdf
       simp only[Ft,d1,pO])
      rw[cT (by rw[hr];simp)] at qi
      have Gn:Comes Ft ((0,(),(i:Int)),(l,nx,u)) _:=qi
      unfold zF at a
      simp only[Jm,gl hi8,g0,zl94,a,zov a,qu,zU,zl92,dW,zl70,pO,cb Gn,cv Gn,sumC]) (by
     have d1:decide (((8:Nat):Int)<(l.length:Int))=false:=zdf
     simp only[Jm,d1,pO,ia])
   have q':Comes Jm (((),0),(l,nx,u)) _:=q
   simp only[cb q',cv q',dW]
   cases hr:ld 8 (Iy l) with
   |false=>simp[sumC]
   |true=>
    obtain⟨y,hy,ey⟩:=akq (l,nx,u) hl
    simp only[fE,sumC,cb hy,cv hy,dW,zl108]
    rw[ey]
    cases (decide (nC l 0 8≤5)&&decide (nC l 1 8≤5))<;>rfl
 ·have c1:((l.length:Int) != 8)=true:=bne_iff_ne.2 (by omega)
  have c2:(l.length==8)=false:=zl89.2 hl
  simp only[H_,c1,c2,dW,zl70,zl98,zl76,zU,zl93]
def RW (c:g9.D):Prop:=c.2.1.length≤1048576
def JU (p:mb.D):Prop:=p.1.length≤1048576
structure CR (s:b7.D):Prop where
 log:s.2.2.1.length≤1048576
 cat:RW s.2.2.2.1
 items:∀x∈s.2.2.2.1.2.1,x.2.1.length≤1048576∧x.2.2.2.1.length≤1048576
 G1:JU s.2.2.2.2.1
 bks:s.2.2.2.2.2.1.length≤1048576
 Au:s.2.2.2.2.2.2.1.length≤1048576
instance itDec:DecidableEq It:=inferInstanceAs (DecidableEq (Int×List UInt8×Int×List UInt8×Unit))
instance ctDec:DecidableEq Ct:=fun a b=>if h1:a.1=b.1 then if h2:a.2.1=b.2.1 then .isTrue (by obtain⟨_,_,_⟩:=a;obtain⟨_,_,_⟩:=b;simp_all) else .isFalse (fun e=>h2 (by rw[e])) else .isFalse (fun e=>h1 (by rw[e]))
def Ya (a b:It):(a.1==b.1&&(a.2.1==b.2.1&&(a.2.2.1==b.2.2.1&&(a.2.2.2.1==b.2.2.2.1&&true))))=decide (a=b):=by
 obtain⟨a1,a2,a3,a4,a5⟩:=a
 obtain⟨b1,b2,b3,b4,b5⟩:=b
 rw[zl105]
 simp
def afQ (a b:List It)(h:a.length=b.length):ld a.length (fun i=>decide (a.getD i z0=b.getD i z0))=decide (a=b):=by
 rw[zl105,wh,zl106]
 constructor
 ·intro hh
  refine List.ext_getElem h fun i h1 h2=>?_
  have:=zl79 (hh i h1)
  rwa[getD_eq _ _ _ h1,getD_eq _ _ _ h2] at this
 ·rintro rfl i _;exact zl86 rfl
def ct_eq (a b:Ct)(hl:a.2.1.length=b.2.1.length):(decide (a.1=b.1)&&decide (a.2.1=b.2.1))=decide (a=b):=by
 obtain⟨a1,a2,a3⟩:=a
 obtain⟨b1,b2,b3⟩:=b
 rw[zl105]
 simp
def ajN (a b:Ct)(hl:a.2.1.length≤9999999):H8 (a,b)=some (decide (a=b),()):=by
 by_cases h1:a.1=b.1
 ·by_cases h2:a.2.1.length=b.2.1.length
  ·have c1:(a.1 != b.1)=false:=by simp[h1]
   have c2:((a.2.1.length:Int) != (b.2.1.length:Int))=false:=by simp[h2]
   have q:=Cs (r:=Kr) (fun i=>(((i:Int),(),()),b,a)) (n:=a.2.1.length) (p:=fun i=>decide (a.2.1.getD i z0=b.2.1.getD i z0)) (yf:=.inl (false,())) (yt:=.inr ((),())) (fun i hi _ hp=>by
     have hp':=(Ya (a.2.1.getD i z0) (b.2.1.getD i z0)).trans hp
     unfold z0 at hp'
     simp only[Kr,gl hi,gl (show i<b.2.1.length by omega),g0,zl94,hp',zU,zl92,zl70,dW,pO,zw (i:=i)]) (fun i hi _ hp=>by
     have hp':=(Ya (a.2.1.getD i z0) (b.2.1.getD i z0)).trans hp
     unfold z0 at hp'
     simp only[Kr,gl hi,gl (show i<b.2.1.length by omega),g0,zl94,hp',zU,zl92,zl98,dW]) (by
     have d1:decide ((a.2.1.length:Int)<(a.2.1.length:Int))=false:=zdf
     simp only[Kr,d1,pO])
   rw[afQ _ _ h2] at q
   have q':Comes Kr ((0,(),()),b,a) _:=q
   simp only[H8,c1,c2,pO,cb q',cv q',dW,ia]
   rw[←ct_eq a b h2,zl86 h1,zl108]
   cases decide (a.2.1=b.2.1)<;>rfl
  ·have c1:(a.1 != b.1)=false:=by simp[h1]
   have c2:((a.2.1.length:Int) != (b.2.1.length:Int))=true:=bne_iff_ne.2 (by omega)
   simp only[H8,c1,c2,pO,dW,ia]
   rw[zl90 (by rintro rfl;exact h2 rfl)]
 ·have c1:(a.1 != b.1)=true:=bne_iff_ne.2 h1
  simp only[H8,c1,dW,ia]
  rw[zl90 (by rintro rfl;exact h1 rfl)]
def D4 (l:List It)(e:Int):Option Nat:=first l.length fun i=>(l.getD i z0).2.2.1==e
def HG (l:List It):Option Nat→It
 |some i=>l.getD i z0
 |none=>z0
def Rm (c:Ct)(e:Int)(hl:c.2.1.length≤9999999):Gf (c,e)=some ((HG c.2.1 (D4 c.2.1 e),(D4 c.2.1 e).isSome),()):=by
 obtain⟨ce,l,u⟩:=c
 have hl:l.length≤9999999:=hl
 have q:=El (r:=K5) (fun i=>(((),(i:Int),(),e),((0:Int),([]:List UInt8),(0:Int),([]:List UInt8),()),(ce,l,u))) (n:=l.length) (p:=fun i=>(l.getD i z0).2.2.1==e) (yt:=fun i=>.inl (((),true),l.getD i z0)) (yn:=.inr ((),(0:Int),[],(0:Int),[],())) (fun i hi hp=>by
   have hp':((l.getD i z0).2.2.1==e)=false:=hp
   unfold z0 at hp'
   simp only[K5,gl hi,g0,zl94,hp',zU,zl92,dW,pO,zw (i:=i)]) (fun i hi hp=>by
   have hp':((l.getD i z0).2.2.1==e)=true:=hp
   unfold z0 at hp' ⊢
   simp only[K5,gl hi,g0,zl94,hp',zU,zl92,dW]) (by
   have d1:decide ((l.length:Int)<(l.length:Int))=false:=zdf
   simp only[K5,d1,pO])
 have q':Comes K5 (((),0,(),e),((0:Int),([]:List UInt8),(0:Int),([]:List UInt8),()),(ce,l,u)) _:=q
 simp only[Gf,cb q',cv q',dW,D4,ia]
 cases first l.length (fun i=>(l.getD i z0).2.2.1==e)<;>rfl
def Py:Eg=Bn:=rfl
def EO (a b:Int):Int:=IntKind.wrap .i64 (Int.tdiv (IntKind.wrap .i64 (IntKind.wrap .i64 (a+b)-1)) b)
def count_eq (a b:Int)(x y:List Int)(u:Unit)(h:b≠0):Bn (a,b,x,y,u)=some (EO a b,()):=by
 have c:(b != 0)=true:=bne_iff_ne.2 h
 simp only[Bn,c,zU,dW];rfl
def Nu (a b:Nat)(ha:a≤100000)(hb:1≤b)(cE:b≤1000):EO a b=(((a+b-1) / b:Nat):Int):=by
 have w1:IntKind.wrap .i64 ((a:Int)+(b:Int))=((a+b:Nat):Int):=wi (by omega) (by omega)
 have w2:IntKind.wrap .i64 (((a+b:Nat):Int)-1)=((a+b-1:Nat):Int):=wi (by omega) (by omega)
 have w3:Int.tdiv ((a+b-1:Nat):Int) (b:Int)=(((a+b-1) / b:Nat):Int):=by rw[zl91 (by omega)];rfl
 have hle:(a+b-1) / b≤a+b-1:=Nat.div_le_self _ _
 rw[EO,w1,w2,w3];exact wi rfl (by omega)
def ae5 (L:Nat)(hL:L≤300):∀d s:Nat,s+d=13→1≤s→∃s':Nat,1≤s'∧s'≤13∧Comes Fw (((),()),((L:Int),(s:Int),(),(),()),((0:Int),(0:Int),(),(),()),[],[],[],[]) (((),()),((0:Int),(0:Int),(),(),()),((L:Int),(s':Int),(),(),()),[],[],[],[]):=by
 intro d
 induction d with
 |zero=>
  intro s h1 h2
  have:s=13:=by omega
  subst this
  refine⟨13,by omega,by omega,.out ?_⟩
  have a:=count_eq (L:Int) ((13:Nat):Int) [] [] () (by omega)
  rw[Nu L 13 (by omega) (by omega) (by omega)] at a
  have c1:decide ((((L+13-1) / 13:Nat):Int)>24)=false:=zdf
  simp only[Fw,a,zov a,c1,qu,zU,dW,pO]
 |succ d ih=>
  intro s h1 h2
  have a:=count_eq (L:Int) (s:Int) [] [] () (by omega)
  cases hc:decide (EO (L:Int) (s:Int)>24) with
  |true=>
   obtain⟨s',g1,g2,g3⟩:=ih (s+1) (by omega) (by omega)
   refine⟨s',g1,g2,.again ?_ g3⟩
   simp only[Fw,a,zov a,hc,qu,zU,dW,zw (i:=s)]
  |false=>
   refine⟨s,by omega,by omega,.out ?_⟩
   simp only[Fw,a,zov a,hc,qu,zU,dW,pO]
def Zt (L:Nat)(h1:1≤L)(hL:L≤300):∃P:gv.D,P.2.1≠0∧Ch (L:Int)=some (P,())∧q90 (L:Int)=some (P,()):=by
 obtain⟨s,g1,g2,g3⟩:=ae5 L hL 5 8 (by omega) (by omega)
 have g3':Comes Fw (((),()),((L:Int),(8:Int),(),(),()),((0:Int),(0:Int),(),(),()),[],[],[],[]) _:=g3
 have g4:Comes T1 (((),()),((L:Int),(8:Int),(),(),()),((0:Int),(0:Int),(),(),()),[],[],[],[]) _:=g3
 have a:=count_eq (L:Int) (s:Int) [] [] () (by omega)
 have wi1:m6 (L:Int) 1 300=true:=zdt
 cases hk:decide (IntKind.wrap .i64 (Int.tdiv (IntKind.wrap .i64 (EO (L:Int) (s:Int)+3)) 4)<EO (L:Int) (s:Int)) with
 |true=>
  refine⟨((L:Int),(s:Int),[IntKind.wrap .i64 (Int.tdiv (IntKind.wrap .i64 (EO (L:Int) (s:Int)+3)) 4),EO (L:Int) (s:Int)],[(2:Int),(3:Int)],()),by simp only;omega,?_,?_⟩
  ·simp only[Ch,cb g3',cv g3',dW,a,zov a,hk,qu,zU]
  ·simp only[q90,JP,zov (JP _ _ _),wi1,cb g4,cv g4,dW,pO,zl70,Py,a,zov a,hk,qu,zU]
 |false=>
  refine⟨((L:Int),(s:Int),[EO (L:Int) (s:Int)],[(1:Int)],()),by simp only;omega,?_,?_⟩
  ·simp only[Ch,cb g3',cv g3',dW,a,zov a,hk,qu,zU,pO]
  ·simp only[q90,JP,zov (JP _ _ _),wi1,cb g4,cv g4,dW,pO,zl70,Py,a,zov a,hk,qu,zU]
noncomputable def TT (L:Int):Int:=EO (zog Ch L).1.1 (zog Ch L).1.2.1
noncomputable def JZ (c:Ct) (f:Fr):Bool:=bif decide (f.2.2.2.1>0) then true else bif decide (f.2.1>0) then(match D4 c.2.1 f.2.1 with
 |none=>true
 |some k=>bif(c.2.1.getD k z0).1 != f.1 then true else decide (f.2.2.1≥TT ((c.2.1.getD k z0).2.2.2.1.length:Int))) else false
def Sr {l:List It}{e:Int}{i:Nat}(h:D4 l e=some i):i<l.length:=(CE.1 h).1
def acV (s:b7.D)(I:BK s.2.2.2.1)(i:Nat)(hi:i<s.2.2.2.2.1.1.length)(hl:s.2.2.2.2.1.1.length≤9999999) :
  Gj (((i:Int),()),s)=if JZ s.2.2.2.1 (s.2.2.2.2.1.1.getD i zF)=true then some (.inr (.inl (false,()))) else some (.inl ((((i+1:Nat):Int),()),s)):=by
 have bK:s.2.2.2.1.2.1.length≤8:=I.len
 have ed:=Rm s.2.2.2.1 (s.2.2.2.2.1.1.getD i zF).2.1 (by omega)
 have w:=zw (i:=i)
 unfold JZ
 cases hw:decide ((s.2.2.2.2.1.1.getD i zF).2.2.2.1>0) with
 |true=>
  unfold zF at ed hw ⊢
  simp only[Gj,gl hi,g0,zl94,ed,zov ed,hw,qu,zl70,zl74,zl98,zl76,zl99,zU,zl92,dW,fE]
 |false=>
  cases he:decide ((s.2.2.2.2.1.1.getD i zF).2.1>0) with
  |false=>
   unfold zF at ed hw he ⊢
   simp only[Gj,gl hi,g0,zl94,ed,zov ed,hw,he,qu,zl70,zl74,zl93,zl98,zl76,zl99,zU,zl92,dW,pO,w]
   rfl
  |true=>
   cases hk:D4 s.2.2.2.1.2.1 (s.2.2.2.2.1.1.getD i zF).2.1 with
   |none=>
    rw[hk] at ed
    unfold zF at ed hw he ⊢
    simp only[Gj,gl hi,g0,zl94,ed,zov ed,hw,he,HG,Option.isSome,qu,zl70,zl98,zl76,zl99,Bool.and_true,zU,zl92,dW,pO,fE]
   |some k=>
    rw[hk] at ed
    have hkl:=Sr hk
    have hp:=Ji (I.ok (s.2.2.2.1.2.1.getD k z0) (by rw[getD_eq _ _ _ hkl];exact zl96 hkl))
    obtain⟨P,hP,f1,_⟩:=Zt _ hp.2.2.1 hp.2.2.2
    have f3 (x y:List Int) (u:Unit):=count_eq P.1 P.2.1 x y u hP
    have f4 (x y:List Int) (u:Unit):=zov (f3 x y u)
    cases hh:((s.2.2.2.1.2.1.getD k z0).1 != (s.2.2.2.2.1.1.getD i zF).1) with
    |true=>
     unfold zF at ed hw he hh ⊢
     simp only[Gj,gl hi,g0,zl94,ed,zov ed,hw,he,hh,HG,Option.isSome,qu,zl70,zl98,zl76,zl99,Bool.and_true,zU,zl92,dW,pO,fE]
    |false=>
     have hc:TT ((s.2.2.2.1.2.1.getD k z0).2.2.2.1.length:Int)=EO P.1 P.2.1:=by rw[TT,zov f1]
     unfold zF at ed hw he hh ⊢
     simp only[hc,Gj,gl hi,g0,zl94,ed,zov ed,hw,he,hh,f1,zov f1,f3,f4,HG,Option.isSome,qu,zl70,zl98,zl99,zU,zl92,dW,pO,w]
     cases decide ((s.2.2.2.2.1.1.getD i ((0:Int),(0:Int),(0:Int),(0:Int),false,())).2.2.1≥EO P.1 P.2.1)<;>rfl
abbrev Bu:Type:=Int×Int×Int×Int×Unit
def IK (b:Bu):Bool:=m6 b.2.1 0 99999&&m6 b.1 0 b.2.1&&m6 b.2.2.1 0 99999&&m6 b.2.2.2.1 0 99999
def acS (b:Bu):q66 b=some (IK b,()):=by
 unfold IK
 simp only[q66,B4,zov (B4 _ _ _),qu,zl99,zU,zl92,dW]
 cases m6 b.2.1 0 99999<;>cases m6 b.1 0 b.2.1<;>cases m6 b.2.2.1 0 99999<;>cases m6 b.2.2.2.1 0 99999<;>rfl
def zB:Bu:=((0:Int),(0:Int),(0:Int),(0:Int),())
def JW (now:Int)(b:Bu):Bool:=bif bif bif !IK b then true else b.2.1 != 40 then true else b.2.2.1 != 8 then true else decide (b.2.2.2.1>now)
def acR (s:b7.D)(i:Nat)(hi:i<s.2.2.2.2.2.1.length)(hl:s.2.2.2.2.2.1.length≤9999999) :
  K6 (((i:Int),()),s)=if JW s.2.1 (s.2.2.2.2.2.1.getD i zB)=true then some (.inr (.inl (false,()))) else some (.inl ((((i+1:Nat):Int),()),s)):=by
 have w:=zw (i:=i)
 unfold JW zB
 simp only[K6,gl hi,g0,zl94,acS,zov (acS _),qu,zU,zl92,dW,w]
 generalize (bif bif bif !IK _ then true else _ then true else _ then true else _)=b
 cases b<;>rfl
abbrev Sv:Type:=Int×Int×Int×Int×Int×Int×Unit
def zS:Sv:=((0:Int),(0:Int),(0:Int),(0:Int),(0:Int),(0:Int),())
def Ow (l:List Sv)(i:Nat)(c:Int):Bool:=match i with
 |0=>false
 |m+1=>decide ((l.getD m zS).1≥c)
def NC (c:Ct)(s:Sv):Bool:=bif(D4 c.2.1 s.2.2.1).isSome then(HG c.2.1 (D4 c.2.1 s.2.2.1)).1 != Int.tmod s.1 2 else false
def EK (c:Ct)(now:Int)(l:List Sv)(i:Nat):Bool:=
 ((((((!m6 (l.getD i zS).1 0 3 || Ow l i (l.getD i zS).1) || !m6 (l.getD i zS).2.1 1 99999) || !m6 (l.getD i zS).2.2.1 1 c.1) || !m6 (l.getD i zS).2.2.2.1 0 9999) || !m6 (l.getD i zS).2.2.2.2.1 0 3) || !m6 (l.getD i zS).2.2.2.2.2.1 0 now) || NC c (l.getD i zS)
def WO (a b:Bool):(bif a then true else b)=(a || b):=by cases a<;>rfl
def ac1 (s:b7.D)(hc:s.2.2.2.1.2.1.length≤9999999)(i:Nat)(hi:i<s.2.2.2.2.2.2.1.length)(hl:s.2.2.2.2.2.2.1.length≤9999999) :
  JA (((i:Int),()),s)=if EK s.2.2.2.1 s.2.1 s.2.2.2.2.2.2.1 i=true then some (.inr (.inl (false,()))) else some (.inl ((((i+1:Nat):Int),()),s)):=by
 have w:=zw (i:=i)
 have ed:=Rm s.2.2.2.1 (s.2.2.2.2.2.2.1.getD i zS).2.2.1 hc
 have hh (x:Int):Ci x=some (Int.tmod x 2,()):=rfl
 have fin (A B:Bool) (X Y:Option ((((Int)×(Unit))×((b7.D)))⊕((((Bool))×(Unit))⊕((Unit)×(Unit))))):(bif A then X else bif B then X else Y)=if(A || B)=true then X else Y:=by cases A<;>cases B<;>rfl
 rcases zl83 i with h0|h0
 ·subst h0
  have d1:decide (((0:Nat):Int)>0)=false:=rfl
  unfold EK NC Ow
  unfold zS at ed ⊢
  simp only[JA,gl hi,g0,zl94,B4,zov (B4 _ _ _),ed,zov ed,hh,zov (hh _),d1,WO,qu,zl99,zl93,zl98,zl76,Bool.or_false,zU,zl92,dW,pO,w]
  exact fin _ _ _ _
 ·obtain⟨m,rfl⟩:∃m,i=m+1:=⟨i-1,by omega⟩
  have d1:decide (((m+1:Nat):Int)>0)=true:=zdt
  have w1:IntKind.wrap .i64 (((m+1:Nat):Int)-1)=(m:Int):=wi (by omega) (by omega)
  unfold EK NC Ow
  unfold zS at ed ⊢
  simp only[JA,gl hi,gl (show m<s.2.2.2.2.2.2.1.length by omega),g0,zl94,w1,B4,zov (B4 _ _ _),ed,zov ed,hh,zov (hh _),d1,WO,qu,zl99,zU,zl92,dW,w]
  exact fin _ _ _ _
noncomputable def Bz (s:b7.D):List (List UInt8)×Nat:=DF hash s.2.2.1
noncomputable def Sn (s:b7.D):Bool:=(s.2.2.2.1.2.1.length==0&&s.2.2.2.1.1==0&&s.2.2.2.2.1.1.length==0&&s.2.2.2.2.1.2.1==0&&s.2.2.2.2.2.1.length==0&&s.2.2.2.2.2.2.1.length==0)
noncomputable def fitsV (s:b7.D):Bool:=ld s.2.2.2.2.1.1.length (fun i=> !JZ s.2.2.2.1 (s.2.2.2.2.1.1.getD i zF))
noncomputable def bktsV (s:b7.D):Bool:=ld s.2.2.2.2.2.1.length (fun i=> !JW s.2.1 (s.2.2.2.2.2.1.getD i zB))
noncomputable def Rs (s:b7.D):Bool:=ld s.2.2.2.2.2.2.1.length (fun i=> !EK s.2.2.2.1 s.2.1 s.2.2.2.2.2.2.1 i)
noncomputable def upV (s:b7.D):Bool:=(Bz s).2==s.2.2.1.length&&(decide ((DA (Bz s).1).1=s.2.2.2.1)&&(Jh s.2.2.2.2.1&&(s.2.2.2.2.2.1.length==2&&(Rs s&&(fitsV s&&bktsV s)))))
noncomputable def AL (s:b7.D):Bool:=m6 s.2.1 0 99999&&(decide (s.2.2.1.length≤9000)&&((DA (Bz s).1).2&&(bif s.1 then upV s else Sn s)))
def Px {l:List (List UInt8)}(h:(DA l).2=true):BK (DA l).1:=by
 unfold DA at h ⊢
 cases e:GG (0,[],()) l with
 |none=>rw[e] at h;cases h
 |some c=>exact WW l _ c R9 e
def ajr (s:b7.D)(hc:s.2.2.2.1.2.1.length≤9999999)(hl:s.2.2.2.2.2.2.1.length≤9999999):q50 s=some (Rs s,()):=by
 have q:=Cs (r:=JA) (fun i=>(((i:Int),()),s)) (n:=s.2.2.2.2.2.2.1.length) (p:=fun i=> !EK s.2.2.2.1 s.2.1 s.2.2.2.2.2.2.1 i) (yf:=.inl (false,())) (yt:=.inr ((),())) (fun i hi _ hp=>by
   rw[ac1 s hc i hi hl,cT (by simpa using hp)]) (fun i hi _ hp=>by
   rw[ac1 s hc i hi hl,bQ (by simpa using hp)]) (by
   have d1:decide ((s.2.2.2.2.2.2.1.length:Int)<(s.2.2.2.2.2.2.1.length:Int))=false:=zdf
   simp only[JA,d1,pO,ia])
 have q':Comes JA ((0,()),s) _:=q
 simp only[q50,cb q',cv q',dW,ia]
 unfold Rs
 cases ld s.2.2.2.2.2.2.1.length (fun i=> !EK s.2.2.2.1 s.2.1 s.2.2.2.2.2.2.1 i)<;>rfl
def acC (s:b7.D)(h:s.2.2.1.length≤9999999):(Bz s).1.length≤9999999∧∀r∈(Bz s).1,r.length≤9999999:=by
 obtain⟨h1,h2,h3⟩:=S_ hash HJ (s.2.2.1.length+1) s.2.2.1 0
 refine⟨?_,fun r hr=>?_⟩
 ·change (Cd hash (s.2.2.1.length+1) s.2.2.1 0).1.length≤9999999;omega
 ·have:=h3 r hr;omega
def MW (s:b7.D)(S:CR s):Gi s=some (AL s,()):=by
 have LK:=S.log
 have hbk:=S.bks
 have hsv:=S.Au
 have hfr:s.2.2.2.2.1.1.length≤1048576:=S.G1
 have hct:s.2.2.2.1.2.1.length≤1048576:=S.cat
 have a:=P8 s.2.2.1 (by omega)
 obtain⟨r1,r2⟩:=acC s (by omega)
 have b:=acU (Bz s).1 r1 r2
 unfold AL
 change Fu s.2.2.1=some (((Bz s).1,((Bz s).2:Int)),()) at a
 have hle:decide ((s.2.2.1.length:Int)>9000) = !decide (s.2.2.1.length≤9000):=by
  by_cases h:s.2.2.1.length≤9000
  ·rw[zl86 h,zdf];rfl
  ·rw[zl90 h,zdt];rfl
 have Oi (x y:Nat):((x:Int)==(y:Int))=(x==y):=by rw[zl105,zl78,zl78];omega
 have natB0 (x:Nat):((x:Int)==0)=(x==0):=Oi x 0
 have natB2 (x:Nat):((x:Int) != 2) = !(x==2):=by rw[←Oi x 2];rfl
 simp only[Gi,B4,zov (B4 _ _ _),hle,qu,zU,dW]
 cases m6 s.2.1 0 99999 with
 |false=>rfl
 |true=>
 cases decide (s.2.2.1.length≤9000) with
 |false=>rfl
 |true=>
 simp only[zl70,pO,zl108]
 cases d_:s.1 with
 |false=>
  have sy:Ku s=some ((DA (Bz s).1).2,()):=by
   simp only[Ku,a,zov a,b,zov b,qu,zU,dW]
  simp only[zl98,dW,pO,sy,zov sy,zl99,natB0,Sn]
  congr 2
  cases (DA (Bz s).1).2<;>cases (s.2.2.2.1.2.1.length==0)<;>cases (s.2.2.2.1.1==0)<;>cases (s.2.2.2.2.1.1.length==0)<;>cases (s.2.2.2.2.1.2.1==0)<;>cases (s.2.2.2.2.2.1.length==0)<;>cases (s.2.2.2.2.2.2.1.length==0)<;>rfl
 |true=>
  have sm:=ajN (DA (Bz s).1).1 s.2.2.2.1
  have po:=acY s.2.2.2.2.1 (by omega)
  have sv:=ajr s (by omega) (by omega)
  have e1:(((Bz s).2:Int) != (s.2.2.1.length:Int)) = !((Bz s).2==s.2.2.1.length):=by rw[←Oi];rfl
  simp only[zl70,pO,dW,a,zov a,b,zov b,po,zov po,sv,zov sv,zl99,e1,natB2]
  unfold upV
  cases hcat:(DA (Bz s).1).2 with
  |false=>simp only[zl98,dW,zl70,zl76,zl92,zl93]
  |true=>
  cases hrd:((Bz s).2==s.2.2.1.length) with
  |false=>simp only[zl98,dW,pO,zl70,zl76,zl92,zl93,zl74]
  |true=>
  have I:=Px hcat
  have hI:=I.len
  have sm':=sm (by omega)
  simp only[sm',zov sm',zl70,zl98,pO,dW,zl99,zl108,zl92]
  by_cases hsame:(DA (Bz s).1).1=s.2.2.2.1
  ·rw[zl86 hsame]
   rw[hsame] at I
   cases hpo:Jh s.2.2.2.2.1 with
   |false=>rfl
   |true=>
   cases cE:(s.2.2.2.2.2.1.length==2) with
   |false=>rfl
   |true=>
   cases hsr:Rs s with
   |false=>rfl
   |true=>
    simp only[zl70,pO,zl108]
    have q:=Cs (r:=Gj) (fun i=>(((i:Int),()),s)) (n:=s.2.2.2.2.1.1.length) (p:=fun i=> !JZ s.2.2.2.1 (s.2.2.2.2.1.1.getD i zF)) (yf:=.inl (false,())) (yt:=.inr ((),s)) (fun i hi _ hp=>by
      rw[acV s I i hi (by omega),cT (by simpa using hp)]) (fun i hi _ hp=>by
      rw[acV s I i hi (by omega),bQ (by simpa using hp)]) (by
      have d1:decide ((s.2.2.2.2.1.1.length:Int)<(s.2.2.2.2.1.1.length:Int))=false:=zdf
      simp only[Gj,d1,pO,ia])
    have q':Comes Gj ((0,()),s) _:=q
    have q2:=Cs (r:=K6) (fun i=>(((i:Int),()),s)) (n:=s.2.2.2.2.2.1.length) (p:=fun i=> !JW s.2.1 (s.2.2.2.2.2.1.getD i zB)) (yf:=.inl (false,())) (yt:=.inr ((),())) (fun i hi _ hp=>by
      rw[acR s i hi (by omega),cT (by simpa using hp)]) (fun i hi _ hp=>by
      rw[acR s i hi (by omega),bQ (by simpa using hp)]) (by
      have d1:decide ((s.2.2.2.2.2.1.length:Int)<(s.2.2.2.2.2.1.length:Int))=false:=zdf
      simp only[K6,d1,pO,ia])
    have q2':Comes K6 ((0,()),s) _:=q2
    simp only[cb q',cv q',dW]
    unfold fitsV bktsV
    cases hf:ld s.2.2.2.2.1.1.length (fun i=> !JZ s.2.2.2.1 (s.2.2.2.2.1.1.getD i zF)) with
    |false=>simp[sumC]
    |true=>
     simp only[fE,sumC,cb q2',cv q2',dW,zl108]
     cases hb:ld s.2.2.2.2.2.1.length (fun i=> !JW s.2.1 (s.2.2.2.2.2.1.getD i zB))<;>rfl
  ·rw[zl90 hsame];rfl
section
variable {α:Type} (DR:α→Int→α) (n1:α→Nat)
def Ea:List α→Int→List α
 | [],_=>[]
 |a::l,k=>DR a k::Ea l (k+n1 a)
def Rv (l:List α):Nat:=(l.map n1).sum
def ks (k:Int)(l:List α)(i:Nat):Int:=k+(Rv n1 (l.take i):Nat)
def part (k:Int)(l:List α)(i:Nat):List α:=Ea DR n1 (l.take i) k++l.drop i
def LY:∀(l:List α) (k:Int),(Ea DR n1 l k).length=l.length
 | [],_=>rfl
 |_::l,k=>by simp[Ea,LY l]
def YP:∀(p q:List α) (k:Int),Ea DR n1 (p++q) k=Ea DR n1 p k++Ea DR n1 q (k+(Rv n1 p:Nat))
 | [],q,k=>by simp[Ea,Rv]
 |a::p,q,k=>by
  simp only[zl20,Ea,YP p q,Rv,mT,zl82]
  rw[show k+(n1 a:Int)+((p.map n1).sum:Nat)=k+((n1 a+(p.map n1).sum:Nat):Int) by omega]
def aki (l:List α)(i:Nat)(h:i<l.length):l.take (i+1)=l.take i ++ [l[i]]:=by
 rw[List.take_add_one,zl27 h];rfl
def ahb (k:Int)(l:List α):part DR n1 k l 0=l:=by simp[part,Ea]
def ag_ (k:Int)(l:List α):part DR n1 k l l.length=Ea DR n1 l k:=by simp[part]
def Zd (k:Int)(l:List α)(i:Nat)(h:i≤l.length):(part DR n1 k l i).length=l.length:=by simp[part,LY];omega
def Zc (k:Int)(l:List α)(i:Nat)(z:α)(h:i<l.length):(part DR n1 k l i).getD i z=l[i]:=by
 have hl:(Ea DR n1 (l.take i) k).length=i:=by rw[LY];simp;omega
 unfold part
 rw[zl26,gj (by omega),hl,Nat.sub_self,zl5,zl27 (by omega)]
 simp
def aha (k:Int)(l:List α)(i:Nat)(h:i<l.length):(part DR n1 k l i).set i (DR l[i] (ks n1 k l i))=part DR n1 k l (i+1):=by
 have hl:(Ea DR n1 (l.take i) k).length=i:=by rw[LY];simp;omega
 unfold part
 rw[aki l i h,YP,←List.getElem_cons_drop h,zl87 _ _ (by omega),hl,Nat.sub_self,zl16]
 simp[Ea,ks]
end
def Oi (x y:Nat):((x:Int)==(y:Int))=(x==y):=by rw[zl105,zl78,zl78];omega
noncomputable def PV (log:List UInt8):Bool:=((DF hash log).2==log.length)&&decide (log.length≤9000)
noncomputable def xb (log r:List UInt8):List UInt8×Bool:=
 if(PV log&&decide (1≤r.length∧r.length≤500))=true∧(log++line hash (DF hash log).1.length r).length≤9000 then(log++line hash (DF hash log).1.length r,true) else([],false)
def acz (log:List UInt8):(DF hash log).2≤log.length∧20*(DF hash log).1.length≤log.length:=by
 obtain⟨h1,h2,_⟩:=S_ hash HJ (log.length+1) log 0
 exact⟨h1,nV h2 h1⟩
def afR (log:List UInt8)(hl:log.length≤9999999):KP log=some (PV log,()):=by
 have a:=P8 log hl
 simp only[KP,a,zov a,qu,zU,dW,Oi,PV]
 cases e:(DF hash log).2==log.length with
 |false=>rfl
 |true=>
  have:(DF hash log).2=log.length:=by simpa using e
  rw[this]
  have:decide ((log.length:Int)≤9000)=decide (log.length≤9000):=by rw[zl105,zl106,zl106];omega
  rw[this];rfl
def afw (n a b:Nat):m6 (n:Int) (a:Int) (b:Int)=decide (a≤n∧n≤b):=by
 unfold m6;rw[zl105,zl106,zl106];omega
def afO (n:Nat)(r:List UInt8)(hn:n≤9999999)(hr:r.length≤9999999):(line hash n r).length≤r.length+40:=by
 rw[S6 hash HJ]
 have:=Fg n hn
 have:=Fg r.length hr
 omega
def long9 (x:List UInt8):decide ((x.length:Int)>9000) = !decide (x.length≤9000):=by
 by_cases h:x.length≤9000
 ·rw[zl86 h,zdf];rfl
 ·rw[zl90 h,zdt];rfl
def Uf (log r:List UInt8)(hl:log.length≤9999999)(hr:r.length≤9999999):KH (log,r)=some (xb log r,()):=by
 have a:=P8 log hl
 have b:=afR log hl
 obtain⟨r1,r2⟩:=acz log
 have c:=S8 (DF hash log).1.length r (by omega) hr
 have hll:=afO (DF hash log).1.length r (by omega) hr
 have d:m6 (r.length:Int) 1 500=decide (1≤r.length∧r.length≤500):=afw _ 1 500
 have e:decide (log.length+(line hash (DF hash log).1.length r).length≤eV)=true:=by unfold eV;exact zdt
 simp only[KH,a,zov a,b,zov b,B4,zov (B4 _ _ _),c,zov c,d,e,qu,zU,zl99,zl92,dW,xb,long9]
 cases PV log with
 |false=>rfl
 |true=>
 cases decide (1≤r.length∧r.length≤500) with
 |false=>rfl
 |true=>
 by_cases h:(log++line hash (DF hash log).1.length r).length≤9000
 ·rw[zl86 h,bQ ⟨rfl,h⟩];rfl
 ·rw[zl90 h,cT (fun k=>h k.2)];rfl
def JV (log r:List UInt8)(h:(xb log r).2=true):(xb log r).1.length≤9000:=by
 unfold xb at h ⊢
 split
 ·rename_i k;exact k.2
 ·rename_i k;rw[cT k] at h;cases h
def Lf {n:Nat}(h:n≤1048576):decide (0+n≤eV)=true:=by unfold eV;exact zdt
def Ro (p:mb.D)(h:JU p):Gm p=some (p,()):=by
 have:p.1.length≤1048576:=h
 simp only[Gm,zU,Lf this,dW,zl17]
def MV (s:b7.D)(S:CR s)(h0:s.2.2.2.1.2.1.length≤99999):Fq s=some (s,()):=by
 have a:=copy_eq s.2.2.2.1 h0
 have b:=Ro s.2.2.2.2.1 S.G1
 simp only[Fq,a,zov a,b,zov b,zU,qu,Lf S.bks,Lf S.Au,dW,zl17]
def EX {s:b7.D}(h:AL s=true):BK s.2.2.2.1:=by
 unfold AL at h
 simp only[bB] at h
 obtain⟨_,_,hc,h⟩:=h
 cases hu:s.1 with
 |true=>
  rw[hu] at h
  simp only[dW,upV,bB,mS] at h
  rw[←h.2.1]
  exact Px hc
 |false=>
  rw[hu] at h
  simp only[pO,Sn,bB,zl78,eC] at h
  have e:s.2.2.2.1=((0:Int),[],()):=by
   rw[←h.1.1.1.1.2,←h.1.1.1.1.1]
  rw[e]
  exact R9
def F0 {s:b7.D}(h:AL s=true):s.2.2.1.length≤9000:=by
 unfold AL at h
 simp only[bB,mS] at h
 exact h.2.1
def acP {s:b7.D}(S:CR s){u:Bool}{log:List UInt8}{c:g9.D}(hl:log.length≤9000)(I:BK c):CR (u,s.2.1,log,c,s.2.2.2.2):=by
 have h8:=I.len
 refine⟨by change log.length≤_;omega,by change c.2.1.length≤_;omega,fun x hx=>?_,S.G1,S.bks,S.Au⟩
 have:=I.ok x hx
 obtain⟨_,h1,h2⟩:=Ji this
 have:=Kf _ h1
 exact⟨by omega,by omega⟩
def C8:b7.D:=(false,(0:Int),[],((0:Int),[],()),([],(0:Int),()),[],[],())
noncomputable def Rq (s:b7.D) (h:Int) (n t:List UInt8):b7.D×Int:=
 bif !s.1 then(s,1) else bif(Dv s.2.2.2.1 h n t).2 != 0 then(s,(Dv s.2.2.2.1 h n t).2) else
  bif !(xb s.2.2.1 (vT h n t)).2 then(s,4) else((s.1,s.2.1,(xb s.2.2.1 (vT h n t)).1,(Dv s.2.2.2.1 h n t).1,s.2.2.2.2),0)
noncomputable def Kp (s:b7.D) (h:Int) (n t:List UInt8):b7.D×Int:=bif !AL s then(C8,1) else Rq s h n t
def ahm {c:Ct}{h:Int}{n t:List UInt8}(hp:(Dv c h n t).2=0):Dx h n t=true∧t ≠ []∧EC h n t=true:=by
 cases hb:EC h n t with
 |false=>rw[Dv,hb] at hp;cases hp
 |true=>
  obtain⟨h1,h2,h3,h4⟩:=Ji hb
  exact⟨by unfold Dx;rw[zl86 h1,h2,zl86 h4];rfl,by intro e;subst e;simp at h3,rfl⟩
def acA {h:Int}{n t:List UInt8}(hr:Dx h n t=true):JT (vT h n t) (h,n,t):=⟨hr,by unfold vT;rw[bQ hr]⟩
def T7 {h:Int}{n t:List UInt8}:(vT h n t).length≤1000:=by
 unfold vT
 split
 ·rename_i hr
  obtain⟨h1,h2,h3⟩:=MR hr
  have:=Kf n h2
  have:(decDigits h.toNat).length≤7:=Fg _ (by omega)
  simp only[eY,zl6]
  omega
 ·simp
def ajK (s:b7.D)(S:CR s)(h:Int)(n t:List UInt8)(hn:n.length≤9999999)(ht:t.length≤9999999):q46 (s,h,n,t)=some (Kp s h n t,()):=by
 have a:=MW s S
 unfold Kp
 cases ho:AL s with
 |false=>
  rw[ho] at a
  simp only[q46,a,zov a,qu,zU,dW,zl98,C8]
 |true=>
 rw[ho] at a
 have I:=EX ho
 have h8:=I.len
 have hl:=F0 ho
 have b:=MV s S (by omega)
 have c:=acZ s.2.2.2.1 I h n t hn ht
 have d:=O2 h n t hn ht
 have hrl:=T7 (h:=h) (n:=n) (t:=t)
 have e:=Uf s.2.2.1 (vT h n t) (by omega) (by omega)
 have f:=P9 s.2.2.2.1 I (vT h n t) (by omega)
 have g:F7 (s,vT h n t)=some (bif !(xb s.2.2.1 (vT h n t)).2 then(s,4) else bif !(CS s.2.2.2.1 (vT h n t)).2 then(s,1) else((s.1,s.2.1,(xb s.2.2.1 (vT h n t)).1,(CS s.2.2.2.1 (vT h n t)).1,s.2.2.2.2),0),()):=by
  simp only[F7,e,zov e,f,zov f,qu,zU,dW]
  cases (xb s.2.2.1 (vT h n t)).2<;>cases (CS s.2.2.2.1 (vT h n t)).2<;>rfl
 simp only[q46,a,zov a,b,zov b,c,zov c,d,zov d,g,zov g,qu,zU,zl92,dW,pO,zl70,Rq]
 cases s.1 with
 |false=>rfl
 |true=>
 simp only[zl70,pO]
 cases hp:(Dv s.2.2.2.1 h n t).2 != 0 with
 |true=>rfl
 |false=>
 have hp0:(Dv s.2.2.2.1 h n t).2=0:=by simpa using hp
 obtain⟨k1,k2,_⟩:=ahm hp0
 have k3:=Pt (c:=s.2.2.2.1) (Tz (acA k1))
 rw[cT k2,hp0] at k3
 rw[k3]
 simp only[pO,zl95,zl70]
def Hu:CR C8:=⟨by simp[C8],by unfold RW;simp[C8],by simp[C8],by unfold JU;simp[C8],by simp[C8],by simp[C8]⟩
def ahl (s:b7.D)(S:CR s)(h:Int)(n t:List UInt8):CR (Kp s h n t).1:=by
 unfold Kp
 cases ho:AL s with
 |false=>exact Hu
 |true=>
 unfold Rq
 cases s.1 with
 |false=>exact S
 |true=>
 cases (Dv s.2.2.2.1 h n t).2 != 0 with
 |true=>exact S
 |false=>
 cases ha:(xb s.2.2.1 (vT h n t)).2 with
 |false=>exact S
 |true=>exact acP S (JV _ _ ha) (TV _ (EX ho) h n t)
def O4 (a b:Nat):Int.tdiv (a:Int) (b:Int)=((a / b:Nat):Int):=rfl
def adi (a b:Nat):Int.tmod (a:Int) (b:Int)=((a % b:Nat):Int):=rfl
def qe (n:Nat):Nat:=(n*1103515245+12345) % 2147483648
def MU (n:Nat):qe n<2147483648:=Nat.mod_lt _ (by decide)
def seedW (n:Nat)(h:n<2147483648):Int.tmod (IntKind.wrap .i64 ((IntKind.wrap .i64 ((n:Int)*(1103515245:Int)))+(12345:Int))) (2147483648:Int)=((qe n:Nat):Int):=by
 rw[wi (x:=(n:Int)*1103515245) (y:=n*1103515245) (by omega) (by omega),wi (y:=n*1103515245+12345) (by omega) (by omega)]
 exact adi _ _
def O0 (n:Nat)(h:n<2147483648):E3 (n:Int)=some ((qe n:Int),()):=by
 simp only[E3,seedW n h]
def BT (s n:Nat):Nat:=s / 256 % n
def Kn (s n:Nat)(h:0<n):BT s n<n:=Nat.mod_lt _ h
def neN {n:Nat}(h:0<n):((n:Int) != (0:Int))=true:=by simp;omega
def pickW (s n:Nat)(h:s<2147483648):Int.tmod (IntKind.wrap .i64 (Int.tdiv (s:Int) (256:Int))) (n:Int)=((BT s n:Nat):Int):=by
 rw[wi (x:=Int.tdiv (s:Int) 256) (y:=s / 256) (O4 s 256) (by omega)]
 exact adi _ _
def O1 (s n:Nat)(h:s<2147483648)(hn:0<n):EG ((s:Int),(n:Int))=some ((BT s n:Int),()):=by
 simp only[EG,neN hn,pickW s n h,zU,dW,zl92]
def L4 (c d:Nat):Nat:=if d≤1 then 65536 / c else 65536 / (d*(d-1))*7 / 8
def BM (c:Nat):Nat→List Int×Nat
 |0=>([],65536)
 |i+1=>((BM c i).1 ++ [((Min.min (L4 c (i+1)) (BM c i).2:Nat):Int)],(BM c i).2-Min.min (L4 c (i+1)) (BM c i).2)
def PC (c:Nat):∀i,(BM c i).1.length=i
 |0=>rfl
 |i+1=>by simp[BM,PC c i]
def Nx (c:Nat):∀i,(BM c i).2≤65536
 |0=>bA _
 |i+1=>by have:=Nx c i;simp only[BM];omega
def Be (c:Nat):List Int:=(BM c (c-1)).1 ++ [((BM c (c-1)).2:Int)]
def E9 {x:Int}{y:Nat}(h:x=(y:Int))(hy:y≤4611686018427387904):IntKind.wrap .i64 x=(y:Int):=wi h hy
section
variable {c d:Nat}
def pw1 (_h:0<c):IntKind.wrap .i64 (Int.tdiv (65536:Int) (c:Int))=((65536 / c:Nat):Int):=
 E9 (O4 65536 c) (nV (Nat.div_le_self _ _) (by decide))
def pw2 (h:1<d)(h':d≤24):IntKind.wrap .i64 ((d:Int)*IntKind.wrap .i64 ((d:Int)-1))=((d*(d-1):Nat):Int):=by
 have hb:d*(d-1)≤24*24:=Nat.mul_le_mul h' (by omega)
 rw[E9 (x:=(d:Int)-1) (y:=d-1) (by omega) (by omega)]
 exact E9 (by rw[Int.natCast_mul]) (by omega)
def pos2 (h:1<d):0<d*(d-1):=Nat.mul_pos (by omega) (by omega)
def pw3 (h:1<d):IntKind.wrap .i64 (Int.tdiv (65536:Int) ((d*(d-1):Nat):Int))=((65536 / (d*(d-1)):Nat):Int):=pw1 (pos2 h)
def dle (_h:1<d):65536 / (d*(d-1))≤65536:=Nat.div_le_self _ _
def pw4 (h:1<d):IntKind.wrap .i64 (Int.tdiv (IntKind.wrap .i64 (((65536 / (d*(d-1)):Nat):Int)*7)) (8:Int))=((65536 / (d*(d-1))*7 / 8:Nat):Int):=by
 have:=dle h
 rw[E9 (x:=((65536 / (d*(d-1)):Nat):Int)*7) (y:=65536 / (d*(d-1))*7) (by omega) (by omega)]
 exact E9 (O4 _ 8) (by omega)
end
def S3 {n:Nat}(h:n≤1000000):decide (n+1≤eV)=true:=zl86 (by unfold eV;omega)
def Ru {l m:Nat}(h:m≤l)(h':l≤65536):IntKind.wrap .i64 ((l:Int)-(m:Int))=((l-m:Nat):Int):=E9 (by omega) (by omega)
def ajA (c d l:Nat)(ls:List Int)(h1:1≤d)(h2:d<c)(h3:c≤24)(hl:l≤65536)(hs:ls.length≤100) :
  JB (((d:Int),(l:Int),(),(c:Int)),ls)=some (.inl ((((d+1:Nat):Int),((l-Min.min (L4 c d) l:Nat):Int),(),(c:Int)),ls ++ [((Min.min (L4 c d) l:Nat):Int)])):=by
 have hc:((c:Int) != (0:Int))=true:=neN (by omega)
 have hls:=S3 (n:=ls.length) (by omega)
 by_cases hd:1<d
 ·have e:decide ((d:Int)>1)=true:=zdt
  have ep:L4 c d=65536 / (d*(d-1))*7 / 8:=cT (by omega)
  have en:((((d*(d-1):Nat):Int)) != (0:Int))=true:=neN (pos2 hd)
  simp only[JB,gl h2,dW,hc,zU,e,pw2 hd (by omega),pw3 hd,pw4 hd,en,zl92,hls,zw (i:=d)]
  rw[ep]
  generalize 65536 / (d*(d-1))*7 / 8=n
  by_cases h:l<n
  ·rw[zdt (p:=(n:Int)>(l:Int)),dW,show Min.min n l=l by omega,Ru (bA l) hl]
  ·rw[zdf (p:=(n:Int)>(l:Int)),pO,show Min.min n l=n by omega,Ru (by omega) hl]
 ·have e:decide ((d:Int)>1)=false:=zdf
  have ep:L4 c d=65536 / c:=bQ (by omega)
  simp only[JB,gl h2,dW,pO,hc,zU,e,pw1 (show 0<c by omega),hls,zw (i:=d)]
  rw[ep]
  generalize 65536 / c=n
  by_cases h:l<n
  ·rw[zdt (p:=(n:Int)>(l:Int)),dW,show Min.min n l=l by omega,Ru (bA l) hl]
  ·rw[zdf (p:=(n:Int)>(l:Int)),pO,show Min.min n l=n by omega,Ru (by omega) hl]
def ajC (c:Nat)(h1:1≤c)(h2:c≤24):q57 (c:Int)=some (Be c,()):=by
 have k:=A_ (r:=JB) (fun i=>((((i+1:Nat):Int),((BM c i).2:Int),(),(c:Int)),(BM c i).1)) (n:=c-1) (y:=((((BM c (c-1)).2:Int),()),(BM c (c-1)).1))
  (fun i hi=>by
   exact ajA c (i+1) (BM c i).2 (BM c i).1 (by omega) (by omega) h2 (Nx c i) (by rw[PC];omega)) (by
   have:decide (((c-1+1:Nat):Int)<(c:Int))=false:=zdf
   simp only[JB,this,pO]) 0 (lB _)
 have k':Comes JB ((1,65536,(),(c:Int)),[]) ((((BM c (c-1)).2:Int),()),(BM c (c-1)).1):=k
 have hls:=S3 (n:=(BM c (c-1)).1.length) (by rw[PC];omega)
 simp only[q57,cb k',cv k',dW,zU,hls]
 rfl
def DC (l:List Int)(i:Nat):Int:=(l.take i).sum
def W_ (l:List Int)(i:Nat)(h:i<l.length):DC l (i+1)=DC l i+l.getD i 0:=by
 rw[getD_eq _ _ _ h,DC,DC,zl88 h,List.sum_append]
 simp
def Xh (c:Nat):∀i,(BM c i).1.sum+((BM c i).2:Int)=65536
 |0=>by simp only[BM,List.sum_nil];omega
 |i+1=>by
  have:=Xh c i
  have h:=Nx c i
  simp only[BM,List.sum_append,zl82,List.sum_nil]
  omega
def Xg (c:Nat):∀i,∀x∈(BM c i).1,0≤x∧x≤65536
 |0=>by simp[BM]
 |i+1=>by
  have h:=Nx c i
  intro x hx
  simp only[BM,bU,i_] at hx
  rcases hx with hx|hx
  ·exact Xg c i x hx
  ·omega
def aea (c:Nat)(h:1≤c):(Be c).length=c:=by simp[Be,PC];omega
def aeb (c:Nat):(Be c).sum=65536:=by
 have:=Xh c (c-1)
 simp only[Be,List.sum_append,zl82,List.sum_nil]
 omega
def Sl (c:Nat):∀x∈Be c,0≤x∧x≤65536:=by
 intro x hx
 have h:=Nx c (c-1)
 simp only[Be,bU,i_] at hx
 rcases hx with hx|hx
 ·exact Xg c _ x hx
 ·omega
def Um:∀(l:List Int),(∀x∈l,0≤x)→0≤l.sum
 | [],_=>by simp
 |a::l,h=>by
  have:=Um l fun x hx=>h x (gZ a hx)
  have:=h a me
  simp only[zl82];omega
def W9 (c i:Nat):0≤DC (Be c) i∧DC (Be c) i≤65536:=by
 have e:(Be c).sum=DC (Be c) i+((Be c).drop i).sum:=by rw[DC,←List.sum_append,zl68]
 have h1:=Um ((Be c).take i) fun x hx=>(Sl c x (List.mem_of_mem_take hx)).1
 have h2:=Um ((Be c).drop i) fun x hx=>(Sl c x (List.mem_of_mem_drop hx)).1
 rw[aeb] at e
 unfold DC at *
 omega
def ad_ (c i:Nat)(h:i<(Be c).length):0≤(Be c).getD i 0∧(Be c).getD i 0≤65536:=by
 rw[getD_eq _ _ _ h]
 exact Sl c _ (zl96 h)
def degP (c part:Nat)(j:Nat):Bool:=decide ((part:Int)<DC (Be c) (j+1))
def GH (c part:Nat):Nat:=match first (c-1) (degP c part) with
 |some i=>i+1
 |none=>c
def PB (c part:Nat)(h:1≤c):1≤GH c part∧GH c part≤c:=by
 unfold GH
 split
 ·rename_i i hi
  have:=(CE.1 hi).1
  omega
 ·omega
def ajB (c part:Nat)(h1:1≤c)(h2:c≤24)(hp:part<65536):q87 ((c:Int),(part:Int))=some ((GH c part:Int),()):=by
 have hl:=aea c h1
 have k:=El (r:=K9) (fun i=>((((i+1:Nat):Int),(),(part:Int)-DC (Be c) i,(c:Int)),Be c)) (n:=c-1) (p:=degP c part)
  (yt:=fun i=>.inl (((i+1:Nat):Int),())) (yn:=.inr ((c:Int),()))
  (fun i hi aJ=>by
   have hb:=W9 c i
   have hs:=W_ (Be c) i (by omega)
   have hg:=ad_ c i (by omega)
   have w:IntKind.wrap .i64 (((i+1:Nat):Int)-1)=(i:Int):=E9 (by omega) (by omega)
   have c0:decide ((part:Int)-DC (Be c) i<(Be c).getD i 0)=false:=by
    have:=zl101 aJ
    exact zdf
   have w2:IntKind.wrap .i64 ((part:Int)-DC (Be c) i-(Be c).getD i 0)=(part:Int)-DC (Be c) (i+1):=by
    rw[wrap64 (by omega) (by omega)];omega
   simp only[K9,hl,gl (show i+1<c by omega),gl (show i<c by omega),g0,dW,pO,w,zl94,zU,zl92,c0,w2,zw (i:=i+1)])
  (fun i hi aJ=>by
   have hb:=W9 c i
   have hs:=W_ (Be c) i (by omega)
   have w:IntKind.wrap .i64 (((i+1:Nat):Int)-1)=(i:Int):=E9 (by omega) (by omega)
   have c0:decide ((part:Int)-DC (Be c) i<(Be c).getD i 0)=true:=by
    have:=zl79 aJ
    exact zdt
   simp only[K9,hl,gl (show i+1<c by omega),gl (show i<c by omega),g0,dW,w,zl94,zU,zl92,c0])
  (by
   have c0:decide (((c-1+1:Nat):Int)<(c:Int))=false:=zdf
   simp only[K9,hl,c0,pO])
 have e0:(part:Int)-DC (Be c) 0=part:=by simp[DC]
 simp only[e0] at k
 have k':Comes K9 ((1,(),(part:Int),(c:Int)),Be c) _:=k
 have hD:=ajC c h1 h2
 simp only[q87,hD,zov hD,cb k',cv k',dW,zU,qu]
 unfold GH
 cases first (c-1) (degP c part)<;>rfl
def BF (l:List Int)(n:Int):Nat:=match first l.length (fun i=>decide (n≤l.getD i 0)) with
 |some i=>i
 |none=>l.length
def LO (l:List Int)(n:Int):List Int:=l.take (BF l n)++n::l.drop (BF l n)
def inK_le (l:List Int)(n:Int):BF l n≤l.length:=by
 unfold BF
 split
 ·rename_i i hi;exact Nat.le_of_lt (CE.1 hi).1
 ·exact bA _
def afz (l:List Int)(n:Int):(LO l n).Perm (n::l):=by
 unfold LO
 refine List.perm_middle.trans ?_
 rw[zl68]
def afA (l:List Int)(n:Int)(h:l.Pairwise (· ≤ ·)):(LO l n).Pairwise (· ≤ ·):=by
 have ha:∀x∈l.take (BF l n),x<n:=by
  intro x hx
  obtain⟨i,hi,rfl⟩:=List.mem_iff_getElem.1 hx
  rw[zl3] at hi
  rw[List.getElem_take]
  have hj:decide (n≤l.getD i 0)=false:=by
   unfold BF at hi
   split at hi
   ·rename_i k hk;exact(CE.1 hk).2.2 i (by omega)
   ·rename_i hk;exact NH.1 hk i (by omega)
  have:=zl101 hj
  rw[getD_eq _ _ _ (by omega)] at this
  omega
 have hb:∀x∈l.drop (BF l n),n≤x:=by
  intro x hx
  have hlt:BF l n<l.length:=by
   have:=List.length_pos_of_mem hx
   simp at this;omega
  have h0:n≤l[BF l n]:=by
   have:first l.length (fun i=>decide (n≤l.getD i 0))=some (BF l n):=by
    unfold BF at hlt ⊢
    split
    ·assumption
    ·rename_i hk;rw[hk] at hlt;simp at hlt
   have:=zl79 (CE.1 this).2.1
   rw[getD_eq _ _ _ hlt] at this
   exact this
  obtain⟨j,hj,rfl⟩:=List.mem_iff_getElem.1 hx
  rw[List.getElem_drop]
  rw[zl4] at hj
  rcases zl83 j with rfl|hj0
  ·simpa using h0
  ·have:=List.pairwise_iff_getElem.1 h (BF l n) (BF l n+j) hlt (by omega) (by omega)
   omega
 unfold LO
 rw[List.pairwise_append]
 have hs:=h
 rw[←zl68 (BF l n) l,List.pairwise_append] at hs
 refine⟨hs.1,?_,?_⟩
 ·rw[List.pairwise_cons];exact⟨hb,hs.2.1⟩
 ·intro x hx y hy
  rcases bN.1 hy with rfl|hy
  ·exact Int.le_of_lt (ha x hx)
  ·exact hs.2.2 x hx y hy
def ajH (l:List Int)(n:Int)(hl:l.length≤1000):Jq (l,n)=some (LO l n,()):=by
 have step:∀i,i<l.length→∀b,decide (n≤l.getD i 0)=b→Jr (((i:Int),l,n),())=bif b then some (.inr (((i:Int),l,n),())) else some (.inl ((((i+1:Nat):Int),l,n),())):=by
  intro i hi b hb
  have hb':decide (l.getD i 0<n) = !b:=by
   rw[←hb]
   by_cases h:n≤l.getD i 0
   ·rw[zl86 h,zdf];rfl
   ·rw[zl90 h,zdt];rfl
  cases b<;>simp only[Jr,gl hi,g0,zl94,dW,pO,hb',zU,zl70,zl98,zl99,zl92,zw (i:=i)]
 have k:=El (r:=Jr) (fun i=>(((i:Int),l,n),())) (n:=l.length) (p:=fun i=>decide (n≤l.getD i 0))
  (yt:=fun i=>(((i:Int),l,n),())) (yn:=(((l.length:Int),l,n),()))
  (fun i hi hp=>by rw[step i hi _ hp];rfl) (fun i hi hp=>by rw[step i hi _ hp];rfl)
  (by
   have c0:decide ((l.length:Int)<(l.length:Int))=false:=zdf
   simp only[Jr,c0,pO,zU,zl98,zl76,zl92,dW])
 have k2:Comes Jr ((((0:Nat):Int),l,n),()) (((BF l n:Int),l,n),()):=by
  unfold BF
  cases hf:first l.length (fun i=>decide (n≤l.getD i 0))<;>rw[hf] at k<;>exact k
 have k':Comes Jr ((0,l,n),()) _:=k2
 have hk:=inK_le l n
 have t1:Int.toNat ((BF l n:Int)-0)=BF l n:=by omega
 have t2:List.take (Int.toNat ((l.length:Int)-(BF l n:Int))) (List.drop (BF l n) l)=List.drop (BF l n) l:=zl57 (by rw[zl4];omega)
 have b1:decide ((l.take (BF l n)).length+1+(l.drop (BF l n)).length≤eV)=true:=zl86 (by rw[zl3,zl4];unfold eV;omega)
 have b2:decide ((BF l n:Int)≤(l.length:Int))=true:=zdt
 have b3:decide ((l.take (BF l n)).length+1≤eV)=true:=zl86 (by rw[zl3];unfold eV;omega)
 have b4:decide ((0:Nat)+(l.take (BF l n)).length≤eV)=true:=zl86 (by rw[zl3];unfold eV;omega)
 have b5:decide ((l.length:Int)≤(l.length:Int))=true:=zdt
 simp only[Jq,cb k',cv k',dW,t1,zl94,Int.toNat_zero,zl84,t2,zl17,eY,zl6,rA,lA,g0,b1,b2,b3,b5,zU,zl92]
 have b4':decide ((l.take (BF l n)).length≤eV)=true:=zl86 (by rw[zl3];unfold eV;omega)
 simp only[b4',zl92,dW,cZ,zl104]
 rfl
def gV (n:Nat):List Int:=(List.range n).map fun(i:Nat)=>(i:Int)
def OP (n:Nat):(gV n).length=n:=by simp[gV]
def ajh (n:Nat):gV (n+1)=gV n ++ [(n:Int)]:=by simp[gV,List.range_succ]
def ajf {n:Nat}{x:Int}:x∈gV n↔0≤x∧x<n:=by
 simp only[gV,gG,List.mem_range]
 constructor
 ·rintro⟨i,hi,rfl⟩;omega
 ·rintro⟨h0,h1⟩;exact⟨x.toNat,by omega,by omega⟩
def ajg (n:Nat):(gV n).Nodup:=by
 unfold gV
 rw[List.Nodup,List.pairwise_map]
 exact(List.nodup_range (n:=n)).imp fun h h'=>h (by omega)
def aeg (l:List Int)(k:Nat)(h:k<l.length):(l[k]::l.eraseIdx k).Perm l:=by
 rw[zl112]
 refine(List.perm_middle (l₁:=l.take k)).symm.trans ?_
 rw[←zl109 h,zl68]
def dr (s0:Nat)(l0:List Int):Nat→Nat×List Int×List Int
 |0=>(s0,l0,[])
 |i+1=>(qe (dr s0 l0 i).1,(dr s0 l0 i).2.1.eraseIdx (BT (qe (dr s0 l0 i).1) (dr s0 l0 i).2.1.length),
  (dr s0 l0 i).2.2 ++ [(dr s0 l0 i).2.1.getD (BT (qe (dr s0 l0 i).1) (dr s0 l0 i).2.1.length) 0])
def HM (s0:Nat)(l0:List Int):Nat→List Int
 |0=>[]
 |i+1=>LO (HM s0 l0 i) ((dr s0 l0 i).2.1.getD (BT (qe (dr s0 l0 i).1) (dr s0 l0 i).2.1.length) 0)
section
variable (s0:Nat) (l0:List Int)
def aee (h:s0<2147483648):∀i,(dr s0 l0 i).1<2147483648
 |0=>h
 |_i+1=>MU _
def So:∀i,i≤l0.length→(dr s0 l0 i).2.1.length=l0.length-i
 |0,_=>rfl
 |i+1,h=>by
  have ih:=So i (by omega)
  have:=Kn (qe (dr s0 l0 i).1) (dr s0 l0 i).2.1.length (by omega)
  simp only[dr]
  rw[zl113 this,ih]
  omega
def Xi:∀i,(dr s0 l0 i).2.2.length=i
 |0=>rfl
 |i+1=>by simp[dr,Xi i]
def Sp:∀i,i≤l0.length→((dr s0 l0 i).2.2++(dr s0 l0 i).2.1).Perm l0
 |0,_=>List.Perm.refl _
 |i+1,h=>by
  have ih:=Sp i (by omega)
  have hl:=So s0 l0 i (by omega)
  have:=Kn (qe (dr s0 l0 i).1) (dr s0 l0 i).2.1.length (by omega)
  refine List.Perm.trans ?_ ih
  simp only[dr]
  rw[cZ,zl104,getD_eq _ _ _ this]
  exact List.Perm.append_left _ (aeg _ _ this)
def P3:∀i,(HM s0 l0 i).Perm (dr s0 l0 i).2.2
 |0=>List.Perm.refl _
 |i+1=>by
  simp only[HM,dr]
  refine(afz _ _).trans ?_
  refine((P3 i).cons _).trans ?_
  exact mh (l₁:=[_])
def X7:∀i,(HM s0 l0 i).Pairwise (· ≤ ·)
 |0=>List.Pairwise.nil
 |i+1=>afA _ _ (X7 i)
def X6 (i:Nat):(HM s0 l0 i).length=i:=by rw[(P3 s0 l0 i).length_eq,Xi]
end
def Ho (c seed:Nat):List Int:=HM (qe (qe seed)) (gV c) (GH c (BT (qe (qe seed)) 65536))
def acH {c seed:Nat}(h:1≤c){x:Int}(hx:x∈Ho c seed):0≤x∧x<c:=by
 have h1:=(P3 _ _ _).subset hx
 have h2:=(Sp (qe (qe seed)) (gV c) (GH c (BT (qe (qe seed)) 65536)) (by rw[OP];exact(PB c _ h).2)).subset (ee _ h1)
 exact ajf.1 h2
def acF {c seed:Nat}(h:1≤c):(Ho c seed).Pairwise (· < ·):=by
 have h2:=Sp (qe (qe seed)) (gV c) (GH c (BT (qe (qe seed)) 65536)) (by rw[OP];exact(PB c _ h).2)
 have h3:(dr (qe (qe seed)) (gV c) (GH c (BT (qe (qe seed)) 65536))).2.2.Nodup:=(cL.1 (h2.symm.nodup (ajg c))).1
 have h4:(Ho c seed).Nodup:=(P3 _ _ _).symm.nodup h3
 exact(List.pairwise_and_iff.2 ⟨X7 _ _ _,h4⟩).imp fun⟨h1,h2⟩=>by omega
def acG {c seed:Nat}(h:1≤c):1≤(Ho c seed).length∧(Ho c seed).length≤c:=by
 unfold Ho;rw[X6];exact PB c _ h
def ajM (i d s S K:Nat)(L I J:List Int)(x:Int)(hi:i<d)(hd:d≤24)(e2:E3 (s:Int)=some ((S:Int),()))(e3:EG ((S:Int),(L.length:Int))=some ((K:Int),()))(e4:K<L.length)(hL':L.length≤24)
  (hx:L.getD K 0=x) (e5:Jq (I,x)=some (J,())) :
  KW (((i:Int),(),(),(s:Int),(d:Int)),L,I)=some (.inl ((((i+1:Nat):Int),(),(),(S:Int),(d:Int)),L.eraseIdx K,J)):=by
 have t2:List.take (Int.toNat ((L.length:Int)-((K+1:Nat):Int))) (List.drop (K+1) L)=List.drop (K+1) L:=zl57 (by rw[zl4];omega)
 have t1:Int.toNat ((K:Int)-0)=K:=by omega
 have b1:decide ((L.take K).length+(L.drop (K+1)).length≤eV)=true:=zl86 (by rw[zl3,zl4];unfold eV;omega)
 have b2:decide (((K+1:Nat):Int)≤(L.length:Int))=true:=zdt
 have b3:decide ((0:Nat)+(L.take K).length≤eV)=true:=zl86 (by rw[zl3];unfold eV;omega)
 have b5:decide ((L.length:Int)≤(L.length:Int))=true:=zdt
 have b6:decide ((K:Int)≤(L.length:Int))=true:=zdt
 have w1:IntKind.wrap .i64 ((K:Int)+1)=((K+1:Nat):Int):=AX (by omega)
 have w2:IntKind.wrap .i64 ((i:Int)+1)=((i+1:Nat):Int):=AX (by omega)
 have c4:=gl e4
 simp only[KW,gl hi,e2,zov e2,e3,zov e3,zl94,hx,e5,zov e5,Ax,g0,c4,t1,w1,t2,Int.toNat_zero,zl84,zl17,b1,b2,b3,b5,b6,w2,zl112]
def ac0 (c seed:Nat)(h1:1≤c)(h2:c≤24)(hs:seed<2147483648):KV ((c:Int),(seed:Int))=some (Ho c seed,()):=by
 have n1:=O0 seed hs
 have n2:=O0 (qe seed) (MU _)
 have sl:=MU (qe seed)
 have p1:EG ((qe (qe seed):Int),65536)=some ((BT (qe (qe seed)) 65536:Int),()):=O1 _ 65536 sl (by decide)
 have dg:=ajB c (BT (qe (qe seed)) 65536) h1 h2 (Kn _ _ (by decide))
 have dl:=(PB c (BT (qe (qe seed)) 65536) h1).2
 unfold Ho
 generalize GH c (BT (qe (qe seed)) 65536)=d at *
 generalize BT (qe (qe seed)) 65536=pk at *
 generalize qe (qe seed)=s0 at *
 generalize qe seed=s1 at *
 have k:=A_ (r:=Mu) (fun i=>(((i:Int),(),(s0:Int),(d:Int),(c:Int)),gV i)) (n:=c) (y:=(((),(s0:Int),(d:Int)),gV c)) (fun i hi=>by
  have hm:=S3 (n:=(gV i).length) (by rw[OP];omega)
  simp only[Mu,gl hi,dW,hm,zU,zw (i:=i),←ajh]) (by
  have c0:decide ((c:Int)<(c:Int))=false:=zdf
  simp only[Mu,c0,pO]) 0 (lB _)
 have k':Comes Mu ((0,(),(s0:Int),(d:Int),(c:Int)),[]) _:=k
 have q:=A_ (r:=KW) (fun i=>(((i:Int),(),(),((dr (s0) (gV c) i).1:Int),(d:Int)),(dr (s0) (gV c) i).2.1,HM (s0) (gV c) i)) (n:=d)
  (y:=((),HM (s0) (gV c) d)) (fun i hi=>by
  have hl:=So s0 (gV c) i (by rw[OP];omega)
  rw[OP] at hl
  have e4:=Kn (qe (dr s0 (gV c) i).1) (dr s0 (gV c) i).2.1.length (by omega)
  exact ajM i d (dr s0 (gV c) i).1 _ _ (dr s0 (gV c) i).2.1 (HM s0 (gV c) i) _ _ hi (by omega) (O0 _ (aee s0 (gV c) sl i)) (O1 _ _ (MU _) (by omega)) e4 (by omega) rfl (ajH _ _ (by rw[X6];omega))) (by
  have c0:decide ((d:Int)<(d:Int))=false:=zdf
  simp only[KW,c0,pO,ia]) 0 (lB _)
 have q':Comes KW ((0,(),(),(s0:Int),(d:Int)),gV c,[]) _:=q
 simp only[KV,n1,zov n1,n2,zov n2,p1,zov p1,dg,zov dg,Ax,cb k',cv k',cb q',cv q']
def ae6 (L:Nat)(hL:L≤300):∀d s:Nat,s+d=13→1≤s→∃s':Nat,1≤s'∧s'≤13∧(L+s'-1) / s'≤24∧Comes Fw (((),()),((L:Int),(s:Int),(),(),()),((0:Int),(0:Int),(),(),()),[],[],[],[]) (((),()),((0:Int),(0:Int),(),(),()),((L:Int),(s':Int),(),(),()),[],[],[],[]):=by
 intro d
 induction d with
 |zero=>
  intro s h1 h2
  have:s=13:=by omega
  subst this
  refine⟨13,by omega,by omega,by omega,.out ?_⟩
  have a:=count_eq (L:Int) ((13:Nat):Int) [] [] () (by omega)
  rw[Nu L 13 (by omega) (by omega) (by omega)] at a
  have c1:decide ((((L+13-1) / 13:Nat):Int)>24)=false:=zdf
  simp only[Fw,a,zov a,c1,qu,zU,dW,pO]
 |succ d ih=>
  intro s h1 h2
  have a:=count_eq (L:Int) (s:Int) [] [] () (by omega)
  cases hc:decide (EO (L:Int) (s:Int)>24) with
  |true=>
   obtain⟨s',g1,g2,g0,g3⟩:=ih (s+1) (by omega) (by omega)
   refine⟨s',g1,g2,g0,.again ?_ g3⟩
   simp only[Fw,a,zov a,hc,qu,zU,dW,zw (i:=s)]
  |false=>
   refine⟨s,by omega,by omega,by
    have:=zl101 hc
    rw[Nu L s (by omega) (by omega) (by omega)] at this
    generalize (L+s-1) / s=q at *
    omega,.out ?_⟩
   simp only[Fw,a,zov a,hc,qu,zU,dW,pO]
def DT (L s c:Nat):gv.D:=bif decide ((c+3) / 4<c) then((L:Int),(s:Int),[(((c+3) / 4:Nat):Int),(c:Int)],[(2:Int),(3:Int)],()) else((L:Int),(s:Int),[(c:Int)],[(1:Int)],())
def Zr (L:Nat)(h1:1≤L)(hL:L≤300):∃s c:Nat,1≤s∧s≤13∧(L+s-1) / s=c∧1≤c∧c≤24∧Ch (L:Int)=some (DT L s c,())∧q90 (L:Int)=some (DT L s c,()):=by
 obtain⟨s,g1,g2,g0,g3⟩:=ae6 L hL 5 8 (by omega) (by omega)
 have gN:1≤(L+s-1) / s:=Nat.div_pos (by omega) (by omega)
 have hcv:=Nu L s (by omega) (by omega) (by omega)
 refine⟨s,(L+s-1) / s,g1,g2,rfl,gN,g0,?_⟩
 generalize (L+s-1) / s=c at *
 have g3':Comes Fw (((),()),((L:Int),(8:Int),(),(),()),((0:Int),(0:Int),(),(),()),[],[],[],[]) _:=g3
 have g4:Comes T1 (((),()),((L:Int),(8:Int),(),(),()),((0:Int),(0:Int),(),(),()),[],[],[],[]) _:=g3
 have a:=count_eq (L:Int) (s:Int) [] [] () (by omega)
 rw[hcv] at a
 have wi1:m6 (L:Int) 1 300=true:=zdt
 have w4:IntKind.wrap .i64 (Int.tdiv (IntKind.wrap .i64 ((c:Int)+3)) 4)=(((c+3) / 4:Nat):Int):=by
  rw[E9 (x:=(c:Int)+3) (y:=c+3) (by omega) (by omega)]
  exact E9 (O4 (c+3) 4) (by omega)
 have hk':decide (((((c+3) / 4:Nat)):Int)<(c:Int))=decide ((c+3) / 4<c):=by
  by_cases h:(c+3) / 4<c
  ·rw[zl86 h,zdt]
  ·rw[zl90 h,zdf]
 unfold DT
 cases hk:decide ((c+3) / 4<c) with
 |true=>
  rw[hk] at hk'
  refine⟨?_,?_⟩
  ·simp only[Ch,cb g3',cv g3',dW,a,zov a,w4,hk',qu,zU]
  ·simp only[q90,JP,zov (JP _ _ _),wi1,cb g4,cv g4,dW,pO,zl70,Py,a,zov a,w4,hk',qu,zU]
 |false=>
  rw[hk] at hk'
  refine⟨?_,?_⟩
  ·simp only[Ch,cb g3',cv g3',dW,a,zov a,w4,hk',qu,zU,pO]
  ·simp only[q90,JP,zov (JP _ _ _),wi1,cb g4,cv g4,dW,pO,zl70,Py,a,zov a,w4,hk',qu,zU]
end Pl
open Go Go.Ab
namespace Pc
def wrap64 {n:Int}(h1: -9223372036854775808≤n)(h2:n≤9223372036854775807):IntKind.wrap .i64 n=n:=by
 simp[IntKind.wrap,IntKind.signed,IntKind.bits]
 omega
def A_ {X Y:Type}{r:X→Option (X⊕Y)}(st:Nat→X){n:Nat}{y:Y}(hs:∀i,i<n→r (st i)=some (.inl (st (i+1))))(he:r (st n)=some (.inr y)):∀k,k≤n→Comes r (st k) y:=by
 intro k hk
 have:∀d k,k+d=n→Comes r (st k) y:=by
  intro d
  induction d with
  |zero=>intro k hk;have:k=n:=by omega
         subst this;exact .out he
  |succ d ih=>intro k hk;exact .again (hs k (by omega)) (ih (k+1) (by omega))
 exact this (n-k) k (by omega)
def cb {X Y:Type}{r:X→Option (X⊕Y)}{x:X}{y:Y}(h:Comes r x y):p8 r x=true:=(h.is (y0:=y)).1
def cv {X Y:Type}{r:X→Option (X⊕Y)}{x:X}{y:Y}(h:Comes r x y)(y0:Y):oh r y0 x=y:=h.is.2
def RX (a:Bool):kL [a]=a:=rfl
def WA (a b:Bool)(l:List Bool):kL (a::b::l)=(a&&kL (b::l)):=rfl
def Fk {α:Type}(x:α):qu (some x)=true:=rfl
def getD_eq {α:Type}(l:List α)(i:Nat)(z:α)(h:i<l.length):l.getD i z=l[i]:=by simp[h]
def SmPlan (a:gv.D):Prop:=a.2.2.1.length≤4611686018427387904∧a.2.2.2.1.length≤4611686018427387904
def Fe (a:ei.D):Prop:=a.2.2.1.length≤4611686018427387904∧∀x∈a.2.2.1,x.1.length≤4611686018427387904
def GB (a:nT.D):Prop:=SmPlan a.1∧Fe a.2.1
def AH (n lo hi:Int):gh (n,lo,hi)=some (decide (lo≤n∧n≤hi),()):=by
 by_cases h:lo≤n<;>simp[gh,h]
def Bo (n lo hi:Int):A8 (n,lo,hi)=some (decide (lo≤n∧n≤hi),()):=by
 by_cases h:lo≤n<;>simp[A8,h]
def WY (n:Int):q62 n=some (decide (0≤n∧n≤3),()):=by
 simp[q62,zog,Bo,zU,qu]
def ld:Nat→(Nat→Bool)→Bool
 |0,_=>true
 |n+1,p=>ld n p&&p n
def wh {p:Nat→Bool}:∀{n:Nat},ld n p=true↔∀i,i<n→p i=true
 |0=>by simp[ld]
 |n+1=>by
  rw[ld,bB,wh]
  constructor
  ·rintro⟨h1,h2⟩ i hi
   by_cases e:i=n
   ·subst e;exact h2
   ·exact h1 i (by omega)
  ·intro h
   exact⟨fun i hi=>h i (by omega),h n (by omega)⟩
def Cs {X Y:Type}{r:X→Option (X⊕Y)}(st:Nat→X){n:Nat}{p:Nat→Bool}{yf yt:Y}(hs:∀i,i<n→(∀j,j<i→p j=true)→p i=true→r (st i)=some (.inl (st (i+1))))
  (hf:∀i,i<n→(∀j,j<i→p j=true)→p i=false→r (st i)=some (.inr yf)) (he:r (st n)=some (.inr yt)):Comes r (st 0) (if ld n p=true then yt else yf):=by
 have main:∀d k,k+d=n→(∀j,j<k→p j=true)→Comes r (st k) (if ld n p=true then yt else yf):=by
  intro d
  induction d with
  |zero=>
   intro k hk hp
   have:k=n:=by omega
   subst this
   rw[bQ (wh.2 hp)]
   exact .out he
  |succ d ih=>
   intro k hk hp
   cases hpk:p k with
   |true=>
    refine .again (hs k (by omega) hp hpk) (ih (k+1) (by omega) fun j hj=>?_)
    by_cases e:j=k
    ·subst e;exact hpk
    ·exact hp j (by omega)
   |false=>
    have:¬ld n p=true:=by
     intro h
     have:=wh.1 h k (by omega)
     rw[hpk] at this;cases this
    rw[cT this]
    exact .out (hf k (by omega) hp hpk)
 exact main n 0 (by omega) (fun j hj=>by omega)
def AX {i:Nat}(h:i≤4611686018427387904):IntKind.wrap .i64 ((i:Int)+1)=((i+1:Nat):Int):=by rw[wrap64]<;>omega
def Gx {i:Nat}(h:i≤4611686018427387904):IntKind.wrap .i64 ((i:Int)-1)=(i:Int)-1:=by rw[wrap64]<;>omega
def Pe:IntKind.wrap .i64 1=1:=by decide
def HW (t:List UInt8)(i:Nat):Bool:=decide (97≤(t.getD i 0).toNat)&&decide ((t.getD i 0).toNat≤122)
def Fp (t:List UInt8):Bool:=ld t.length (HW t)&&decide (1≤t.length∧t.length≤6)
def ac6 (t:List UInt8)(h:t.length≤4611686018427387904):DU t=some (Fp t,()):=by
 have hl:Comes Fs (((0:Int),t),()) (if ld t.length (HW t)=true then .inr (t,()) else .inl (false,())):=by
  refine Cs (fun i=>(((i:Int),t),())) ?_ ?_ ?_
  ·intro i hi _ hp
   have e0:t.getD i 0=t[i]:=by simp[hi]
   simp only[HW,bB,mS,e0] at hp
   have h1:¬(((t[i].toNat:Nat):Int)<97):=by omega
   have h2:¬(122<((t[i].toNat:Nat):Int)):=by omega
   have h3:=AX (i:=i) (by omega)
   simp[Fs,hi,zU,h1,h2,h3]
  ·intro i hi _ hp
   have e0:t.getD i 0=t[i]:=by simp[hi]
   simp only[HW,zl81,zl97,e0] at hp
   by_cases h1:((t[i].toNat:Nat):Int)<97
   ·simp[Fs,hi,zU,h1]
   ·have h2:122<((t[i].toNat:Nat):Int):=by omega
    simp[Fs,hi,zU,h1,h2]
  ·simp[Fs]
 have e:decide ((1:Int)≤(t.length:Int)∧(t.length:Int)≤6)=decide (1≤t.length∧t.length≤6):=by congr 1;exact propext ⟨fun h=>by omega,fun h=>by omega⟩
 cases hp:ld t.length (HW t) with
 |true=>
  rw[hp,bQ rfl] at hl
  simp only[DU,cb hl,cv hl,Fp,hp,zog,AH,zU,qu,dW,zl108]
  exact congrArg (fun b=>some (b,())) e
 |false=>
  rw[hp,cT (by simp)] at hl
  simp[DU,cb hl,cv hl,Fp,hp,ia]
def afm (t:List UInt8)(h:t.length≤4611686018427387904):Jl t=some (Fp t,()):=by
 have hl:Comes KF (((0:Int),t,(t.length:Int)),()) (if ld t.length (HW t)=true then .inr (t,()) else .inl (false,())):=by
  refine Cs (fun i=>(((i:Int),t,(t.length:Int)),())) ?_ ?_ ?_
  ·intro i hi _ hp
   have e0:t.getD i 0=t[i]:=by simp[hi]
   simp only[HW,bB,mS,e0] at hp
   have h1:¬(((t[i].toNat:Nat):Int)<97):=by omega
   have h2:¬(122<((t[i].toNat:Nat):Int)):=by omega
   have h3:=AX (i:=i) (by omega)
   simp[KF,hi,zU,h1,h2,h3]
  ·intro i hi _ hp
   have e0:t.getD i 0=t[i]:=by simp[hi]
   simp only[HW,zl81,zl97,e0] at hp
   by_cases h1:((t[i].toNat:Nat):Int)<97
   ·simp[KF,hi,zU,h1]
   ·have h2:122<((t[i].toNat:Nat):Int):=by omega
    simp[KF,hi,zU,h1,h2]
  ·simp[KF]
 have e:decide ((1:Int)≤(t.length:Int)∧(t.length:Int)≤6)=decide (1≤t.length∧t.length≤6):=by congr 1;exact propext ⟨fun h=>by omega,fun h=>by omega⟩
 cases hp:ld t.length (HW t) with
 |true=>
  rw[hp,bQ rfl] at hl
  simp only[Jl,cb hl,cv hl,Fp,hp,zog,Bo,zU,qu,dW,zl108]
  exact congrArg (fun b=>some (b,())) e
 |false=>
  rw[hp,cT (by simp)] at hl
  simp[Jl,cb hl,cv hl,Fp,hp,ia]
def CN (row:List Int)(count:Int)(i:Nat):Bool:=decide (0≤row.getD i 0∧row.getD i 0≤count-1)&&(decide (i=0) || decide (row.getD (i-1) 0<row.getD i 0))
def CB (row:List Int)(count:Int):Bool:=ld row.length (CN row count)&&decide (0≤count∧count≤24)
def I64 (n:Int):Prop:= -9223372036854775808≤n∧n≤9223372036854775807
def ajZ (row:List Int)(count:Int)(h:row.length≤4611686018427387904)(hc: -9223372036854775807≤count)(aI:count≤9223372036854775807):Ik (row,count)=some (CB row count,()):=by
 have hl:Comes Jw (((0:Int),row,count),()) (if ld row.length (CN row count)=true then .inr (count,()) else .inl (false,())):=by
  refine Cs (fun i=>(((i:Int),row,count),())) ?_ ?_ ?_
  ·intro i hi _ hp
   have e0:row.getD i 0=row[i]:=by simp[hi]
   simp only[CN,bB,rz,mS,e0] at hp
   have h3:=AX (i:=i) (by omega)
   have h4:IntKind.wrap .i64 (count-1)=count-1:=by rw[wrap64]<;>omega
   have h5:=Gx (i:=i) (by omega)
   obtain⟨hp1,hp2⟩:=hp
   by_cases hz:i=0
   ·subst hz
    simp[Jw,hi,zU,h4,Pe,zog,AH,qu,hp1]
   ·have h6:(0:Int)<i:=by omega
    have h7:row.getD (i-1) 0<row[i]:=hp2.resolve_left hz
    have h8:((i:Int)-1).toNat=i-1:=by omega
    have h9:¬row[i]≤row[i-1]:=by
     have:row.getD (i-1) 0=row[i-1]:=by simp[show i-1<row.length by omega]
     omega
    have h10:i-1<row.length:=by omega
    have h11:(0:Int)≤(i:Int)-1:=by omega
    have h12:(i:Int)-1<row.length:=by omega
    have DD:(1:Int)≤i:=by omega
    simp[Jw,hi,zU,h3,h4,h5,h8,h9,h10,h12,DD,zog,AH,qu,hp1,show 0<i by omega]
  ·intro i hi _ hp
   have e0:row.getD i 0=row[i]:=by simp[hi]
   simp only[CN,zl81,ry,zl97,e0] at hp
   have h4:IntKind.wrap .i64 (count-1)=count-1:=by rw[wrap64]<;>omega
   have h5:=Gx (i:=i) (by omega)
   by_cases hp1:0≤row[i]∧row[i]≤count-1
   ·have hp2:=hp.resolve_left (fun h=>h hp1)
    have h6:(0:Int)<i:=by omega
    have h8:((i:Int)-1).toNat=i-1:=by omega
    have h9:row[i]≤row[i-1]:=by
     have:row.getD (i-1) 0=row[i-1]:=by simp[show i-1<row.length by omega]
     omega
    have h10:i-1<row.length:=by omega
    have h11:(0:Int)≤(i:Int)-1:=by omega
    have h12:(i:Int)-1<row.length:=by omega
    have DD:(1:Int)≤i:=by omega
    simp[Jw,hi,zU,h4,h5,h8,h9,h10,h12,DD,zog,AH,qu,hp1,show 0<i by omega]
   ·simp[Jw,hi,zU,h4,zog,AH,qu,hp1]
  ·simp[Jw,ia]
 cases hp:ld row.length (CN row count) with
 |true=>
  rw[hp,bQ rfl] at hl
  simp[Ik,cb hl,cv hl,CB,hp,zog,AH,zU,qu]
 |false=>
  rw[hp,cT (by simp)] at hl
  simp[Ik,cb hl,cv hl,CB,hp,ia]
def afp (row:List Int)(count:Int)(h:row.length≤4611686018427387904)(hc: -9223372036854775807≤count)(aI:count≤9223372036854775807):Ii (row,count)=some (CB row count,()):=by
 have hl:Comes Ju (((0:Int),row,count,row,(row.length:Int)),()) (if ld row.length (CN row count)=true then .inr (count,()) else .inl (false,())):=by
  refine Cs (fun i=>(((i:Int),row,count,row,(row.length:Int)),())) ?_ ?_ ?_
  ·intro i hi _ hp
   have e0:row.getD i 0=row[i]:=by simp[hi]
   simp only[CN,bB,rz,mS,e0] at hp
   have h3:=AX (i:=i) (by omega)
   have h4:IntKind.wrap .i64 (count-1)=count-1:=by rw[wrap64]<;>omega
   have h5:=Gx (i:=i) (by omega)
   obtain⟨hp1,hp2⟩:=hp
   by_cases hz:i=0
   ·subst hz
    simp[Ju,hi,zU,h4,Pe,zog,Bo,qu,hp1]
   ·have h6:(0:Int)<i:=by omega
    have h7:row.getD (i-1) 0<row[i]:=hp2.resolve_left hz
    have h8:((i:Int)-1).toNat=i-1:=by omega
    have h9:¬row[i]≤row[i-1]:=by
     have:row.getD (i-1) 0=row[i-1]:=by simp[show i-1<row.length by omega]
     omega
    have h10:i-1<row.length:=by omega
    have h11:(0:Int)≤(i:Int)-1:=by omega
    have h12:(i:Int)-1<row.length:=by omega
    have DD:(1:Int)≤i:=by omega
    simp[Ju,hi,zU,h3,h4,h5,h8,h9,h10,h12,DD,zog,Bo,qu,hp1,show 0<i by omega]
  ·intro i hi _ hp
   have e0:row.getD i 0=row[i]:=by simp[hi]
   simp only[CN,zl81,ry,zl97,e0] at hp
   have h4:IntKind.wrap .i64 (count-1)=count-1:=by rw[wrap64]<;>omega
   have h5:=Gx (i:=i) (by omega)
   by_cases hp1:0≤row[i]∧row[i]≤count-1
   ·have hp2:=hp.resolve_left (fun h=>h hp1)
    have h6:(0:Int)<i:=by omega
    have h8:((i:Int)-1).toNat=i-1:=by omega
    have h9:row[i]≤row[i-1]:=by
     have:row.getD (i-1) 0=row[i-1]:=by simp[show i-1<row.length by omega]
     omega
    have h10:i-1<row.length:=by omega
    have h11:(0:Int)≤(i:Int)-1:=by omega
    have h12:(i:Int)-1<row.length:=by omega
    have DD:(1:Int)≤i:=by omega
    simp[Ju,hi,zU,h4,h5,h8,h9,h10,h12,DD,zog,Bo,qu,hp1,show 0<i by omega]
   ·simp[Ju,hi,zU,h4,zog,Bo,qu,hp1]
  ·simp[Ju,ia]
 cases hp:ld row.length (CN row count) with
 |true=>
  rw[hp,bQ rfl] at hl
  simp[Ii,cb hl,cv hl,CB,hp,zog,Bo,zU,qu]
 |false=>
  rw[hp,cT (by simp)] at hl
  simp[Ii,cb hl,cv hl,CB,hp,ia]
def cnt (p:gv.D):Int:=(p.1+p.2.1-1).tdiv p.2.1
def Nt (p:gv.D)(h1:1≤p.1∧p.1≤300)(h2:1≤p.2.1∧p.2.1≤16):1≤cnt p∧cnt p≤400:=by
 unfold cnt
 rw[zl91 (by omega)]
 constructor
 ·exact(Int.le_ediv_iff_mul_le (by omega)).2 (by omega)
 ·have:(p.1+p.2.1-1) / p.2.1≤(p.1+p.2.1-1):=Int.ediv_le_self _ (by omega)
  omega
def MX (p:gv.D)(h1:1≤p.1∧p.1≤300)(h2:1≤p.2.1∧p.2.1≤16):Bn p=some (cnt p,()):=by
 have hb:=Nt p h1 h2
 have e1:IntKind.wrap .i64 (p.1+p.2.1)=p.1+p.2.1:=by rw[wrap64]<;>omega
 have e2:IntKind.wrap .i64 (p.1+p.2.1-1)=p.1+p.2.1-1:=by rw[wrap64]<;>omega
 have e3:IntKind.wrap .i64 ((p.1+p.2.1-1).tdiv p.2.1)=(p.1+p.2.1-1).tdiv p.2.1:=by unfold cnt at hb;rw[wrap64]<;>omega
 have hz:(p.2.1 != 0)=true:=by simp;omega
 simp[Bn,e1,e2,e3,zU,cnt,hz]
def SU (p:gv.D)(h1:1≤p.1∧p.1≤300)(h2:1≤p.2.1∧p.2.1≤16):Eg p=some (cnt p,()):=by
 have hb:=Nt p h1 h2
 have e1:IntKind.wrap .i64 (p.1+p.2.1)=p.1+p.2.1:=by rw[wrap64]<;>omega
 have e2:IntKind.wrap .i64 (p.1+p.2.1-1)=p.1+p.2.1-1:=by rw[wrap64]<;>omega
 have e3:IntKind.wrap .i64 ((p.1+p.2.1-1).tdiv p.2.1)=(p.1+p.2.1-1).tdiv p.2.1:=by unfold cnt at hb;rw[wrap64]<;>omega
 have hz:(p.2.1 != 0)=true:=by simp;omega
 simp[Eg,e1,e2,e3,zU,cnt,hz]
def F2 (p:gv.D)(i:Nat):Bool:=
 decide (1≤p.2.2.1.getD i 0∧p.2.2.1.getD i 0≤cnt p)&&(decide (i=0) || decide (p.2.2.1.getD (i-1) 0<p.2.2.1.getD i 0))&&decide (1≤p.2.2.2.1.getD i 0∧p.2.2.2.1.getD i 0≤99)
def Cy (p:gv.D):Bool:=decide (1≤p.1∧p.1≤300)&&decide (1≤p.2.1∧p.2.1≤16)&&decide (cnt p≤24)&&decide (1≤p.2.2.1.length∧p.2.2.1.length≤3)&&decide (p.2.2.2.1.length=p.2.2.1.length)
def Bx (p:gv.D):Bool:=Cy p&&ld p.2.2.1.length (F2 p)&&decide (p.2.2.1.getD (p.2.2.1.length-1) 0=cnt p)
def ajY (p:gv.D)(h:Cy p=true):Comes G8 (((0:Int),()),p) (if ld p.2.2.1.length (F2 p)=true then .inr ((),p) else .inl (false,())):=by
 simp only[Cy,bB,mS] at h
 obtain⟨⟨⟨⟨a1,a2⟩,a3⟩,a4⟩,a5⟩:=h
 have hc:=MX p a1 a2
 refine Cs (fun i=>(((i:Int),()),p)) ?_ ?_ ?_
 ·intro i hi _ hp
  have hi2:i<p.2.2.2.1.length:=by omega
  have e0:p.2.2.1.getD i 0=p.2.2.1[i]:=by simp[hi]
  have e1:p.2.2.2.1.getD i 0=p.2.2.2.1[i]:=by simp[hi2]
  simp only[F2,bB,rz,mS,e0,e1] at hp
  obtain⟨⟨hp1,hp2⟩,ES⟩:=hp
  have h3:=AX (i:=i) (by omega)
  have h5:=Gx (i:=i) (by omega)
  by_cases hz:i=0
  ·subst hz
   simp[G8,hi,hi2,zU,Pe,zog,zog,hc,AH,qu,hp1,ES]
  ·have h6:(0:Int)<i:=by omega
   have h8:((i:Int)-1).toNat=i-1:=by omega
   have h10:i-1<p.2.2.1.length:=by omega
   have h9:¬p.2.2.1[i]≤p.2.2.1[i-1]:=by
    have:p.2.2.1.getD (i-1) 0=p.2.2.1[i-1]:=by simp[h10]
    have:=hp2.resolve_left hz
    omega
   have h11:(0:Int)≤(i:Int)-1:=by omega
   have h12:(i:Int)-1<p.2.2.1.length:=by omega
   have DD:(1:Int)≤i:=by omega
   simp[G8,hi,hi2,zU,h3,h5,h8,h9,h10,h12,DD,zog,zog,hc,AH,qu,hp1,ES,show 0<i by omega]
 ·intro i hi _ hp
  have hi2:i<p.2.2.2.1.length:=by omega
  have e0:p.2.2.1.getD i 0=p.2.2.1[i]:=by simp[hi]
  have e1:p.2.2.2.1.getD i 0=p.2.2.2.1[i]:=by simp[hi2]
  simp only[F2,zl81,ry,zl97,e0,e1] at hp
  have h5:=Gx (i:=i) (by omega)
  by_cases hp1:1≤p.2.2.1[i]∧p.2.2.1[i]≤cnt p
  ·by_cases hz:i=0
   ·subst hz
    have ES:¬((1:Int)≤p.2.2.2.1[0]∧p.2.2.2.1[0]≤(99:Int)):=by
     rcases hp with(hp|hp)|hp
     ·exact absurd hp1 hp
     ·exact absurd rfl hp.1
     ·exact hp
    simp[G8,hi,hi2,zU,zog,zog,hc,AH,qu,hp1,ES]
   ·have h6:(0:Int)<i:=by omega
    have h8:((i:Int)-1).toNat=i-1:=by omega
    have h10:i-1<p.2.2.1.length:=by omega
    have e2:p.2.2.1.getD (i-1) 0=p.2.2.1[i-1]:=by simp[h10]
    rw[e2] at hp
    have h11:(0:Int)≤(i:Int)-1:=by omega
    have h12:(i:Int)-1<p.2.2.1.length:=by omega
    have DD:(1:Int)≤i:=by omega
    by_cases h9:p.2.2.1[i]≤p.2.2.1[i-1]
    ·simp[G8,hi,zU,h5,h8,h9,h10,h12,DD,zog,zog,hc,AH,qu,hp1,show 0<i by omega]
    ·have ES:¬(1≤p.2.2.2.1[i]∧p.2.2.2.1[i]≤99):=by
      rcases hp with(hp|hp)|hp
      ·exact absurd hp1 hp
      ·exact absurd hp.2 (by omega)
      ·exact hp
     simp[G8,hi,hi2,zU,h5,h8,h9,h10,h12,DD,zog,zog,hc,AH,qu,hp1,ES,show 0<i by omega]
  ·have hb:(!decide (1≤p.2.2.1[i]) || !decide (p.2.2.1[i]≤cnt p))=true:=by simp;omega
   simp[G8,hi,hi2,zU,zog,zog,hc,AH,qu,hb]
 ·simp[G8,ia]
def Uj (p:gv.D):Ef p=some (Bx p,()):=by
 by_cases a1:1≤p.1∧p.1≤300
 case neg=>simp[Ef,zog,AH,zU,qu,a1,Bx,Cy]
 by_cases a2:1≤p.2.1∧p.2.1≤16
 case neg=>simp[Ef,zog,AH,zU,qu,a1,a2,Bx,Cy]
 have hc:=MX p a1 a2
 have hb:=Nt p a1 a2
 by_cases a3:cnt p≤24
 case neg=>simp[Ef,zog,zog,hc,AH,zU,qu,a1,a2,a3,Bx,Cy]
 by_cases a4:1≤p.2.2.1.length∧p.2.2.1.length≤3
 case neg=>
  have Dz:¬((1:Int)≤(p.2.2.1.length:Int)∧(p.2.2.1.length:Int)≤3):=by omega
  simp only[Ef,zog,zog,hc,AH,zU,qu,a1,a2,a3,a4,Dz,hb.1,Bx,Cy,and_self,zl73,zl75,zl70,zl98,dW,pO,zl93,zl74,zl99,zl92]
 by_cases a5:p.2.2.2.1.length=p.2.2.1.length
 case neg=>
  have Dz:((1:Int)≤(p.2.2.1.length:Int)∧(p.2.2.1.length:Int)≤3):=by omega
  have GC:((p.2.2.2.1.length:Int) != (p.2.2.1.length:Int))=true:=by simp;omega
  simp only[Ef,zog,zog,hc,AH,zU,qu,a1,a2,a3,a4,Dz,a5,GC,hb.1,Bx,Cy,and_self,zl73,zl75,zl70,dW,pO,zl93,zl74,zl99,zl92]
 have hA:Cy p=true:=by simp only[Cy,a1,a2,a3,a4,a5,and_self,zl73,zl92]
 have hl:=ajY p hA
 have Dz:((1:Int)≤(p.2.2.1.length:Int)∧(p.2.2.1.length:Int)≤3):=by omega
 have GC:((p.2.2.2.1.length:Int) != (p.2.2.1.length:Int))=false:=by simp;omega
 have w1:IntKind.wrap .i64 ((p.2.2.1.length:Int)-1)=(p.2.2.1.length:Int)-1:=Gx (by omega)
 have w2:((p.2.2.1.length:Int)-1).toNat=p.2.2.1.length-1:=by omega
 have w3:(0:Int)≤(p.2.2.1.length:Int)-1:=by omega
 have w4:(p.2.2.1.length:Int)-1<(p.2.2.1.length:Int):=by omega
 cases hp:ld p.2.2.1.length (F2 p) with
 |true=>
  rw[hp,bQ rfl] at hl
  simp only[Ef,cb hl,cv hl,zog,zog,hc,AH,zU,qu,a1,a2,a3,Dz,GC,hb.1,Bx,hA,hp,and_self,zl73,zl70,dW,pO,zl108,zl99,zl92]
  dsimp only[sumC]
  simp only[hc,w1,w2,w3,w4,zl73,zl92,dW]
  rfl
 |false=>
  rw[hp,cT (by simp)] at hl
  simp only[Ef,cb hl,cv hl,zog,zog,hc,AH,zU,qu,a1,a2,a3,Dz,GC,hb.1,Bx,hA,hp,and_self,zl73,zl70,dW,pO,zl93,zl74,zl99,zl92]
def afo (p:gv.D)(h:Cy p=true):Comes G6 (((0:Int),(),p.2.2.1,(p.2.2.1.length:Int)),p) (if ld p.2.2.1.length (F2 p)=true then .inr ((),()) else .inl (false,())):=by
 simp only[Cy,bB,mS] at h
 obtain⟨⟨⟨⟨a1,a2⟩,a3⟩,a4⟩,a5⟩:=h
 have hc:=SU p a1 a2
 refine Cs (fun i=>(((i:Int),(),p.2.2.1,(p.2.2.1.length:Int)),p)) ?_ ?_ ?_
 ·intro i hi _ hp
  have hi2:i<p.2.2.2.1.length:=by omega
  have e0:p.2.2.1.getD i 0=p.2.2.1[i]:=by simp[hi]
  have e1:p.2.2.2.1.getD i 0=p.2.2.2.1[i]:=by simp[hi2]
  simp only[F2,bB,rz,mS,e0,e1] at hp
  obtain⟨⟨hp1,hp2⟩,ES⟩:=hp
  have h3:=AX (i:=i) (by omega)
  have h5:=Gx (i:=i) (by omega)
  by_cases hz:i=0
  ·subst hz
   simp[G6,hi,hi2,zU,Pe,zog,zog,hc,Bo,qu,hp1,ES]
  ·have h6:(0:Int)<i:=by omega
   have h8:((i:Int)-1).toNat=i-1:=by omega
   have h10:i-1<p.2.2.1.length:=by omega
   have h9:¬p.2.2.1[i]≤p.2.2.1[i-1]:=by
    have:p.2.2.1.getD (i-1) 0=p.2.2.1[i-1]:=by simp[h10]
    have:=hp2.resolve_left hz
    omega
   have h11:(0:Int)≤(i:Int)-1:=by omega
   have h12:(i:Int)-1<p.2.2.1.length:=by omega
   have DD:(1:Int)≤i:=by omega
   simp[G6,hi,hi2,zU,h3,h5,h8,h9,h10,h12,DD,zog,zog,hc,Bo,qu,hp1,ES,show 0<i by omega]
 ·intro i hi _ hp
  have hi2:i<p.2.2.2.1.length:=by omega
  have e0:p.2.2.1.getD i 0=p.2.2.1[i]:=by simp[hi]
  have e1:p.2.2.2.1.getD i 0=p.2.2.2.1[i]:=by simp[hi2]
  simp only[F2,zl81,ry,zl97,e0,e1] at hp
  have h5:=Gx (i:=i) (by omega)
  by_cases hp1:1≤p.2.2.1[i]∧p.2.2.1[i]≤cnt p
  ·by_cases hz:i=0
   ·subst hz
    have ES:¬((1:Int)≤p.2.2.2.1[0]∧p.2.2.2.1[0]≤(99:Int)):=by
     rcases hp with(hp|hp)|hp
     ·exact absurd hp1 hp
     ·exact absurd rfl hp.1
     ·exact hp
    simp[G6,hi,hi2,zU,zog,zog,hc,Bo,qu,hp1,ES]
   ·have h6:(0:Int)<i:=by omega
    have h8:((i:Int)-1).toNat=i-1:=by omega
    have h10:i-1<p.2.2.1.length:=by omega
    have e2:p.2.2.1.getD (i-1) 0=p.2.2.1[i-1]:=by simp[h10]
    rw[e2] at hp
    have h11:(0:Int)≤(i:Int)-1:=by omega
    have h12:(i:Int)-1<p.2.2.1.length:=by omega
    have DD:(1:Int)≤i:=by omega
    by_cases h9:p.2.2.1[i]≤p.2.2.1[i-1]
    ·simp[G6,hi,zU,h5,h8,h9,h10,h12,DD,zog,zog,hc,Bo,qu,hp1,show 0<i by omega]
    ·have ES:¬(1≤p.2.2.2.1[i]∧p.2.2.2.1[i]≤99):=by
      rcases hp with(hp|hp)|hp
      ·exact absurd hp1 hp
      ·exact absurd hp.2 (by omega)
      ·exact hp
     simp[G6,hi,hi2,zU,h5,h8,h9,h10,h12,DD,zog,zog,hc,Bo,qu,hp1,ES,show 0<i by omega]
  ·have hb:(!decide (1≤p.2.2.1[i]) || !decide (p.2.2.1[i]≤cnt p))=true:=by simp;omega
   simp[G6,hi,hi2,zU,zog,zog,hc,Bo,qu,hb]
 ·simp[G6,ia]
def afn (p:gv.D):ED p=some (Bx p,()):=by
 by_cases a1:1≤p.1∧p.1≤300
 case neg=>simp[ED,zog,Bo,zU,qu,a1,Bx,Cy]
 by_cases a2:1≤p.2.1∧p.2.1≤16
 case neg=>simp[ED,zog,Bo,zU,qu,a1,a2,Bx,Cy]
 have hc:=SU p a1 a2
 have hb:=Nt p a1 a2
 by_cases a3:cnt p≤24
 case neg=>
  have a3':cnt p>24:=by omega
  simp[ED,zog,zog,hc,Bo,zU,qu,a1,a2,a3,a3',Bx,Cy]
 have a3':¬cnt p>24:=by omega
 by_cases a4:1≤p.2.2.1.length∧p.2.2.1.length≤3
 case neg=>
  have Dz:¬((1:Int)≤(p.2.2.1.length:Int)∧(p.2.2.1.length:Int)≤3):=by omega
  simp only[ED,zog,zog,hc,Bo,zU,qu,a1,a2,a3,a3',a4,Dz,Bx,Cy,and_self,zl73,zl75,zl70,zl98,dW,pO,zl93,zl74,zl76,zl99,zl92]
 by_cases a5:p.2.2.2.1.length=p.2.2.1.length
 case neg=>
  have Dz:((1:Int)≤(p.2.2.1.length:Int)∧(p.2.2.1.length:Int)≤3):=by omega
  have GC:((p.2.2.2.1.length:Int) != (p.2.2.1.length:Int))=true:=by simp;omega
  simp only[ED,zog,zog,hc,Bo,zU,qu,a1,a2,a3,a3',a4,Dz,a5,GC,Bx,Cy,and_self,zl73,zl75,zl70,zl98,dW,pO,zl93,zl74,zl76,zl99,zl92]
 have hA:Cy p=true:=by simp only[Cy,a1,a2,a3,a4,a5,and_self,zl73,zl92]
 have hl:=afo p hA
 have Dz:((1:Int)≤(p.2.2.1.length:Int)∧(p.2.2.1.length:Int)≤3):=by omega
 have GC:((p.2.2.2.1.length:Int) != (p.2.2.1.length:Int))=false:=by simp;omega
 have w1:IntKind.wrap .i64 ((p.2.2.1.length:Int)-1)=(p.2.2.1.length:Int)-1:=Gx (by omega)
 have w2:((p.2.2.1.length:Int)-1).toNat=p.2.2.1.length-1:=by omega
 have w3:(0:Int)≤(p.2.2.1.length:Int)-1:=by omega
 have w4:(p.2.2.1.length:Int)-1<(p.2.2.1.length:Int):=by omega
 by_cases a6:p.2.2.1.getD (p.2.2.1.length-1) 0=cnt p
 case neg=>
  have a6':(p.2.2.1.getD (p.2.2.1.length-1) 0 != cnt p)=true:=by simpa using a6
  simp only[ED,zog,zog,hc,Bo,zU,qu,a1,a2,a3',Dz,GC,a6,a6',Bx,hA,w1,w2,w3,w4,and_self,zl73,zl75,zl70,dW,pO,zl108,zl74,zl99,zl92]
 have a6':(p.2.2.1.getD (p.2.2.1.length-1) 0 != cnt p)=false:=by simpa using a6
 have a7:decide (p.2.2.1.getD (p.2.2.1.length-1) 0=cnt p)=true:=by simpa using a6
 cases hp:ld p.2.2.1.length (F2 p) with
 |true=>
  rw[hp,bQ rfl] at hl
  simp only[ED,cb hl,cv hl,zog,zog,hc,Bo,zU,qu,a1,a2,a3',Dz,GC,a6',a7,Bx,hA,hp,w1,w2,w3,w4,and_self,zl73,zl75,zl70,dW,pO,zl99,zl92]
 |false=>
  rw[hp,cT (by simp)] at hl
  simp only[ED,cb hl,cv hl,zog,zog,hc,Bo,zU,qu,a1,a2,a3',Dz,GC,a6',a7,Bx,hA,hp,w1,w2,w3,w4,and_self,zl73,zl75,zl70,dW,pO,zl93,zl74,zl99,zl92]
end Pc
open Go Go.Ab Go.Lib
namespace Pl
def Lo (c id:Nat):Nat:=if(c+3) / 4<c then(if BT (qe id) 5<2 then(c+3) / 4 else c) else c
def RM (c id:Nat)(h:1≤c):1≤Lo c id∧Lo c id≤c:=by unfold Lo;split<;>(try split)<;>omega
def DM (c id:Nat):List Int:=if id<c then [(id:Int)] else Ho (Lo c id) id
def acJ {c id:Nat}(h:1≤c){x:Int}(hx:x∈DM c id):0≤x∧x<c:=by
 unfold DM at hx
 split at hx
 ·rw[i_] at hx;omega
 ·have w:=RM c id h
  have:=acH w.1 hx
  omega
def ajm {c id:Nat}(h:1≤c):(DM c id).Pairwise (· < ·):=by
 unfold DM
 split
 ·exact List.pairwise_singleton _ _
 ·exact acF (RM c id h).1
def acI {c id:Nat}(h:1≤c):1≤(DM c id).length∧(DM c id).length≤c:=by
 unfold DM
 split
 ·exact⟨bA _,h⟩
 ·have w:=RM c id h
  have:=acG (seed:=id) w.1
  omega
def akb (L s a b id:Int):Comes JC ((0,(),0,id),((L,s,[a,b],[2,3],()):gv.D)) (((),5,id),(L,s,[a,b],[2,3],())):=
 .again (x':=((1,(),2,id),(L,s,[a,b],[2,3],()))) rfl (.again (x':=((2,(),5,id),(L,s,[a,b],[2,3],()))) rfl (.out rfl))
def aka (L s a id:Int):Comes JC ((0,(),0,id),((L,s,[a],[1],()):gv.D)) (((),1,id),(L,s,[a],[1],())):=
 .again (x':=((1,(),1,id),(L,s,[a],[1],()))) rfl (.out rfl)
def akD (L s a b:Int)(k:Nat)(hk:k<5):Comes JD ((0,(),(k:Int)),((L,s,[a,b],[2,3],()):gv.D)) (.inl (if k<2 then a else b,())):=by
 match k,hk with
 |0,_=>exact .out rfl
 |1,_=>exact .out rfl
 |2,_=>exact .again (x':=((1,(),0),(L,s,[a,b],[2,3],()))) rfl (.out rfl)
 |3,_=>exact .again (x':=((1,(),1),(L,s,[a,b],[2,3],()))) rfl (.out rfl)
 |4,_=>exact .again (x':=((1,(),2),(L,s,[a,b],[2,3],()))) rfl (.out rfl)
def akC (L s a:Int):Comes JD ((0,(),0),((L,s,[a],[1],()):gv.D)) (.inl (a,())):=.out rfl
end Pl
