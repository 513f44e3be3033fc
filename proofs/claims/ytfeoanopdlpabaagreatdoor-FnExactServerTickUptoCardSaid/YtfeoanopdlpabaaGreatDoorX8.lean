import Derived.Test.YtfeoanopdlpabaaGreatDoorX7
set_option linter.defProp false
namespace Wh
end Wh
open Wh
open Go Go.Ab Go.Lib
namespace Pl
def F6 (n lo hi:Int):r_ (n,lo,hi)=some (decide (lo≤n∧n≤hi),()):=by
 by_cases h:lo≤n<;>simp[r_,h]
def Al (n lo hi:Int):gz (n,lo,hi)=some (decide (lo≤n∧n≤hi),()):=by
 by_cases h:lo≤n<;>simp[gz,h]
def ZB:∀(k n:Nat),n<10 ^ k→k≤18→1≤k→Ei k (n:Int)=some (decDigits n,())
 |0,_,_,_,h=>by omega
 |k+1,n,hn,hk,_=>by
  have hb:(10:Nat) ^ (k+1)≤10 ^ 18:=Nat.pow_le_pow_right (by omega) hk
  have c1:decide ((n:Int) < -9223372036854775807)=false:=zdf
  have c2:decide ((n:Int)<0)=false:=zdf
  rw[Uw]
  by_cases h10:n<10
  ·have c3:decide ((n:Int)<10)=true:=zdt
   have w1:IntKind.wrap .u8 (IntKind.wrap .i64 (48+(n:Int)))=((48+n:Nat):Int):=by
    rw[wrap64 (by omega) (by omega)]
    simp[IntKind.wrap,IntKind.signed,IntKind.bits]
    omega
   simp only[q37,c1,c2,c3,eF,aG,w1]
   rw[decDigits,dif_pos h10]
   rfl
  ·have c3:decide ((n:Int)<10)=false:=zdf
   have hk1:1≤k:=by
    rcases k with _|k
    ·simp at hn;omega
    ·omega
   have ih:=ZB k (n / 10) (by rw[Nat.pow_succ] at hn;omega) (by omega) hk1
   have w1:IntKind.wrap .u8 (IntKind.wrap .i64 (48+Int.tmod (n:Int) 10))=((48+n % 10:Nat):Int):=by
    have:Int.tmod (n:Int) 10=((n % 10:Nat):Int):=by rw[Int.tmod_eq_emod_of_nonneg (by omega)];omega
    rw[this,wrap64 (by omega) (by omega)]
    simp[IntKind.wrap,IntKind.signed,IntKind.bits]
    omega
   have w2:IntKind.wrap .i64 (Int.tdiv (n:Int) 10)=((n / 10:Nat):Int):=by
    have:Int.tdiv (n:Int) 10=((n / 10:Nat):Int):=by rw[zl91 (by omega)];omega
    rw[this,wrap64 (by omega) (by omega)]
   have hlen:(decDigits (n / 10)).length+1≤eD:=by
    have:=RW (n:=n / 10) (k:=18) (by omega) (by omega)
    unfold eD;omega
   simp only[q37,c1,c2,c3,eF,w1,w2,ih,zU,isSm,hlen,zl73,aG,zl92]
   rw[decDigits.eq_1 n,dif_neg h10]
   rfl
def Sl (n:Nat)(h:n<10 ^ 18):Ca (n:Int)=some (decDigits n,()):=by
 have mono:∀(k:Nat) (x:Int) y,Ei k x=some y→Ei (k+1) x=some y:=by
  intro k
  induction k with
  |zero=>intro x y h;cases h
  |succ k ih=>
   intro x y h
   rw[Uw] at h ⊢
   unfold q37 at h ⊢
   cases c1:decide (x<(-9223372036854775807:Int)) with
   |true=>simp only[c1,aG] at h ⊢;exact h
   |false=>
    simp only[c1,eF] at h ⊢
    cases c2:decide (x<(0:Int)) with
    |true=>
     simp only[c2,aG] at h ⊢
     cases hr:Ei k (IntKind.wrap .i64 (0-x)) with
     |none=>simp only[hr,zU,isSm,kG,eF,reduceCtorEq] at h
     |some z=>simp only[hr,ih _ _ hr] at h ⊢;exact h
    |false=>
     simp only[c2,eF] at h ⊢
     cases c3:decide (x<(10:Int)) with
     |true=>simp only[c3,aG] at h ⊢;exact h
     |false=>
      simp only[c3,eF] at h ⊢
      cases hr:Ei k (IntKind.wrap .i64 (Int.tdiv x 10)) with
      |none=>simp only[hr,zU,isSm,kG,zl93,eF,reduceCtorEq] at h
      |some z=>simp only[hr,ih _ _ hr] at h ⊢;exact h
 exact mono 19 _ _ (mono 18 _ _ (ZB 18 n h (by omega) (by omega)))
def P6 (n:Nat)(h:n<10 ^ 18):Wh.strconv_Itoa (n:Int)=some (decDigits n,()):=by
 have h1:decide (-9223372036854775808≤(n:Int))=true:=zdt
 have h2:decide ((n:Int)≤9223372036854775807)=true:=zdt
 have h3:itoa (n:Int)=decDigits n:=by unfold itoa;rw[bY (by omega)];simp
 simp only[Wh.strconv_Itoa,h1,h2,zl92,aG,h3]
def LY (s p q:List UInt8)(at_:Nat)(b:UInt8)(hs:s.length≤4611686018427387904)(hd:s.drop at_=p++b::q)(hp:∀x∈p,x≠b) :
  B_ (s,(at_:Int),(b.toNat:Int))=some (((at_+p.length:Nat):Int),()):=by
 have hlen:s.length=at_+p.length+1+q.length:=by
  have:=congrArg List.length hd
  simp only[zl4,cK,kF] at this
  by_cases h:at_≤s.length
  ·omega
  ·omega
 have mu:∀i,i<p.length→s.getD (at_+i) 0=p.getD i 0:=by
  intro i hi
  have:(s.drop at_).getD i 0=(p++b::q).getD i 0:=by rw[hd]
  simp only[nO,zl5,cL hi] at this ⊢
  exact this
 have hb:s.getD (at_+p.length) 0=b:=by
  have:(s.drop at_).getD p.length 0=(p++b::q).getD p.length 0:=by rw[hd]
  simp only[nO,zl5] at this ⊢
  rw[this]
  simp
 have hc:∀d i,i+d=p.length→Comes Hh ((((at_+i:Nat):Int),(b.toNat:Int),s),()) (.inl (((at_+p.length:Nat):Int),())):=by
  intro d
  induction d with
  |zero=>
   intro i hi
   have:i=p.length:=by omega
   subst this
   refine .out ?_
   have c1:decide (((at_+p.length:Nat):Int)<(s.length:Int))=true:=zdt
   have c0:decide ((0:Int)≤((at_+p.length:Nat):Int))=true:=zdt
   simp only[Hh,c1,c0,zl94,hb,zl95,zU,aG,zl92]
  |succ d ih=>
   intro i hi
   refine .again ?_ (ih (i+1) (by omega))
   have c1:decide (((at_+i:Nat):Int)<(s.length:Int))=true:=zdt
   have c0:decide ((0:Int)≤((at_+i:Nat):Int))=true:=zdt
   have c2:((((s.getD (at_+i) 0).toNat:Nat):Int)==((b.toNat:Nat):Int))=false:=by
    rw[zl89]
    intro e
    have e1:(s.getD (at_+i) 0).toNat=b.toNat:=by omega
    have e2:=UInt8.toNat_inj.1 e1
    rw[mu i (by omega)] at e2
    refine hp _ ?_ e2
    rw[getD_eq _ _ _ (by omega)]
    exact zl96 _
   have w:=zX (i:=at_+i) (by omega)
   simp only[Hh,c1,c0,zl94,c2,w,zU,aG,eF,zl92]
   rfl
 have h0:=hc p.length 0 (by omega)
 rw[qN] at h0
 simp only[B_,cb h0,cv h0,aG]
def Sn (s:List UInt8)(at_:Nat)(b:UInt8)(hs:s.length≤4611686018427387904)(ha:at_≤4611686018427387904)(hd:∀x∈s.drop at_,x≠b) :
  B_ (s,(at_:Int),(b.toNat:Int))=some (-1,()):=by
 have hc:∀d i,at_+i+d=max s.length at_→Comes Hh ((((at_+i:Nat):Int),(b.toNat:Int),s),()) (.inr ((),())):=by
  intro d
  induction d with
  |zero=>
   intro i hi
   refine .out ?_
   have c1:decide (((at_+i:Nat):Int)<(s.length:Int))=false:=zdf
   simp only[Hh,c1,eF]
  |succ d ih=>
   intro i hi
   refine .again ?_ (ih (i+1) (by omega))
   have hlt:at_+i<s.length:=by omega
   have c1:decide (((at_+i:Nat):Int)<(s.length:Int))=true:=zdt
   have c0:decide ((0:Int)≤((at_+i:Nat):Int))=true:=zdt
   have c2:((((s.getD (at_+i) 0).toNat:Nat):Int)==((b.toNat:Nat):Int))=false:=by
    rw[zl89]
    intro e
    have e1:(s.getD (at_+i) 0).toNat=b.toNat:=by omega
    have e2:=UInt8.toNat_inj.1 e1
    refine hd _ ?_ e2
    rw[getD_eq _ _ _ hlt]
    have:(s.drop at_)[i]'(by simp;omega)=s[at_+i]:=by simp
    rw[←this]
    exact zl96 _
   have w:=zX (i:=at_+i) (by omega)
   simp only[Hh,c1,c0,zl94,c2,w,zU,aG,eF,zl92]
   rfl
 have h0:=hc (max s.length at_-at_) 0 (by omega)
 rw[qN] at h0
 simp only[B_,cb h0,cv h0,aG]
def Zx (c:UInt8):((bif decide (((c.toNat:Nat):Int)<48) then true else decide (((c.toNat:Nat):Int)>57))=false)↔AQ c:=by
 unfold AQ
 by_cases h:c.toNat<48
 ·have:decide (((c.toNat:Nat):Int)<48)=true:=by simp;omega
  simp only[this,aG]
  constructor
  ·intro h;cases h
  ·intro hh;omega
 ·have:decide (((c.toNat:Nat):Int)<48)=false:=by simp;omega
  simp only[this,eF,zl97]
  constructor<;>intro hh<;>omega
def wrapU8 {x:Nat}(h:48≤x)(h':x≤57):IntKind.wrap .u8 ((x:Int)-48)=((x-48:Nat):Int):=by
 simp[IntKind.wrap,IntKind.signed,IntKind.bits]
 omega
def ak0 (s:List UInt8)(i:Nat)(h:i<s.length):ov (s.take (i+1))=ov (s.take i)*10+(s[i].toNat-48):=by
 rw[zl88 h,Rg]
def LX (s:List UInt8)(hs:s.length≤4611686018427387904):Dq s=some (if isNum s then(ov s:Int) else -1,()):=by
 have hin:=F6 (s.length:Int) 1 6
 by_cases hl:1≤s.length∧s.length≤6
 ·have c0:decide ((1:Int)≤(s.length:Int)∧(s.length:Int)≤6)=true:=zdt
  rw[c0] at hin
  by_cases hz:1<s.length∧s.getD 0 0=48
  ·have hn:¬isNum s:=by
    rintro⟨⟨h1,_,h3⟩,_⟩
    rcases h3 with h3|h3
    ·omega
    ·apply h3
     rw[getD_eq _ _ _ (by omega)] at hz
     cases s with
     |nil=>exact absurd rfl h1
     |cons a l=>simp at hz ⊢;exact hz.2
   have d1:decide ((s.length:Int)>1)=true:=zdt
   have d2:decide ((0:Int)<(s.length:Int))=true:=zdt
   have d3:((((s.getD (Int.toNat 0) 0).toNat:Nat):Int)==(48:Int))=true:=by
    rw[show Int.toNat 0=0 from rfl,hz.2];rfl
   simp only[Dq,hin,zov hin,d1,d2,d3,bY hn,zU,isSm,aG,eF,zl70,zl98,zl99,zl92,Int.le_refl,zl73]
  ·have key:∀(b:Bool),b=decide ((s.length:Int)>1)→(bif b then((((s.getD (Int.toNat 0) 0).toNat:Nat):Int)==(48:Int)) else false)=false:=by
    intro b hb
    subst hb
    by_cases h1:1<s.length
    ·have d1:decide ((s.length:Int)>1)=true:=zdt
     simp only[d1,aG,zl89]
     intro e
     apply hz
     refine⟨h1,?_⟩
     rw[show Int.toNat 0=0 from rfl] at e
     have:(s.getD 0 0).toNat=(48:UInt8).toNat:=by simpa using(by omega:(s.getD 0 0).toNat=48)
     exact UInt8.toNat_inj.1 this
    ·have d1:decide ((s.length:Int)>1)=false:=zdf
     simp only[d1,eF]
   have d2:decide ((0:Int)<(s.length:Int))=true:=zdt
   let p:Nat→Bool:=fun i=>decide (AQ (s.getD i 0))
   have hc:=CA (r:=KT) (st:=fun i=>(((i:Int),s,(ov (s.take i):Int)),())) (n:=s.length) (p:=p) (yf:=.inl ((-1:Int),())) (yt:=.inr ((ov s:Int),()))
    (fun i hi hprev hpi=>by
     have hp:AQ (s.getD i 0):=zl79 hpi
     have c1:decide ((i:Int)<(s.length:Int))=true:=zdt
     have c2:decide ((0:Int)≤(i:Int))=true:=zdt
     have c3:=(Zx (s.getD i 0)).2 hp
     have hval:ov (s.take i)<10 ^ 6:=by
      have h1:=adA (s.take i) fun c hc=>by
       obtain⟨j,hj,e⟩:=zl100 hc
       have hj':j<i:=by simp at hj;omega
       have:=zl79 (hprev j hj')
       rw[getD_eq _ _ _ (by omega)] at this
       rw[←e,List.getElem_take]
       exact this
      have h2:(10:Nat) ^ (s.take i).length≤10 ^ 6:=Nat.pow_le_pow_right (by omega) (by simp;omega)
      omega
     have hg:=getD_eq s i 0 hi
     unfold AQ at hp
     have w1:IntKind.wrap .i64 ((ov (s.take i):Int)*10)=(ov (s.take i):Int)*10:=wrap64 (by omega) (by omega)
     have w2:IntKind.wrap .u8 ((((s.getD i 0).toNat:Nat):Int)-48)=(((s.getD i 0).toNat-48:Nat):Int):=wrapU8 hp.1 hp.2
     have w3:IntKind.wrap .i64 ((((s.getD i 0).toNat-48:Nat):Int))=(((s.getD i 0).toNat-48:Nat):Int):=wrap64 (by omega) (by omega)
     have w4:IntKind.wrap .i64 ((ov (s.take i):Int)*10+(((s.getD i 0).toNat-48:Nat):Int))=(ov (s.take (i+1)):Int):=by
      rw[ak0 s i hi,wrap64 (by omega) (by omega),hg]
      omega
     simp only[KT,c1,c2,c3,zl94,w1,w2,w3,w4,zX (i:=i) (by omega),zU,aG,eF,zl99,zl92])
    (fun i hi hprev hpi=>by
     have hp:¬AQ (s.getD i 0):=zl101 hpi
     have c1:decide ((i:Int)<(s.length:Int))=true:=zdt
     have c2:decide ((0:Int)≤(i:Int))=true:=zdt
     have c3:(bif decide ((((s.getD i 0).toNat:Nat):Int)<48) then true else decide ((((s.getD i 0).toNat:Nat):Int)>57))=true:=by
      cases hh:(bif decide ((((s.getD i 0).toNat:Nat):Int)<48) then true else decide ((((s.getD i 0).toNat:Nat):Int)>57)) with
      |true=>rfl
      |false=>exact absurd ((Zx _).1 hh) hp
     simp only[KT,c1,c2,c3,zl94,zU,aG,zl99,zl92])
    (by
     have c1:decide (((s.length:Nat):Int)<(s.length:Int))=false:=zdf
     simp only[KT,c1,eF,zl102])
   simp only[List.take_zero] at hc
   rw[show((ov []:Nat):Int)=0 from rfl,show(((0:Nat):Int))=0 from rfl] at hc
   have hiff:xb s.length p=true↔isNum s:=by
    rw[BA]
    constructor
    ·intro h
     refine⟨⟨fun e=>by rw[e] at hl;simp at hl,fun c hc=>?_,?_⟩,hl.2⟩
     ·obtain⟨j,hj,e⟩:=zl100 hc
      have:=zl79 (h j hj)
      rw[getD_eq _ _ _ hj,e] at this
      exact this
     ·by_cases h1:s.length=1
      ·exact .inl h1
      ·right
       intro e
       apply hz
       refine⟨by omega,?_⟩
       cases s with
       |nil=>simp at hl
       |cons a l=>simp at e ⊢;exact e
    ·intro h i hi
     refine zl86 ?_
     rw[getD_eq _ _ _ hi]
     exact h.1.2.1 _ (zl96 _)
   have hk:=key _ rfl
   simp only[Dq,hin,zov hin,d2,hk,cb hc,cv hc,zU,isSm,aG,eF,zl70,zl98,zl99,zl92,Int.le_refl,zl73]
   by_cases hn:isNum s
   ·simp only[bf (hiff.2 hn),bf hn]
   ·have:¬xb s.length p=true:=fun h=>hn (hiff.1 h)
    simp only[bY this,bY hn]
 ·have hn:¬isNum s:=by
   rintro⟨⟨h1,_⟩,h2⟩
   apply hl
   refine⟨?_,h2⟩
   rcases zl83 s.length with e|e
   ·exact absurd (dM.1 e) h1
   ·exact e
  have c0:decide ((1:Int)≤(s.length:Int)∧(s.length:Int)≤6)=false:=zdf
  rw[c0] at hin
  simp only[Dq,hin,zov hin,bY hn,zU,isSm,aG,zl70,zl98,kG,zl76,zl92]
end Pl
open Go Go.Ab
namespace Pl
set_option maxRecDepth 20000
def ac1:A7=zI:=rfl
def akW (x:Int)(n:Int)(h0:0≤n)(h1:n≤32):isSm (zI (x,n))=true:=by
 have e1:decide ((0:Int)≤IntKind.wrap .i64 (32-n))=true:=by rw[wrap64 (by omega) (by omega)];exact zdt
 have e2:decide ((0:Int)≤n)=true:=zl86 h0
 simp only[zI,e1,e2,zU,isSm,zl92,aG]
def wrap32 (x:Int):IntKind.wrap .u32 x=x % 4294967296:=by simp[IntKind.wrap,IntKind.signed,IntKind.bits]
def acV (p q a c:Int):IntKind.wrap .u32 (IntKind.wrap .u32 (IntKind.wrap .u32 (p+a)+q)+c)=IntKind.wrap .u32 (IntKind.wrap .u32 (IntKind.wrap .u32 (p+q)+a)+c):=by
 simp only[wrap32];omega
def ajE (t a m:Int):IntKind.wrap .u32 (IntKind.wrap .u32 (t+a)+m)=IntKind.wrap .u32 (t+IntKind.wrap .u32 (a+m)):=by
 simp only[wrap32];omega
def Bd (n:Nat):List Int:=List.replicate n 0
def adE (l:List Int)(n:Nat):l++Bd n ++ [(0:Int)]=l++Bd (n+1):=by
 rw[Bd,Bd,bX,List.replicate_succ']
def zn (n:Nat):Nat:=(119-n % 64) % 64
def V0 (n:Nat):(n+1+zn n) % 64=56:=by unfold zn;omega
def Ph (n:Nat):zn n<64:=by unfold zn;omega
def zn_no (n j:Nat)(h:j<zn n):(n+1+j) % 64≠56:=by unfold zn at h;omega
def Je (n k:Nat):Int.tmod (n:Int) (k:Int)=((n % k:Nat):Int):=by rw[Int.tmod_eq_emod_of_nonneg (by omega)];omega
def GW (x:List UInt8):List Int:=bytesOf x ++ [128]++Bd (zn x.length)
def JE (x:List UInt8):(bytesOf x).length=x.length:=by simp[bytesOf]
def Tu (x:List UInt8):(GW x).length=x.length+1+zn x.length:=by simp[GW,Bd,JE];omega
def ahJ (x:List UInt8)(h:x.length≤2147483648):Comes Li (((),x),bytesOf x ++ [128]) (((),x),GW x):=by
 have h0:=s4 (r:=Li) (fun i=>(((),x),bytesOf x ++ [128]++Bd i)) (n:=zn x.length) (y:=(((),x),GW x)) (fun i hi=>by
   have hl:(bytesOf x ++ [128]++Bd i).length=x.length+1+i:=by simp[Bd,JE];omega
   have c1:(Int.tmod ((x.length+1+i:Nat):Int) (64:Int) != (56:Int))=true:=by
    have:=Je (x.length+1+i) 64
    have h2:=zn_no _ _ hi
    rw[bne_iff_ne]
    intro hc
    rw[show((64:Int))=((64:Nat):Int) from rfl,this] at hc
    omega
   have c2:decide (x.length+1+i+1≤eD)=true:=zl86 (by have:=Ph x.length;unfold eD;omega)
   simp only[Li,hl,c1,c2,zU,aG,adE]) (by
   have hl:(bytesOf x ++ [128]++Bd (zn x.length)).length=x.length+1+zn x.length:=by simp[Bd,JE];omega
   have c1:(Int.tmod ((x.length+1+zn x.length:Nat):Int) (64:Int) != (56:Int))=false:=by
    have:=Je (x.length+1+zn x.length) 64
    rw[show((64:Int))=((64:Nat):Int) from rfl,this,V0];rfl
   simp only[Li,hl,c1,eF];rfl) 0 (lz _)
 simpa[Bd] using h0
def ahI (x:List UInt8)(g:List Int)(h:x.length≤2147483648):Comes Lb (((),(),x),bytesOf x ++ [128],g) (((),(),x),GW x,g):=by
 have h0:=s4 (r:=Lb) (fun i=>(((),(),x),bytesOf x ++ [128]++Bd i,g)) (n:=zn x.length) (y:=(((),(),x),GW x,g)) (fun i hi=>by
   have hl:(bytesOf x ++ [128]++Bd i).length=x.length+1+i:=by simp[Bd,JE];omega
   have c1:(Int.tmod ((x.length+1+i:Nat):Int) (64:Int) != (56:Int))=true:=by
    have:=Je (x.length+1+i) 64
    have h2:=zn_no _ _ hi
    rw[bne_iff_ne]
    intro hc
    rw[show((64:Int))=((64:Nat):Int) from rfl,this] at hc
    omega
   have c2:decide (x.length+1+i+1≤eD)=true:=zl86 (by have:=Ph x.length;unfold eD;omega)
   simp only[Lb,hl,c1,c2,zU,aG,adE]) (by
   have hl:(bytesOf x ++ [128]++Bd (zn x.length)).length=x.length+1+zn x.length:=by simp[Bd,JE];omega
   have c1:(Int.tmod ((x.length+1+zn x.length:Nat):Int) (64:Int) != (56:Int))=false:=by
    have:=Je (x.length+1+zn x.length) 64
    rw[show((64:Int))=((64:Nat):Int) from rfl,this,V0];rfl
   simp only[Lb,hl,c1,eF];rfl) 0 (lz _)
 simpa[Bd] using h0
def lenB (n:Int)(k:Nat):Int:=IntKind.wrap .u8 (Int.fdiv n ((2:Int) ^ (8*k)))
def CV (n:Int):Nat→List Int
 |0=>[]
 |i+1=>CV n i ++ [lenB n (7-i)]
def P8 (n:Int):∀i,(CV n i).length=i
 |0=>rfl
 |i+1=>by rw[CV,cK,P8 n i];rfl
def agq (l:List Int)(n:Int)(h:l.length≤4294967296):Comes MX ((7,n,()),l) ((),l++CV n 8):=by
 have h0:=s4 (r:=MX) (fun i=>((7-(i:Int),n,()),l++CV n i)) (n:=8) (y:=((),l++CV n 8)) (fun i hi=>by
   have c1:decide ((7-(i:Int))≥0)=true:=zdt
   have w1:IntKind.wrap .i64 (8*(7-(i:Int)))=((8*(7-i):Nat):Int):=by rw[wrap64 (by omega) (by omega)];omega
   have w2:IntKind.wrap .i64 (7-(i:Int)-1)=7-((i+1:Nat):Int):=by rw[wrap64 (by omega) (by omega)];omega
   have c2:decide ((l++CV n i).length+1≤eD)=true:=zl86 (by rw[cK,P8];unfold eD;omega)
   have c3:decide ((0:Int)≤((8*(7-i):Nat):Int))=true:=zdt
   have w3:Min.min (8*(7-i)) (Go.IntKind.bits Go.IntKind.i64)=8*(7-i):=Nat.min_eq_left (by simp[IntKind.bits];omega)
   simp only[MX,c1,w1,w2,c2,c3,zU,zl92,aG,zl94,w3]
   rw[CV,←bX];rfl) (by rfl) 0 (lz _)
 simpa[CV] using h0
def agp (l g:List Int)(n:Int)(h:l.length≤4294967296):Comes MT ((56,n,(),()),l,g) (((),()),l++CV n 8,g):=by
 have h0:=s4 (r:=MT) (fun i=>((56-8*(i:Int),n,(),()),l++CV n i,g)) (n:=8) (y:=(((),()),l++CV n 8,g)) (fun i hi=>by
   have c1:decide ((56-8*(i:Int))≥0)=true:=zdt
   have w2:IntKind.wrap .i64 (56-8*(i:Int)-8)=56-8*((i+1:Nat):Int):=by rw[wrap64 (by omega) (by omega)];omega
   have c2:decide ((l++CV n i).length+1≤eD)=true:=zl86 (by rw[cK,P8];unfold eD;omega)
   have c3:decide ((0:Int)≤(56-8*(i:Int)))=true:=zdt
   have w1:Int.toNat (56-8*(i:Int))=8*(7-i):=by omega
   have w3:Min.min (8*(7-i)) (Go.IntKind.bits Go.IntKind.u64)=8*(7-i):=Nat.min_eq_left (by simp[IntKind.bits];omega)
   simp only[MT,c1,w1,w2,c2,zU,zl92,aG,w3]
   rw[CV,←bX];rfl) (by rfl) 0 (lz _)
 simpa[CV] using h0
def Dl (x:List UInt8):List Int:=GW x++CV ((x.length:Int)*8) 8
def Tv (x:List UInt8):(Dl x).length=x.length+1+zn x.length+8:=by simp[Dl,Tu,P8]
def aaM (x:List UInt8):(Dl x).length % 64=0:=by rw[Tv];have:=V0 x.length;omega
def ahK (x:List UInt8)(h:x.length≤2147483648):q88 x=some (Dl x,()):=by
 have c1:decide (x.length+1≤eD)=true:=zl86 (by unfold eD;omega)
 have c2:decide (x.length≤eD)=true:=zl86 (by unfold eD;omega)
 have a:=ahJ x h
 have w:IntKind.wrap .i64 ((x.length:Int)*8)=(x.length:Int)*8:=wrap64 (by omega) (by omega)
 have b:=agq (GW x) ((x.length:Int)*8) (by rw[Tu];have:=Ph x.length;omega)
 simp only[q88,JE,c1,c2,zU,zl92,aG,cb a,cv a,w,cb b,cv b]
 rfl
def word (b:List Int)(o i:Nat):Int:=
 pS Go.BinOp.or Go.IntKind.u32 (pS Go.BinOp.or Go.IntKind.u32 (pS Go.BinOp.or Go.IntKind.u32 (IntKind.wrap .u32 (IntKind.wrap .u32 (List.getD b (o+4*i) (0:Int))*(2:Int) ^ Min.min (Int.toNat (24:Int)) (Go.IntKind.bits Go.IntKind.u32))) (IntKind.wrap .u32 (IntKind.wrap .u32 (List.getD b (o+(4*i+1)) (0:Int))*(2:Int) ^ Min.min (Int.toNat (16:Int)) (Go.IntKind.bits Go.IntKind.u32)))) (IntKind.wrap .u32 (IntKind.wrap .u32 (List.getD b (o+(4*i+2)) (0:Int))*(2:Int) ^ Min.min (Int.toNat (8:Int)) (Go.IntKind.bits Go.IntKind.u32)))) (IntKind.wrap .u32 (List.getD b (o+(4*i+3)) (0:Int)))
def sig (x n m k:Int):Int:=pS Go.BinOp.xor Go.IntKind.u32 (pS Go.BinOp.xor Go.IntKind.u32 (zog zI (x,n)).1 (zog zI (x,m)).1) (Int.fdiv x ((2:Int) ^ Min.min (Int.toNat k) (Go.IntKind.bits Go.IntKind.u32)))
def ws (b:List Int)(o:Nat):Nat→List Int
 |0=>[]
 |i+1=>ws b o i ++ [if i<16 then word b o i else IntKind.wrap .u32 (IntKind.wrap .u32 (IntKind.wrap .u32 ((ws b o i).getD (i-16) 0+sig ((ws b o i).getD (i-15) 0) 7 18 3)+(ws b o i).getD (i-7) 0)+sig ((ws b o i).getD (i-2) 0) 17 19 10)]
def GC (b:List Int)(o:Nat):∀i,(ws b o i).length=i
 |0=>rfl
 |i+1=>by rw[ws,cK,GC b o i];rfl
def w4 {i:Nat}(h:i≤1000):IntKind.wrap .i64 ((4:Int)*(i:Int))=((4*i:Nat):Int):=by rw[wrap64 (by omega) (by omega)];omega
def Q6 (b:List Int)(o j:Nat)(h:j<64):(List.take 64 (List.drop o b)).getD j 0=b.getD (o+j) 0:=by
 simp[List.getD,h]
def w41 {i:Nat}(h:i≤100000):IntKind.wrap .i64 ((i:Int)+1)=((i+1:Nat):Int):=by rw[wrap64 (by omega) (by omega)];omega
def w42 {i:Nat}(h:i≤100000):IntKind.wrap .i64 ((i:Int)+2)=((i+2:Nat):Int):=by rw[wrap64 (by omega) (by omega)];omega
def w43 {i:Nat}(h:i≤100000):IntKind.wrap .i64 ((i:Int)+3)=((i+3:Nat):Int):=by rw[wrap64 (by omega) (by omega)];omega
def m2 {i:Nat}(h:i≤1000)(hk:16≤i):IntKind.wrap .i64 ((i:Int)-2)=((i-2:Nat):Int):=by rw[wrap64 (by omega) (by omega)];omega
def m7 {i:Nat}(h:i≤1000)(hk:16≤i):IntKind.wrap .i64 ((i:Int)-7)=((i-7:Nat):Int):=by rw[wrap64 (by omega) (by omega)];omega
def m15 {i:Nat}(h:i≤1000)(hk:16≤i):IntKind.wrap .i64 ((i:Int)-15)=((i-15:Nat):Int):=by rw[wrap64 (by omega) (by omega)];omega
def m16 {i:Nat}(h:i≤1000)(hk:16≤i):IntKind.wrap .i64 ((i:Int)-16)=((i-16:Nat):Int):=by rw[wrap64 (by omega) (by omega)];omega
def g0 (n:Nat):decide ((0:Int)≤(n:Int))=true:=zdt
def gl {n m:Nat}(hn:n<m):decide ((n:Int)<(m:Int))=true:=zdt
def Jg (x:Int):isSm (zI (x,7))=true∧isSm (zI (x,18))=true∧isSm (zI (x,17))=true∧isSm (zI (x,19))=true ∧
  isSm (zI (x,6))=true∧isSm (zI (x,11))=true∧isSm (zI (x,25))=true∧isSm (zI (x,2))=true∧isSm (zI (x,13))=true∧isSm (zI (x,22))=true:=by
 refine⟨?_,?_,?_,?_,?_,?_,?_,?_,?_,?_⟩<;>exact akW _ _ (by omega) (by omega)
def adV {X Y:Type}{r:X→Option (X⊕Y)}(st:Nat→X){n:Nat}{y:Y}(k:Nat)(hk:k≤n)(hs:∀i,k≤i→i<n→r (st i)=some (.inl (st (i+1))))(he:r (st n)=some (.inr y)):Comes r (st k) y:=by
 have:=s4 (r:=r) (fun i=>st (k+i)) (n:=n-k) (y:=y) (fun i hi=>hs (k+i) (by omega) (by omega)) (by rw[show k+(n-k)=n by omega];exact he) 0 (lz _)
 simpa using this
def ak9 (b:List Int)(o:Nat)(h:o+64≤b.length):MB (List.take 64 (List.drop o b))=some (ws b o 64,()):=by
 have hb:(List.take 64 (List.drop o b)).length=64:=by simp;omega
 have a:=s4 (r:=MC) (fun i=>(((i:Int),List.take 64 (List.drop o b),()),ws b o i)) (n:=16) (y:=((),ws b o 16)) (fun i hi=>by
   have c1:decide ((i:Int)<16)=true:=zdt
   have k0:=w4 (i:=i) (by omega)
   have k1:=w41 (i:=4*i) (by omega)
   have k2:=w42 (i:=4*i) (by omega)
   have k3:=w43 (i:=4*i) (by omega)
   have c2:decide ((ws b o i).length+1≤eD)=true:=zl86 (by rw[GC];unfold eD;omega)
   simp only[MC,c1,k0,k1,k2,k3,c2,g0,hb,gl (show 4*i<64 by omega),gl (show 4*i+1<64 by omega),gl (show 4*i+2<64 by omega),gl (show 4*i+3<64 by omega),zU,zl92,aG,zl94,mb (i:=i),Q6 b o _ (show 4*i<64 by omega),Q6 b o _ (show 4*i+1<64 by omega),Q6 b o _ (show 4*i+2<64 by omega),Q6 b o _ (show 4*i+3<64 by omega)]
   rw[ws,bf hi];rfl) (by rfl) 0 (lz _)
 have c:=adV (r:=MD) (fun i=>(((i:Int),()),ws b o i)) (n:=64) (y:=((),ws b o 64)) 16 (by omega) (fun i hi0 hi=>by
   have c1:decide ((i:Int)<64)=true:=zdt
   have c2:decide ((ws b o i).length+1≤eD)=true:=zl86 (by rw[GC];unfold eD;omega)
   obtain⟨t7,t18,t17,t19,_⟩:=Jg ((ws b o i).getD (i-15) 0)
   obtain⟨_,_,t17,t19,_⟩:=Jg ((ws b o i).getD (i-2) 0)
   rw[GC] at c2
   simp only[MD,c1,c2,m2 (show i≤1000 by omega) hi0,m7 (show i≤1000 by omega) hi0,m15 (show i≤1000 by omega) hi0,m16 (show i≤1000 by omega) hi0,g0,GC,gl (show i-2<i by omega),gl (show i-7<i by omega),gl (show i-15<i by omega),gl (show i-16<i by omega),t7,t18,t17,t19,zU,zl92,aG,zl94,mb (i:=i)]
   rw[ws,bY (by omega)];rfl) (by rfl)
 have a':Comes MC ((0,List.take 64 (List.drop o b),()),[]) ((),ws b o 16):=a
 have c':Comes MD ((16,()),ws b o 16) ((),ws b o 64):=c
 simp only[MB,cb a',cv a',cb c',cv c',aG]
def arr (l:List Int):List Int:=l++Bd (64-l.length)
def adL (l:List Int)(j:Nat)(h:j<l.length):(arr l).getD j 0=l.getD j 0:=by
 simp[arr,List.getD,cL h]
def adM (l:List Int)(x:Int)(h:l.length<64):(arr l).set l.length x=arr (l ++ [x]):=by
 rw[arr,arr,Bd,Bd,zl87 _ _ (bw _),Nat.sub_self,show 64-l.length=(64-(l ++ [x]).length)+1 by simp;omega,mK,zl16,bX];rfl
def ak8 (b g:List Int)(o n:Nat)(h:64≤n):Comes Ld (((0,(),(o,n),()),Bd 64,b,g)) (((),(),o,n),ws b o 64,g,b):=by
 have a:=s4 (r:=Ld) (fun i=>(((i:Int),(),(o,n),()),arr (ws b o i),b,g)) (n:=64) (y:=(((),(),o,n),ws b o 64,g,b)) (fun i hi=>by
   have c1:decide ((i:Int)<64)=true:=zdt
   have hs:=adM (ws b o i) (if i<16 then word b o i else IntKind.wrap .u32 (IntKind.wrap .u32 (IntKind.wrap .u32 ((ws b o i).getD (i-16) 0+sig ((ws b o i).getD (i-15) 0) 7 18 3)+(ws b o i).getD (i-7) 0)+sig ((ws b o i).getD (i-2) 0) 17 19 10)) (by rw[GC];exact hi)
   rw[GC] at hs
   by_cases h16:i<16
   ·have c2:decide ((i:Int)<16)=true:=zdt
    have k0:=w4 (i:=i) (by omega)
    have k1:=w41 (i:=4*i) (by omega)
    have k2:=w42 (i:=4*i) (by omega)
    have k3:=w43 (i:=4*i) (by omega)
    rw[bf h16] at hs
    unfold word at hs
    simp only[Ld,c1,k0,k1,k2,k3,c2,g0,gl hi,gl (show 4*i<n by omega),gl (show 4*i+1<n by omega),gl (show 4*i+2<n by omega),gl (show 4*i+3<n by omega),zU,zl92,aG,zl94,mb (i:=i),hs]
    rw[ws,bf h16];rfl
   ·have hi0:16≤i:=by omega
    have c2:decide ((i:Int)<16)=false:=zdf
    rw[bY h16] at hs
    obtain⟨t7,t18,t17,t19,_⟩:=Jg ((ws b o i).getD (i-15) 0)
    obtain⟨_,_,t17,t19,_⟩:=Jg ((ws b o i).getD (i-2) 0)
    have hg (j:Nat) (hj:j<i):=adL (ws b o i) j (by rw[GC];exact hj)
    have g64 (j:Nat) (hj:j<64):decide ((j:Int)<((64:Nat):Int))=true:=gl hj
    simp only[Ld,c1,c2,m2 (show i≤1000 by omega) hi0,m7 (show i≤1000 by omega) hi0,m15 (show i≤1000 by omega) hi0,m16 (show i≤1000 by omega) hi0,g0,gl hi,gl (show i-2<64 by omega),gl (show i-7<64 by omega),gl (show i-15<64 by omega),gl (show i-16<64 by omega),hg (i-2) (by omega),hg (i-7) (by omega),hg (i-15) (by omega),hg (i-16) (by omega),ac1,t7,t18,t17,t19,zU,zl92,aG,eF,zl94,mb (i:=i)]
    rw[acV] at hs
    simp only[sig] at hs
    rw[hs]
    rw[ws,bY h16,acV];rfl) (by
   have e:arr (ws b o 64)=ws b o 64:=by simp[arr,GC,Bd]
   rw[e];rfl) 0 (lz _)
 exact a
def big (x n m k:Int):Int:=pS Go.BinOp.xor Go.IntKind.u32 (pS Go.BinOp.xor Go.IntKind.u32 (zog zI (x,n)).1 (zog zI (x,m)).1) (zog zI (x,k)).1
def chs (e f g:Int):Int:=pS Go.BinOp.xor Go.IntKind.u32 (pS Go.BinOp.and Go.IntKind.u32 e f) (pS Go.BinOp.and Go.IntKind.u32 (pS Go.BinOp.xor Go.IntKind.u32 (Go.IntKind.max Go.IntKind.u32) e) g)
def mjr (a b c:Int):Int:=pS Go.BinOp.xor Go.IntKind.u32 (pS Go.BinOp.xor Go.IntKind.u32 (pS Go.BinOp.and Go.IntKind.u32 a b) (pS Go.BinOp.and Go.IntKind.u32 a c)) (pS Go.BinOp.and Go.IntKind.u32 b c)
def tee (e f g h k w:Int):Int:=IntKind.wrap .u32 (IntKind.wrap .u32 (IntKind.wrap .u32 (IntKind.wrap .u32 (h+big e 6 11 25)+chs e f g)+k)+w)
def rnd (k w:Int):List Int→List Int
 | [a,b,c,d,e,f,g,h]=>[IntKind.wrap .u32 (IntKind.wrap .u32 (tee e f g h k w+big a 2 13 22)+mjr a b c),a,b,c,IntKind.wrap .u32 (d+tee e f g h k w),e,f,g]
 |_=>[0,0,0,0,0,0,0,0]
def ajF (k w:Int)(l:List Int):(rnd k w l).length=8:=by unfold rnd;split<;>rfl
def Er (w h:List Int):Nat→List Int
 |0=>h
 |i+1=>rnd (Fj.getD i 0) (w.getD i 0) (Er w h i)
def Q1 (w h:List Int)(hh:h.length=8):∀i,(Er w h i).length=8
 |0=>hh
 |_i+1=>ajF ..
def eight (l:List Int)(h:l.length=8):∃a b c d e f g k,l = [a,b,c,d,e,f,g,k]:=by
 match l,h with
 | [a,b,c,d,e,f,g,k],_=>exact⟨a,b,c,d,e,f,g,k,rfl⟩
def shift8 (a b c d e f g k i m s t:Int)(h l1 l2:List Int):Comes QH ((7,(),(),(),h,i,m,s,t),[a,b,c,d,e,f,g,k],l1,l2) (((),(),(),h,i,m,s,t),[a,a,b,c,d,e,f,g],l1,l2):=
 .again (x':=((6,(),(),(),h,i,m,s,t),[a,b,c,d,e,f,g,g],l1,l2)) rfl <|
 .again (x':=((5,(),(),(),h,i,m,s,t),[a,b,c,d,e,f,f,g],l1,l2)) rfl <|
 .again (x':=((4,(),(),(),h,i,m,s,t),[a,b,c,d,e,e,f,g],l1,l2)) rfl <|
 .again (x':=((3,(),(),(),h,i,m,s,t),[a,b,c,d,d,e,f,g],l1,l2)) rfl <|
 .again (x':=((2,(),(),(),h,i,m,s,t),[a,b,c,c,d,e,f,g],l1,l2)) rfl <|
 .again (x':=((1,(),(),(),h,i,m,s,t),[a,b,b,c,d,e,f,g],l1,l2)) rfl <|
 .again (x':=((0,(),(),(),h,i,m,s,t),[a,a,b,c,d,e,f,g],l1,l2)) rfl <| .out rfl
def Yh:q87 ()=some (Fj,()):=rfl
def ajJ (w h:List Int)(hw:w.length=64)(hh:h.length=8):Comes MA (((),0,(),(),h),h,w,Fj) (((),h),Er w h 64):=
 s4 (r:=MA) (fun i=>(((),(i:Int),(),(),h),Er w h i,w,Fj)) (n:=64) (y:=(((),h),Er w h 64)) (fun i hi=>by
  obtain⟨a,b,c,d,e,f,g,k,hs⟩:=eight _ (Q1 w h hh i)
  have c1:decide ((i:Int)<64)=true:=zdt
  obtain⟨_,_,_,_,t6,t11,t25,_⟩:=Jg e
  obtain⟨_,_,_,_,_,_,_,t2,t13,t22⟩:=Jg a
  have hk:Fj.length=64:=rfl
  have d4:decide ((4:Int)<((8:Nat):Int))=true:=rfl
  have d5:decide ((5:Int)<((8:Nat):Int))=true:=rfl
  have d6:decide ((6:Int)<((8:Nat):Int))=true:=rfl
  have d7:decide ((7:Int)<((8:Nat):Int))=true:=rfl
  have d0:decide ((0:Int)<((8:Nat):Int))=true:=rfl
  have d1:decide ((1:Int)<((8:Nat):Int))=true:=rfl
  have d2:decide ((2:Int)<((8:Nat):Int))=true:=rfl
  have l8: [a,b,c,d,e,f,g,k].length=8:=rfl
  have q0: [a,b,c,d,e,f,g,k].getD (Int.toNat 0) 0=a:=rfl
  have q1: [a,b,c,d,e,f,g,k].getD (Int.toNat 1) 0=b:=rfl
  have q2: [a,b,c,d,e,f,g,k].getD (Int.toNat 2) 0=c:=rfl
  have q4: [a,b,c,d,e,f,g,k].getD (Int.toNat 4) 0=e:=rfl
  have q5: [a,b,c,d,e,f,g,k].getD (Int.toNat 5) 0=f:=rfl
  have q6: [a,b,c,d,e,f,g,k].getD (Int.toNat 6) 0=g:=rfl
  have q7: [a,b,c,d,e,f,g,k].getD (Int.toNat 7) 0=k:=rfl
  have sh (i m s t:Int):=shift8 a b c d e f g k i m s t h w Fj
  have sb (i m s t:Int):=cb (sh i m s t)
  have sv (i m s t:Int):=cv (sh i m s t) TX
  simp only[MA,hs,c1,q0,q1,q2,q4,q5,q6,q7,l8,t6,t11,t25,t2,t13,t22,d0,d1,d2,d4,d5,d6,d7,hk,hw,g0,gl hi,zU,zl92,aG,zl94,sb,sv,mb (i:=i)]
  rw[Er,hs];rfl) rfl 0 (lz _)
def ajI (w h g':List Int)(o n:Nat)(hh:h.length=8):Comes MU ((0,(),(),(),(o,n)),h,w,h,g') (((),(),(o,n)),h,Er w h 64,g'):=
 s4 (r:=MU) (fun i=>(((i:Int),(),(),(),(o,n)),Er w h i,w,h,g')) (n:=64) (y:=(((),(),(o,n)),h,Er w h 64,g')) (fun i hi=>by
  obtain⟨a,b,c,d,e,f,g,k,hs⟩:=eight _ (Q1 w h hh i)
  have c1:decide ((i:Int)<64)=true:=zdt
  obtain⟨_,_,_,_,t6,t11,t25,_⟩:=Jg e
  obtain⟨_,_,_,_,_,_,_,t2,t13,t22⟩:=Jg a
  have q0: [a,b,c,d,e,f,g,k].getD (Int.toNat 0) 0=a:=rfl
  have q1: [a,b,c,d,e,f,g,k].getD (Int.toNat 1) 0=b:=rfl
  have q2: [a,b,c,d,e,f,g,k].getD (Int.toNat 2) 0=c:=rfl
  have q3: [a,b,c,d,e,f,g,k].getD (Int.toNat 3) 0=d:=rfl
  have q4: [a,b,c,d,e,f,g,k].getD (Int.toNat 4) 0=e:=rfl
  have q5: [a,b,c,d,e,f,g,k].getD (Int.toNat 5) 0=f:=rfl
  have q6: [a,b,c,d,e,f,g,k].getD (Int.toNat 6) 0=g:=rfl
  have q7: [a,b,c,d,e,f,g,k].getD (Int.toNat 7) 0=k:=rfl
  have g64:decide ((i:Int)<((64:Nat):Int))=true:=gl hi
  simp only[MU,hs,c1,q0,q1,q2,q3,q4,q5,q6,q7,ac1,t6,t11,t25,t2,t13,t22,g0,g64,zU,zl92,aG,zl94,mb (i:=i)]
  rw[Er,hs,rnd,ajE (tee e f g k _ _) (big a 2 13 22) (mjr a b c)];rfl) rfl 0 (lz _)
def Nw:List Int→List Int→List Int
 | [a,b,c,d,e,f,g,h],[a',b',c',d',e',f',g',h']=>[IntKind.wrap .u32 (a+a'),IntKind.wrap .u32 (b+b'),IntKind.wrap .u32 (c+c'),IntKind.wrap .u32 (d+d'),IntKind.wrap .u32 (e+e'),IntKind.wrap .u32 (f+f'),IntKind.wrap .u32 (g+g'),IntKind.wrap .u32 (h+h')]
 |_,_=>[0,0,0,0,0,0,0,0]
def adG (a b:List Int):(Nw a b).length=8:=by unfold Nw;split<;>rfl
def adI (h v:List Int)(hh:h.length=8)(hv:v.length=8):Comes QI ((0,(),h,()),v,[]) ((),Nw h v):=by
 obtain⟨a,b,c,d,e,f,g,k,rfl⟩:=eight _ hh
 obtain⟨a',b',c',d',e',f',g',k',rfl⟩:=eight _ hv
 exact .again rfl <| .again rfl <| .again rfl <| .again rfl <| .again rfl <| .again rfl <| .again rfl <| .again rfl <| .out rfl
def adH (h v b:List Int)(o n:Nat)(hh:h.length=8)(hv:v.length=8):Comes QK ((0,(),(),(o,n)),h,v,b) (((),(o,n)),Nw h v,b):=by
 obtain⟨a,b,c,d,e,f,g,k,rfl⟩:=eight _ hh
 obtain⟨a',b',c',d',e',f',g',k',rfl⟩:=eight _ hv
 exact .again rfl <| .again rfl <| .again rfl <| .again rfl <| .again rfl <| .again rfl <| .again rfl <| .again rfl <| .out rfl
def blk (b:List Int)(o:Nat)(h:List Int):List Int:=Nw h (Er (ws b o 64) h 64)
def Dz (b:List Int)(h:List Int):Nat→List Int
 |0=>h
 |i+1=>blk b (64*i) (Dz b h i)
def JB (b h:List Int)(hh:h.length=8):∀i,(Dz b h i).length=8
 |0=>hh
 |_i+1=>adG ..
def adQ (b h:List Int)(o:Nat)(hb:o+64≤b.length)(hh:h.length=8):Kk (h,List.take 64 (List.drop o b))=some (blk b o h,()):=by
 have e1:=ak9 b o hb
 have a:=ajJ (ws b o 64) h (GC ..) hh
 have c:=adI h (Er (ws b o 64) h 64) hh (Q1 _ _ hh _)
 have c2:decide (0+h.length≤eD)=true:=zl86 (by unfold eD;omega)
 simp only[Kk,zov e1,e1,zov Yh,Yh,isSm,zU,c2,zl17,aG,cb a,cv a,cb c,cv c]
 rfl
def aku (b h:List Int)(m:Nat)(hb:b.length=64*m)(hm:m≤100000000)(hh:h.length=8):Comes KN ((0,(),()),b,h) ((),Dz b h m):=
 s4 (r:=KN) (fun i=>((((64*i:Nat):Int),(),()),b,Dz b h i)) (n:=m) (y:=((),Dz b h m)) (fun i hi=>by
  have c1:decide (((64*i:Nat):Int)<((64*m:Nat):Int))=true:=gl (by omega)
  have w:IntKind.wrap .i64 (((64*i:Nat):Int)+64)=((64*(i+1):Nat):Int):=by rw[wrap64 (by omega) (by omega)];omega
  have e:=adQ b (Dz b h i) (64*i) (by omega) (JB b h hh i)
  have e64:Int.toNat (((64*(i+1):Nat):Int)-((64*i:Nat):Int))=64:=by omega
  have c2:decide (((64*i:Nat):Int)≤((64*(i+1):Nat):Int))=true:=zdt
  have c3:decide (((64*(i+1):Nat):Int)≤((64*m:Nat):Int))=true:=zdt
  simp only[KN,hb,c1,w,e64,zl94,e,zov e,isSm,c2,c3,g0,zU,zl92,aG]
  rfl) (by
  have c1:decide (((64*m:Nat):Int)<((64*m:Nat):Int))=false:=zdf
  simp only[KN,hb,c1,eF]) 0 (lz _)
def zer64:Bd 64 = [(0:Int),(0:Int),(0:Int),(0:Int),(0:Int),(0:Int),(0:Int),(0:Int),(0:Int),(0:Int),(0:Int),(0:Int),(0:Int),(0:Int),(0:Int),(0:Int),(0:Int),(0:Int),(0:Int),(0:Int),(0:Int),(0:Int),(0:Int),(0:Int),(0:Int),(0:Int),(0:Int),(0:Int),(0:Int),(0:Int),(0:Int),(0:Int),(0:Int),(0:Int),(0:Int),(0:Int),(0:Int),(0:Int),(0:Int),(0:Int),(0:Int),(0:Int),(0:Int),(0:Int),(0:Int),(0:Int),(0:Int),(0:Int),(0:Int),(0:Int),(0:Int),(0:Int),(0:Int),(0:Int),(0:Int),(0:Int),(0:Int),(0:Int),(0:Int),(0:Int),(0:Int),(0:Int),(0:Int),(0:Int)]:=rfl
def akt (b h:List Int)(m:Nat)(hb:b.length=64*m)(hh:h.length=8):Comes Lc (((0,b.length),()),b,h) ((),Dz b h m):=by
 rw[hb]
 exact s4 (r:=Lc) (fun i=>(((64*i,64*m-64*i),()),b,Dz b h i)) (n:=m) (y:=((),Dz b h m)) (fun i hi=>by
  have c1:decide (((64*m-64*i:Nat):Int)>(0:Int))=true:=zdt
  have a:=ak8 b (Dz b h i) (64*i) (64*m-64*i) (by omega)
  have d:=ajI (ws b (64*i) 64) (Dz b h i) b (64*i) (64*m-64*i) (JB b h hh i)
  have e:=adH (Dz b h i) (Er (ws b (64*i) 64) (Dz b h i) 64) b (64*i) (64*m-64*i) (JB b h hh i) (Q1 _ _ (JB b h hh i) _)
  have e1:Int.toNat (((64*m-64*i:Nat):Int)-64)=64*m-64*(i+1):=by omega
  have e2:64*i+Int.toNat 64=64*(i+1):=by omega
  have c2:decide ((64:Int)≤((64*m-64*i:Nat):Int))=true:=zdt
  have c3:decide (((64*i:Nat):Int)+((64*m-64*i:Nat):Int)≤((b.length:Nat):Int))=true:=zdt
  rw[zer64] at a
  simp only[Lc,c1,aG,cb a,cv a,cb d,cv d,cb e,cv e,e1,e2,c2,c3,zU,zl92]
  rfl) (by
  have c1:decide (((64*m-64*m:Nat):Int)>(0:Int))=false:=zdf
  simp only[Lc,c1,eF]) 0 (lz _)
def four (x:Int):List Int:=[IntKind.wrap .u8 (Int.fdiv x ((2:Int) ^ Min.min (Int.toNat (24:Int)) (Go.IntKind.bits Go.IntKind.u32))),IntKind.wrap .u8 (Int.fdiv x ((2:Int) ^ Min.min (Int.toNat (16:Int)) (Go.IntKind.bits Go.IntKind.u32))),IntKind.wrap .u8 (Int.fdiv x ((2:Int) ^ Min.min (Int.toNat (8:Int)) (Go.IntKind.bits Go.IntKind.u32))),IntKind.wrap .u8 x]
def PO:List Int→List Int
 | [a,b,c,d,e,f,g,h]=>[]++four a++four b++four c++four d++four e++four f++four g++four h
 |_=>[]
def afq (l:List Int)(h:l.length=8):(PO l).length=32:=by
 obtain⟨a,b,c,d,e,f,g,k,rfl⟩:=eight _ h
 rfl
def ahG (l:List Int)(h:l.length=8):Comes QJ ((0,(),()),l,[]) ((),PO l):=by
 obtain⟨a,b,c,d,e,f,g,k,rfl⟩:=eight _ h
 exact .again rfl <| .again rfl <| .again rfl <| .again rfl <| .again rfl <| .again rfl <| .again rfl <| .again rfl <| .out rfl
def ahF (l:List Int)(h:l.length=8):Comes QL ((0,(),l),[]) ((),PO l):=by
 obtain⟨a,b,c,d,e,f,g,k,rfl⟩:=eight _ h
 exact .again rfl <| .again rfl <| .again rfl <| .again rfl <| .again rfl <| .again rfl <| .again rfl <| .again rfl <| .out rfl
def H0:List Int:=[1779033703,3144134277,1013904242,2773480762,1359893119,2600822924,528734635,1541459225]
def sha (x:List UInt8):List UInt8:=sM (PO (Dz (Dl x) H0 ((Dl x).length / 64)))
def ac9 (x:List UInt8):(sha x).length=32:=by
 rw[sha,sM,List.length_map,afq _ (JB _ _ rfl _)]
def akl (x:List UInt8)(h:x.length≤2147483648):KM x=some (sha x,()):=by
 have e:=ahK x h
 have hl:=Tv x
 have hz:=Ph x.length
 have hm:=aaM x
 have a:=aku (Dl x) H0 ((Dl x).length / 64) (by omega) (by omega) rfl
 have d:=ahG _ (JB (Dl x) H0 rfl ((Dl x).length / 64))
 unfold H0 at a d
 simp only[KM,e,zov e,isSm,zU,aG,cb a,cv a,cb d,cv d]
 rfl
def af1 (x:List UInt8)(h:x.length≤2147483648):q69 x=some (sha x,()):=by
 have hl:=Tv x
 have hz:=Ph x.length
 have hm:=aaM x
 have c1:decide (x.length+1≤eD)=true:=zl86 (by unfold eD;omega)
 have c2:decide (x.length≤eD)=true:=zl86 (by unfold eD;omega)
 have p:=ahI x H0 h
 have w0:IntKind.wrap .u64 (x.length:Int)=(x.length:Int):=by simp[IntKind.wrap,IntKind.signed,IntKind.bits];omega
 have w:IntKind.wrap .u64 ((x.length:Int)*8)=(x.length:Int)*8:=by simp[IntKind.wrap,IntKind.signed,IntKind.bits];omega
 have b:=agp (GW x) H0 ((x.length:Int)*8) (by rw[Tu];omega)
 have a:=akt (Dl x) H0 ((Dl x).length / 64) (by omega) rfl
 have d:=ahF _ (JB (Dl x) H0 rfl ((Dl x).length / 64))
 unfold H0 at p a b d
 change Comes _ _ (_,Dl x,_) at b
 simp only[q69,JE,c1,c2,zU,zl92,aG,cb p,cv p,w0,w,cb b,cv b,cb a,cv a,cb d,cv d]
 rfl
def hexI (n:Nat)(h:n<256):IntKind.wrap .u8 (Int.tdiv (n:Int) 16)=((n / 16:Nat):Int):=by
 have:Int.tdiv (n:Int) 16=((n / 16:Nat):Int):=by rw[zl91 (by omega)];omega
 rw[this];simp[IntKind.wrap,IntKind.signed,IntKind.bits];omega
def hexJ (n:Nat):Int.tmod (n:Int) 16=((n % 16:Nat):Int):=Je n 16
def hex_eq (s:List UInt8)(h:s.length≤2147483648):∃t,Hj s=some (t,())∧t.length=2*s.length:=by
 have main:∀d k,k+d=s.length→∀l:List Int,l.length=2*k→∃l',l'.length=2*s.length∧Comes KL (((k:Int),s,()),l) ((),l'):=by
  intro d
  induction d with
  |zero=>
   intro k hk l hl
   have:k=s.length:=by omega
   subst this
   have c1:decide ((s.length:Int)<(s.length:Int))=false:=zdf
   exact⟨l,hl,.out (by simp only[KL,c1,eF])⟩
  |succ d ih=>
   intro k hk l hl
   have c1:decide ((k:Int)<(s.length:Int))=true:=gl (by omega)
   have hb:(s.getD k 0).toNat<256:=(s.getD k 0).toNat_lt
   have c2:decide (l.length+2≤eD)=true:=zl86 (by unfold eD;omega)
   obtain⟨l',h1,h2⟩:=ih (k+1) (by omega) (l ++ [_,_]) (by rw[cK,hl];simp;omega)
   exact⟨l',h1,.again (by
    simp only[KL,c1,zl94,hexI _ hb,hexJ,g0,c2,gl (show(s.getD k 0).toNat / 16<16 by omega),gl (show(s.getD k 0).toNat % 16<16 by omega),zU,zl92,aG,mb (i:=k)];rfl) h2⟩
 obtain⟨l',h1,h2⟩:=main s.length 0 (by omega) [] rfl
 refine⟨sM l',?_,by rw[sM,List.length_map,h1]⟩
 have h2':Comes KL ((0,s,()),[]) ((),l'):=h2
 simp only[Hj,cb h2',cv h2',aG]
noncomputable def hash (x:List UInt8):List UInt8:=(zog Hj (sha x)).1
def R8 (x:List UInt8):Hj (sha x)=some (hash x,())∧(hash x).length=64:=by
 obtain⟨t,h1,h2⟩:=hex_eq (sha x) (by rw[ac9];omega)
 have:hash x=t:=by rw[hash,zov h1]
 rw[this]
 exact⟨h1,by rw[h2,ac9]⟩
def EJ (x:List UInt8):(hash x).length=64:=(R8 x).2
def akk (x:List UInt8)(h:x.length≤2147483648):EZ x=some (hash x,()):=by
 have a:=akl x h
 have b:=(R8 x).1
 simp only[EZ,a,zov a,b,zov b,isSm,zU,zl92,aG]
def afZ (x:List UInt8)(h:x.length≤2147483648):E6 x=some (hash x,()):=by
 have a:=af1 x h
 have b:ML (sha x)=_:=(R8 x).1
 simp only[E6,a,zov a,b,zov b,isSm,zU,zl92,aG]
def Da (n:Nat)(h:n≤9999999):(decDigits n).length≤7:=RW (by omega) (by omega)
def ZG (n:Nat)(r:List UInt8)(hn:n≤9999999)(hr:r.length≤9999999):(Ah n r++r).length≤16+r.length:=by
 have:=Da n hn;have:=Da r.length hr
 simp only[Ah,cK,zl103];omega
def ZI (n:Nat)(r:List UInt8)(hn:n≤9999999)(hr:r.length≤9999999):KA ((n:Int),r)=some (line hash n r,()):=by
 have d1:=Da n hn
 have d2:=Da r.length hr
 have e1:=Sl n (by omega)
 have e2:=Sl r.length (by omega)
 have hl:=ZG n r hn hr
 have e3:=akk (Ah n r++r) (by omega)
 have e4:=EJ (Ah n r++r)
 have c1:decide ((decDigits n ++ [(32:UInt8)]++decDigits r.length).length+1≤eD)=true:=zl86 (by simp only[cK,zl103];unfold eD;omega)
 have c2:decide ((decDigits n ++ [(32:UInt8)]).length+(decDigits r.length).length≤eD)=true:=zl86 (by simp only[cK,zl103];unfold eD;omega)
 have c3:decide ((decDigits n).length+1≤eD)=true:=zl86 (by unfold eD;omega)
 have q1:(List.take (Int.toNat ((16:Int)-(0:Int))) (List.drop (Int.toNat (0:Int)) (hash (Ah n r++r))))=(hash (Ah n r++r)).take 16:=rfl
 have q2:((hash (Ah n r++r)).take 16).length=16:=by rw[zl3,e4];rfl
 have lh:(Ah n r).length≤16:=by simp only[Ah,cK,zl103];omega
 unfold Ah at e3 q1 q2 lh
 have c4 (k:Nat) (hk:k≤20000100):decide (k≤eD)=true:=zl86 (by unfold eD;omega)
 have c5:decide ((16:Int)≤((64:Nat):Int))=true:=rfl
 unfold Ah at e4
 simp only[KA,e1,zov e1,e2,zov e2,c1,c2,c3,isSm,zU,zl92,aG,e3,zov e3,q1,e4,c5]
 rw[c4 _ (by simp only[cK,zl103,zl3,e4] at lh ⊢;omega),c4 _ (by simp only[cK,zl103,zl3,e4] at lh ⊢;omega),c4 _ (by simp only[cK,zl103,zl3,e4] at lh ⊢;omega),c4 _ (by simp only[cK,zl103,zl3,e4] at lh ⊢;omega),c4 _ (by simp only[cK,zl103] at lh ⊢;omega)]
 rfl
def ZH (n:Nat)(r:List UInt8)(hn:n≤9999999)(hr:r.length≤9999999):Mk ((n:Int),r)=some (line hash n r,()):=by
 have d1:=Da n hn
 have d2:=Da r.length hr
 have e1:=P6 n (by omega)
 have e2:=P6 r.length (by omega)
 have hl:=ZG n r hn hr
 have e3:=afZ (Ah n r++r) (by omega)
 have e4:=EJ (Ah n r++r)
 have c1:decide ((decDigits n ++ [(32:UInt8)]++decDigits r.length).length+1≤eD)=true:=zl86 (by simp only[cK,zl103];unfold eD;omega)
 have c2:decide ((decDigits n ++ [(32:UInt8)]).length+(decDigits r.length).length≤eD)=true:=zl86 (by simp only[cK,zl103];unfold eD;omega)
 have c3:decide ((decDigits n).length+1≤eD)=true:=zl86 (by unfold eD;omega)
 have q1:(List.take (Int.toNat ((16:Int)-(0:Int))) (List.drop (Int.toNat (0:Int)) (hash (Ah n r++r))))=(hash (Ah n r++r)).take 16:=rfl
 have lh:(Ah n r).length≤16:=by simp only[Ah,cK,zl103];omega
 unfold Ah at e3 q1 lh
 have c4 (k:Nat) (hk:k≤20000100):decide (k≤eD)=true:=zl86 (by unfold eD;omega)
 have c5:decide ((16:Int)≤((64:Nat):Int))=true:=rfl
 unfold Ah at e4
 simp only[Mk,e1,zov e1,e2,zov e2,c1,c2,c3,isSm,zU,zl92,aG,e3,zov e3,q1,e4,c5]
 rw[c4 _ (by simp only[cK,zl103,zl3,e4] at lh ⊢;omega),c4 _ (by simp only[cK,zl103,zl3,e4] at lh ⊢;omega),c4 _ (by simp only[cK,zl103,zl3,e4] at lh ⊢;omega),c4 _ (by simp only[cK,zl103,zl3,e4] at lh ⊢;omega),c4 _ (by simp only[cK,zl103] at lh ⊢;omega)]
 rfl
def Lv (log:List UInt8)(a:Nat)(p q:List UInt8)(h:log.drop a=p++q):List.take (Int.toNat (((a+p.length:Nat):Int)-(a:Int))) (List.drop a log)=p:=by
 rw[h,show Int.toNat (((a+p.length:Nat):Int)-(a:Int))=p.length by omega,List.take_left'];rfl
def LN (log:List UInt8)(a:Nat)(p q:List UInt8)(h:log.drop a=p++q):log.drop (a+p.length)=q:=by
 rw[←List.drop_drop,h,List.drop_left'];rfl
def LZ (log:List UInt8)(a:Nat)(p q:List UInt8)(ha:a≤log.length)(h:log.drop a=p++q):a+p.length+q.length=log.length:=by
 have:=congrArg List.length h
 simp only[zl4,cK] at this;omega
def Ss (n:Nat)(r s:List UInt8):line hash n r++s=decDigits n++32::(decDigits r.length++32::((hash (Ah n r++r)).take 16++32::(r++10::s))):=by
 rw[Su];simp
def h16 (n:Nat)(r:List UInt8):((hash (Ah n r++r)).take 16).length=16:=by rw[zl3,EJ];rfl
noncomputable def Mf (t:List UInt8) (n:Nat):List UInt8×Int:=match CH hash t n with | none=>([],0)|some r=>(r,((line hash n r).length:Int))
def af7 (log:List UInt8)(a n:Nat)(D7:log.length≤9999999)(ha:a≤log.length)(hn:n≤999999) :
  IA (log,(a:Int),(n:Int))=some (Mf (log.drop a) n,()):=by
 unfold Mf
 have g0' (k:Nat):decide ((k:Int)<0)=false:=zdf
 have le (x y:Nat) (h:x≤y):decide ((x:Int)≤(y:Int))=true:=zdt
 cases hx:CH hash (log.drop a) n with
 |some r=>
  obtain⟨hr1,hr2,s,hs⟩:=GV hash hx
  rw[Ss] at hs
  have hs:=hs.symm
  have f1:=LY log (decDigits n) _ a 32 (by omega) hs (EG n)
  have l1:=LZ _ _ _ _ ha hs
  have t1:=Lv _ _ _ _ hs
  have n1:=LX (decDigits n) (by have:=Da n (by omega);omega)
  rw[bf (NU hn),HT] at n1
  have hs2:log.drop (a+(decDigits n).length+1)=decDigits r.length++32::((hash (Ah n r++r)).take 16++32::(r++10::s)):=by
   have:=LN log a (decDigits n ++ [32]) (decDigits r.length++32::((hash (Ah n r++r)).take 16++32::(r++10::s))) (by rw[hs];simp)
   rw[cK,zl103,←iq] at this;exact this
  have l2:=LZ _ _ _ _ (by simp at l1;omega) hs2
  have f2:=LY log (decDigits r.length) _ _ 32 (by omega) hs2 (EG _)
  have t2:=Lv _ _ _ _ hs2
  have n2:=LX (decDigits r.length) (by have:=Da r.length (by omega);omega)
  rw[bf (NU (by omega)),HT] at n2
  have hs3:log.drop (a+(decDigits n).length+1+(decDigits r.length).length+18)=r++10::s:=by
   have:=LN log _ (decDigits r.length++32::((hash (Ah n r++r)).take 16 ++ [32])) (r++10::s) (by rw[hs2];simp)
   rw[←this];congr 1
   simp only[cK,kF,nQ,h16];omega
  have l3:=LZ _ _ _ _ (by simp only[cK,kF,h16] at l2;omega) hs3
  simp only[kF] at l3
  have t3:=Lv _ _ _ _ hs3
  have ls:=ZI n r (by omega) (by omega)
  have hw:line hash n r++s=log.drop a:=by rw[Ss];exact hs.symm
  have hll:=P9 hash EJ n r
  have t4:=Lv _ _ _ _ hw.symm
  have w1:=zX (i:=a+(decDigits n).length) (by omega)
  have w2:IntKind.wrap .i64 (((a+(decDigits n).length+1+(decDigits r.length).length:Nat):Int)+18)=((a+(decDigits n).length+1+(decDigits r.length).length+18:Nat):Int):=by rw[wrap64 (by omega) (by omega)];omega
  have w3:IntKind.wrap .i64 (((a+(decDigits n).length+1+(decDigits r.length).length+18:Nat):Int)+(r.length:Int))=((a+(decDigits n).length+1+(decDigits r.length).length+18+r.length:Nat):Int):=by rw[wrap64 (by omega) (by omega)];omega
  have w4:=zX (i:=a+(decDigits n).length+1+(decDigits r.length).length+18+r.length) (by omega)
  have e5:a+(decDigits n).length+1+(decDigits r.length).length+18+r.length+1=a+(line hash n r).length:=by omega
  rw[e5] at w4
  have cin:=F6 (r.length:Int) 1 500
  rw[zl86 (show(1:Int)≤(r.length:Int)∧(r.length:Int)≤500 from⟨by omega,by omega⟩)] at cin
  have c6:decide (((a+(line hash n r).length:Nat):Int)>(log.length:Int))=false:=zdf
  have c7:(((n:Int)) != (n:Int))=false:=by simp
  have c8:(line hash n r==line hash n r)=true:=zl95 _
  have f1':B_ (log,(a:Int),32)=_:=f1
  have f2':B_ (log,((a+(decDigits n).length+1:Nat):Int),32)=_:=f2
  simp only[IA,f1',zov f1',zl94,g0',t1,n1,zov n1,c7,eF,isSm,zl99,le a (a+(decDigits n).length) (by omega),le (a+(decDigits n).length) log.length (by omega),g0,zU,zl92,aG,w1,f2',zov f2',t2,n2,zov n2,le (a+(decDigits n).length+1) (a+(decDigits n).length+1+(decDigits r.length).length) (by omega),le (a+(decDigits n).length+1+(decDigits r.length).length) log.length (by omega),cin,zov cin,zl70,w2,w3,w4,c6,t3,ls,zov ls,le (a+(decDigits n).length+1+(decDigits r.length).length+18) (a+(decDigits n).length+1+(decDigits r.length).length+18+r.length) (by omega),le (a+(decDigits n).length+1+(decDigits r.length).length+18+r.length) log.length (by omega),le a (a+(line hash n r).length) (by omega),le (a+(line hash n r).length) log.length (by omega),t4,c8,zl70]
 |none=>
  simp only
  rcases Lu 32 (log.drop a) with h1|⟨p,q,hs,hp⟩
  ·have f1:B_ (log,(a:Int),32)=_:=Sn log a 32 (by omega) (by omega) h1
   have c1:decide ((-1:Int)<0)=true:=rfl
   simp only[IA,f1,zov f1,c1,isSm,zl70,zU,aG]
   rfl
  have f1:B_ (log,(a:Int),32)=_:=LY log p _ a 32 (by omega) hs hp
  have l1:=LZ _ _ _ _ ha hs
  have t1:=Lv _ _ _ _ hs
  simp only[kF] at l1
  have n1:=LX p (by omega)
  have w1:=zX (i:=a+p.length) (by omega)
  simp only[IA,f1,zov f1,zl94,g0',t1,n1,zov n1,eF,isSm,zl99,le a (a+p.length) (by omega),le (a+p.length) log.length (by omega),g0,zU,zl92,aG,w1]
  cases hm:((if isNum p then(ov p:Int) else -1) != (n:Int)) with
  |true=>rfl
  |false=>
  simp only[eF]
  have hs2:log.drop (a+p.length+1)=q:=by
   have:=LN log a (p ++ [32]) q (by rw[hs];simp)
   rw[cK,zl103,←iq] at this;exact this
  rcases Lu 32 q with h2|⟨p2,q2,hq,hp2⟩
  ·have f2:B_ (log,((a+p.length+1:Nat):Int),32)=_:=Sn log (a+p.length+1) 32 (by omega) (by omega) (by rw[hs2];exact h2)
   have c1:decide ((-1:Int)<0)=true:=rfl
   simp only[f2,zov f2,c1,aG]
  rw[hq] at hs2
  have l2:=LZ _ _ _ _ (by omega) hs2
  simp only[kF] at l2
  have f2:B_ (log,((a+p.length+1:Nat):Int),32)=_:=LY log p2 _ _ 32 (by omega) hs2 hp2
  have t2:=Lv _ _ _ _ hs2
  have n2:=LX p2 (by omega)
  have cin:=F6 (if isNum p2 then(ov p2:Int) else -1) 1 500
  have w2:IntKind.wrap .i64 (((a+p.length+1+p2.length:Nat):Int)+18)=((a+p.length+1+p2.length+18:Nat):Int):=by rw[wrap64 (by omega) (by omega)];omega
  simp only[f2,zov f2,g0',eF,t2,n2,zov n2,le (a+p.length+1) (a+p.length+1+p2.length) (by omega),le (a+p.length+1+p2.length) log.length (by omega),cin,zov cin,w2,aG]
  by_cases hk:(1:Int)≤(if isNum p2 then(ov p2:Int) else -1)∧(if isNum p2 then(ov p2:Int) else -1)≤500
  ·obtain⟨k,hk1,hk2,hkv⟩:∃k:Nat,1≤k∧k≤500∧(if isNum p2 then(ov p2:Int) else -1)=(k:Int):=by
    refine⟨Int.toNat (if isNum p2 then(ov p2:Int) else -1),?_,?_,?_⟩<;>omega
   have w3:IntKind.wrap .i64 (((a+p.length+1+p2.length+18:Nat):Int)+(k:Int))=((a+p.length+1+p2.length+18+k:Nat):Int):=by rw[wrap64 (by omega) (by omega)];omega
   have w4:=zX (i:=a+p.length+1+p2.length+18+k) (by omega)
   simp only[hkv,zl86 (show(1:Int)≤(k:Int)∧(k:Int)≤500 from⟨by omega,by omega⟩),zl70,eF,w3,w4]
   cases hc:decide (((a+p.length+1+p2.length+18+k+1:Nat):Int)>(log.length:Int)) with
   |true=>rfl
   |false=>
   have aM:=zl101 hc
   simp only[eF]
   have e1:Int.toNat (((a+p.length+1+p2.length+18+k:Nat):Int)-((a+p.length+1+p2.length+18:Nat):Int))=k:=by omega
   have hrl:(List.take k (List.drop (a+p.length+1+p2.length+18) log)).length=k:=by rw[zl3,zl4];omega
   have ls:=ZI n (List.take k (List.drop (a+p.length+1+p2.length+18) log)) (by omega) (by omega)
   simp only[e1,ls,zov ls,le (a+p.length+1+p2.length+18) (a+p.length+1+p2.length+18+k) (by omega),le (a+p.length+1+p2.length+18+k) log.length (by omega),le (a+p.length+1+p2.length+18+k+1) log.length (by omega),le a (a+p.length+1+p2.length+18+k+1) (by omega),aG,zl94,zl92,g0]
   cases hb:(List.take (Int.toNat (((a+p.length+1+p2.length+18+k+1:Nat):Int)-(a:Int))) (List.drop a log)==line hash n (List.take k (List.drop (a+p.length+1+p2.length+18) log))) with
   |false=>rfl
   |true=>
    exfalso
    have hb':=eq_of_beq hb
    have:Nu hash (log.drop a) n (List.take k (List.drop (a+p.length+1+p2.length+18) log)):=by
     refine⟨by omega,by omega,?_⟩
     rw[←hb'];exact List.take_prefix _ _
    rw[aaE hash EJ this] at hx
    cases hx
  ·rw[zl90 hk]
   rfl
def ZO (t:List UInt8)(n:Nat):AR hash (t.length+1) t n=match CH hash t n with
  |none=>([],0)
  |some r=>(r::(AR hash ((t.drop (line hash n r).length).length+1) (t.drop (line hash n r).length) (n+1)).1,(line hash n r).length+(AR hash ((t.drop (line hash n r).length).length+1) (t.drop (line hash n r).length) (n+1)).2):=by
 cases h:CH hash t n with
 |none=>exact agx hash h
 |some r=>exact agw hash EJ h
def ZC (log:List UInt8)(D7:log.length≤9999999):∀(d a:Nat) (l:List (List UInt8)),a≤log.length→log.length-a≤d→20*l.length≤a →
  Comes KB (((a:Int),(),log),l) (((),((a+(AR hash ((log.drop a).length+1) (log.drop a) l.length).2:Nat):Int)),l++(AR hash ((log.drop a).length+1) (log.drop a) l.length).1)
 |d,a,l,ha,hd,hl=>by
  have e:=af7 log a l.length D7 ha (by omega)
  rw[ZO]
  cases hx:CH hash (log.drop a) l.length with
  |none=>
   refine .out ?_
   have ev:Mf (log.drop a) l.length=([],0):=by rw[Mf,hx]
   rw[ev] at e
   simp only[KB,e,zov e,isSm,zU,aG]
   simp
  |some r=>
   have ev:Mf (log.drop a) l.length=(r,((line hash l.length r).length:Int)):=by rw[Mf,hx]
   rw[ev] at e
   have hp:=N3 hash EJ l.length r
   have hle:(line hash l.length r).length≤(log.drop a).length:=(GV hash hx).2.2.length_le
   rw[zl4] at hle
   have c1:(((line hash l.length r).length:Int)==0)=false:=zl89.2 (by omega)
   have c2:decide (l.length+1≤eD)=true:=zl86 (by unfold eD;omega)
   have w:IntKind.wrap .i64 ((a:Int)+((line hash l.length r).length:Int))=((a+(line hash l.length r).length:Nat):Int):=by rw[wrap64 (by omega) (by omega)];omega
   match d with
   |0=>omega
   |d+1=>
    have ih:=ZC log D7 d (a+(line hash l.length r).length) (l ++ [r]) (by omega) (by omega) (by simp;omega)
    refine .again ?_ (x':=((((a+(line hash l.length r).length:Nat):Int),(),log),l ++ [r])) ?_
    ·simp only[KB,e,zov e,isSm,zU,aG,c1,eF,c2,w]
    ·rw[←List.drop_drop,cK,zl103,bX] at ih
     simp only[zl104] at ih
     simpa[iq] using ih
def af8 (log:List UInt8)(D7:log.length≤9999999):IB log=some (((Fu hash log).1,((Fu hash log).2:Int)),()):=by
 have h:=ZC log D7 log.length 0 [] (by omega) (by omega) (by simp)
 have h':Comes KB ((0,(),log),[]) (((),((Fu hash log).2:Int)),(Fu hash log).1):=by simpa[Fu] using h
 simp only[IB,cb h',cv h',aG]
def wi {x:Int}{y:Nat}(h:x=(y:Int))(hy:y≤4611686018427387904):IntKind.wrap .i64 x=(y:Int):=by rw[h,wrap64 (by omega) (by omega)]
def wh3 (x y:Nat)(hx:x≤99999999)(hy:y≤99999999):IntKind.wrap .i64 (IntKind.wrap .i64 (IntKind.wrap .i64 ((x:Int)+1)+(y:Int))+18)=((x+1+y+18:Nat):Int):=by
 rw[show((x:Int)+1)=((x+1:Nat):Int) by omega,wi (x:=((x+1:Nat):Int)) rfl (by omega),show(((x+1:Nat):Int)+(y:Int))=((x+1+y:Nat):Int) by omega,wi (x:=((x+1+y:Nat):Int)) rfl (by omega)]
 exact wi (by omega) (by omega)
def wh2 (x y:Nat)(hx:x≤999999999)(hy:y≤999999999):IntKind.wrap .i64 (IntKind.wrap .i64 ((x:Int)+(y:Int))+1)=((x+y+1:Nat):Int):=by
 rw[show((x:Int)+(y:Int))=((x+y:Nat):Int) by omega,wi (x:=((x+y:Nat):Int)) rfl (by omega)]
 exact wi (by omega) (by omega)
def Y5 (s p:List UInt8)(_hs:s.length≤9999999)(_hp:p.length≤9999999):q14 (s,p)=some (decide (p <+:s),()):=by
 have h:Wh.q6 (s,p)=some (decide (p <+:s),()):=by
  by_cases hl:p.length≤s.length
  ·have c1:decide ((s.length:Int)≥(p.length:Int))=true:=zdt
   have c2:decide ((p.length:Int)≤(s.length:Int))=true:=zdt
   have e:List.take (Int.toNat ((p.length:Int)-0)) (List.drop (Int.toNat 0) s)=s.take p.length:=by simp
   have e2:(s.take p.length==p)=decide (p <+:s):=by
    rw[zl105,zl78,zl106,List.prefix_iff_eq_take]
    exact eq_comm
   simp only[Wh.q6,c1,g0,e,e2,aG,zU,zl99,zl92,show decide ((0:Int)≤0)=true from rfl]
  ·have c1:decide ((s.length:Int)≥(p.length:Int))=false:=zdf
   have e2:decide (p <+:s)=false:=zl90 (fun h=>hl h.length_le)
   simp only[Wh.q6,c1,e2,eF,zU,zl98,zl76,zl92,aG]
 simp only[q14,h,zov h,isSm,zU,aG]
def af0 (log:List UInt8)(D7:log.length≤9999999)(a:Nat)(l:List (List UInt8))(ha:a≤log.length)(hl:20*l.length≤a) :
  Hv (((a:Int),(),log),l)=match CH hash (log.drop a) l.length with
   |none=>some (.inr (((),(a:Int)),l))
   |some r=>some (.inl ((((a+(line hash l.length r).length:Nat):Int),(),log),l ++ [r])):=by
 have le (x y:Nat) (h:x≤y):decide ((x:Int)≤(y:Int))=true:=zdt
 have t0:List.take (Int.toNat ((log.length:Int)-(a:Int))) (List.drop a log)=log.drop a:=by
  rw[zl57];rw[zl4];omega
 have htl:(log.drop a).length≤9999999:=by rw[zl4];omega
 have e1:Wh.strings_Cut (log.drop a,[(32:UInt8)])=some (cut (log.drop a) [32],()):=by
  simp only[Wh.strings_Cut,zdt (p:=(log.drop a).length<4294967281),aG]
 have ei:=P6 l.length (by omega)
 have dl:=Da l.length (by omega)
 cases hx:CH hash (log.drop a) l.length with
 |some r=>
  obtain⟨hr1,hr2,s,hs⟩:=GV hash hx
  have hw:=hs.symm
  rw[Ss] at hs
  have hs:=hs.symm
  have l1:=LZ _ _ _ _ ha hw
  have hll:=P9 hash EJ l.length r
  have q1:=HS 32 (decDigits l.length) (decDigits r.length++32::((hash (Ah l.length r++r)).take 16++32::(r++10::s))) (EG _)
  rw[←hs] at q1
  rw[q1] at e1
  have q2:=HS 32 (decDigits r.length) ((hash (Ah l.length r++r)).take 16++32::(r++10::s)) (EG _)
  have hq:(decDigits r.length++32::((hash (Ah l.length r++r)).take 16++32::(r++10::s))).length<4294967281:=by
   have:=congrArg List.length hs
   simp only[cK,kF] at this ⊢;omega
  have e2:Wh.strings_Cut (decDigits r.length++32::((hash (Ah l.length r++r)).take 16++32::(r++10::s)),[(32:UInt8)])=some ((decDigits r.length,(hash (Ah l.length r++r)).take 16++32::(r++10::s),true),()):=by
   simp only[Wh.strings_Cut,zl86 hq,aG,q2]
  have dr:=Da r.length (by omega)
  have e3:D9 (decDigits r.length)=some (((r.length:Int),true),()):=by
   simp only[D9,zdt (p:=(decDigits r.length).length≤281474976710656),aG,bf (NU (show r.length≤999999 by omega)),HT]
  have cin:=Al (r.length:Int) 1 500
  rw[zl86 (show(1:Int)≤(r.length:Int)∧(r.length:Int)≤500 from⟨by omega,by omega⟩)] at cin
  have w1:IntKind.wrap .i64 (IntKind.wrap .i64 (IntKind.wrap .i64 (((decDigits l.length).length:Int)+1)+((decDigits r.length).length:Int))+18)=(((decDigits l.length).length+1+(decDigits r.length).length+18:Nat):Int):=by exact wh3 _ _ (by omega) (by omega)
  have w2:IntKind.wrap .i64 (IntKind.wrap .i64 ((((decDigits l.length).length+1+(decDigits r.length).length+18:Nat):Int)+(r.length:Int))+1)=((line hash l.length r).length:Int):=by rw[hll];exact wh2 _ _ (by omega) (by omega)
  have w3:IntKind.wrap .i64 ((log.length:Int)-(a:Int))=((log.length-a:Nat):Int):=wi (by omega) (by omega)
  have c1:decide (((log.length-a:Nat):Int)<((line hash l.length r).length:Int))=false:=zdf
  have w4:IntKind.wrap .i64 ((a:Int)+(((decDigits l.length).length+1+(decDigits r.length).length+18:Nat):Int))=((a+((decDigits l.length).length+1+(decDigits r.length).length+18):Nat):Int):=wi (by omega) (by omega)
  have w5:IntKind.wrap .i64 (((a+((decDigits l.length).length+1+(decDigits r.length).length+18):Nat):Int)+(r.length:Int))=((a+((decDigits l.length).length+1+(decDigits r.length).length+18)+r.length:Nat):Int):=wi (by omega) (by omega)
  have hs3:log.drop (a+((decDigits l.length).length+1+(decDigits r.length).length+18))=r++10::s:=by
   have:=LN log a (decDigits l.length++32::(decDigits r.length++32::((hash (Ah l.length r++r)).take 16 ++ [32]))) (r++10::s) (by rw[hs];simp)
   rw[←this];congr 2
   simp only[cK,kF,nQ,h16];omega
  have t3:=Lv _ _ _ _ hs3
  have ls:=ZH l.length r (by omega) (by omega)
  have hpre:line hash l.length r <+:log.drop a:=⟨s,hw.symm⟩
  have hp:=Y5 (log.drop a) (line hash l.length r) htl (by omega)
  rw[zl86 hpre] at hp
  have w6:IntKind.wrap .i64 ((a:Int)+((line hash l.length r).length:Int))=((a+(line hash l.length r).length:Nat):Int):=wi (by omega) (by omega)
  have c2:decide (l.length+1≤eD)=true:=zl86 (by unfold eD;omega)
  simp only[Hv,zl94,t0,e1,zov e1,e2,zov e2,e3,zov e3,ei,zov ei,isSm,g0,le a log.length ha,le log.length log.length (bw _),zU,zl92,aG,w1,w2,w3,w4,w5,c1,cin,zov cin,zl70,zl99,eF,t3,ls,zov ls,hp,zov hp,w6,c2,le (a+((decDigits l.length).length+1+(decDigits r.length).length+18)) (a+((decDigits l.length).length+1+(decDigits r.length).length+18)+r.length) (by omega),le (a+((decDigits l.length).length+1+(decDigits r.length).length+18)+r.length) log.length (by omega)]
 |none=>
  simp only
  have bO:(cut (log.drop a) [32]).2.1.length≤(log.drop a).length:=by
   rcases Lu 32 (log.drop a) with h|⟨p,q,h,hp⟩
   ·rw[PC _ _ h];simp
   ·rw[h,HS _ _ _ hp];simp;omega
  generalize hc1:cut (log.drop a) [32]=c1 at bO e1
  have e2:Wh.strings_Cut (c1.2.1,[(32:UInt8)])=some (cut c1.2.1 [32],()):=by
   simp only[Wh.strings_Cut,zdt (p:=c1.2.1.length<4294967281),aG]
  have hcl2:(cut c1.2.1 [32]).1.length≤c1.2.1.length:=by
   rcases Lu 32 c1.2.1 with h|⟨p,q,h,hp⟩
   ·rw[PC _ _ h];simp
   ·rw[h,HS _ _ _ hp];simp
  generalize iB:cut c1.2.1 [32]=c2 at hcl2 e2
  have e3:D9 c2.1=some (if isNum c2.1 then((ov c2.1:Int),true) else(0,false),()):=by
   simp only[D9,zdt (p:=c2.1.length≤281474976710656),aG]
  have w1:IntKind.wrap .i64 (IntKind.wrap .i64 (IntKind.wrap .i64 (((decDigits l.length).length:Int)+1)+(c2.1.length:Int))+18)=(((decDigits l.length).length+1+c2.1.length+18:Nat):Int):=by exact wh3 _ _ (by omega) (by omega)
  by_cases hn:isNum c2.1
  ·rw[bf hn] at e3
   have cin:=Al (ov c2.1:Int) 1 500
   have hv:=Zz hn
   have w2:IntKind.wrap .i64 (IntKind.wrap .i64 ((((decDigits l.length).length+1+c2.1.length+18:Nat):Int)+(ov c2.1:Int))+1)=(((decDigits l.length).length+1+c2.1.length+18+ov c2.1+1:Nat):Int):=by exact wh2 _ _ (by omega) (by omega)
   have w3:IntKind.wrap .i64 ((log.length:Int)-(a:Int))=((log.length-a:Nat):Int):=wi (by omega) (by omega)
   simp only[Hv,zl94,t0,e1,zov e1,e2,zov e2,e3,zov e3,ei,zov ei,isSm,g0,le a log.length ha,le log.length log.length (bw _),zU,zl92,aG,w1,w2,w3,cin,zov cin,zl70,zl99,eF]
   by_cases hk:(1:Int)≤(ov c2.1:Int)∧(ov c2.1:Int)≤500
   ·simp only[zl86 hk,zl70,eF]
    cases hc:decide (((log.length-a:Nat):Int)<(((decDigits l.length).length+1+c2.1.length+18+ov c2.1+1:Nat):Int)) with
    |true=>rfl
    |false=>
    have aM:=zl101 hc
    have w4:IntKind.wrap .i64 ((a:Int)+(((decDigits l.length).length+1+c2.1.length+18:Nat):Int))=((a+((decDigits l.length).length+1+c2.1.length+18):Nat):Int):=wi (by omega) (by omega)
    have w5:IntKind.wrap .i64 (((a+((decDigits l.length).length+1+c2.1.length+18):Nat):Int)+(ov c2.1:Int))=((a+((decDigits l.length).length+1+c2.1.length+18)+ov c2.1:Nat):Int):=wi (by omega) (by omega)
    have e5:Int.toNat (((a+((decDigits l.length).length+1+c2.1.length+18)+ov c2.1:Nat):Int)-((a+((decDigits l.length).length+1+c2.1.length+18):Nat):Int))=ov c2.1:=by omega
    have hrl:(List.take (ov c2.1) (List.drop (a+((decDigits l.length).length+1+c2.1.length+18)) log)).length=ov c2.1:=by rw[zl3,zl4];omega
    have ls:=ZH l.length (List.take (ov c2.1) (List.drop (a+((decDigits l.length).length+1+c2.1.length+18)) log)) (by omega) (by omega)
    have hll:=P9 hash EJ l.length (List.take (ov c2.1) (List.drop (a+((decDigits l.length).length+1+c2.1.length+18)) log))
    rw[hrl] at hll
    have dv:=Da (ov c2.1) (by omega)
    have hp:=Y5 (log.drop a) (line hash l.length (List.take (ov c2.1) (List.drop (a+((decDigits l.length).length+1+c2.1.length+18)) log))) htl (by omega)
    have hno:¬(line hash l.length (List.take (ov c2.1) (List.drop (a+((decDigits l.length).length+1+c2.1.length+18)) log))) <+:log.drop a:=by
     intro h
     rw[aaE hash EJ (r:=List.take (ov c2.1) (List.drop (a+((decDigits l.length).length+1+c2.1.length+18)) log)) ⟨by omega,by omega,h⟩] at hx
     cases hx
    rw[zl90 hno] at hp
    simp only[w4,w5,e5,zl94,ls,zov ls,hp,zov hp,le (a+((decDigits l.length).length+1+c2.1.length+18)) (a+((decDigits l.length).length+1+c2.1.length+18)+ov c2.1) (by omega),le (a+((decDigits l.length).length+1+c2.1.length+18)+ov c2.1) log.length (by omega),g0,zl92,aG,eF,zl98]
   ·simp only[zl90 hk,zl98,aG]
  ·rw[bY hn] at e3
   simp only[Hv,zl94,t0,e1,zov e1,e2,zov e2,e3,zov e3,ei,zov ei,isSm,g0,le a log.length ha,le log.length log.length (bw _),zU,zl92,aG,zl98,zl70,zl76]
def Zo (log:List UInt8)(D7:log.length≤9999999):∀(d a:Nat) (l:List (List UInt8)),a≤log.length→log.length-a≤d→20*l.length≤a →
  Comes Hv (((a:Int),(),log),l) (((),((a+(AR hash ((log.drop a).length+1) (log.drop a) l.length).2:Nat):Int)),l++(AR hash ((log.drop a).length+1) (log.drop a) l.length).1)
 |d,a,l,ha,hd,hl=>by
  have e:=af0 log D7 a l ha hl
  rw[ZO]
  cases hx:CH hash (log.drop a) l.length with
  |none=>
   rw[hx] at e
   exact .out (by simpa using e)
  |some r=>
   rw[hx] at e
   have hp:=N3 hash EJ l.length r
   have hle:(line hash l.length r).length≤(log.drop a).length:=(GV hash hx).2.2.length_le
   rw[zl4] at hle
   match d with
   |0=>omega
   |d+1=>
    have ih:=Zo log D7 d (a+(line hash l.length r).length) (l ++ [r]) (by omega) (by omega) (by simp;omega)
    refine .again e ?_
    rw[←List.drop_drop,cK,zl103,bX] at ih
    simp only[zl104] at ih
    simpa[iq] using ih
def adF (log:List UInt8)(D7:log.length≤9999999):q95 log=some (((Fu hash log).1,((Fu hash log).2:Int)),()):=by
 have h:=Zo log D7 log.length 0 [] (by omega) (by omega) (by simp)
 have h':Comes Hv ((0,(),log),[]) (((),((Fu hash log).2:Int)),(Fu hash log).1):=by simpa[Fu] using h
 simp only[q95,cb h',cv h',aG]
def first:Nat→(Nat→Bool)→Option Nat
 |0,_=>none
 |n+1,p=>match first n p with | some i=>some i|none=>if p n=true then some n else none
def Bp {p:Nat→Bool}:∀{n i:Nat},first n p=some i↔i<n∧p i=true∧∀j,j<i→p j=false
 |0,i=>by simp[first]
 |n+1,i=>by
  rw[first]
  cases h:first n p with
  |some k=>
   obtain⟨h1,h2,h3⟩:=Bp.1 h
   simp only[au]
   constructor
   ·rintro rfl;exact⟨by omega,h2,h3⟩
   ·rintro⟨g1,g2,g3⟩
    rcases Nat.lt_trichotomy k i with h4|h4|h4
    ·rw[g3 k h4] at h2;cases h2
    ·exact h4
    ·rw[h3 i h4] at g2;cases g2
  |none=>
   have hn:∀j,j<n→p j=false:=by
    intro j hj
    cases hp:p j with
    |false=>rfl
    |true=>
     exfalso
     have:∀m,m≤n→(∃i,i<m∧p i=true)→first m p≠none:=by
      intro m
      induction m with
      |zero=>rintro _ ⟨i,hi,_⟩;omega
      |succ m ih=>
       rintro hm ⟨i,hi,hpi⟩
       rw[first]
       cases hf:first m p with
       |some _=>simp
       |none=>
        have:i=m:=by
         rcases Nat.lt_or_ge i m with h5|h5
         ·exact absurd hf (ih (by omega) ⟨i,h5,hpi⟩)
         ·omega
        subst this
        simp[hpi]
     exact this n (bw _) ⟨j,hj,hp⟩ h
   simp only
   constructor
   ·intro h1
    split at h1
    ·cases h1;rename_i hp;exact⟨by omega,hp,hn⟩
    ·cases h1
   ·rintro⟨g1,g2,g3⟩
    have:i=n:=by
     rcases Nat.lt_or_ge i n with h5|h5
     ·rw[hn i h5] at g2;cases g2
     ·omega
    subst this
    rw[bf g2]
def JI {p:Nat→Bool}{n:Nat}:first n p=none↔∀j,j<n→p j=false:=by
 constructor
 ·intro h j hj
  cases hp:p j with
  |false=>rfl
  |true=>
   exfalso
   have:∀m,(∃i,i<m∧p i=true)→∃i,first m p=some i:=by
    intro m
    induction m with
    |zero=>rintro⟨i,hi,_⟩;omega
    |succ m ih=>
     rintro⟨i,hi,hpi⟩
     rw[first]
     cases hf:first m p with
     |some k=>exact⟨k,rfl⟩
     |none=>
      by_cases hm:p m=true
      ·exact⟨m,by simp[hm]⟩
      ·have:i≠m:=by rintro rfl;exact hm hpi
       obtain⟨k,hk⟩:=ih ⟨i,by omega,hpi⟩
       rw[hf] at hk;cases hk
   obtain⟨k,hk⟩:=this n ⟨j,hj,hp⟩
   rw[h] at hk;cases hk
 ·intro h
  cases hf:first n p with
  |none=>rfl
  |some i=>
   obtain⟨h1,h2,_⟩:=Bp.1 hf
   rw[h i h1] at h2;cases h2
def D3 {X Y:Type}{r:X→Option (X⊕Y)}(st:Nat→X){n:Nat}{p:Nat→Bool}{yt:Nat→Y}{yn:Y}(hs:∀i,i<n→p i=false→r (st i)=some (.inl (st (i+1))))
  (hf:∀i,i<n→p i=true→r (st i)=some (.inr (yt i))) (he:r (st n)=some (.inr yn)):Comes r (st 0) (match first n p with | some i=>yt i|none=>yn):=by
 rcases adU st hs hf he with⟨i,h1,h2,h3,h4⟩|⟨h1,h2⟩
 ·rw[Bp.2 ⟨h1,h2,h3⟩];exact h4
 ·rw[JI.2 h1];exact h2
def aej {p q:Nat→Bool}{n:Nat}(h:∀i,i<n→p i=q i):first n p=first n q:=by
 cases hf:first n q with
 |none=>exact JI.2 fun j hj=>by rw[h j hj];exact JI.1 hf j hj
 |some i=>
  obtain⟨h1,h2,h3⟩:=Bp.1 hf
  exact Bp.2 ⟨h1,by rw[h i h1];exact h2,fun j hj=>by rw[h j (by omega)];exact h3 j hj⟩
def Pm (a b:UInt8)(x y:List UInt8):Op.bytesLess (a::x) (b::y)=true↔a<b∨(a=b∧Op.bytesLess x y=true):=by
 rw[Op.bytesLess]
 by_cases h1:a<b<;>by_cases h2:a=b<;>simp[h1,h2]
def X_:∀(x y:List UInt8),Op.bytesLess x y=true→Op.bytesLess y x=false
 | [],[],h=>by simp[Op.bytesLess] at h
 |_::_,[],h=>by simp[Op.bytesLess] at h
 | [],_::_,_=>by simp[Op.bytesLess]
 |a::x,b::y,h=>by
  rw[Bool.eq_false_iff]
  intro h'
  rw[Pm] at h h'
  rcases h with h|⟨rfl,h⟩<;>rcases h' with h'|⟨e,h'⟩
  ·rw[zl107] at h h';omega
  ·subst e;rw[zl107] at h;omega
  ·rw[zl107] at h';omega
  ·rw[X_ x y h] at h';cases h'
def Yb:∀(x y z:List UInt8),Op.bytesLess x y=true→Op.bytesLess y z=true→Op.bytesLess x z=true
 |_,[],_,h,_=>by cases ‹List UInt8› <;>simp[Op.bytesLess] at h
 |_,_::_,[],_,h=>by simp[Op.bytesLess] at h
 | [],_::_,_::_,_,_=>by simp[Op.bytesLess]
 |a::x,b::y,c::z,h,h'=>by
  rw[Pm] at h h' ⊢
  rcases h with h|⟨rfl,h⟩<;>rcases h' with h'|⟨e,h'⟩
  ·left;rw[zl107] at h h' ⊢;omega
  ·subst e;exact .inl h
  ·exact .inl h'
  ·subst e;exact .inr ⟨rfl,Yb x y z h h'⟩
def Ya:∀(x y:List UInt8),Op.bytesLess x y=true∨x=y∨Op.bytesLess y x=true
 | [],[]=>by simp
 |_::_,[]=>by simp[Op.bytesLess]
 | [],_::_=>by simp[Op.bytesLess]
 |a::x,b::y=>by
  rw[Pm,Pm]
  rcases Nat.lt_trichotomy a.toNat b.toNat with h|h|h
  ·exact .inl (.inl (zl107.2 h))
  ·have:a=b:=UInt8.toNat_inj.1 h
   subst this
   rcases Ya x y with h1|h1|h1
   ·exact .inl (.inr ⟨rfl,h1⟩)
   ·exact .inr (.inl (by rw[h1]))
   ·exact .inr (.inr (.inr ⟨rfl,h1⟩))
  ·exact .inr (.inr (.inl (zl107.2 h)))
abbrev It:Type:=Int×List UInt8×Int×List UInt8×Unit
abbrev Ct:Type:=Int×List It×Unit
def z0:It:=((0:Int),[],(0:Int),[],())
def AW (a:It)(h:Int)(n:List UInt8):Bool:=bif decide (a.1<h) then true else bif a.1==h then Op.bytesLess a.2.1 n else false
def Sp (a:It)(h:Int)(n:List UInt8):IC (a,h,n)=some (AW a h n,()):=rfl
def N2 {a:It}{h:Int}{n:List UInt8}:AW a h n=true↔a.1<h∨(a.1=h∧Op.bytesLess a.2.1 n=true):=by
 unfold AW
 by_cases h1:a.1<h
 ·simp[h1]
 ·by_cases h2:a.1=h<;>simp[h1,h2]
def ZF {a b:It}(h:AW a b.1 b.2.1=true):AW b a.1 a.2.1=false:=by
 rw[Bool.eq_false_iff]
 intro h'
 rw[N2] at h h'
 rcases h with h|⟨h1,h2⟩<;>rcases h' with h'|⟨h3,h4⟩
 ·omega
 ·omega
 ·omega
 ·rw[X_ _ _ h2] at h4;cases h4
def ags {a b c:It}(h:AW a b.1 b.2.1=true)(h':AW b c.1 c.2.1=true):AW a c.1 c.2.1=true:=by
 rw[N2] at h h' ⊢
 rcases h with h|⟨h1,h2⟩<;>rcases h' with h'|⟨h3,h4⟩
 ·left;omega
 ·left;omega
 ·left;omega
 ·exact .inr ⟨by omega,Yb _ _ _ h2 h4⟩
def agr {a b:It}(hk:¬(a.1=b.1∧a.2.1=b.2.1))(h:AW a b.1 b.2.1=false):AW b a.1 a.2.1=true:=by
 rw[Bool.eq_false_iff,Ne,N2] at h
 rw[N2]
 rcases Int.lt_trichotomy a.1 b.1 with h1|h1|h1
 ·exact absurd (.inl h1) h
 ·rcases Ya a.2.1 b.2.1 with h2|h2|h2
  ·exact absurd (.inr ⟨h1,h2⟩) h
  ·exact absurd ⟨h1,h2⟩ hk
  ·exact .inr ⟨h1.symm,h2⟩
 ·exact .inl h1
def Tq (a b:It):∃v,q44 (a,b)=some (v,())∧decide (v<0)=AW a b.1 b.2.1:=by
 have n1 (x:Int):q57 x=some (false,()):=by simp[q57]
 have n2 (x:List UInt8):q15 x=some (false,()):=by simp[q15]
 have c1:q24 (a.1,b.1)=some (if a.1<b.1 then -1 else if a.1>b.1 then 1 else 0,()):=by
  simp only[q24,n1,zov (n1 _),isSm,zU,aG,eF]
  by_cases h1:a.1<b.1
  ·simp[h1]
  ·by_cases h2:a.1>b.1<;>simp[h1,h2]
 have c2:Lf (a.2.1,b.2.1)=some (if Op.bytesLess a.2.1 b.2.1=true then -1 else if a.2.1=b.2.1 then 0 else 1,()):=by
  simp only[Lf,n2,zov (n2 _),isSm,zU,aG,eF]
  cases h1:Op.bytesLess a.2.1 b.2.1
  ·by_cases h2:a.2.1=b.2.1
   ·simp[h2]
   ·have hb:(a.2.1==b.2.1)=false:=zl89.2 h2
    simp[h2,hb]
  ·simp
 have c3 (x y:Int):KC [x,y]=some (if x≠0 then x else y,()):=by
  have:∃z,Comes KD ((0,0,[x,y],(↑(nat_lit 2):Int)),()) z∧sumC z (fun LH=>some (LH.1,())) (fun Pf=>some (Pf.1,()))=some (if x≠0 then x else y,()):=by
   by_cases hx:x=0
   ·subst hx
    by_cases hy:y=0
    ·subst hy;exact⟨_,.again rfl <| .again rfl <| .out rfl,rfl⟩
    ·have hb:(y != 0)=true:=by simp[hy]
     exact⟨.inl (y,()),.again (x':=((1,0,[0,y],2),())) rfl <| .out (by
      have e: [(0:Int),y].getD (Int.toNat 1) 0=y:=rfl
      simp only[KD,e,hb];rfl),rfl⟩
   ·have hb:(x != 0)=true:=by simp[hx]
    exact⟨.inl (x,()),.out (by
      have e: [x,y].getD (Int.toNat 0) 0=x:=rfl
      simp only[KD,e,hb];rfl),by simp[sumC,hx]⟩
  obtain⟨z,h1,h2⟩:=this
  simp only[KC,kF,nQ]
  have h1':Comes KD ((0,0,[x,y],(↑(0+1+1:Nat):Int)),()) z:=h1
  rw[cb h1',cv h1',aG,←h2]
 refine⟨(if(if a.1<b.1 then(-1:Int) else if a.1>b.1 then 1 else 0)≠0 then(if a.1<b.1 then(-1:Int) else if a.1>b.1 then 1 else 0) else(if Op.bytesLess a.2.1 b.2.1=true then -1 else if a.2.1=b.2.1 then 0 else 1)),by
  simp only[q44,c1,zov c1,c2,zov c2,c3,zov (c3 _ _),isSm,zU,zl92,aG],?_⟩
 rw[zl105,N2,zl106]
 by_cases h1:a.1<b.1
 ·simp[h1]
 ·by_cases h2:a.1>b.1
  ·simp[h1,h2];omega
  ·have:a.1=b.1:=by omega
   simp[this]
   cases h3:Op.bytesLess a.2.1 b.2.1
   ·by_cases h4:a.2.1=b.2.1<;>simp[h4]
   ·simp
def C0 (s:List UInt8):Bool:=xb s.length (fun i=>decide (97≤(s.getD i 0).toNat∧(s.getD i 0).toNat≤122))&&decide (1≤s.length∧s.length≤6)
def Qw (c:Nat):(bif decide ((c:Int)<97) then true else decide ((c:Int)>122)) = !decide (97≤c∧c≤122):=by
 by_cases h1:(c:Int)<97
 ·rw[zl86 h1,aG,zdf];rfl
 ·rw[zl90 h1,eF]
  by_cases h2:(c:Int)>122
  ·rw[zl86 h2,zdf];rfl
  ·rw[zl90 h2,zdt];rfl
def aj7 (s:List UInt8)(hs:s.length≤9999999):Kx s=some (C0 s,()):=by
 have h:=CA (r:=Ix) (fun i=>(((i:Int),s),())) (n:=s.length) (p:=fun i=>decide (97≤(s.getD i 0).toNat∧(s.getD i 0).toNat≤122)) (yf:=.inl (false,())) (yt:=.inr (s,())) (fun i hi _ hp=>by
   have hp':decide (97≤(s.getD i 0).toNat∧(s.getD i 0).toNat≤122)=true:=hp
   simp only[Ix,gl hi,g0,zl94,Qw,hp',zl99,zU,zl92,aG,zl70,eF,mb (i:=i)]) (fun i hi _ hp=>by
   have hp':decide (97≤(s.getD i 0).toNat∧(s.getD i 0).toNat≤122)=false:=hp
   simp only[Ix,gl hi,g0,zl94,Qw,hp',zl99,zU,zl92,aG,zl98]) (by
   have c1:decide ((s.length:Int)<(s.length:Int))=false:=zdf
   simp only[Ix,c1,eF])
 have h':Comes Ix ((0,s),()) _:=h
 have cin:=F6 (s.length:Int) 1 6
 simp only[Kx,cb h',cv h',aG]
 unfold C0
 cases hp:xb s.length (fun i=>decide (97≤(s.getD i 0).toNat∧(s.getD i 0).toNat≤122)) with
 |false=>rfl
 |true=>
  have e:decide ((1:Int)≤(s.length:Int)∧(s.length:Int)≤6)=decide (1≤s.length∧s.length≤6):=by congr 1;simp only[eq_iff_iff];omega
  simp only[cj]
  dsimp only[sumC]
  simp only[cin,zov cin,isSm,zU,aG,e,zl108]
def Zd (s:List UInt8)(hs:s.length≤9999999):G6 s=some (C0 s,()):=by
 have h:=CA (r:=Iv) (fun i=>(((i:Int),s,(s.length:Int)),())) (n:=s.length) (p:=fun i=>decide (97≤(s.getD i 0).toNat∧(s.getD i 0).toNat≤122)) (yf:=.inl (false,())) (yt:=.inr (s,())) (fun i hi _ hp=>by
   have hp':decide (97≤(s.getD i 0).toNat∧(s.getD i 0).toNat≤122)=true:=hp
   simp only[Iv,gl hi,g0,zl94,Qw,hp',zl99,zU,zl92,aG,zl70,eF,mb (i:=i)]) (fun i hi _ hp=>by
   have hp':decide (97≤(s.getD i 0).toNat∧(s.getD i 0).toNat≤122)=false:=hp
   simp only[Iv,gl hi,g0,zl94,Qw,hp',zl99,zU,zl92,aG,zl98]) (by
   have c1:decide ((s.length:Int)<(s.length:Int))=false:=zdf
   simp only[Iv,c1,eF])
 have h':Comes Iv ((0,s,(s.length:Int)),()) _:=h
 have cin:=Al (s.length:Int) 1 6
 simp only[G6,cb h',cv h',aG]
 unfold C0
 cases hp:xb s.length (fun i=>decide (97≤(s.getD i 0).toNat∧(s.getD i 0).toNat≤122)) with
 |false=>rfl
 |true=>
  have e:decide ((1:Int)≤(s.length:Int)∧(s.length:Int)≤6)=decide (1≤s.length∧s.length≤6):=by congr 1;simp only[eq_iff_iff];omega
  simp only[cj]
  dsimp only[sumC]
  simp only[cin,zov cin,isSm,zU,aG,e,zl108]
def aaD (s:List UInt8)(h:C0 s=true)(c:UInt8)(hc:c.toNat<97):∀x∈s,x≠c:=by
 unfold C0 at h
 rw[aF,BA] at h
 intro x hx e
 subst e
 obtain⟨i,hi,rfl⟩:=zl100 hx
 have:=zl79 (h.1 i hi)
 rw[getD_eq _ _ _ hi] at this
 omega
def Ox (s:List UInt8)(h:C0 s=true):1≤s.length∧s.length≤6:=by
 unfold C0 at h
 rw[aF] at h
 exact zl79 h.2
def Dp (h:Int)(n t:List UInt8):Bool:=decide (0≤h∧h≤1)&&C0 n&&decide (1≤t.length∧t.length≤300)
def P7 (t:It)(h1:t.2.1.length≤9999999):Gs t=some (Dp t.1 t.2.1 t.2.2.2.1,()):=by
 have a:=F6 t.1 0 1
 have b:=aj7 t.2.1 h1
 have c:=F6 (t.2.2.2.1.length:Int) 1 300
 have e:decide ((1:Int)≤(t.2.2.2.1.length:Int)∧(t.2.2.2.1.length:Int)≤300)=decide (1≤t.2.2.2.1.length∧t.2.2.2.1.length≤300):=by congr 1;simp only[eq_iff_iff];omega
 rw[e] at c
 simp only[Gs,a,zov a,b,zov b,c,zov c,isSm,zU,zl99,zl92,aG,Dp]
 cases decide (0≤t.1∧t.1≤1)<;>cases C0 t.2.1<;>rfl
def pub_eq (h:Int)(n t:List UInt8)(h1:n.length≤9999999):q21 (h,n,t)=some (Dp h n t,()):=by
 have a:=Al h 0 1
 have a':CI h=some (decide (0≤h∧h≤1),()):=by simp only[CI,a,zov a,isSm,zU,aG]
 have b:=Zd n h1
 have c:=Al (t.length:Int) 1 300
 have e:decide ((1:Int)≤(t.length:Int)∧(t.length:Int)≤300)=decide (1≤t.length∧t.length≤300):=by congr 1;simp only[eq_iff_iff];omega
 rw[e] at c
 simp only[q21,a',zov a',b,zov b,c,zov c,isSm,zU,zl99,zl92,aG,Dp]
 cases decide (0≤h∧h≤1)<;>cases C0 n<;>rfl
def nP (l:List It)(h:Int):Nat:=(l.map fun t=>if t.1=h then t.2.2.2.1.length else 0).sum
def Yc (l:List It)(h:Int)(i:Nat)(hi:i<l.length):nP (l.take (i+1)) h=nP (l.take i) h+if(l.getD i z0).1=h then(l.getD i z0).2.2.2.1.length else 0:=by
 rw[getD_eq _ _ _ hi,zl88 hi,nP,zl54,List.sum_append]
 simp only[kD,List.map_nil,zl82,List.sum_nil,qN]
 rfl
def LK (a b:List It)(h:Int):nP (a++b) h=nP a h+nP b h:=by simp[nP]
def VN (l:List It)(h:Int)(hl:nP l h≤9999999)(hn:l.length≤9999999):Is (l,h)=some ((nP l h:Int),()):=by
 have mono:∀i,i≤l.length→nP (l.take i) h≤nP l h:=by
  intro i hi
  have:nP l h=nP (l.take i) h+nP (l.drop i) h:=by rw[←LK,zl68]
  omega
 have c:=s4 (r:=Iu) (fun i=>(((i:Int),l,(nP (l.take i) h:Int),h),())) (n:=l.length) (y:=((nP l h:Int),())) (fun i hi=>by
  have hb:=Yc l h i hi
  have hm:=mono (i+1) hi
  have h0:=mono i (by omega)
  by_cases hh:(l.getD i z0).1=h
  ·rw[bf hh] at hb
   have c1:((l.getD i z0).1==h)=true:=zl78.2 hh
   have w:IntKind.wrap .i64 ((nP (l.take i) h:Int)+((l.getD i z0).2.2.2.1.length:Int))=(nP (l.take (i+1)) h:Int):=wi (by omega) (by omega)
   unfold z0 at c1 w
   simp only[Iu,gl hi,g0,zl94,c1,w,zU,zl92,aG,mb (i:=i)]
  ·rw[bY hh] at hb
   have c1:((l.getD i z0).1==h)=false:=zl89.2 hh
   unfold z0 at c1
   simp only[Iu,gl hi,g0,zl94,c1,zU,zl92,aG,eF,hb,qN,mb (i:=i)]) (by
  have c1:decide ((l.length:Int)<(l.length:Int))=false:=zdf
  simp only[Iu,c1,eF,zl102]) 0 (lz _)
 have c':Comes Iu ((0,l,0,h),()) ((nP l h:Int),()):=c
 simp only[Is,cb c',cv c',aG]
def afE (c:Ct)(h:Int)(hl:nP c.2.1 h≤9999999)(hn:c.2.1.length≤9999999):q40 (c,h)=some ((nP c.2.1 h:Int),()):=by
 obtain⟨ce,l,_⟩:=c
 have mono:∀i,i≤l.length→nP (l.take i) h≤nP l h:=by
  intro i hi
  have:nP l h=nP (l.take i) h+nP (l.drop i) h:=by rw[←LK,zl68]
  omega
 have c:=s4 (r:=IV) (fun i=>(((i:Int),(nP (l.take i) h:Int),h,l,(l.length:Int)),())) (n:=l.length) (y:=((nP l h:Int),())) (fun i hi=>by
  have hb:=Yc l h i hi
  have hm:=mono (i+1) hi
  have h0:=mono i (by omega)
  by_cases hh:(l.getD i z0).1=h
  ·rw[bf hh] at hb
   have c1:((l.getD i z0).1==h)=true:=zl78.2 hh
   have w:IntKind.wrap .i64 ((nP (l.take i) h:Int)+((l.getD i z0).2.2.2.1.length:Int))=(nP (l.take (i+1)) h:Int):=wi (by simp only at hl;omega) (by simp only at hl;omega)
   unfold z0 at c1 w
   simp only[IV,gl hi,g0,zl94,c1,w,zU,zl92,aG,zX (show i≤4611686018427387904 by simp only at hn;omega)]
  ·rw[bY hh] at hb
   have c1:((l.getD i z0).1==h)=false:=zl89.2 hh
   unfold z0 at c1
   simp only[IV,gl hi,g0,zl94,c1,zU,zl92,aG,eF,hb,qN,zX (show i≤4611686018427387904 by simp only at hn;omega)]) (by
  have c1:decide ((l.length:Int)<(l.length:Int))=false:=zdf
  simp only[IV,c1,eF,zl102]) 0 (lz _)
 have c':Comes IV ((0,0,h,l,(l.length:Int)),()) ((nP l h:Int),()):=c
 simp only[q40,cb c',cv c',aG]
def CP (l:List It)(h:Int)(n:List UInt8):Option Nat:=first l.length fun i=>(l.getD i z0).1==h&&(l.getD i z0).2.1==n
def zH:Option Nat→Int
 |some i=>(i:Int)
 |none=> -1
def ac_ (c:Ct)(h:Int)(n:List UInt8)(hn:c.2.1.length≤9999999):Gr (c,h,n)=some (zH (CP c.2.1 h n),()):=by
 obtain⟨ce,l,u⟩:=c
 have hl:l.length≤9999999:=hn
 have q:=D3 (r:=IP) (fun i=>(((i:Int),n,(),h),(ce,l,u))) (n:=l.length) (p:=fun i=>(l.getD i z0).1==h&&(l.getD i z0).2.1==n) (yt:=fun i=>.inl ((i:Int),())) (yn:=.inr ((),())) (fun i hi hp=>by
   have hp':(bif(l.getD i z0).1==h then(l.getD i z0).2.1==n else false)=false:=by
    cases e:((l.getD i z0).1==h) with
    |false=>rfl
    |true=>simp only[e,zl108] at hp;exact hp
   unfold z0 at hp'
   simp only[IP,gl hi,g0,zl94,hp',zl99,zU,zl92,aG,eF,mb (i:=i)]) (fun i hi hp=>by
   have hp':(bif(l.getD i z0).1==h then(l.getD i z0).2.1==n else false)=true:=by
    cases e:((l.getD i z0).1==h) with
    |false=>simp only[e,zl93] at hp;cases hp
    |true=>simp only[e,zl108] at hp;exact hp
   unfold z0 at hp'
   simp only[IP,gl hi,g0,zl94,hp',zl99,zU,zl92,aG]) (by
   have c1:decide ((l.length:Int)<(l.length:Int))=false:=zdf
   simp only[IP,c1,eF])
 have q':Comes IP ((0,n,(),h),(ce,l,u)) _:=q
 simp only[Gr,cb q',cv q',aG,CP]
 cases first l.length (fun i=>(l.getD i z0).1==h&&(l.getD i z0).2.1==n)<;>rfl
def Y9 (c:Ct)(h:Int)(n:List UInt8)(hn:c.2.1.length≤9999999):Gt (c,h,n)=some (zH (CP c.2.1 h n),()):=by
 obtain⟨ce,l,u⟩:=c
 have hl:l.length≤9999999:=hn
 have f (x:It):q25 (x,h,n)=some ((bif x.1==h then x.2.1==n else false),()):=rfl
 have q:=D3 (r:=IU) (fun i=>(((i:Int),l,(h,n,()),(l.length:Int)),())) (n:=l.length) (p:=fun i=>(l.getD i z0).1==h&&(l.getD i z0).2.1==n) (yt:=fun i=>.inl ((i:Int),())) (yn:=.inr ((),())) (fun i hi hp=>by
   have hp':(bif(l.getD i z0).1==h then(l.getD i z0).2.1==n else false)=false:=by
    cases e:((l.getD i z0).1==h) with
    |false=>rfl
    |true=>simp only[e,zl108] at hp;exact hp
   unfold z0 at hp'
   simp only[IU,gl hi,g0,zl94,f,zov (f _),hp',isSm,zU,zl92,aG,eF,mb (i:=i)]) (fun i hi hp=>by
   have hp':(bif(l.getD i z0).1==h then(l.getD i z0).2.1==n else false)=true:=by
    cases e:((l.getD i z0).1==h) with
    |false=>simp only[e,zl93] at hp;cases hp
    |true=>simp only[e,zl108] at hp;exact hp
   unfold z0 at hp'
   simp only[IU,gl hi,g0,zl94,f,zov (f _),hp',isSm,zU,zl92,aG]) (by
   have c1:decide ((l.length:Int)<(l.length:Int))=false:=zdf
   simp only[IU,c1,eF])
 have q':Comes IU ((0,l,(h,n,()),(l.length:Int)),()) _:=q
 have e:Wh.q3 (l,h,n,())=some (zH (CP l h n),()):=by
  simp only[Wh.q3,cb q',cv q',aG,CP]
  cases first l.length (fun i=>(l.getD i z0).1==h&&(l.getD i z0).2.1==n)<;>rfl
 simp only[Gt,e,zov e,isSm,zU,aG]
def lt2 (a b:It):Prop:=AW a b.1 b.2.1=true
def Ae (l:List It)(h:Int)(n:List UInt8):Nat:=match first l.length (fun i=> !AW (l.getD i z0) h n) with | some i=>i|none=>l.length
def Mi (l:List It)(h:Int)(n:List UInt8):Ae l h n≤l.length:=by
 unfold Ae;split
 ·rename_i hf;have:=(Bp.1 hf).1;omega
 ·exact bw _
def aaX (l:List It)(h:Int)(n:List UInt8):∀j,j<Ae l h n→AW (l.getD j z0) h n=true:=by
 unfold Ae;split
 ·rename_i hf
  intro j hj
  have:=(Bp.1 hf).2.2 j hj
  simpa using this
 ·rename_i hf
  intro j hj
  have:=JI.1 hf j hj
  simpa using this
def pos_ge (l:List It)(h:Int)(n:List UInt8)(hk:Ae l h n<l.length):AW (l.getD (Ae l h n) z0) h n=false:=by
 revert hk
 unfold Ae;split
 ·rename_i hf
  intro _
  have:=(Bp.1 hf).2.1
  simpa using this
 ·intro hk;omega
def QA {R:It→It→Prop}{l:List It}(h:l.Pairwise R){i j:Nat}(hij:i<j)(hj:j<l.length):R (l.getD i z0) (l.getD j z0):=by
 rw[getD_eq _ _ _ (by omega),getD_eq _ _ _ hj]
 exact List.pairwise_iff_getElem.1 h i j (by omega) hj hij
def aaW (l:List It)(t:It)(hs:l.Pairwise lt2)(hk:CP l t.1 t.2.1=none):∀j,Ae l t.1 t.2.1≤j→j<l.length→AW t (l.getD j z0).1 (l.getD j z0).2.1=true:=by
 intro j hj hl
 have h0:=pos_ge l t.1 t.2.1 (by omega)
 have hne (i:Nat) (hi:i<l.length):¬((l.getD i z0).1=t.1∧(l.getD i z0).2.1=t.2.1):=by
  have:=JI.1 hk i hi
  rintro⟨h1,h2⟩
  rw[h1,h2] at this
  simp at this
 have h1:=agr (hne _ (by omega)) h0
 rcases Nat.lt_or_ge (Ae l t.1 t.2.1) j with h2|h2
 ·exact ags h1 (QA hs h2 hl)
 ·have:j=Ae l t.1 t.2.1:=by omega
  rw[this];exact h1
def Be (l:List It)(t:It):List It:=l.take (Ae l t.1 t.2.1)++t::l.drop (Ae l t.1 t.2.1)
def akv (A B:List It)(x t:It)(n:Nat)(hn:A.length=n):((A++x::t::B).set (n+1) x).set n t=A++t::x::B:=by
 subst hn
 rw[zl87 _ _ (by omega),show A.length+1-A.length=1 by omega,List.set_cons_succ,zl16,zl87 _ _ (bw _),Nat.sub_self,zl16]
def get_at (A B:List It)(x:It)(n:Nat)(hn:A.length=n):(A++x::B).getD n z0=x:=by
 subst hn;simp[List.getD]
def Y2 (A B:List It)(x t:It)(n:Nat)(hn:A.length=n):(A++x::t::B).getD (n+1) z0=t:=by
 subst hn
 have:=get_at (A ++ [x]) B t (A.length+1) (by simp)
 rw[bX] at this
 exact this
def Zu (l:List It)(t:It)(k:Nat)(b i:Int)(hgt:∀j,k≤j→j<l.length→AW t (l.getD j z0).1 (l.getD j z0).2.1=true)(hst:k=0∨AW t (l.getD (k-1) z0).1 (l.getD (k-1) z0).2.1=false)(hl:l.length≤99999999) :
  ∀d,k+d≤l.length→Comes GY ((((k+d:Nat):Int),(),(),0,b,i),l.take (k+d)++t::l.drop (k+d)) (((),(),0,b,i),l.take k++t::l.drop k)
 |0,hd=>by
  refine .out ?_
  rcases zl83 k with rfl|hk
  ·have c1:decide (((0+0:Nat):Int)>0)=false:=rfl
   simp only[GY,c1,zl98,zl76,zU,zl92,aG,eF,qN]
  ·obtain⟨m,rfl⟩:∃m,k=m+1:=⟨k-1,by omega⟩
   have hs:AW t (l.getD m z0).1 (l.getD m z0).2.1=false:=by rcases hst with h|h;omega;exact h
   have hlen:(l.take m).length=m:=by rw[zl3];omega
   have e:l.take (m+1)++t::l.drop (m+1)=l.take m++l.getD m z0::t::l.drop (m+1):=by
    rw[zl88 (by omega),bX,getD_eq _ _ _ (by omega)];rfl
   have e1:(l.take m++l.getD m z0::t::l.drop (m+1)).getD (m+1) z0=t:=Y2 _ _ _ _ _ hlen
   have e2:(l.take m++l.getD m z0::t::l.drop (m+1)).getD m z0=l.getD m z0:=get_at _ _ _ _ hlen
   obtain⟨v,hv1,Fk⟩:=Tq t (l.getD m z0)
   rw[hs] at Fk
   have w1:IntKind.wrap .i64 (((m+1:Nat):Int)-1)=(m:Int):=wi (by omega) (by omega)
   have c1:decide (((m+1:Nat):Int)>0)=true:=zdt
   have ll:(l.take m++l.getD m z0::t::l.drop (m+1)).length=l.length+1:=by
    simp only[cK,kF,zl4,hlen];omega
   rw[qN,e]
   unfold z0 at e1 e2 hv1 ll ⊢
   simp only[GY,c1,w1,zl94,e1,e2,hv1,zov hv1,Fk,ll,g0,gl (show m<l.length+1 by omega),gl (show m+1<l.length+1 by omega),isSm,zl99,zU,zl92,aG,eF]
 |d+1,hd=>by
  have ih:=Zu l t k b i hgt hst hl d (by omega)
  refine .again ?_ ih
  have hs:=hgt (k+d) (by omega) (by omega)
  generalize hm:k+d=m at *
  have hm':k+(d+1)=m+1:=by omega
  rw[hm']
  have hlen:(l.take m).length=m:=by rw[zl3];omega
  have e:l.take (m+1)++t::l.drop (m+1)=l.take m++l.getD m z0::t::l.drop (m+1):=by
   rw[zl88 (by omega),bX,getD_eq _ _ _ (by omega)];rfl
  have e1:(l.take m++l.getD m z0::t::l.drop (m+1)).getD (m+1) z0=t:=Y2 _ _ _ _ _ hlen
  have e2:(l.take m++l.getD m z0::t::l.drop (m+1)).getD m z0=l.getD m z0:=get_at _ _ _ _ hlen
  have e3:((l.take m++l.getD m z0::t::l.drop (m+1)).set (m+1) (l.getD m z0)).set m t=l.take m++t::l.drop m:=by
   rw[akv _ _ _ _ _ hlen,getD_eq _ _ _ (show m<l.length by omega),zl109 (show m<l.length by omega)]
  obtain⟨v,hv1,Fk⟩:=Tq t (l.getD m z0)
  rw[hs] at Fk
  have w1:IntKind.wrap .i64 (((m+1:Nat):Int)-1)=(m:Int):=wi (by omega) (by omega)
  have c1:decide (((m+1:Nat):Int)>0)=true:=zdt
  have ll:(l.take m++l.getD m z0::t::l.drop (m+1)).length=l.length+1:=by
   simp only[cK,kF,zl4,hlen];omega
  rw[e]
  unfold z0 at e1 e2 e3 hv1 ll ⊢
  simp only[GY,c1,w1,zl94,e1,e2,e3,hv1,zov hv1,Fk,ll,zl66,g0,gl (show m<l.length+1 by omega),gl (show m+1<l.length+1 by omega),isSm,zl99,zU,zl92,aG]
def ajT (l:List It)(t:It)(hs:l.Pairwise lt2)(hk:CP l t.1 t.2.1=none)(hl:l.length≤8) :
  Wh.q4 (l ++ [t],())=some ((),Be l t,()):=by
 have hlen:(l ++ [t]).length=l.length+1:=by simp
 have hout:Comes Gg (((),1,(),0,((l.length+1:Nat):Int)),l ++ [t]) ((),Be l t):=by
  rcases zl83 l.length with h0|hpos
  ·have:l = []:=dM.1 h0
   subst this
   exact .out rfl
  ·have hend:Comes Gg (((),((l.length+1:Nat):Int),(),0,((l.length+1:Nat):Int)),Be l t) ((),Be l t):=by
    have c1:decide (((l.length+1:Nat):Int)<((l.length+1:Nat):Int))=false:=zdf
    exact .out (by simp only[Gg,c1,eF])
   have R_:Comes Gg (((),(l.length:Int),(),0,((l.length+1:Nat):Int)),l ++ [t]) ((),Be l t):=by
    have q:=Zu l t (Ae l t.1 t.2.1) ((l.length+1:Nat):Int) (l.length:Int) (aaW l t hs hk) (by
     rcases zl83 (Ae l t.1 t.2.1) with h1|h1
     ·exact .inl h1
     ·right
      have h2:=aaX l t.1 t.2.1 (Ae l t.1 t.2.1-1) (by omega)
      exact ZF h2) (by omega) (l.length-Ae l t.1 t.2.1) (by have:=Mi l t.1 t.2.1;omega)
    have hp:=Mi l t.1 t.2.1
    rw[show Ae l t.1 t.2.1+(l.length-Ae l t.1 t.2.1)=l.length by omega,zl102,List.drop_length] at q
    have c1:decide ((l.length:Int)<((l.length+1:Nat):Int))=true:=zdt
    refine .again ?_ hend
    simp only[Gg,c1,aG,cb q,cv q,mb (i:=l.length)]
    rfl
   have hmid:∀d i,1≤i→i+d=l.length→Comes Gg (((),(i:Int),(),0,((l.length+1:Nat):Int)),l ++ [t]) ((),Be l t):=by
    intro d
    induction d with
    |zero=>intro i h1 h2;have:i=l.length:=by omega
           subst this;exact R_
    |succ d ih=>
     intro i h1 h2
     refine .again ?_ (ih (i+1) (by omega) (by omega))
     obtain⟨m,rfl⟩:∃m,i=m+1:=⟨i-1,by omega⟩
     have hlt:=QA hs (i:=m) (j:=m+1) (by omega) (by omega)
     obtain⟨v,hv1,Fk⟩:=Tq (l.getD (m+1) z0) (l.getD m z0)
     rw[ZF hlt] at Fk
     have w1:IntKind.wrap .i64 (((m+1:Nat):Int)-1)=(m:Int):=wi (by omega) (by omega)
     have c0:decide (((m+1:Nat):Int)>0)=true:=zdt
     have e1:(l ++ [t]).getD (m+1) z0=l.getD (m+1) z0:=by simp[List.getD,cL (show m+1<l.length by omega)]
     have e2:(l ++ [t]).getD m z0=l.getD m z0:=by simp[List.getD,cL (show m<l.length by omega)]
     have q:Comes GY ((((m+1:Nat):Int),(),(),0,((l.length+1:Nat):Int),((m+1:Nat):Int)),l ++ [t]) (((),(),0,((l.length+1:Nat):Int),((m+1:Nat):Int)),l ++ [t]):=by
      refine .out ?_
      unfold z0 at e1 e2 hv1
      simp only[GY,c0,w1,zl94,e1,e2,hv1,zov hv1,Fk,hlen,g0,gl (show m<l.length+1 by omega),gl (show m+1<l.length+1 by omega),isSm,zl99,zU,zl92,aG,eF]
     have c1:decide (((m+1:Nat):Int)<((l.length+1:Nat):Int))=true:=zdt
     simp only[Gg,c1,aG,cb q,cv q,mb (i:=m+1)]
   exact hmid (l.length-1) 1 (bw _) (by omega)
 have hins:Wh.q0 (l ++ [t],0,((l.length+1:Nat):Int),())=some ((),Be l t,()):=by
  have w:IntKind.wrap .i64 ((0:Int)+1)=1:=by decide
  simp only[Wh.q0,w,cb hout,cv hout,aG]
 have w2:IntKind.wrap .i64 (((l.length+1:Nat):Int)-0)=((l.length+1:Nat):Int):=wi (by omega) (by omega)
 have c12:decide (((l.length+1:Nat):Int)≤12)=true:=zdt
 have hp:∀lim,Wh.q1 (l ++ [t],0,((l.length+1:Nat):Int),lim,())=some ((),Be l t,()):=by
  intro lim
  have q:Comes OJ (((),((l.length+1:Nat):Int),0,(),true,true,lim),l ++ [t]) ((),Be l t):=by
   refine .out ?_
   simp only[OJ,w2,c12,hins,zov hins,isSm,zU,aG]
  simp only[Wh.q1,cb q,cv q,aG]
 have w3:IntKind.wrap .u64 ((l.length+1:Nat):Int)=((l.length+1:Nat):Int):=by simp[IntKind.wrap,IntKind.signed,IntKind.bits];omega
 have hb:Wh.bits_Len ((l.length+1:Nat):Int)=some ((bitLen (l.length+1):Int),()):=by
  have d1:decide (((l.length+1:Nat):Int)≤18446744073709551615)=true:=zdt
  simp only[Wh.bits_Len,g0,d1,zl92,aG,zl94]
 simp only[Wh.q4,hlen,w3,hb,hp,zov (hp _),isSm,zU,zl92,aG]
structure AE (c:Ct):Prop where
 ed:0≤c.1∧c.1≤99999
 len:c.2.1.length≤8
 ok:∀t∈c.2.1,Dp t.1 t.2.1 t.2.2.2.1=true
 eds:∀t∈c.2.1,1≤t.2.2.1∧t.2.2.1≤c.1
 srt:c.2.1.Pairwise lt2
 dis:c.2.1.Pairwise (fun a b=>a.2.2.1≠b.2.2.1)
 byt:∀h:Int,nP c.2.1 h≤500
def Gf (c:Ct)(h:Int)(n t:List UInt8):Ct×Int:=
 bif !Dp h n t then(c,1) else match CP c.2.1 h n with
  |some _=>(c,2)
  |none=>if 8≤c.2.1.length∨99999≤c.1∨500<nP c.2.1 h+t.length then(c,4) else((c.1+1,Be c.2.1 (h,n,c.1+1,t,()),()),0)
def Gy (c:Ct)(h:Int)(n:List UInt8):Ct×Int:=
 match CP c.2.1 h n with
 |none=>(c,3)
 |some i=>((c.1,c.2.1.take i++c.2.1.drop (i+1),()),0)
def QG {h:Int}{n t:List UInt8}(hp:Dp h n t=true):(0≤h∧h≤1)∧C0 n=true∧1≤t.length∧t.length≤300:=by
 unfold Dp at hp
 rw[aF,aF] at hp
 exact⟨zl79 hp.1.1,hp.1.2,zl79 hp.2⟩
def Ye (c:Ct)(I:AE c):KG c=some (true,()):=by
 obtain⟨ce,l,u⟩:=c
 have hed:0≤ce∧ce≤99999:=I.ed
 have hlen:l.length≤8:=I.len
 have hok:∀t∈l,Dp t.1 t.2.1 t.2.2.2.1=true:=I.ok
 have heds:∀t∈l,1≤t.2.2.1∧t.2.2.1≤ce:=I.eds
 have hsrt:l.Pairwise lt2:=I.srt
 have gX:l.Pairwise (fun a b=>a.2.2.1≠b.2.2.1):=I.dis
 have PY:∀h:Int,nP l h≤500:=I.byt
 have hmem (i:Nat) (hi:i<l.length):l.getD i z0∈l:=by rw[getD_eq _ _ _ hi];exact zl96 hi
 have c0:=F6 ce 0 99999
 rw[zl86 hed] at c0
 have c1:decide ((l.length:Int)>8)=false:=zdf
 have q0:=s4 (r:=IG) (fun i=>(((),(i:Int)),(ce,l,u))) (n:=l.length) (y:=.inr ((),(ce,l,u))) (fun i hi=>by
  have hmm:=hmem i hi
  have hp:=hok _ hmm
  have hn:=Ox _ (QG hp).2.1
  have a1:=P7 (l.getD i z0) (by omega)
  rw[hp] at a1
  have a2:=F6 (l.getD i z0).2.2.1 1 ce
  rw[zl86 (heds _ hmm)] at a2
  have qi:=s4 (r:=KH) (fun k=>(((k:Int),(),(),(i:Int)),l.getD i z0,(ce,l,u))) (n:=i) (y:=.inr (((),(i:Int)),(ce,l,u))) (fun k hk=>by
   have hd:=QA gX hk hi
   have d1:((l.getD k ((0:Int),[],(0:Int),[],())).2.2.1==(l.getD i z0).2.2.1)=false:=zl89.2 hd
   have d2:decide ((k:Int)<(l.length:Int))=true:=gl (by omega)
   simp only[KH,gl hk,g0,zl94,d1,d2,zU,zl92,aG,eF,mb (i:=k)]) (by
   have d1:decide ((i:Int)<(i:Int))=false:=zdf
   simp only[KH,d1,eF]) 0 (lz _)
  have FE:Comes KH ((0,(),(),(i:Int)),l.getD i z0,(ce,l,u)) _:=qi
  unfold z0 at a1 a2 FE
  have wi1:=mb (i:=i)
  rcases zl83 i with h0|h0
  ·subst h0
   have d3:decide (((0:Nat):Int)>0)=false:=rfl
   simp only[IG,gl hi,g0,zl94,a1,zov a1,a2,zov a2,d3,isSm,zl70,zl98,zl93,zl76,zl99,zU,zl92,aG,eF,cb FE,cv FE,sumC,wi1]
  ·obtain⟨m,rfl⟩:∃m,i=m+1:=⟨i-1,by omega⟩
   have hl:=QA hsrt (i:=m) (j:=m+1) (by omega) hi
   have a3:=Sp (l.getD m z0) (l.getD (m+1) z0).1 (l.getD (m+1) z0).2.1
   rw[show AW _ _ _=true from hl] at a3
   unfold z0 at a3
   have w1:IntKind.wrap .i64 (((m+1:Nat):Int)-1)=(m:Int):=wi (by omega) (by omega)
   have d3:decide (((m+1:Nat):Int)>0)=true:=zdt
   simp only[IG,gl hi,gl (show m<l.length by omega),w1,g0,zl94,a1,zov a1,a2,zov a2,a3,zov a3,d3,isSm,zl70,zl98,zl99,zU,zl92,aG,eF,cb FE,cv FE,sumC,wi1]) (by
  have d1:decide ((l.length:Int)<(l.length:Int))=false:=zdf
  simp only[IG,d1,eF]) 0 (lz _)
 have q0':Comes IG (((),0),(ce,l,u)) _:=q0
 have b0:=VN l 0 (by have:=PY 0;omega) (by omega)
 have b1:=VN l 1 (by have:=PY 1;omega) (by omega)
 have e0:decide ((nP l 0:Int)>500)=false:=zl90 (by have:=PY 0;omega)
 have e1:decide ((nP l 1:Int)>500)=false:=zl90 (by have:=PY 1;omega)
 have q2:Comes MP ((0,()),(ce,l,u)) (.inr ((),())):=by
  refine .again (x':=((1,()),(ce,l,u))) ?_ (.again (x':=((2,()),(ce,l,u))) ?_ (.out rfl))
  ·simp only[MP,b0,zov b0,e0,isSm,zU,aG,eF];rfl
  ·simp only[MP,b1,zov b1,e1,isSm,zU,aG,eF];rfl
 simp only[KG,c0,zov c0,c1,isSm,zU,zl70,aG,eF,cb q0',cv q0',sumC,cb q2,cv q2]
def copy_eq (c:Ct)(h:c.2.1.length≤99999):Gn c=some (c,()):=by
 have d:decide (0+c.2.1.length≤eD)=true:=zl86 (by unfold eD;omega)
 simp only[Gn,d,zU,aG,zl17]
def Pv (c:Ct)(h:c.2.1.length≤99999):Ht c=some (c,()):=by
 have d:decide (0+c.2.1.length≤eD)=true:=zl86 (by unfold eD;omega)
 simp only[Ht,d,zU,aG,zl17]
def RC {l:List It}{h:Int}{n:List UInt8}{i:Nat}(e:CP l h n=some i):i<l.length:=(Bp.1 e).1
def RD:decide (zH none<0)=true:=rfl
def ake (c:Ct)(I:AE c)(h:Int)(n:List UInt8):G0 (c,h,n)=some (Gy c h n,()):=by
 have hl:=I.len
 have a:=Ye c I
 have b:=ac_ c h n (by omega)
 unfold Gy
 cases e:CP c.2.1 h n with
 |none=>
  rw[e] at b
  have d:=copy_eq c (by omega)
  simp only[G0,a,zov a,b,zov b,RD,d,zov d,isSm,zU,aG,eF,zl70]
 |some i=>
  rw[e] at b
  have hi:=RC e
  have w1:IntKind.wrap .i64 ((i:Int)+1)=((i+1:Nat):Int):=wi (by omega) (by omega)
  have t0:List.take (Int.toNat ((i:Int)-0)) (List.drop (Int.toNat 0) c.2.1)=c.2.1.take i:=by simp
  have t1:List.take (Int.toNat ((c.2.1.length:Int)-((i+1:Nat):Int))) (List.drop (i+1) c.2.1)=c.2.1.drop (i+1):=by
   rw[zl57];rw[zl4];omega
  have d1:decide ((c.2.1.take i).length+(c.2.1.drop (i+1)).length≤eD)=true:=zl86 (by rw[zl3,zl4];unfold eD;omega)
  have d2:decide (((i+1:Nat):Int)≤(c.2.1.length:Int))=true:=zdt
  have d3:decide ((c.2.1.length:Int)≤(c.2.1.length:Int))=true:=zdt
  have d4:decide ((i:Int)≤(c.2.1.length:Int))=true:=zdt
  have d5:decide (0+(c.2.1.take i).length≤eD)=true:=zl86 (by rw[zl3];unfold eD;omega)
  have f:MJ (c,(i:Int))=some ((c.1,c.2.1.take i++c.2.1.drop (i+1),()),()):=by
   simp only[MJ,w1,t0,t1,zl94,zl17,d1,d2,d3,d4,d5,g0,zU,zl92,aG]
  have b':Gr (c,h,n)=some ((i:Int),()):=b
  have e1:decide ((i:Int)<0)=false:=zdf
  simp only[G0,a,zov a,b',zov b',e1,f,zov f,isSm,zU,aG,eF,zl70]
def ad4 (l:List It)(i:Nat)(hi:i<l.length)(hl:l.length≤99999):q10 (l,(i:Int),((i+1:Nat):Int))=some (l.take i++l.drop (i+1),()):=by
 have le (x y:Nat) (h:x≤y):decide ((x:Int)≤(y:Int))=true:=zdt
 have t1:List.take (Int.toNat ((l.length:Int)-((i+1:Nat):Int))) (List.drop (i+1) l)=l.drop (i+1):=by
  rw[zl57];rw[zl4];omega
 have ne:((i:Int)==((i+1:Nat):Int))=false:=zl89.2 (by omega)
 have t0:Int.toNat ((i:Int)-0)=i:=by omega
 have ld:(l.drop (i+1)).length=l.length-(i+1):=by simp
 have d1:decide (Int.toNat 0+i+(l.length-(i+1))≤l.length)=true:=zl86 (by simp;omega)
 have s9:i+(l.length-(i+1))=l.length-1:=by omega
 have lp:(List.take (Int.toNat 0+i) l++(l.drop (i+1)++List.drop (Int.toNat 0+i+(l.length-(i+1))) l)).length=l.length:=by
  simp only[Int.toNat_zero,jE,cK,zl3,zl4];omega
 have d2:decide (((Int.toNat 0:Nat):Int)+(l.length:Int)≤(l.length:Int))=true:=zl86 (by simp)
 simp only[q10,t0,t1,ne,ld,d1,s9,lp,d2,g0,le i (i+1) (by omega),le (i+1) l.length (by omega),le l.length l.length (bw _),le i l.length (by omega),le (l.length-1) l.length (by omega),zl94,zU,zl92,aG,eF]
 congr 2
 rw[zl110 (by rw[zl3,lp];simp),List.take_take]
 have e1:min (l.length-1) (Int.toNat 0+(l.length-1))=l.length-1:=by simp
 rw[e1]
 have e2:(List.take (Int.toNat 0+i) l++l.drop (i+1)).length=l.length-1:=by
  simp only[Int.toNat_zero,jE,cK,zl3,zl4];omega
 rw[←bX,zl110 (by omega),zl57 (by omega)]
 simp
def afV (c:Ct)(h:Int)(n:List UInt8)(hl:c.2.1.length≤99999):q61 (c,h,n)=some (Gy c h n,()):=by
 have a:=Pv c (by omega)
 have b:=Y9 c h n (by omega)
 unfold Gy
 cases e:CP c.2.1 h n with
 |none=>
  rw[e] at b
  simp only[q61,a,zov a,b,zov b,RD,isSm,zU,aG]
 |some i=>
  rw[e] at b
  have hi:=RC e
  have b':Gt (c,h,n)=some ((i:Int),()):=b
  have e1:decide ((i:Int)<0)=false:=zdf
  have w1:IntKind.wrap .i64 ((i:Int)+1)=((i+1:Nat):Int):=wi (by omega) (by omega)
  have f:=ad4 c.2.1 i hi (by omega)
  have d5:decide (0+(c.2.1.take i++c.2.1.drop (i+1)).length≤eD)=true:=zl86 (by rw[cK,zl3,zl4];unfold eD;omega)
  simp only[q61,a,zov a,b',zov b',e1,w1,f,zov f,d5,zl17,isSm,zU,zl92,aG,eF]
def aj8 (c:Ct)(I:AE c)(h:Int)(n t:List UInt8)(hn:n.length≤9999999)(ht:t.length≤9999999):Gk (c,h,n,t)=some (Gf c h n t,()):=by
 have hl:=I.len
 have hb:=I.byt h
 have hed:=I.ed
 have a:=Ye c I
 have a2:=P7 (h,n,0,t,()) hn
 have d:=copy_eq c (by omega)
 unfold Gf
 simp only at a2
 cases hp:Dp h n t with
 |false=>
  rw[hp] at a2
  simp only[Gk,a,zov a,a2,zov a2,d,zov d,isSm,zU,aG,eF,zl70,zl98]
 |true=>
  rw[hp] at a2
  have b:=ac_ c h n (by omega)
  cases e:CP c.2.1 h n with
  |some i=>
   rw[e] at b
   have b':Gr (c,h,n)=some ((i:Int),()):=b
   have e1:decide ((i:Int)≥0)=true:=zdt
   simp only[Gk,a,zov a,a2,zov a2,b',zov b',e1,d,zov d,isSm,zU,aG,eF,zl70]
  |none=>
   rw[e] at b
   have b':Gr (c,h,n)=some (-1,()):=b
   have e1:decide ((-1:Int)≥0)=false:=rfl
   have f:=VN c.2.1 h (by omega) (by omega)
   have w1:IntKind.wrap .i64 ((nP c.2.1 h:Int)+(t.length:Int))=((nP c.2.1 h+t.length:Nat):Int):=wi (by omega) (by omega)
   have cc:(bif bif decide ((c.2.1.length:Int)≥8) then true else decide (c.1≥99999) then true else decide (((nP c.2.1 h+t.length:Nat):Int)>500))=decide (8≤c.2.1.length∨99999≤c.1∨500<nP c.2.1 h+t.length):=by
    by_cases h1:(c.2.1.length:Int)≥8
    ·rw[zl86 h1,zl86 (p:=8≤c.2.1.length∨99999≤c.1∨500<nP c.2.1 h+t.length) (by omega)];rfl
    ·rw[zl90 h1]
     by_cases h2:c.1≥99999
     ·rw[zl86 h2,zl86 (p:=8≤c.2.1.length∨99999≤c.1∨500<nP c.2.1 h+t.length) (by omega)];rfl
     ·rw[zl90 h2]
      simp only[eF]
      congr 1;simp only[eq_iff_iff];omega
   simp only[Gk,a,zov a,a2,zov a2,b',zov b',e1,f,zov f,w1,cc,d,zov d,isSm,zl99,zU,aG,eF,zl70]
   by_cases hc:8≤c.2.1.length∨99999≤c.1∨500<nP c.2.1 h+t.length
   ·rw[zl86 hc,bf hc];rfl
   ·rw[zl90 hc,bY hc]
    obtain⟨ce,l,u⟩:=c
    simp only at hed hl hc
    have hx:=D3 (r:=IN) (fun i=>(((i:Int),(),(),()),(((0:Int),(),()),(ce,l,u),(h,n,(0:Int),t,()),[]))) (n:=l.length) (p:=fun i=> !AW (l.getD i z0) h n) (yt:=fun i=>(((),(i:Int),(),()),(((0:Int),(),()),(ce,l,u),(h,n,(0:Int),t,()),[]))) (yn:=(((),(l.length:Int),(),()),(((0:Int),(),()),(ce,l,u),(h,n,(0:Int),t,()),[]))) (fun i hi hp=>by
      have q:=Sp (l.getD i z0) h n
      have hp':AW (l.getD i z0) h n=true:=by simpa using hp
      rw[hp'] at q
      unfold z0 at q
      simp only[IN,gl hi,g0,zl94,q,zov q,isSm,zl99,zU,zl92,aG,mb (i:=i)]) (fun i hi hp=>by
      have q:=Sp (l.getD i z0) h n
      have hp':AW (l.getD i z0) h n=false:=by simpa using hp
      rw[hp'] at q
      unfold z0 at q
      simp only[IN,gl hi,g0,zl94,q,zov q,isSm,zl99,zU,zl92,aG,eF]) (by
      have d1:decide ((l.length:Int)<(l.length:Int))=false:=zdf
      simp only[IN,d1,zl98,zl76,zU,zl92,aG,eF])
    have hx':Comes IN ((0,(),(),()),(((0:Int),(),()),(ce,l,u),(h,n,(0:Int),t,()),[])) (((),(Ae l h n:Int),(),()),(((0:Int),(),()),(ce,l,u),(h,n,(0:Int),t,()),[])):=by
     have:(match first l.length (fun i=> !AW (l.getD i z0) h n) with | some i=>(((),(i:Int),(),()),(((0:Int),(),()),(ce,l,u),(h,n,(0:Int),t,()),([]:List It)))|none=>(((),(l.length:Int),(),()),(((0:Int),(),()),(ce,l,u),(h,n,(0:Int),t,()),[])))=(((),(Ae l h n:Int),(),()),(((0:Int),(),()),(ce,l,u),(h,n,(0:Int),t,()),[])):=by
      unfold Ae;cases first l.length (fun i=> !AW (l.getD i z0) h n)<;>rfl
     rw[←this];exact hx
    have hpl:=Mi l h n
    have w2:IntKind.wrap .i64 (ce+1)=ce+1:=wrap64 (by omega) (by omega)
    have t0:List.take (Int.toNat ((Ae l h n:Int)-0)) (List.drop (Int.toNat 0) l)=l.take (Ae l h n):=by simp
    have t1:List.take (Int.toNat ((l.length:Int)-(Ae l h n:Int))) (List.drop (Ae l h n) l)=l.drop (Ae l h n):=by
     rw[zl57];rw[zl4];omega
    have d1 (k:Nat) (hk:k≤100):decide (k≤eD)=true:=zl86 (by unfold eD;omega)
    have d2:decide ((Ae l h n:Int)≤(l.length:Int))=true:=zdt
    have d3:decide ((l.length:Int)≤(l.length:Int))=true:=zdt
    have hf:MQ ((ce,l,u),h,n,0,t,())=some ((ce+1,Be l (h,n,ce+1,t,()),()),()):=by
     simp only[MQ,cb hx',cv hx',aG,w2,t0,t1,zl94,zl17,g0,d2,d3]
     rw[d1 _ (by simp only[cK,zl3,zl4,kF,nQ];omega),d1 _ (by simp only[zl3];omega),d1 _ (by simp only[zl3];omega)]
     simp only[zU,zl92,aG,Be,bX]
     rfl
    simp only[hf,zov hf,aG,eF]
def afO (c:Ct)(I:AE c)(h:Int)(n t:List UInt8)(hn:n.length≤9999999)(ht:t.length≤9999999):q91 (c,h,n,t)=some (Gf c h n t,()):=by
 have hl:=I.len
 have hb:=I.byt h
 have hed:=I.ed
 have a:=Pv c (by omega)
 have a2:=pub_eq h n t hn
 unfold Gf
 cases hp:Dp h n t with
 |false=>
  rw[hp] at a2
  simp only[q91,a,zov a,a2,zov a2,isSm,zU,aG,zl98]
 |true=>
  rw[hp] at a2
  have b:=Y9 c h n (by omega)
  cases e:CP c.2.1 h n with
  |some i=>
   rw[e] at b
   have b':Gt (c,h,n)=some ((i:Int),()):=b
   have e1:decide ((i:Int)≥0)=true:=zdt
   simp only[q91,a,zov a,a2,zov a2,b',zov b',e1,isSm,zU,aG,eF,zl70]
  |none=>
   rw[e] at b
   have b':Gt (c,h,n)=some (-1,()):=b
   have e1:decide ((-1:Int)≥0)=false:=rfl
   have f:=afE c h (by omega) (by omega)
   have w1:IntKind.wrap .i64 ((nP c.2.1 h:Int)+(t.length:Int))=((nP c.2.1 h+t.length:Nat):Int):=wi (by omega) (by omega)
   have cc:(bif bif(c.2.1.length:Int)==8 then true else c.1==99999 then true else decide (((nP c.2.1 h+t.length:Nat):Int)>500))=decide (8≤c.2.1.length∨99999≤c.1∨500<nP c.2.1 h+t.length):=by
    by_cases h1:(c.2.1.length:Int)=8
    ·rw[zl78.2 h1,zl86 (p:=8≤c.2.1.length∨99999≤c.1∨500<nP c.2.1 h+t.length) (by omega)];rfl
    ·rw[zl89.2 h1]
     by_cases h2:c.1=99999
     ·rw[zl78.2 h2,zl86 (p:=8≤c.2.1.length∨99999≤c.1∨500<nP c.2.1 h+t.length) (by omega)];rfl
     ·rw[zl89.2 h2]
      simp only[eF]
      congr 1;simp only[eq_iff_iff];omega
   simp only[q91,a,zov a,a2,zov a2,b',zov b',e1,f,zov f,w1,cc,isSm,zl99,zU,aG,eF,zl70]
   by_cases hc:8≤c.2.1.length∨99999≤c.1∨500<nP c.2.1 h+t.length
   ·rw[zl86 hc,bf hc];rfl
   ·rw[zl90 hc,bY hc]
    obtain⟨ce,l,u⟩:=c
    simp only at hed hl hc e
    have w2:IntKind.wrap .i64 (ce+1)=ce+1:=wrap64 (by omega) (by omega)
    have d1:decide (l.length+1≤eD)=true:=zl86 (by unfold eD;omega)
    have s:=ajT l (h,n,ce+1,t,()) I.srt e hl
    have hil:(Be l (h,n,ce+1,t,())).length=l.length+1:=by
     have:=Mi l h n
     simp only[Be,cK,kF,zl3,zl4];omega
    have k:=Pv (ce+1,Be l (h,n,ce+1,t,()),u) (by simp only[hil];omega)
    simp only[w2,d1,s,zov s,k,zov k,aG,eF]
def Zv {l:List It}{t x:It}(h:x∈Be l t):x=t∨x∈l:=by
 unfold Be at h
 rcases bB.1 h with h|h
 ·exact .inr (List.mem_of_mem_take h)
 ·rcases aX.1 h with h|h
  ·exact .inl h
  ·exact .inr (List.mem_of_mem_drop h)
def af3 (l:List It)(t:It):(Be l t).length=l.length+1:=by
 have:=Mi l t.1 t.2.1
 simp only[Be,cK,kF,zl3,zl4];omega
def af2 (l:List It)(t:It)(h:Int):nP (Be l t) h=nP l h+if t.1=h then t.2.2.2.1.length else 0:=by
 have e:nP l h=nP (l.take (Ae l t.1 t.2.1)) h+nP (l.drop (Ae l t.1 t.2.1)) h:=by rw[←LK,zl68]
 have e2:nP (t::l.drop (Ae l t.1 t.2.1)) h=(if t.1=h then t.2.2.2.1.length else 0)+nP (l.drop (Ae l t.1 t.2.1)) h:=by simp[nP]
 rw[Be,LK,e2,e];omega
def ahs {l:List It}{k:Nat}{x:It}(hk:k≤l.length)(h:x∈l.take k):∃i,i<k∧l.getD i z0=x:=by
 obtain⟨i,hi,rfl⟩:=zl100 h
 rw[zl3] at hi
 exact⟨i,by omega,by rw[getD_eq _ _ _ (by omega),List.getElem_take]⟩
def ahr {l:List It}{k:Nat}{x:It}(h:x∈l.drop k):∃i,k≤i∧i<l.length∧l.getD i z0=x:=by
 obtain⟨i,hi,rfl⟩:=zl100 h
 rw[zl4] at hi
 exact⟨k+i,by omega,by omega,by rw[getD_eq _ _ _ (by omega),List.getElem_drop]⟩
def Zw {R:It→It→Prop}{l:List It}{t:It}(h:l.Pairwise R)(h1:∀x∈l.take (Ae l t.1 t.2.1),R x t)(h2:∀x∈l.drop (Ae l t.1 t.2.1),R t x):(Be l t).Pairwise R:=by
 unfold Be
 rw[List.pairwise_append]
 have hs:(l.take (Ae l t.1 t.2.1)++l.drop (Ae l t.1 t.2.1)).Pairwise R:=by rw[zl68];exact h
 rw[List.pairwise_append] at hs
 refine⟨hs.1,List.pairwise_cons.2 ⟨h2,hs.2.1⟩,?_⟩
 intro a ha b hb
 rcases aX.1 hb with rfl|hb
 ·exact h1 a ha
 ·exact hs.2.2 a ha b hb
def ahN (c:Ct)(I:AE c)(h:Int)(n t:List UInt8):AE (Gf c h n t).1:=by
 unfold Gf
 cases hp:Dp h n t with
 |false=>exact I
 |true=>
  simp only[zl70,eF]
  cases e:CP c.2.1 h n with
  |some i=>exact I
  |none=>
   simp only
   split
   ·exact I
   ·rename_i hc
    obtain⟨ce,l,u⟩:=c
    have hed:0≤ce∧ce≤99999:=I.ed
    have hlen:l.length≤8:=I.len
    simp only at hc e ⊢
    refine⟨⟨by simp only;omega,by simp only;omega⟩,?_,?_,?_,?_,?_,?_⟩
    ·simp only[af3];omega
    ·intro x hx
     rcases Zv hx with rfl|hx
     ·exact hp
     ·exact I.ok x hx
    ·intro x hx
     rcases Zv hx with rfl|hx
     ·simp only;omega
     ·have:=I.eds x hx;simp only at this ⊢;omega
    ·refine Zw I.srt ?_ ?_
     ·intro x hx
      obtain⟨i,hi,rfl⟩:=ahs (Mi _ _ _) hx
      exact aaX l h n i hi
     ·intro x hx
      obtain⟨i,h1,h2,rfl⟩:=ahr hx
      exact aaW l (h,n,ce+1,t,()) I.srt e i h1 h2
    ·refine Zw I.dis ?_ ?_
     ·intro x hx
      have:=I.eds x (List.mem_of_mem_take hx);simp only at this ⊢;omega
     ·intro x hx
      have:=I.eds x (List.mem_of_mem_drop hx);simp only at this ⊢;omega
    ·intro g
     have hb:=I.byt g
     simp only at hb
     simp only[af2]
     by_cases hg:h=g
     ·subst hg;rw[bf rfl];omega
     ·rw[bY hg];omega
def akC (c:Ct)(I:AE c)(h:Int)(n:List UInt8):AE (Gy c h n).1:=by
 unfold Gy
 cases e:CP c.2.1 h n with
 |none=>exact I
 |some i=>
  obtain⟨ce,l,u⟩:=c
  simp only at e ⊢
  have hlen:l.length≤8:=I.len
  have hsub:(l.take i++l.drop (i+1)).Sublist l:=by
   have e1:l.take i++l.drop i=l:=zl68 ..
   have:(l.take i++l.drop (i+1)).Sublist (l.take i++l.drop i):=List.Sublist.append_left (by rw[←List.drop_drop];exact List.drop_sublist _ _) _
   rw[e1] at this;exact this
  refine⟨I.ed,?_,fun x hx=>I.ok x (hsub.subset hx),fun x hx=>I.eds x (hsub.subset hx),I.srt.sublist hsub,I.dis.sublist hsub,?_⟩
  ·have:=hsub.length_le;simp only;omega
  ·intro g
   have:=I.byt g
   simp only at this ⊢
   have e1:nP l g=nP (l.take i) g+nP (l.drop i) g:=by rw[←LK,zl68]
   have e2:nP (l.drop i) g=nP (l.drop i) g:=rfl
   have e3:nP (l.drop (i+1)) g≤nP (l.drop i) g:=by
    have hi:=RC e
    rw[zl109 hi,nP,nP,kD,zl82]
    exact Nat.le_add_left _ _
   rw[LK];omega
def Pt:AE (0,[],()):=by
 refine⟨⟨by simp,by simp⟩,by simp,by simp,by simp,.nil,.nil,by simp[nP]⟩
def C7 (h:Int)(n t:List UInt8):Bool:=decide (0≤h∧h≤1)&&C0 n&&decide (t.length≤300)
def CK (h:Int)(n t:List UInt8):List UInt8:=if C7 h n t=true then decDigits h.toNat++32::(n++58::t) else []
def Lo {h:Int}{n t:List UInt8}(hp:C7 h n t=true):(0≤h∧h≤1)∧C0 n=true∧t.length≤300:=by
 unfold C7 at hp
 rw[aF,aF] at hp
 exact⟨zl79 hp.1.1,hp.1.2,zl79 hp.2⟩
def adm (h:Int)(n t:List UInt8)(hn:n.length≤9999999)(ht:t.length≤9999999):q52 (h,n,t)=some (CK h n t,()):=by
 have body (hr:C7 h n t=true):Ca h=some (decDigits h.toNat,())∧(∀k,k≤1000→decide (k≤eD)=true)∧(decDigits h.toNat).length≤7∧n.length≤6∧t.length≤300:=by
  obtain⟨h1,h2,h3⟩:=Lo hr
  have:=Sl h.toNat (by omega)
  rw[show((h.toNat:Nat):Int)=h by omega] at this
  exact⟨this,fun k hk=>zl86 (by unfold eD;omega),Da _ (by omega),(Ox _ h2).2,h3⟩
 have fin (hr:C7 h n t=true):(bif jZ [decide (List.length ((zog Ca h).1 ++ [(32:UInt8)]++n ++ [(58:UInt8)])+List.length t≤eD),decide (List.length ((zog Ca h).1 ++ [(32:UInt8)]++n)+(1:Nat)≤eD),decide (List.length ((zog Ca h).1 ++ [(32:UInt8)])+List.length n≤eD),decide (List.length (zog Ca h).1+(1:Nat)≤eD),isSm (Ca h)] then some ((zog Ca h).1 ++ [(32:UInt8)]++n ++ [(58:UInt8)]++t,()) else none)=some (CK h n t,()):=by
  obtain⟨e,d,l1,l2,l3⟩:=body hr
  rw[zov e,e]
  simp only
  rw[d _ (by simp only[cK,zl103];omega),d _ (by simp only[cK,zl103];omega),d _ (by simp only[cK,zl103];omega),d _ (by omega)]
  simp[zU,isSm,CK,hr]
 by_cases ht0:t = []
 ·have c1:(t==([]:List UInt8))=true:=zl78.2 ht0
  have a:=P7 (h,n,0,[(120:UInt8)],()) hn
  have hr:Dp h n [120]=C7 h n t:=by subst ht0;rfl
  simp only[hr] at a
  simp only[q52,c1,aG,a,zov a,isSm,zU]
  cases hx:C7 h n t with
  |false=>simp[CK,hx]
  |true=>exact fin hx
 ·have c1:(t==([]:List UInt8))=false:=zl89.2 ht0
  have a:=P7 (h,n,0,t,()) hn
  have hr:Dp h n t=C7 h n t:=by
   have:1≤t.length:=by cases t;exact absurd rfl ht0;simp
   unfold Dp C7
   congr 2;simp only[eq_iff_iff];omega
  simp only[hr] at a
  simp only[q52,c1,eF,a,zov a,isSm,zU,aG]
  cases hx:C7 h n t with
  |false=>simp[CK,hx]
  |true=>exact fin hx
def Zi (h:Int)(n t:List UInt8)(hn:n.length≤9999999)(ht:t.length≤9999999):q38 (h,n,t)=some (CK h n t,()):=by
 have a:=Al h 0 1
 have a':CI h=some (decide (0≤h∧h≤1),()):=by simp only[CI,a,zov a,isSm,zU,aG]
 have b:=Zd n hn
 have hc:(bif bif !decide (0≤h∧h≤1) then true else !C0 n then true else decide ((t.length:Int)>300)) = !C7 h n t:=by
  unfold C7
  cases decide (0≤h∧h≤1)
  ·rfl
  ·cases C0 n
   ·rfl
   ·simp only[zl70,eF,zl92,zl108]
    by_cases h3:t.length≤300
    ·rw[zl86 h3,zdf];rfl
    ·rw[zl90 h3,zdt];rfl
 simp only[q38,a',zov a',b,zov b,hc,isSm,zl99,zU,zl92,aG]
 cases hx:C7 h n t with
 |false=>simp[CK,hx]
 |true=>
  obtain⟨h1,h2,h3⟩:=Lo hx
  have e:=P6 h.toNat (by omega)
  rw[show((h.toNat:Nat):Int)=h by omega] at e
  have d (k:Nat) (hk:k≤1000):decide (k≤eD)=true:=zl86 (by unfold eD;omega)
  have l1:=Da h.toNat (by omega)
  have l2:=(Ox _ h2).2
  simp only[zl70,eF]
  rw[zov e,e]
  simp only
  rw[d _ (by simp only[cK,zl103];omega),d _ (by simp only[cK,zl103];omega),d _ (by simp only[cK,zl103];omega),d _ (by omega)]
  simp[CK,hx]
def acX {h:Int}{n t s:List UInt8}(hs:CK h n t=s)(hne:s ≠ []):C7 h n t=true∧s=decDigits h.toNat++32::(n++58::t):=by
 unfold CK at hs
 split at hs
 ·rename_i hr;exact⟨hr,hs.symm⟩
 ·exact absurd hs.symm hne
def LI (s:List UInt8)(p:Int×List UInt8×List UInt8):Prop:=C7 p.1 p.2.1 p.2.2=true∧s=decDigits p.1.toNat++32::(p.2.1++58::p.2.2)
def QX {h:Int}{n t:List UInt8}(hr:C7 h n t=true):∀x∈decDigits h.toNat++32::n,x≠58:=by
 intro x hx
 rcases bB.1 hx with hx|hx
 ·have:=RU _ x hx
  intro e;subst e
  unfold AQ at this
  have h58:(58:UInt8).toNat=58:=rfl
  omega
 ·rcases aX.1 hx with rfl|hx
  ·decide
  ·exact aaD n (Lo hr).2.1 58 (by decide) x hx
def af6 {s:List UInt8}{p q:Int×List UInt8×List UInt8}(h:LI s p)(h':LI s q):p=q:=by
 obtain⟨h1,n1,t1⟩:=p
 obtain⟨h2,n2,t2⟩:=q
 have e:=h.2.symm.trans h'.2
 have a1:(decDigits h1.toNat++32::n1)++58::t1=(decDigits h2.toNat++32::n2)++58::t2:=by simpa using e
 obtain⟨e1,e2⟩:=NL (QX h.1) (QX h'.1) a1
 obtain⟨e3,e4⟩:=NL (EG _) (EG _) e1
 have e5:=Ym e3
 have r1:=(Lo h.1).1
 have r2:=(Lo h'.1).1
 simp only at r1 r2
 have:h1=h2:=by omega
 simp only at e4
 rw[this,e2,e4]
open Classical in
noncomputable def Ga (s:List UInt8):Option (Int×List UInt8×List UInt8):=if h:∃p,LI s p then some (Classical.choose h) else none
def aaO {s:List UInt8}{p:Int×List UInt8×List UInt8}(h:Ga s=some p):LI s p:=by
 unfold Ga at h
 split at h
 ·rename_i hex;cases h;exact zl85 hex
 ·cases h
def aaP {s:List UInt8}{p:Int×List UInt8×List UInt8}(h:LI s p):Ga s=some p:=by
 have hex:∃p,LI s p:=⟨p,h⟩
 unfold Ga
 rw[dif_pos hex]
 exact congrArg some (af6 (zl85 hex) h)
noncomputable def EE (c:Ct) (s:List UInt8):Ct×Bool:=match Ga s with
 |none=>((0,[],()),false)
 |some (h,n,t)=>if t = [] then((Gy c h n).1,(Gy c h n).2==0) else((Gf c h n t).1,(Gf c h n t).2==0)
def RR (s)(k:Nat)(hk:k≤s.length)(hs:s.length≤9999999)(from_:Int)(ls:List (List UInt8))(y):∀d i,i+d=k→(∀j,i≤j→j<k→s.getD j 0≠32)→Comes C5 (((k:Int),from_,s,(),32),ls) y→Comes C5 (((i:Int),from_,s,(),32),ls) y
 |0,i,h1,_,h3=>by have:i=k:=by omega
                  rw[this];exact h3
 |d+1,i,h1,h2,h3=>by
  refine .again ?_ (RR s k hk hs from_ ls y d (i+1) (by omega) (fun j hj=>h2 j (by omega)) h3)
  have c1:(((s.getD i 0).toNat:Int)==32)=false:=zl89.2 (by
   intro e
   exact h2 i (bw _) (by omega) (UInt8.toNat_inj.1 (by have:(32:UInt8).toNat=32:=rfl;omega)))
  simp only[C5,gl (show i<s.length by omega),g0,zl94,c1,zU,zl92,aG,eF,mb (i:=i)]
def adZ (p q:List UInt8)(hp:∀x∈p,x≠32)(hq:∀x∈q,x≠32)(hl:(p++32::q).length≤9999999):Hg (p++32::q,32)=some ([p,q],()):=by
 have hlen:(p++32::q).length=p.length+1+q.length:=by simp;omega
 have gp (j:Nat) (hj:j<p.length):(p++32::q).getD j 0≠32:=by
  simp only[List.getD,cL hj,pG hj,Option.getD_some]
  exact hp _ (zl96 hj)
 have gm:(p++32::q).getD p.length 0=32:=by rw[List.getD,c_ (bw _),Nat.sub_self];rfl
 have gq (j:Nat) (h1:p.length+1≤j) (h2:j<p.length+1+q.length):(p++32::q).getD j 0≠32:=by
  obtain⟨m,rfl⟩:∃m,j=p.length+1+m:=⟨j-(p.length+1),by omega⟩
  have e:p.length+1+m-p.length=m+1:=by omega
  rw[List.getD,c_ (by omega),e,List.getElem?_cons_succ]
  rw[pG (by omega),Option.getD_some]
  exact hq _ (zl96 _)
 have hend:Comes C5 ((((p.length+1+q.length:Nat):Int),((p.length+1:Nat):Int),p++32::q,(),32),[p]) ((((p.length+1:Nat):Int),p++32::q,()),[p]):=by
  refine .out ?_
  have c1:decide (((p.length+1+q.length:Nat):Int)<((p.length+1+q.length:Nat):Int))=false:=zdf
  simp only[C5,hlen,c1,eF]
 have h2:=RR (p++32::q) (p.length+1+q.length) (by omega) (by omega) ((p.length+1:Nat):Int) [p] _ q.length (p.length+1) (by omega) (fun j h1 h2=>gq j h1 h2) hend
 have h1:Comes C5 (((p.length:Int),0,p++32::q,(),32),[]) ((((p.length+1:Nat):Int),p++32::q,()),[p]):=by
  refine .again ?_ h2
  have c1:(((32:UInt8).toNat:Int)==32)=true:=rfl
  have t0:List.take (Int.toNat ((p.length:Int)-0)) (List.drop (Int.toNat 0) (p++32::q))=p:=by simp
  have d1:decide ((p.length:Int)≤((p.length+1+q.length:Nat):Int))=true:=zdt
  have d2:decide (([]:List (List UInt8)).length+1≤eD)=true:=rfl
  have d3:decide ((0:Int)≤0)=true:=rfl
  simp only[C5,hlen,gl (show p.length<p.length+1+q.length by omega),g0,zl94,gm,c1,t0,d1,d2,d3,zU,zl92,aG,mb (i:=p.length),zl17]
 have h0:Comes C5 ((0,0,p++32::q,(),32),[]) _:=RR (p++32::q) p.length (by omega) (by omega) 0 [] _ p.length 0 (by omega) (fun j _ h=>gp j h) h1
 have t1:List.take (Int.toNat (((p.length+1+q.length:Nat):Int)-((p.length+1:Nat):Int))) (List.drop (p.length+1) (p++32::q))=q:=by
  have:List.drop (p.length+1) (p++32::q)=q:=by rw[←List.drop_drop];simp
  rw[this,zl57 (by omega)]
 have d1:decide (((p.length+1:Nat):Int)≤((p.length+1+q.length:Nat):Int))=true:=zdt
 have d2:decide (((p.length+1+q.length:Nat):Int)≤((p.length+1+q.length:Nat):Int))=true:=zdt
 have d3:decide ([p].length+1≤eD)=true:=rfl
 simp only[Hg,cb h0,cv h0,aG,hlen,zl94,t1,g0,d1,d2,d3,zU,zl92]
 rfl
def adY (s:List UInt8)(hs:s.length≤9999999):∃l,Hg (s,32)=some (l,())∧∀x∈l,x.length≤s.length:=by
 have main:∀d i (from_:Nat) (ls:List (List UInt8)),i+d=s.length→from_≤i→ls.length≤i→(∀x∈ls,x.length≤s.length) →
   ∃(f:Nat) (l:List (List UInt8)),f≤s.length∧l.length≤s.length∧(∀x∈l,x.length≤s.length)∧Comes C5 (((i:Int),(from_:Int),s,(),32),ls) (((f:Int),s,()),l):=by
  intro d
  induction d with
  |zero=>
   intro i from_ ls h1 h2 h3 h4
   have:i=s.length:=by omega
   subst this
   have c1:decide ((s.length:Int)<(s.length:Int))=false:=zdf
   exact⟨from_,ls,h2,h3,h4,.out (by simp only[C5,c1,eF])⟩
  |succ d ih=>
   intro i from_ ls h1 h2 h3 h4
   by_cases hc:((s.getD i 0).toNat:Int)=32
   ·have hx:(List.take (Int.toNat ((i:Int)-(from_:Int))) (List.drop from_ s)).length≤s.length:=by simp;omega
    obtain⟨f,l,a1,a2,a3,a4⟩:=ih (i+1) (i+1) (ls ++ [List.take (Int.toNat ((i:Int)-(from_:Int))) (List.drop from_ s)]) (by omega) (bw _) (by simp;omega) (by
     intro x hx'
     rcases bB.1 hx' with hx'|hx'
     ·exact h4 x hx'
     ·rw[eH.1 hx'];exact hx)
    refine⟨f,l,a1,a2,a3,.again ?_ a4⟩
    have c1:(((s.getD i 0).toNat:Int)==32)=true:=zl78.2 hc
    have d1:decide ((from_:Int)≤(i:Int))=true:=zdt
    have d2:decide ((i:Int)≤(s.length:Int))=true:=zdt
    have d3:decide (ls.length+1≤eD)=true:=zl86 (by unfold eD;omega)
    simp only[C5,gl (show i<s.length by omega),g0,zl94,c1,d1,d2,d3,zU,zl92,aG,mb (i:=i)]
   ·obtain⟨f,l,a1,a2,a3,a4⟩:=ih (i+1) from_ ls (by omega) (by omega) (by omega) h4
    refine⟨f,l,a1,a2,a3,.again ?_ a4⟩
    have c1:(((s.getD i 0).toNat:Int)==32)=false:=zl89.2 hc
    simp only[C5,gl (show i<s.length by omega),g0,zl94,c1,zU,zl92,aG,eF,mb (i:=i)]
 obtain⟨f,l,a1,a2,a3,a4⟩:=main s.length 0 0 [] (by omega) (bw _) (lz _) (by simp)
 have FU:Comes C5 ((0,0,s,(),32),[]) _:=a4
 refine⟨l ++ [List.take (Int.toNat ((s.length:Int)-(f:Int))) (List.drop f s)],?_,?_⟩
 ·have d1:decide ((f:Int)≤(s.length:Int))=true:=zdt
  have d2:decide ((s.length:Int)≤(s.length:Int))=true:=zdt
  have d3:decide (l.length+1≤eD)=true:=zl86 (by unfold eD;omega)
  simp only[Hg,cb FU,cv FU,aG,zl94,g0,d1,d2,d3,zU,zl92]
 ·intro x hx
  rcases bB.1 hx with hx|hx
  ·exact a3 x hx
  ·rw[eH.1 hx];simp
def Rx {c:Ct}{s:List UInt8}(h:Ga s=none):EE c s=((0,[],()),false):=by unfold EE;rw[h]
def Ry {c:Ct}{s:List UInt8}{h:Int}{n t:List UInt8}(hp:Ga s=some (h,n,t)):EE c s=if t = [] then((Gy c h n).1,(Gy c h n).2==0) else((Gf c h n t).1,(Gf c h n t).2==0):=by unfold EE;rw[hp]
def af9 (c:Ct)(I:AE c)(s:List UInt8)(hs:s.length≤9999999):Hi (c,s)=some (EE c s,()):=by
 have le (x y:Nat) (h:x≤y):decide ((x:Int)≤(y:Int))=true:=zdt
 have g0' (k:Nat):decide ((k:Int)<0)=false:=zdf
 cases hp:Ga s with
 |some p=>
  obtain⟨h,n,t⟩:=p
  obtain⟨hr,hsh⟩:=aaO hp
  simp only at hr hsh
  obtain⟨hh,hn,ht⟩:=Lo hr
  have hnl:=Ox n hn
  have hdl:=Da h.toNat (by omega)
  have LS:s=(decDigits h.toNat++32::n)++58::t:=by rw[hsh];simp
  have hd:s.drop 0=(decDigits h.toNat++32::n)++58::t:=LS
  have f1:B_ (s,0,58)=some (((0+(decDigits h.toNat++32::n).length:Nat):Int),()):=LY s _ t 0 58 (by omega) hd (QX hr)
  rw[jE] at f1
  have hlen:s.length=(decDigits h.toNat++32::n).length+1+t.length:=by rw[LS];simp;omega
  have t1:List.take (Int.toNat (((decDigits h.toNat++32::n).length:Int)-0)) (List.drop (Int.toNat 0) s)=decDigits h.toNat++32::n:=by
   rw[show Int.toNat (((decDigits h.toNat++32::n).length:Int)-0)=(decDigits h.toNat++32::n).length by omega,show Int.toNat 0=0 from rfl,hd,List.take_left'];rfl
  have cu:=adZ (decDigits h.toNat) n (EG _) (aaD n hn 32 (by decide)) (by simp;omega)
  have w1:=zX (i:=(decDigits h.toNat++32::n).length) (by omega)
  have t2:List.take (Int.toNat ((s.length:Int)-(((decDigits h.toNat++32::n).length+1:Nat):Int))) (List.drop ((decDigits h.toNat++32::n).length+1) s)=t:=by
   have:=LN s 0 ((decDigits h.toNat++32::n) ++ [58]) t (by rw[zl84,LS];simp)
   rw[jE,cK,zl103] at this
   rw[this,zl57 (by omega)]
  have nu:=LX (decDigits h.toNat) (by omega)
  rw[bf (NU (by omega)),HT,show((h.toNat:Nat):Int)=h by omega] at nu
  have re:=adm h n t (by omega) (by omega)
  have rs:CK h n t=s:=by rw[CK,bf hr,hsh]
  rw[rs] at re
  have q0: [decDigits h.toNat,n].getD (Int.toNat 0) []=decDigits h.toNat:=rfl
  have q1: [decDigits h.toNat,n].getD (Int.toNat 1) []=n:=rfl
  have c1:(((([decDigits h.toNat,n]:List (List UInt8)).length:Nat):Int) != 2)=false:=rfl
  have c2:(s==s)=true:=zl95 _
  have tk:=ake c I h n
  have pu:=aj8 c I h n t (by omega) (by omega)
  rw[Ry hp]
  have k1:decide ((0:Int)<((([decDigits h.toNat,n]:List (List UInt8)).length:Nat):Int))=true:=rfl
  have k2:decide ((1:Int)<((([decDigits h.toNat,n]:List (List UInt8)).length:Nat):Int))=true:=rfl
  have k3:decide ((0:Int)≤0)=true:=rfl
  have k4:decide ((0:Int)≤1)=true:=rfl
  simp only[Hi,f1,zov f1,g0',t1,cu,zov cu,w1,t2,zl94,q0,q1,nu,zov nu,re,zov re,c1,c2,tk,zov tk,pu,zov pu,isSm,g0,k1,k2,k3,k4,le (decDigits h.toNat++32::n).length s.length (by omega),le ((decDigits h.toNat++32::n).length+1) s.length (by omega),le s.length s.length (bw _),zl99,zl70,zl98,zU,zl92,aG,eF]
  by_cases ht0:t = []
  ·rw[zl78.2 ht0,bf ht0];rfl
  ·rw[zl89.2 ht0,bY ht0];rfl
 |none=>
  rw[Rx hp]
  rcases Lu 58 s with h1|⟨p,t,hsh,hp58⟩
  ·have f1:B_ (s,0,58)=some (-1,()):=Sn s 0 58 (by omega) (by omega) h1
   have c1:decide ((-1:Int)<0)=true:=rfl
   simp only[Hi,f1,zov f1,c1,isSm,zU,aG]
  ·have hd:s.drop 0=p++58::t:=hsh
   have f1:B_ (s,0,58)=some (((0+p.length:Nat):Int),()):=LY s _ t 0 58 (by omega) hd hp58
   rw[jE] at f1
   have hlen:s.length=p.length+1+t.length:=by rw[hsh];simp;omega
   have t1:List.take (Int.toNat ((p.length:Int)-0)) (List.drop (Int.toNat 0) s)=p:=by
    rw[show Int.toNat ((p.length:Int)-0)=p.length by omega,show Int.toNat 0=0 from rfl,hd,List.take_left'];rfl
   obtain⟨F,cu,hF⟩:=adY p (by omega)
   have w1:=zX (i:=p.length) (by omega)
   have t2:List.take (Int.toNat ((s.length:Int)-((p.length+1:Nat):Int))) (List.drop (p.length+1) s)=t:=by
    have:=LN s 0 (p ++ [58]) t (by rw[zl84,hsh];simp)
    rw[jE,cK,zl103] at this
    rw[this,zl57 (by omega)]
   simp only[Hi,f1,zov f1,g0',t1,cu,zov cu,w1,t2,zl94,isSm,g0,le p.length s.length (by omega),le (p.length+1) s.length (by omega),le s.length s.length (bw _),zU,zl92,aG,eF]
   cases h2:((F.length:Int) != 2) with
   |true=>simp only[zl70,zl98,zl76,zl92,aG]
   |false=>
    have hF2:F.length=2:=by
     have:=bne_eq_false_iff_eq.1 h2;omega
    obtain⟨a,b,rfl⟩:∃a b,F = [a,b]:=by
     match F,hF2 with
     | [a,b],_=>exact⟨a,b,rfl⟩
    have ha:=hF a (by simp)
    have hb:=hF b (by simp)
    have q0: [a,b].getD (Int.toNat 0) []=a:=rfl
    have q1: [a,b].getD (Int.toNat 1) []=b:=rfl
    have nu:=LX a (by omega)
    have re:=adm (if isNum a then(ov a:Int) else -1) b t (by omega) (by omega)
    have k1:decide ((0:Int)<((([a,b]:List (List UInt8)).length:Nat):Int))=true:=rfl
    have k2:decide ((1:Int)<((([a,b]:List (List UInt8)).length:Nat):Int))=true:=rfl
    have k3:decide ((0:Int)≤0)=true:=rfl
    have k4:decide ((0:Int)≤1)=true:=rfl
    have hne:(CK (if isNum a then(ov a:Int) else -1) b t==s)=false:=by
     rw[zl89]
     intro e
     obtain⟨r1,r2⟩:=acX e (by rw[hsh];simp)
     rw[aaP (p:=(_,b,t)) ⟨r1,r2⟩] at hp
     cases hp
    simp only[q0,q1,nu,zov nu,re,zov re,hne,k1,k2,k3,k4,zl98,zl99,zl92,aG,eF]
def afC (c:Ct)(I:AE c)(s:List UInt8)(hs:s.length≤9999999):q39 (c,s)=some (EE c s,()):=by
 have hl:=I.len
 have e1:Wh.strings_Cut (s,[(58:UInt8)])=some (cut s [58],()):=by
  simp only[Wh.strings_Cut,zdt (p:=s.length<4294967281),aG]
 cases hp:Ga s with
 |some p=>
  obtain⟨h,n,t⟩:=p
  obtain⟨hr,hsh⟩:=aaO hp
  simp only at hr hsh
  obtain⟨hh,hn,ht⟩:=Lo hr
  have hnl:=Ox n hn
  have hdl:=Da h.toNat (by omega)
  have LS:s=(decDigits h.toNat++32::n)++58::t:=by rw[hsh];simp
  have q1:=HS 58 (decDigits h.toNat++32::n) t (QX hr)
  rw[←LS] at q1
  rw[q1] at e1
  have q2:=HS 32 (decDigits h.toNat) n (EG _)
  have e2:Wh.strings_Cut (decDigits h.toNat++32::n,[(32:UInt8)])=some ((decDigits h.toNat,n,true),()):=by
   simp only[Wh.strings_Cut,zl86 (show(decDigits h.toNat++32::n).length<4294967281 by simp;omega),aG,q2]
  have e3:D9 (decDigits h.toNat)=some ((h,true),()):=by
   simp only[D9,zdt (p:=(decDigits h.toNat).length≤281474976710656),aG,bf (NU (show h.toNat≤999999 by omega)),HT]
   rw[show((h.toNat:Nat):Int)=h by omega]
  have re:=Zi h n t (by omega) (by omega)
  have rs:CK h n t=s:=by rw[CK,bf hr,hsh]
  rw[rs] at re
  have c1:(s==([]:List UInt8))=false:=zl89.2 (by rw[LS];simp)
  have c2:(s==s)=true:=zl95 _
  have tk:=afV c h n (by omega)
  have pu:=afO c I h n t (by omega) (by omega)
  rw[Ry hp]
  simp only[q39,e1,zov e1,e2,zov e2,e3,zov e3,c1,c2,re,zov re,tk,zov tk,pu,zov pu,isSm,zl99,zl70,zl98,zU,aG,eF]
  by_cases ht0:t = []
  ·rw[zl78.2 ht0,bf ht0];rfl
  ·rw[zl89.2 ht0,bY ht0];rfl
 |none=>
  rw[Rx hp]
  have bO:(cut s [58]).1.length≤s.length∧(cut s [58]).2.1.length≤s.length:=by
   rcases Lu 58 s with h|⟨p,q,h,hp⟩
   ·rw[PC _ _ h];simp
   ·rw[h,HS _ _ _ hp];simp;omega
  generalize hc1:cut s [58]=c1 at bO e1
  have e2:Wh.strings_Cut (c1.1,[(32:UInt8)])=some (cut c1.1 [32],()):=by
   simp only[Wh.strings_Cut,zdt (p:=c1.1.length<4294967281),aG]
  have hcl2:(cut c1.1 [32]).1.length≤c1.1.length∧(cut c1.1 [32]).2.1.length≤c1.1.length:=by
   rcases Lu 32 c1.1 with h|⟨p,q,h,hp⟩
   ·rw[PC _ _ h];simp
   ·rw[h,HS _ _ _ hp];simp;omega
  generalize iB:cut c1.1 [32]=c2 at hcl2 e2
  obtain⟨v,e3⟩:∃v,D9 c2.1=some (v,()):=by
   simp only[D9,zdt (p:=c2.1.length≤281474976710656),aG]
   exact⟨_,rfl⟩
  have re:=Zi v.1 c2.2.1 c1.2.1 (by omega) (by omega)
  simp only[q39,e1,zov e1,e2,zov e2,e3,zov e3,re,zov re,isSm,zl99,zU,aG]
  have hv7:(bif s==([]:List UInt8) then true else !CK v.1 c2.2.1 c1.2.1==s)=true:=by
   by_cases hs0:s = []
   ·rw[zl78.2 hs0];rfl
   ·rw[zl89.2 hs0,eF]
    have hne:(CK v.1 c2.2.1 c1.2.1==s)=false:=by
     rw[zl89]
     intro e
     obtain⟨r1,r2⟩:=acX e hs0
     rw[aaP (p:=(v.1,c2.2.1,c1.2.1)) ⟨r1,r2⟩] at hp
     cases hp
    rw[hne];rfl
  rw[hv7,aG]
def Rw (c:Ct)(I:AE c)(s:List UInt8)(h:(EE c s).2=true):AE (EE c s).1:=by
 cases hp:Ga s with
 |none=>rw[Rx hp] at h;cases h
 |some p=>
  obtain⟨g,n,t⟩:=p
  rw[Ry hp]
  split
  ·exact akC c I g n
  ·exact ahN c I g n t
noncomputable def DA:Ct→List (List UInt8)→Option Ct
 |c,[]=>some c
 |c,r::l=>if(EE c r).2=true then DA (EE c r).1 l else none
def Yd:∀(l:List (List UInt8)) (c c':Ct),AE c→DA c l=some c'→AE c'
 | [],c,c',I,h=>by rw[DA] at h;cases h;exact I
 |r::l,c,c',I,h=>by
  rw[DA] at h
  split at h
  ·rename_i hb;exact Yd l _ c' (Rw c I r hb) h
  ·cases h
noncomputable def Cz (l:List (List UInt8)):Ct×Bool:=match DA (0,[],()) l with
 |some c=>(c,true)
 |none=>((0,[],()),false)
def adf (l:List (List UInt8))(hl:l.length≤9999999)(hr:∀r∈l,r.length≤9999999):∀d i (c:Ct),i+d=l.length→AE c →
  Comes IF (((),(i:Int),(),l),((0:Int),(),()),(c.1,(),c.2.2),[],c.2.1) (match DA c (l.drop i) with
   |some c'=>.inr (((),()),((0:Int),(),()),(c'.1,(),c'.2.2),[],c'.2.1)
   |none=>.inl (((),false),((0:Int),(),()),[]))
 |0,i,c,h1,I=>by
  have:i=l.length:=by omega
  subst this
  rw[List.drop_length,DA]
  have c1:decide ((l.length:Int)<(l.length:Int))=false:=zdf
  exact .out (by simp only[IF,c1,eF])
 |d+1,i,c,h1,I=>by
  have hi:i<l.length:=by omega
  rw[zl109 hi,DA]
  have e:=af9 c I l[i] (hr _ (zl96 hi))
  rw[←getD_eq l i [] hi] at e ⊢
  obtain⟨c1,c2,c3⟩:=c
  cases hb:(EE (c1,c2,c3) (l.getD i [])).2 with
  |true=>
   rw[bf rfl]
   refine .again ?_ (adf l hl hr d (i+1) _ (by omega) (Rw _ I _ hb))
   simp only[IF,gl hi,g0,zl94,e,zov e,hb,isSm,zU,zl92,aG,eF,zl70,mb (i:=i)]
  |false=>
   rw[bY (by simp)]
   exact .out (by simp only[IF,gl hi,g0,zl94,e,zov e,hb,isSm,zU,zl92,aG,zl98])
def ajX (l:List (List UInt8))(hl:l.length≤9999999)(hr:∀r∈l,r.length≤9999999):KF l=some (Cz l,()):=by
 have h:=adf l hl hr l.length 0 (0,[],()) (by omega) Pt
 have h':Comes IF (((),0,(),l),((0:Int),(),()),((0:Int),(),()),[],[]) _:=h
 simp only[KF,cb h',cv h',aG,zl84,Cz]
 cases DA (0,[],()) l<;>rfl
def Za (l:List (List UInt8))(hl:l.length≤9999999)(hr:∀r∈l,r.length≤9999999):∀d i (c:Ct),i+d=l.length→AE c →
  Comes ID (((),(i:Int),(),l,(l.length:Int)),((0:Int),(),()),(c.1,(),c.2.2),[],c.2.1) (match DA c (l.drop i) with
   |some c'=>.inr (((),()),((0:Int),(),()),(c'.1,(),c'.2.2),[],c'.2.1)
   |none=>.inl (((),false),((0:Int),(),()),[]))
 |0,i,c,h1,I=>by
  have:i=l.length:=by omega
  subst this
  rw[List.drop_length,DA]
  have c1:decide ((l.length:Int)<(l.length:Int))=false:=zdf
  exact .out (by simp only[ID,c1,eF])
 |d+1,i,c,h1,I=>by
  have hi:i<l.length:=by omega
  rw[zl109 hi,DA]
  have e:=afC c I l[i] (hr _ (zl96 hi))
  rw[←getD_eq l i [] hi] at e ⊢
  obtain⟨c1,c2,c3⟩:=c
  cases hb:(EE (c1,c2,c3) (l.getD i [])).2 with
  |true=>
   rw[bf rfl]
   refine .again ?_ (Za l hl hr d (i+1) _ (by omega) (Rw _ I _ hb))
   simp only[ID,gl hi,g0,zl94,e,zov e,hb,isSm,zU,zl92,aG,eF,zl70,mb (i:=i)]
  |false=>
   rw[bY (by simp)]
   exact .out (by simp only[ID,gl hi,g0,zl94,e,zov e,hb,isSm,zU,zl92,aG,zl98])
def afF (l:List (List UInt8))(hl:l.length≤9999999)(hr:∀r∈l,r.length≤9999999):MK l=some (Cz l,()):=by
 have h:=Za l hl hr l.length 0 (0,[],()) (by omega) Pt
 have h':Comes ID (((),0,(),l,(l.length:Int)),((0:Int),(),()),((0:Int),(),()),[],[]) _:=h
 simp only[MK,cb h',cv h',aG,zl84,Cz]
 cases DA (0,[],()) l<;>rfl
abbrev Fr:Type:=Int×Int×Int×Int×Bool×Unit
abbrev Po:Type:=List Fr×Int×Unit
def zF:Fr:=((0:Int),(0:Int),(0:Int),(0:Int),false,())
def mw (n lo hi:Int):Bool:=decide (lo≤n∧n≤hi)
def De (n lo hi:Int):r_ (n,lo,hi)=some (mw n lo hi,()):=F6 n lo hi
def AD (n lo hi:Int):gz (n,lo,hi)=some (mw n lo hi,()):=Al n lo hi
def Sa (n:Int):CI n=some (mw n 0 1,()):=by simp only[CI,AD,zov (AD _ _ _),isSm,zU,aG]
def okF (f:Fr):Bool:=bif f.2.1==0 then(f.1==0&&(f.2.1==0&&(f.2.2.1==0&&(f.2.2.2.1==0&&(f.2.2.2.2.1==false&&true))))) else mw f.1 0 1&&mw f.2.1 1 99999&&mw f.2.2.1 0 23&&mw f.2.2.2.1 0 99999
def ZA (f:Fr):IJ f=some (okF f,()):=by
 unfold okF
 cases h:(f.2.1==0) with
 |true=>simp only[IJ,h,aG]
 |false=>
  simp only[IJ,h,eF,De,zov (De _ _ _),isSm,zl99,zU,zl92,aG]
  cases mw f.1 0 1<;>cases mw f.2.1 1 99999<;>cases mw f.2.2.1 0 23<;>cases mw f.2.2.2.1 0 99999<;>rfl
def AG (l:List Fr)(i k:Nat):Bool:=bif bif decide ((l.getD i zF).2.1>0) then(l.getD i zF).2.1==(l.getD k zF).2.1 else false then(l.getD i zF).2.2.1==(l.getD k zF).2.2.1 else false
def Cf (l:List Fr)(i:Nat):Bool:=okF (l.getD i zF)&&xb i (fun k=> !AG l i k)
def gT (l:List Fr)(h:Int):Nat→Nat
 |0=>0
 |i+1=>gT l h i+if(bif decide ((l.getD i zF).2.1>0) then(l.getD i zF).1==h else false)=true then 1 else 0
def Tp (l:List Fr)(h:Int):∀i,gT l h i≤i
 |0=>bw _
 |i+1=>by have:=Tp l h i;rw[gT];split<;>omega
def DL (p:Po):Bool:=(p.1.length==8&&mw p.2.1 0 7)&&(xb 8 (Cf p.1)&&(decide (gT p.1 0 8≤5)&&decide (gT p.1 1 8≤5)))
def adj (p:Po)(h:Int)(hl:p.1.length≤9999999):KI (p,h)=some ((gT p.1 h p.1.length:Int),()):=by
 obtain⟨l,nx,u⟩:=p
 have hl:l.length≤9999999:=hl
 have q:=s4 (r:=II) (fun i=>(((i:Int),(gT l h i:Int),h,()),(l,nx,u))) (n:=l.length) (y:=((gT l h l.length:Int),())) (fun i hi=>by
  have hb:=Tp l h i
  cases e:(bif decide ((l.getD i zF).2.1>0) then(l.getD i zF).1==h else false) with
  |true=>
   have e2:gT l h (i+1)=gT l h i+1:=by rw[gT,bf e]
   unfold zF at e
   simp only[II,gl hi,g0,zl94,e,zl99,zU,zl92,aG,mb (i:=i),mb (i:=gT l h i),e2]
  |false=>
   have e2:gT l h (i+1)=gT l h i:=by rw[gT,e,bY (by simp)];rfl
   unfold zF at e
   simp only[II,gl hi,g0,zl94,e,zl99,zU,zl92,aG,eF,mb (i:=i),e2]) (by
  have c1:decide ((l.length:Int)<(l.length:Int))=false:=zdf
  simp only[II,c1,eF]) 0 (lz _)
 have q':Comes II ((0,0,h,()),(l,nx,u)) _:=q
 simp only[KI,cb q',cv q',aG]
def Zf (p:Po)(h:Int)(hl:p.1.length≤9999999):q99 (p,h)=some ((gT p.1 h p.1.length:Int),()):=by
 obtain⟨l,nx,u⟩:=p
 have hl:l.length≤9999999:=hl
 have q:=s4 (r:=I9) (fun i=>(((i:Int),(gT l h i:Int),h,l,(l.length:Int)),())) (n:=l.length) (y:=((gT l h l.length:Int),())) (fun i hi=>by
  have hb:=Tp l h i
  cases e:(bif decide ((l.getD i zF).2.1>0) then(l.getD i zF).1==h else false) with
  |true=>
   have e2:gT l h (i+1)=gT l h i+1:=by rw[gT,bf e]
   unfold zF at e
   simp only[I9,gl hi,g0,zl94,e,zU,zl92,aG,mb (i:=i),mb (i:=gT l h i),e2]
  |false=>
   have e2:gT l h (i+1)=gT l h i:=by rw[gT,e,bY (by simp)];rfl
   unfold zF at e
   simp only[I9,gl hi,g0,zl94,e,zU,zl92,aG,eF,mb (i:=i),e2]) (by
  have c1:decide ((l.length:Int)<(l.length:Int))=false:=zdf
  simp only[I9,c1,eF]) 0 (lz _)
 have q':Comes I9 ((0,0,h,l,(l.length:Int)),()) _:=q
 simp only[q99,cb q',cv q',aG]
def akZ (p:Po)(hl:p.1.length=8):∃y,Comes He ((0,()),p) y∧y=(if(decide (gT p.1 0 8≤5)&&decide (gT p.1 1 8≤5))=true then .inr ((),()) else .inl (false,())):=by
 have a (h:Int):=adj p h (by omega)
 rw[hl] at a
 by_cases h0:gT p.1 0 8≤5
 ·have c0:decide ((gT p.1 0 8:Int)>5)=false:=zdf
  by_cases h1:gT p.1 1 8≤5
  ·have c1:decide ((gT p.1 1 8:Int)>5)=false:=zdf
   refine⟨.inr ((),()),.again (x':=((1,()),p)) ?_ (.again (x':=((2,()),p)) ?_ (.out rfl)),by simp[h0,h1]⟩
   ·simp only[He,a,zov (a _),c0,isSm,zU,aG,eF];rfl
   ·simp only[He,a,zov (a _),c1,isSm,zU,aG,eF];rfl
  ·have c1:decide ((gT p.1 1 8:Int)>5)=true:=zdt
   refine⟨.inl (false,()),.again (x':=((1,()),p)) ?_ (.out ?_),by simp[h0,h1]⟩
   ·simp only[He,a,zov (a _),c0,isSm,zU,aG,eF];rfl
   ·simp only[He,a,zov (a _),c1,isSm,zU,aG];rfl
 ·have c0:decide ((gT p.1 0 8:Int)>5)=true:=zdt
  refine⟨.inl (false,()),.out ?_,by simp[h0]⟩
  simp only[He,a,zov (a _),c0,isSm,zU,aG];rfl
def akY (p:Po)(hl:p.1.length=8):∃y,Comes G8 ((0,()),p) y∧y=(if(decide (gT p.1 0 8≤5)&&decide (gT p.1 1 8≤5))=true then .inr ((),()) else .inl (false,())):=by
 have a (h:Int):=Zf p h (by omega)
 rw[hl] at a
 by_cases h0:gT p.1 0 8≤5
 ·have c0:decide ((gT p.1 0 8:Int)>5)=false:=zdf
  by_cases h1:gT p.1 1 8≤5
  ·have c1:decide ((gT p.1 1 8:Int)>5)=false:=zdf
   refine⟨.inr ((),()),.again (x':=((1,()),p)) ?_ (.again (x':=((2,()),p)) ?_ (.out rfl)),by simp[h0,h1]⟩
   ·simp only[G8,a,zov (a _),c0,isSm,zU,aG,eF];rfl
   ·simp only[G8,a,zov (a _),c1,isSm,zU,aG,eF];rfl
  ·have c1:decide ((gT p.1 1 8:Int)>5)=true:=zdt
   refine⟨.inl (false,()),.again (x':=((1,()),p)) ?_ (.out ?_),by simp[h0,h1]⟩
   ·simp only[G8,a,zov (a _),c0,isSm,zU,aG,eF];rfl
   ·simp only[G8,a,zov (a _),c1,isSm,zU,aG];rfl
 ·have c0:decide ((gT p.1 0 8:Int)>5)=true:=zdt
  refine⟨.inl (false,()),.out ?_,by simp[h0]⟩
  simp only[G8,a,zov (a _),c0,isSm,zU,aG];rfl
def adl (p:Po)(hp:p.1.length≤9999999):G9 p=some (DL p,()):=by
 obtain⟨l,nx,u⟩:=p
 have hlm:l.length≤9999999:=hp
 unfold DL
 by_cases hl:l.length=8
 ·have c1:((l.length:Int) != 8)=false:=by rw[hl];rfl
  have c2:(l.length==8)=true:=by rw[hl];rfl
  simp only[G9,c1,c2,De,zov (De _ _ _),eF,isSm,zl99,zU,aG,zl108]
  cases hn:mw nx 0 7 with
  |false=>rfl
  |true=>
   simp only[zl70,eF,zl108]
   have q:=CA (r:=G_) (fun i=>(((),(i:Int)),(l,nx,u))) (n:=8) (p:=Cf l) (yf:=.inl (false,())) (yt:=.inr ((),(l,nx,u))) (fun i hi _ hr=>by
     have hi8:i<l.length:=by omega
     unfold Cf at hr
     rw[aF] at hr
     have a:=ZA (l.getD i zF)
     rw[hr.1] at a
     have qi:=CA (r:=Ej) (fun k=>(((k:Int),(),(i:Int)),(l,nx,u))) (n:=i) (p:=fun k=> !AG l i k) (yf:=.inl (false,())) (yt:=.inr (((),(i:Int)),(l,nx,u))) (fun k hk _ ht=>by
       have ht':AG l i k=false:=by simpa using ht
       unfold AG zF at ht'
       simp only[Ej,gl hk,gl hi8,gl (show k<l.length by omega),g0,zl94,ht',zl99,zU,zl92,aG,eF,mb (i:=k)]) (fun k hk _ ht=>by
       have ht':AG l i k=true:=by simpa using ht
       unfold AG zF at ht'
       simp only[Ej,gl hk,gl hi8,gl (show k<l.length by omega),g0,zl94,ht',zl99,zU,zl92,aG]) (by
       have d1:decide ((i:Int)<(i:Int))=false:=zdf
       simp only[Ej,d1,eF])
     rw[bf hr.2] at qi
     have FE:Comes Ej ((0,(),(i:Int)),(l,nx,u)) _:=qi
     unfold zF at a
     simp only[G_,gl hi8,g0,zl94,a,zov a,isSm,zU,zl92,aG,zl70,eF,cb FE,cv FE,sumC,mb (i:=i)]) (fun i hi _ hr=>by
     have hi8:i<l.length:=by omega
     unfold Cf at hr
     have a:=ZA (l.getD i zF)
     cases hok:okF (l.getD i zF) with
     |false=>
      rw[hok] at a
      unfold zF at a
      simp only[G_,gl hi8,g0,zl94,a,zov a,isSm,zU,zl92,aG,zl98]
     |true=>
      rw[hok] at a
      rw[hok,zl108] at hr
      have qi:=CA (r:=Ej) (fun k=>(((k:Int),(),(i:Int)),(l,nx,u))) (n:=i) (p:=fun k=> !AG l i k) (yf:=.inl (false,())) (yt:=.inr (((),(i:Int)),(l,nx,u))) (fun k hk _ ht=>by
       have ht':AG l i k=false:=by simpa using ht
       unfold AG zF at ht'
       simp only[Ej,gl hk,gl hi8,gl (show k<l.length by omega),g0,zl94,ht',zl99,zU,zl92,aG,eF,mb (i:=k)]) (fun k hk _ ht=>by
       have ht':AG l i k=true:=by simpa using ht
       unfold AG zF at ht'
       simp only[Ej,gl hk,gl hi8,gl (show k<l.length by omega),g0,zl94,ht',zl99,zU,zl92,aG]) (by
       have d1:decide ((i:Int)<(i:Int))=false:=zdf
       simp only[Ej,d1,eF])
      rw[bY (by rw[hr];simp)] at qi
      have FE:Comes Ej ((0,(),(i:Int)),(l,nx,u)) _:=qi
      unfold zF at a
      simp only[G_,gl hi8,g0,zl94,a,zov a,isSm,zU,zl92,aG,zl70,eF,cb FE,cv FE,sumC]) (by
     have d1:decide (((8:Nat):Int)<(l.length:Int))=false:=zdf
     simp only[G_,d1,eF])
   have q':Comes G_ (((),0),(l,nx,u)) _:=q
   simp only[cb q',cv q',aG]
   cases hr:xb 8 (Cf l) with
   |false=>simp[sumC]
   |true=>
    obtain⟨y,hy,ey⟩:=akZ (l,nx,u) hl
    simp only[cj,sumC,cb hy,cv hy,aG,zl108]
    rw[ey]
    cases (decide (gT l 0 8≤5)&&decide (gT l 1 8≤5))<;>rfl
 ·have c1:((l.length:Int) != 8)=true:=bne_iff_ne.2 (by omega)
  have c2:(l.length==8)=false:=zl89.2 hl
  simp only[G9,c1,c2,aG,zl70,zl98,zl76,zU,zl93]
def find_eq (p:Po)(ed bl:Int)(hl:p.1.length≤9999999):Ho (p,ed,bl)=some (zH (first p.1.length (fun i=>bif(p.1.getD i zF).2.1==ed then(p.1.getD i zF).2.2.1==bl else false)),()):=by
 obtain⟨l,nx,u⟩:=p
 have hl:l.length≤9999999:=hl
 have q:=D3 (r:=IW) (fun i=>(((i:Int),bl,ed,l,(l.length:Int)),())) (n:=l.length) (p:=fun i=>bif(l.getD i zF).2.1==ed then(l.getD i zF).2.2.1==bl else false) (yt:=fun i=>.inl ((i:Int),())) (yn:=.inr ((),())) (fun i hi hp=>by
   have hp':(bif(l.getD i zF).2.1==ed then(l.getD i zF).2.2.1==bl else false)=false:=hp
   unfold zF at hp'
   simp only[IW,gl hi,g0,zl94,hp',zU,zl92,aG,eF,mb (i:=i)]) (fun i hi hp=>by
   have hp':(bif(l.getD i zF).2.1==ed then(l.getD i zF).2.2.1==bl else false)=true:=hp
   unfold zF at hp'
   simp only[IW,gl hi,g0,zl94,hp',zU,zl92,aG]) (by
   have d1:decide ((l.length:Int)<(l.length:Int))=false:=zdf
   simp only[IW,d1,eF])
 have q':Comes IW ((0,bl,ed,l,(l.length:Int)),()) _:=q
 simp only[Ho,cb q',cv q',aG]
 cases first l.length (fun i=>bif(l.getD i zF).2.1==ed then(l.getD i zF).2.2.1==bl else false)<;>rfl
def aei (l:List Fr)(i:Nat)(hi:i<l.length)(hpos:(l.getD i zF).2.1>0) :
  ((zH (first l.length (fun k=>bif(l.getD k zF).2.1==(l.getD i zF).2.1 then(l.getD k zF).2.2.1==(l.getD i zF).2.2.1 else false))) != (i:Int)) = !xb i (fun k=> !AG l i k):=by
 have tw (k:Nat):AG l i k=(bif(l.getD k zF).2.1==(l.getD i zF).2.1 then(l.getD k zF).2.2.1==(l.getD i zF).2.2.1 else false):=by
  unfold AG
  rw[zl86 hpos,aG]
  by_cases h1:(l.getD i zF).2.1=(l.getD k zF).2.1
  ·rw[zl78.2 h1,zl78.2 h1.symm,aG,aG]
   by_cases h2:(l.getD i zF).2.2.1=(l.getD k zF).2.2.1
   ·rw[zl78.2 h2,zl78.2 h2.symm]
   ·rw[zl89.2 h2,zl89.2 (Ne.symm h2)]
  ·rw[zl89.2 h1,zl89.2 (Ne.symm h1)];rfl
 rw[aej (q:=fun k=>AG l i k) (fun k _=>(tw k).symm)]
 have self:AG l i i=true:=by rw[tw];simp
 cases ha:xb i (fun k=> !AG l i k) with
 |true=>
  have:=BA.1 ha
  rw[Bp.2 ⟨hi,self,fun j hj=>by simpa using this j hj⟩]
  simp[zH]
 |false=>
  cases hf:first l.length (fun k=>AG l i k) with
  |none=>rfl
  |some k=>
   obtain⟨h1,h2,h3⟩:=Bp.1 hf
   have:k≠i:=by
    rintro rfl
    have:xb k (fun j=> !AG l k j)=true:=BA.2 fun j hj=>by rw[h3 j hj];rfl
    rw[this] at ha;cases ha
   simp only[zH,zl98]
   exact bne_iff_ne.2 (by omega)
def afN (p:Po)(hp:p.1.length≤9999999):Kn p=some (DL p,()):=by
 obtain⟨l,nx,u⟩:=p
 have hlm:l.length≤9999999:=hp
 unfold DL
 by_cases hl:l.length=8
 ·have c1:((l.length:Int) != 8)=false:=by rw[hl];rfl
  have c2:(l.length==8)=true:=by rw[hl];rfl
  simp only[Kn,c1,c2,AD,zov (AD _ _ _),eF,isSm,zl99,zU,aG,zl108]
  cases hn:mw nx 0 7 with
  |false=>rfl
  |true=>
   simp only[zl70,eF,zl108]
   have hrow:∀i,i<l.length→G7 (((i:Int),(),l,(l.length:Int)),(l,nx,u))=if Cf l i=true then some (.inl ((((i+1:Nat):Int),(),l,(l.length:Int)),(l,nx,u))) else some (.inr (.inl (false,()))):=by
    intro i hi
    have w:=mb (i:=i)
    have fd:=find_eq (l,nx,u) (l.getD i zF).2.1 (l.getD i zF).2.2.1 hlm
    simp only at fd
    cases hz:((l.getD i zF).2.1==0) with
    |true=>
     have hr:Cf l i=(((l.getD i zF).1==0&&((l.getD i zF).2.1==0&&((l.getD i zF).2.2.1==0&&((l.getD i zF).2.2.2.1==0&&((l.getD i zF).2.2.2.2.1==false&&true)))))):=by
      unfold Cf okF
      rw[hz,aG]
      have:xb i (fun k=> !AG l i k)=true:=BA.2 fun k _=>by
       have h0:(l.getD i zF).2.1=0:=eq_of_beq hz
       have d:decide ((l.getD i zF).2.1>0)=false:=zdf
       unfold AG
       rw[d];rfl
      rw[this,Bool.and_true]
     rw[hr]
     unfold zF at hz ⊢
     simp only[G7,gl hi,g0,zl94,hz,zU,zl92,aG,w]
     cases ((l.getD i ((0:Int),(0:Int),(0:Int),(0:Int),false,())).1==0&&(true&&((l.getD i ((0:Int),(0:Int),(0:Int),(0:Int),false,())).2.2.1==0&&((l.getD i ((0:Int),(0:Int),(0:Int),(0:Int),false,())).2.2.2.1==0&&((l.getD i ((0:Int),(0:Int),(0:Int),(0:Int),false,())).2.2.2.2.1==false&&true)))))<;>rfl
    |false=>
     have hr:Cf l i=((mw (l.getD i zF).1 0 1&&mw (l.getD i zF).2.1 1 99999&&mw (l.getD i zF).2.2.1 0 23&&mw (l.getD i zF).2.2.2.1 0 99999)&&xb i (fun k=> !AG l i k)):=by
      unfold Cf okF
      rw[hz,eF]
     have h47:(bif bif bif bif !mw (l.getD i zF).1 0 1 then true else !mw (l.getD i zF).2.1 1 99999 then true else !mw (l.getD i zF).2.2.1 0 23 then true else !mw (l.getD i zF).2.2.2.1 0 99999 then true else(zH (first l.length (fun k=>bif(l.getD k zF).2.1==(l.getD i zF).2.1 then(l.getD k zF).2.2.1==(l.getD i zF).2.2.1 else false))) != (i:Int)) = !Cf l i:=by
      rw[hr]
      cases h1:mw (l.getD i zF).2.1 1 99999 with
      |false=>cases mw (l.getD i zF).1 0 1<;>rfl
      |true=>
       have:(l.getD i zF).2.1>0:=by unfold mw at h1;have:=zl79 h1;omega
       rw[aei l i hi this]
       cases mw (l.getD i zF).1 0 1<;>cases mw (l.getD i zF).2.2.1 0 23<;>cases mw (l.getD i zF).2.2.2.1 0 99999<;>cases xb i (fun k=> !AG l i k)<;>rfl
     unfold zF at hz fd h47
     simp only[G7,gl hi,g0,zl94,hz,Sa,zov (Sa _),AD,zov (AD _ _ _),fd,zov fd,h47,isSm,zl99,zU,zl92,aG,eF,w]
     cases Cf l i<;>rfl
   have q:=CA (r:=G7) (fun i=>(((i:Int),(),l,(l.length:Int)),(l,nx,u))) (n:=8) (p:=Cf l) (yf:=.inl (false,())) (yt:=.inr ((),(l,nx,u))) (fun i hi _ hr=>by
     rw[hrow i (by omega),bf hr]) (fun i hi _ hr=>by
     rw[hrow i (by omega),bY (by rw[hr];simp)]) (by
     have d1:decide (((8:Nat):Int)<(l.length:Int))=false:=zdf
     simp only[G7,d1,eF])
   have q':Comes G7 ((0,(),l,(l.length:Int)),(l,nx,u)) _:=q
   simp only[cb q',cv q',aG]
   cases hr:xb 8 (Cf l) with
   |false=>simp[sumC]
   |true=>
    obtain⟨y,hy,ey⟩:=akY (l,nx,u) hl
    simp only[cj,sumC,cb hy,cv hy,aG,zl108]
    rw[ey]
    cases (decide (gT l 0 8≤5)&&decide (gT l 1 8≤5))<;>rfl
 ·have c1:((l.length:Int) != 8)=true:=bne_iff_ne.2 (by omega)
  have c2:(l.length==8)=false:=zl89.2 hl
  simp only[Kn,c1,c2,aG,zl70,zl98,zl76,zU,zl93]
def aea (w:an.D):Kr (w,w)=some (true,()):=by simp[Kr]
def ad_ (a:List an.D)(h:a.length≤4611686018427387904):Ml (a,a)=some (true,()):=by
 have hl:Comes Mm (((0:Int),a,a),()) (.inr ((),())):=by
  refine s4 (st:=fun i=>(((i:Int),a,a),())) (n:=a.length) ?_ ?_ 0 (lz _)
  ·intro i hi
   have h2:=zX (i:=i) (by omega)
   have h4:=aea (a[i])
   simp[Mm,zov h4,zU,h2,hi,h4,isSm]
  ·simp[Mm]
 simp[Ml,cb hl,cv hl]
def akR (a:an.D):MH a=some (a,()):=rfl
def akQ (a:List an.D)(h:a.length≤1048576):Ms a=some (a,()):=by
 have hl:Comes Kh (((0:Int),a,()),List.replicate a.length ((0:Int),([]:List UInt8),(0:Int),([]:List UInt8),())) ((),a):=by
  have:=s4 (r:=Kh) (st:=fun i=>(((i:Int),a,()),Bo a ((0:Int),([]:List UInt8),(0:Int),([]:List UInt8),()) i)) (n:=a.length) (y:=((),a)) ?_ ?_ 0 (lz _)
  ·rw[Pz] at this;exact this
  ·intro i hi
   have hi':decide ((i:Int)<(a.length:Int))=true:=by simpa using hi
   have h0:decide ((0:Int)≤(i:Int))=true:=by simp
   have he:=akR (List.getD a i ((0:Int),([]:List UInt8),(0:Int),([]:List UInt8),()))
   have hs:(Bo a ((0:Int),([]:List UInt8),(0:Int),([]:List UInt8),()) i).set i (List.getD a i ((0:Int),([]:List UInt8),(0:Int),([]:List UInt8),()))=Bo a ((0:Int),([]:List UInt8),(0:Int),([]:List UInt8),()) (i+1):=Py a _ _ i hi
   simp only[Kh,hi',h0,zl94,Px a ((0:Int),([]:List UInt8),(0:Int),([]:List UInt8),()) i (by omega),he,zov he,hs,zX (i:=i) (by omega),zU,isSm,aG,zl92]
  ·have hi':decide (((a.length:Nat):Int)<(a.length:Int))=false:=by simp
   simp only[Kh,hi',eF,Pw]
 have b0:decide ((0:Int)≤(a.length:Int))=true:=by simp
 have b1:decide ((a.length:Int)≤(eD:Int))=true:=zl86 (by unfold eD;omega)
 simp only[Ms,zl94,cb hl,cv hl,b0,b1,Int.le_refl,zl73,zU,aG,zl92]
def akz (a:an.D)(n:Int):∃v,Kw (a,n)=some (v,()):=by
 simp only[Kw]
 repeat' (first|exact⟨_,rfl⟩|refine X9 _ ?_ ?_)
def aky (a:List an.D)(n:Int)(h:a.length≤1048576):∃v,Mq (a,n)=some (v,()):=by
 have hl:∀d k:Nat,k+d=a.length→∀m:Int,∃y,Comes Kg (((k:Int),m,a),()) y:=by
  intro d
  induction d with
  |zero=>
   intro k hk m
   have hk':decide ((k:Int)<(a.length:Int))=false:=by simp;omega
   exact⟨_,.out (by simp only[Kg,hk',eF];rfl)⟩
  |succ d ih=>
   intro k hk m
   have hk':decide ((k:Int)<(a.length:Int))=true:=by simp;omega
   have h0:decide ((0:Int)≤(k:Int))=true:=by simp
   have w:=zX (i:=k) (by omega)
   obtain⟨v,hv⟩:=akz (List.getD a k ((0:Int),([]:List UInt8),(0:Int),([]:List UInt8),())) m
   cases hd:decide (v<0) with
   |true=>exact⟨_,.out (by simp only[Kg,hk',h0,zl94,hv,zov hv,hd,zU,isSm,aG,zl92];rfl)⟩
   |false=>
    obtain⟨y,hy⟩:=ih (k+1) (by omega) v
    exact⟨y,.again (by simp only[Kg,hk',h0,w,zl94,hv,zov hv,hd,zU,isSm,aG,eF,zl92]) hy⟩
 simp only[Mq]
 cases decide (IntKind.wrap .i64 (n-(a.length:Int))<0) with
 |true=>exact⟨_,rfl⟩
 |false=>
  obtain⟨y,hy⟩:=hl a.length 0 (by omega) (IntKind.wrap .i64 (n-(a.length:Int)))
  have e1:=cb hy
  have e2:=cv hy TM
  rw[show(((0:Nat):Int))=0 from rfl] at e1 e2
  simp only[e1,e2,aG,eF]
  cases y with
  |inl y=>exact⟨_,rfl⟩
  |inr y=>exact⟨_,rfl⟩
def ad9 (w:bp.D):Ke (w,w)=some (true,()):=by simp[Ke]
def ad8 (a:List bp.D)(h:a.length≤4611686018427387904):q71 (a,a)=some (true,()):=by
 have hl:Comes MV (((0:Int),a,a),()) (.inr ((),())):=by
  refine s4 (st:=fun i=>(((i:Int),a,a),())) (n:=a.length) ?_ ?_ 0 (lz _)
  ·intro i hi
   have h2:=zX (i:=i) (by omega)
   have h4:=ad9 (a[i])
   simp[MV,zov h4,zU,h2,hi,h4,isSm]
  ·simp[MV]
 simp[q71,cb hl,cv hl]
def akP (a:bp.D):Mr a=some (a,()):=rfl
def akO (a:List bp.D)(h:a.length≤1048576):q81 a=some (a,()):=by
 have hl:Comes Lg (((0:Int),a,()),List.replicate a.length ((0:Int),(0:Int),(0:Int),(0:Int),false,())) ((),a):=by
  have:=s4 (r:=Lg) (st:=fun i=>(((i:Int),a,()),Bo a ((0:Int),(0:Int),(0:Int),(0:Int),false,()) i)) (n:=a.length) (y:=((),a)) ?_ ?_ 0 (lz _)
  ·rw[Pz] at this;exact this
  ·intro i hi
   have hi':decide ((i:Int)<(a.length:Int))=true:=by simpa using hi
   have h0:decide ((0:Int)≤(i:Int))=true:=by simp
   have he:=akP (List.getD a i ((0:Int),(0:Int),(0:Int),(0:Int),false,()))
   have hs:(Bo a ((0:Int),(0:Int),(0:Int),(0:Int),false,()) i).set i (List.getD a i ((0:Int),(0:Int),(0:Int),(0:Int),false,()))=Bo a ((0:Int),(0:Int),(0:Int),(0:Int),false,()) (i+1):=Py a _ _ i hi
   simp only[Lg,hi',h0,zl94,Px a ((0:Int),(0:Int),(0:Int),(0:Int),false,()) i (by omega),he,zov he,hs,zX (i:=i) (by omega),zU,isSm,aG,zl92]
  ·have hi':decide (((a.length:Nat):Int)<(a.length:Int))=false:=by simp
   simp only[Lg,hi',eF,Pw]
 have b0:decide ((0:Int)≤(a.length:Int))=true:=by simp
 have b1:decide ((a.length:Int)≤(eD:Int))=true:=zl86 (by unfold eD;omega)
 simp only[q81,zl94,cb hl,cv hl,b0,b1,Int.le_refl,zl73,zU,aG,zl92]
def akx (a:List bp.D)(n:Int):∃v,q77 (a,n)=some (v,()):=by
 simp only[q77]
 cases decide (IntKind.wrap .i64 (n-(a.length:Int))<0)<;>exact⟨_,rfl⟩
def ad6 (w:di.D):q70 (w,w)=some (true,()):=by simp[q70]
def ad5 (a:List di.D)(h:a.length≤4611686018427387904):q45 (a,a)=some (true,()):=by
 have hl:Comes MS (((0:Int),a,a),()) (.inr ((),())):=by
  refine s4 (st:=fun i=>(((i:Int),a,a),())) (n:=a.length) ?_ ?_ 0 (lz _)
  ·intro i hi
   have h2:=zX (i:=i) (by omega)
   have h4:=ad6 (a[i])
   simp[MS,zov h4,zU,h2,hi,h4,isSm]
  ·simp[MS]
 simp[q45,cb hl,cv hl]
def akM (a:di.D):q80 a=some (a,()):=rfl
def akL (a:List di.D)(h:a.length≤1048576):q51 a=some (a,()):=by
 have hl:Comes K_ (((0:Int),a,()),List.replicate a.length ((0:Int),(0:Int),(0:Int),(0:Int),())) ((),a):=by
  have:=s4 (r:=K_) (st:=fun i=>(((i:Int),a,()),Bo a ((0:Int),(0:Int),(0:Int),(0:Int),()) i)) (n:=a.length) (y:=((),a)) ?_ ?_ 0 (lz _)
  ·rw[Pz] at this;exact this
  ·intro i hi
   have hi':decide ((i:Int)<(a.length:Int))=true:=by simpa using hi
   have h0:decide ((0:Int)≤(i:Int))=true:=by simp
   have he:=akM (List.getD a i ((0:Int),(0:Int),(0:Int),(0:Int),()))
   have hs:(Bo a ((0:Int),(0:Int),(0:Int),(0:Int),()) i).set i (List.getD a i ((0:Int),(0:Int),(0:Int),(0:Int),()))=Bo a ((0:Int),(0:Int),(0:Int),(0:Int),()) (i+1):=Py a _ _ i hi
   simp only[K_,hi',h0,zl94,Px a ((0:Int),(0:Int),(0:Int),(0:Int),()) i (by omega),he,zov he,hs,zX (i:=i) (by omega),zU,isSm,aG,zl92]
  ·have hi':decide (((a.length:Nat):Int)<(a.length:Int))=false:=by simp
   simp only[K_,hi',eF,Pw]
 have b0:decide ((0:Int)≤(a.length:Int))=true:=by simp
 have b1:decide ((a.length:Int)≤(eD:Int))=true:=zl86 (by unfold eD;omega)
 simp only[q51,zl94,cb hl,cv hl,b0,b1,Int.le_refl,zl73,zU,aG,zl92]
def akw (a:List di.D)(n:Int):∃v,q50 (a,n)=some (v,()):=by
 simp only[q50]
 cases decide (IntKind.wrap .i64 (n-(a.length:Int))<0)<;>exact⟨_,rfl⟩
def aed (w:bx.D):Kf (w,w)=some (true,()):=by simp[Kf]
def aec (a:List bx.D)(h:a.length≤4611686018427387904):q72 (a,a)=some (true,()):=by
 have hl:Comes MW (((0:Int),a,a),()) (.inr ((),())):=by
  refine s4 (st:=fun i=>(((i:Int),a,a),())) (n:=a.length) ?_ ?_ 0 (lz _)
  ·intro i hi
   have h2:=zX (i:=i) (by omega)
   have h4:=aed (a[i])
   simp[MW,zov h4,zU,h2,hi,h4,isSm]
  ·simp[MW]
 simp[q72,cb hl,cv hl]
def akU (a:bx.D):Mt a=some (a,()):=rfl
def akT (a:List bx.D)(h:a.length≤1048576):q82 a=some (a,()):=by
 have hl:Comes Lh (((0:Int),a,()),List.replicate a.length ((0:Int),(0:Int),(0:Int),(0:Int),(0:Int),(0:Int),())) ((),a):=by
  have:=s4 (r:=Lh) (st:=fun i=>(((i:Int),a,()),Bo a ((0:Int),(0:Int),(0:Int),(0:Int),(0:Int),(0:Int),()) i)) (n:=a.length) (y:=((),a)) ?_ ?_ 0 (lz _)
  ·rw[Pz] at this;exact this
  ·intro i hi
   have hi':decide ((i:Int)<(a.length:Int))=true:=by simpa using hi
   have h0:decide ((0:Int)≤(i:Int))=true:=by simp
   have he:=akU (List.getD a i ((0:Int),(0:Int),(0:Int),(0:Int),(0:Int),(0:Int),()))
   have hs:(Bo a ((0:Int),(0:Int),(0:Int),(0:Int),(0:Int),(0:Int),()) i).set i (List.getD a i ((0:Int),(0:Int),(0:Int),(0:Int),(0:Int),(0:Int),()))=Bo a ((0:Int),(0:Int),(0:Int),(0:Int),(0:Int),(0:Int),()) (i+1):=Py a _ _ i hi
   simp only[Lh,hi',h0,zl94,Px a ((0:Int),(0:Int),(0:Int),(0:Int),(0:Int),(0:Int),()) i (by omega),he,zov he,hs,zX (i:=i) (by omega),zU,isSm,aG,zl92]
  ·have hi':decide (((a.length:Nat):Int)<(a.length:Int))=false:=by simp
   simp only[Lh,hi',eF,Pw]
 have b0:decide ((0:Int)≤(a.length:Int))=true:=by simp
 have b1:decide ((a.length:Int)≤(eD:Int))=true:=zl86 (by unfold eD;omega)
 simp only[q82,zl94,cb hl,cv hl,b0,b1,Int.le_refl,zl73,zU,aG,zl92]
def akA (a:List bx.D)(n:Int):∃v,q78 (a,n)=some (v,()):=by
 simp only[q78]
 cases decide (IntKind.wrap .i64 (n-(a.length:Int))<0)<;>exact⟨_,rfl⟩
def Ju (c:fe.D):Prop:=c.2.1.length≤1048576
def EB (p:fT.D):Prop:=p.1.length≤1048576
structure Cj (s:eA.D):Prop where
 log:s.2.2.1.length≤1048576
 cat:Ju s.2.2.2.1
 items:∀x∈s.2.2.2.1.2.1,x.2.1.length≤1048576∧x.2.2.2.1.length≤1048576
 DK:EB s.2.2.2.2.1
 BN:s.2.2.2.2.2.1.length≤1048576
 Aj:s.2.2.2.2.2.2.1.length≤1048576
def ad7 (c:fe.D)(h:Ju c):MM (c,c)=some (true,()):=by
 have e:=ad_ c.2.1 (by unfold Ju at h;omega)
 simp[MM,e,zov e,zU,isSm]
def aeb (c:fT.D)(h:EB c):ME (c,c)=some (true,()):=by
 have e:=ad8 c.1 (by unfold EB at h;omega)
 simp[ME,e,zov e,zU,isSm]
def aee (s:eA.D)(h:Cj s):Eo (s,s)=some (true,()):=by
 have e1:=ad7 _ h.cat
 have e2:=aeb _ h.DK
 have e3:=ad5 s.2.2.2.2.2.1 (by have:=h.BN;omega)
 have e4:=aec s.2.2.2.2.2.2.1 (by have:=h.Aj;omega)
 simp[Eo,e1,e2,e3,e4,zov e1,zov e2,zov e3,zov e4,zU,isSm]
def akN (c:fe.D)(h:Ju c):MO c=some (c,()):=by
 have e:=akQ c.2.1 h
 simp only[MO,e,zov e,zU,isSm,aG]
def akS (c:fT.D)(h:EB c):MI c=some (c,()):=by
 have e:=akO c.1 h
 simp only[MI,e,zov e,zU,isSm,aG]
def akV (s:eA.D)(h:Cj s):Gu s=some (s,()):=by
 have e1:=akN _ h.cat
 have e2:=akS _ h.DK
 have e3:=akL s.2.2.2.2.2.1 h.BN
 have e4:=akT s.2.2.2.2.2.2.1 h.Aj
 simp only[Gu,e1,e2,e3,e4,zov e1,zov e2,zov e3,zov e4,zU,isSm,aG]
def akB (s:eA.D)(n:Int)(h:Cj s):∃v,q79 (s,n)=some (v,()):=by
 have c1:∀n,∃v,MN (s.2.2.2.1,n)=some (v,()):=by
  intro n
  obtain⟨v,hv⟩:=aky s.2.2.2.1.2.1 n h.cat
  simp only[MN,hv,zov hv,zU,isSm,aG]
  cases decide (v<0)<;>exact⟨_,rfl⟩
 have c2:∀n,∃v,MG (s.2.2.2.2.1,n)=some (v,()):=by
  intro n
  obtain⟨v,hv⟩:=akx s.2.2.2.2.1.1 n
  simp only[MG,hv,zov hv,zU,isSm,aG]
  cases decide (v<0)<;>exact⟨_,rfl⟩
 obtain⟨v1,h1⟩:=c1 (IntKind.wrap .i64 (n-(s.2.2.1.length:Int)))
 obtain⟨v2,h2⟩:=c2 v1
 obtain⟨v3,h3⟩:=akw s.2.2.2.2.2.1 v2
 obtain⟨v4,h4⟩:=akA s.2.2.2.2.2.2.1 v3
 simp only[q79,h1,h2,h3,h4,zov h1,zov h2,zov h3,zov h4,zU,isSm,aG]
 repeat' (first|exact⟨_,rfl⟩|refine X9 _ ?_ ?_)
def ajR (s:eA.D)(h:iK eA s≤1048576):Cj s:=by
 have e:iK eA s=1+(1+((s.2.2.1.length+1)+((1+(((s.2.2.2.1.2.1.map (iK an)).sum+1)+0))+((((s.2.2.2.2.1.1.map (iK bp)).sum+1)+(1+0))+(((s.2.2.2.2.2.1.map (iK di)).sum+1)+(((s.2.2.2.2.2.2.1.map (iK bx)).sum+1)+0)))))):=rfl
 rw[e] at h
 have i0:∀x:an.D,iK an x=1+((x.2.1.length+1)+(1+((x.2.2.2.1.length+1)+0))):=fun _=>rfl
 have l1:=N0 (iK an) (fun x=>by rw[i0];omega) s.2.2.2.1.2.1
 have l2:=N0 (iK bp) (fun x=>by show 1≤1+(1+(1+(1+(1+0))));omega) s.2.2.2.2.1.1
 have l3:=N0 (iK di) (fun x=>by show 1≤1+(1+(1+(1+0)));omega) s.2.2.2.2.2.1
 have l4:=N0 (iK bx) (fun x=>by show 1≤1+(1+(1+(1+(1+(1+0)))));omega) s.2.2.2.2.2.2.1
 refine⟨by omega,by show _≤_;omega,fun x hx=>?_,by show _≤_;omega,by omega,by omega⟩
 have:=ads (iK an) _ x hx
 rw[i0] at this
 exact⟨by omega,by omega⟩
end Pl
