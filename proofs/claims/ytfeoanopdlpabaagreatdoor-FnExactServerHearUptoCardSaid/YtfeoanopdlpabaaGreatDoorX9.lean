import Derived.Test.YtfeoanopdlpabaaGreatDoorX8
open Go Go.Ab Go.Lib
namespace Pl
theorem za (n lo hi:Int):Wh.xV (n,lo,hi)=some (decide (lo≤n∧n≤hi),()):=by
 by_cases h:lo≤n<;>simp[Wh.xV,h]
theorem zq (n lo hi:Int):Wh.ye (n,lo,hi)=some (decide (lo≤n∧n≤hi),()):=by
 by_cases h:lo≤n<;>simp[Wh.ye,h]
theorem Vk:∀(k n:Nat),n<10 ^ k→k≤18→1≤k→Wh.BP k (n:Int)=some (decDigits n,())
 |0,_,_,_,h=>by omega
 |k+1,n,hn,hk,_=>by
  have hb:(10:Nat) ^ (k+1)≤10 ^ 18:=Nat.pow_le_pow_right (by omega) hk
  have c1:decide ((n:Int) < -9223372036854775807)=false:=decide_eq_false (by omega)
  have c2:decide ((n:Int)<0)=false:=decide_eq_false (by omega)
  rw[Wh.Qu]
  by_cases h10:n<10
  ·have c3:decide ((n:Int)<10)=true:=decide_eq_true (by omega)
   have w1:IntKind.wrap .u8 (IntKind.wrap .i64 (48+(n:Int)))=((48+n:Nat):Int):=by
    rw[wrap64 (by omega) (by omega)]
    simp[IntKind.wrap,IntKind.signed,IntKind.bits]
    omega
   simp only[Wh.q43,c1,c2,c3,cond_false,cond_true,w1]
   rw[decDigits,dif_pos h10]
   rfl
  ·have c3:decide ((n:Int)<10)=false:=decide_eq_false (by omega)
   have hk1:1≤k:=by
    rcases k with _|k
    ·simp at hn;omega
    ·omega
   have ih:=Vk k (n / 10) (by rw[Nat.pow_succ] at hn;omega) (by omega) hk1
   have w1:IntKind.wrap .u8 (IntKind.wrap .i64 (48+Int.tmod (n:Int) 10))=((48+n % 10:Nat):Int):=by
    have:Int.tmod (n:Int) 10=((n % 10:Nat):Int):=by rw[Int.tmod_eq_emod_of_nonneg (by omega)];omega
    rw[this,wrap64 (by omega) (by omega)]
    simp[IntKind.wrap,IntKind.signed,IntKind.bits]
    omega
   have w2:IntKind.wrap .i64 (Int.tdiv (n:Int) 10)=((n / 10:Nat):Int):=by
    have:Int.tdiv (n:Int) 10=((n / 10:Nat):Int):=by rw[Int.tdiv_eq_ediv_of_nonneg (by omega)];omega
    rw[this,wrap64 (by omega) (by omega)]
   have hlen:(decDigits (n / 10)).length+1≤dh:=by
    have:=uE (n:=n / 10) (k:=18) (by omega) (by omega)
    unfold dh;omega
   simp only[Wh.q43,c1,c2,c3,cond_false,w1,w2,ih,iy,nQ,hlen,decide_true,cond_true,Bool.and_self]
   rw[decDigits.eq_1 n,dif_neg h10]
   rfl
theorem E8 (n:Nat)(h:n<10 ^ 18):Wh.Bw (n:Int)=some (decDigits n,()):=by
 have mono:∀(k:Nat) (x:Int) y,Wh.BP k x=some y→Wh.BP (k+1) x=some y:=by
  intro k
  induction k with
  |zero=>intro x y h;cases h
  |succ k ih=>
   intro x y h
   rw[Wh.Qu] at h ⊢
   unfold Wh.q43 at h ⊢
   cases c1:decide (x<(-9223372036854775807:Int)) with
   |true=>simp only[c1,cond_true] at h ⊢;exact h
   |false=>
    simp only[c1,cond_false] at h ⊢
    cases c2:decide (x<(0:Int)) with
    |true=>
     simp only[c2,cond_true] at h ⊢
     cases hr:Wh.BP k (IntKind.wrap .i64 (0-x)) with
     |none=>simp only[hr,iy,nQ,Bool.and_false,cond_false,reduceCtorEq] at h
     |some z=>simp only[hr,ih _ _ hr] at h ⊢;exact h
    |false=>
     simp only[c2,cond_false] at h ⊢
     cases c3:decide (x<(10:Int)) with
     |true=>simp only[c3,cond_true] at h ⊢;exact h
     |false=>
      simp only[c3,cond_false] at h ⊢
      cases hr:Wh.BP k (IntKind.wrap .i64 (Int.tdiv x 10)) with
      |none=>simp only[hr,iy,nQ,Bool.and_false,Bool.false_and,cond_false,reduceCtorEq] at h
      |some z=>simp only[hr,ih _ _ hr] at h ⊢;exact h
 exact mono 19 _ _ (mono 18 _ _ (Vk 18 n h (by omega) (by omega)))
theorem D4 (n:Nat)(h:n<10 ^ 18):Wh.strconv_Itoa (n:Int)=some (decDigits n,()):=by
 have h1:decide (-9223372036854775808≤(n:Int))=true:=decide_eq_true (by omega)
 have h2:decide ((n:Int)≤9223372036854775807)=true:=decide_eq_true (by omega)
 have h3:itoa (n:Int)=decDigits n:=by unfold itoa;rw[if_neg (by omega)];simp
 simp only[Wh.strconv_Itoa,h1,h2,Bool.and_self,cond_true,h3]
theorem HW (s p q:List UInt8)(at_:Nat)(b:UInt8)(hs:s.length≤4611686018427387904)(hd:s.drop at_=p++b::q)(hp:∀x∈p,x≠b) :
  Wh.zW (s,(at_:Int),(b.toNat:Int))=some (((at_+p.length:Nat):Int),()):=by
 have hlen:s.length=at_+p.length+1+q.length:=by
  have:=congrArg List.length hd
  simp only[List.length_drop,List.length_append,List.length_cons] at this
  by_cases h:at_≤s.length
  ·omega
  ·omega
 have j5:∀i,i<p.length→s.getD (at_+i) 0=p.getD i 0:=by
  intro i hi
  have:(s.drop at_).getD i 0=(p++b::q).getD i 0:=by rw[hd]
  simp only[List.getD_eq_getElem?_getD,List.getElem?_drop,List.getElem?_append_left hi] at this ⊢
  exact this
 have hb:s.getD (at_+p.length) 0=b:=by
  have:(s.drop at_).getD p.length 0=(p++b::q).getD p.length 0:=by rw[hd]
  simp only[List.getD_eq_getElem?_getD,List.getElem?_drop] at this ⊢
  rw[this]
  simp
 have hc:∀d i,i+d=p.length→Comes Wh.Dz ((((at_+i:Nat):Int),(b.toNat:Int),s),()) (.inl (((at_+p.length:Nat):Int),())):=by
  intro d
  induction d with
  |zero=>
   intro i hi
   have:i=p.length:=by omega
   subst this
   refine .out ?_
   have c1:decide (((at_+p.length:Nat):Int)<(s.length:Int))=true:=decide_eq_true (by omega)
   have c0:decide ((0:Int)≤((at_+p.length:Nat):Int))=true:=decide_eq_true (by omega)
   simp only[Wh.Dz,c1,c0,Int.toNat_natCast,hb,beq_self_eq_true,iy,cond_true,Bool.and_self]
  |succ d ih=>
   intro i hi
   refine .again ?_ (ih (i+1) (by omega))
   have c1:decide (((at_+i:Nat):Int)<(s.length:Int))=true:=decide_eq_true (by omega)
   have c0:decide ((0:Int)≤((at_+i:Nat):Int))=true:=decide_eq_true (by omega)
   have c2:((((s.getD (at_+i) 0).toNat:Nat):Int)==((b.toNat:Nat):Int))=false:=by
    rw[beq_eq_false_iff_ne]
    intro e
    have e1:(s.getD (at_+i) 0).toNat=b.toNat:=by omega
    have e2:=UInt8.toNat_inj.1 e1
    rw[j5 i (by omega)] at e2
    refine hp _ ?_ e2
    rw[getD_eq _ _ _ (by omega)]
    exact List.getElem_mem _
   have w:=mw (i:=at_+i) (by omega)
   simp only[Wh.Dz,c1,c0,Int.toNat_natCast,c2,w,iy,cond_true,cond_false,Bool.and_self]
   rfl
 have h0:=hc p.length 0 (by omega)
 rw[Nat.add_zero] at h0
 simp only[Wh.zW,cb h0,cv h0,cond_true]
theorem NW (s:List UInt8)(at_:Nat)(b:UInt8)(hs:s.length≤4611686018427387904)(ha:at_≤4611686018427387904)(hd:∀x∈s.drop at_,x≠b) :
  Wh.zW (s,(at_:Int),(b.toNat:Int))=some (-1,()):=by
 have hc:∀d i,at_+i+d=max s.length at_→Comes Wh.Dz ((((at_+i:Nat):Int),(b.toNat:Int),s),()) (.inr ((),())):=by
  intro d
  induction d with
  |zero=>
   intro i hi
   refine .out ?_
   have c1:decide (((at_+i:Nat):Int)<(s.length:Int))=false:=decide_eq_false (by omega)
   simp only[Wh.Dz,c1,cond_false]
  |succ d ih=>
   intro i hi
   refine .again ?_ (ih (i+1) (by omega))
   have hlt:at_+i<s.length:=by omega
   have c1:decide (((at_+i:Nat):Int)<(s.length:Int))=true:=decide_eq_true (by omega)
   have c0:decide ((0:Int)≤((at_+i:Nat):Int))=true:=decide_eq_true (by omega)
   have c2:((((s.getD (at_+i) 0).toNat:Nat):Int)==((b.toNat:Nat):Int))=false:=by
    rw[beq_eq_false_iff_ne]
    intro e
    have e1:(s.getD (at_+i) 0).toNat=b.toNat:=by omega
    have e2:=UInt8.toNat_inj.1 e1
    refine hd _ ?_ e2
    rw[getD_eq _ _ _ hlt]
    have:(s.drop at_)[i]'(by simp;omega)=s[at_+i]:=by simp
    rw[←this]
    exact List.getElem_mem _
   have w:=mw (i:=at_+i) (by omega)
   simp only[Wh.Dz,c1,c0,Int.toNat_natCast,c2,w,iy,cond_true,cond_false,Bool.and_self]
   rfl
 have h0:=hc (max s.length at_-at_) 0 (by omega)
 rw[Nat.add_zero] at h0
 simp only[Wh.zW,cb h0,cv h0,cond_true]
theorem Vh (c:UInt8):((bif decide (((c.toNat:Nat):Int)<48) then true else decide (((c.toNat:Nat):Int)>57))=false)↔eg c:=by
 unfold eg
 by_cases h:c.toNat<48
 ·have:decide (((c.toNat:Nat):Int)<48)=true:=by simp;omega
  simp only[this,cond_true]
  constructor
  ·intro h;cases h
  ·intro hh;omega
 ·have:decide (((c.toNat:Nat):Int)<48)=false:=by simp;omega
  simp only[this,cond_false,decide_eq_false_iff_not]
  constructor<;>intro hh<;>omega
theorem wrapU8 {x:Nat}(h:48≤x)(h':x≤57):IntKind.wrap .u8 ((x:Int)-48)=((x-48:Nat):Int):=by
 simp[IntKind.wrap,IntKind.signed,IntKind.bits]
 omega
theorem agi (s:List UInt8)(i:Nat)(h:i<s.length):er (s.take (i+1))=er (s.take i)*10+(s[i].toNat-48):=by
 rw[List.take_succ_eq_append_getElem h,qA]
theorem HV (s:List UInt8)(hs:s.length≤4611686018427387904):Wh.Cm s=some (if isNum s then(er s:Int) else -1,()):=by
 have hin:=za (s.length:Int) 1 6
 by_cases hl:1≤s.length∧s.length≤6
 ·have c0:decide ((1:Int)≤(s.length:Int)∧(s.length:Int)≤6)=true:=decide_eq_true (by omega)
  rw[c0] at hin
  by_cases hz:1<s.length∧s.getD 0 0=48
  ·have hn:¬isNum s:=by
    rintro⟨⟨h1,_,h3⟩,_⟩
    rcases h3 with h3|h3
    ·omega
    ·apply h3
     rw[getD_eq _ _ _ (by omega)] at hz
     cases s with
     |nil=>exact absurd rfl h1
     |cons a l=>simp at hz ⊢;exact hz.2
   have d1:decide ((s.length:Int)>1)=true:=decide_eq_true (by omega)
   have d2:decide ((0:Int)<(s.length:Int))=true:=decide_eq_true (by omega)
   have d3:((((s.getD (Int.toNat 0) 0).toNat:Nat):Int)==(48:Int))=true:=by
    rw[show Int.toNat 0=0 from rfl,hz.2];rfl
   simp only[Wh.Cm,hin,Wh.zY _ _ hin,d1,d2,d3,if_neg hn,iy,nQ,cond_true,cond_false,Bool.not_true,Bool.not_false,Bool.or_true,Bool.and_self,Int.le_refl,decide_true]
  ·have key:∀(b:Bool),b=decide ((s.length:Int)>1)→(bif b then((((s.getD (Int.toNat 0) 0).toNat:Nat):Int)==(48:Int)) else false)=false:=by
    intro b hb
    subst hb
    by_cases h1:1<s.length
    ·have d1:decide ((s.length:Int)>1)=true:=decide_eq_true (by omega)
     simp only[d1,cond_true,beq_eq_false_iff_ne]
     intro e
     apply hz
     refine⟨h1,?_⟩
     rw[show Int.toNat 0=0 from rfl] at e
     have:(s.getD 0 0).toNat=(48:UInt8).toNat:=by simpa using(by omega:(s.getD 0 0).toNat=48)
     exact UInt8.toNat_inj.1 this
    ·have d1:decide ((s.length:Int)>1)=false:=decide_eq_false (by omega)
     simp only[d1,cond_false]
   have d2:decide ((0:Int)<(s.length:Int))=true:=decide_eq_true (by omega)
   let p:Nat→Bool:=fun i=>decide (eg (s.getD i 0))
   have hc:=Ac (r:=Wh.FC) (st:=fun i=>(((i:Int),s,(er (s.take i):Int)),())) (n:=s.length) (p:=p) (yf:=.inl ((-1:Int),())) (yt:=.inr ((er s:Int),()))
    (fun i hi hprev aO=>by
     have hp:eg (s.getD i 0):=of_decide_eq_true aO
     have c1:decide ((i:Int)<(s.length:Int))=true:=decide_eq_true (by omega)
     have c2:decide ((0:Int)≤(i:Int))=true:=decide_eq_true (by omega)
     have c3:=(Vh (s.getD i 0)).2 hp
     have hval:er (s.take i)<10 ^ 6:=by
      have h1:=Zl (s.take i) fun c hc=>by
       obtain⟨j,hj,e⟩:=List.getElem_of_mem hc
       have hj':j<i:=by simp at hj;omega
       have:=of_decide_eq_true (hprev j hj')
       rw[getD_eq _ _ _ (by omega)] at this
       rw[←e,List.getElem_take]
       exact this
      have h2:(10:Nat) ^ (s.take i).length≤10 ^ 6:=Nat.pow_le_pow_right (by omega) (by simp;omega)
      omega
     have hg:=getD_eq s i 0 hi
     unfold eg at hp
     have w1:IntKind.wrap .i64 ((er (s.take i):Int)*10)=(er (s.take i):Int)*10:=wrap64 (by omega) (by omega)
     have w2:IntKind.wrap .u8 ((((s.getD i 0).toNat:Nat):Int)-48)=(((s.getD i 0).toNat-48:Nat):Int):=wrapU8 hp.1 hp.2
     have w3:IntKind.wrap .i64 ((((s.getD i 0).toNat-48:Nat):Int))=(((s.getD i 0).toNat-48:Nat):Int):=wrap64 (by omega) (by omega)
     have w4:IntKind.wrap .i64 ((er (s.take i):Int)*10+(((s.getD i 0).toNat-48:Nat):Int))=(er (s.take (i+1)):Int):=by
      rw[agi s i hi,wrap64 (by omega) (by omega),hg]
      omega
     simp only[Wh.FC,c1,c2,c3,Int.toNat_natCast,w1,w2,w3,w4,mw (i:=i) (by omega),iy,cond_true,cond_false,Bool.or_true,Bool.and_self])
    (fun i hi hprev aO=>by
     have hp:¬eg (s.getD i 0):=of_decide_eq_false aO
     have c1:decide ((i:Int)<(s.length:Int))=true:=decide_eq_true (by omega)
     have c2:decide ((0:Int)≤(i:Int))=true:=decide_eq_true (by omega)
     have c3:(bif decide ((((s.getD i 0).toNat:Nat):Int)<48) then true else decide ((((s.getD i 0).toNat:Nat):Int)>57))=true:=by
      cases hh:(bif decide ((((s.getD i 0).toNat:Nat):Int)<48) then true else decide ((((s.getD i 0).toNat:Nat):Int)>57)) with
      |true=>rfl
      |false=>exact absurd ((Vh _).1 hh) hp
     simp only[Wh.FC,c1,c2,c3,Int.toNat_natCast,iy,cond_true,Bool.or_true,Bool.and_self])
    (by
     have c1:decide (((s.length:Nat):Int)<(s.length:Int))=false:=decide_eq_false (by omega)
     simp only[Wh.FC,c1,cond_false,List.take_length])
   simp only[List.take_zero] at hc
   rw[show((er []:Nat):Int)=0 from rfl,show(((0:Nat):Int))=0 from rfl] at hc
   have hiff:jS s.length p=true↔isNum s:=by
    rw[oL]
    constructor
    ·intro h
     refine⟨⟨fun e=>by rw[e] at hl;simp at hl,fun c hc=>?_,?_⟩,hl.2⟩
     ·obtain⟨j,hj,e⟩:=List.getElem_of_mem hc
      have:=of_decide_eq_true (h j hj)
      rw[getD_eq _ _ _ hj,e] at this
      exact this
     ·by_cases h1:s.length=1
      ·exact .inl h1
      ·right
       intro e
       apply hz
       refine⟨by omega,?_⟩
       cases s with
       |nil=>simp at hl
       |cons a l=>simp at e ⊢;exact e
    ·intro h i hi
     refine decide_eq_true ?_
     rw[getD_eq _ _ _ hi]
     exact h.1.2.1 _ (List.getElem_mem _)
   have hk:=key _ rfl
   simp only[Wh.Cm,hin,Wh.zY _ _ hin,d2,hk,cb hc,cv hc,iy,nQ,cond_true,cond_false,Bool.not_true,Bool.not_false,Bool.or_true,Bool.and_self,Int.le_refl,decide_true]
   by_cases hn:isNum s
   ·simp only[if_pos (hiff.2 hn),if_pos hn]
   ·have:¬jS s.length p=true:=fun h=>hn (hiff.1 h)
    simp only[if_neg this,if_neg hn]
 ·have hn:¬isNum s:=by
   rintro⟨⟨h1,_⟩,h2⟩
   apply hl
   refine⟨?_,h2⟩
   rcases Nat.eq_zero_or_pos s.length with e|e
   ·exact absurd (List.length_eq_zero_iff.1 e) h1
   ·exact e
  have c0:decide ((1:Int)≤(s.length:Int)∧(s.length:Int)≤6)=false:=decide_eq_false (by omega)
  rw[c0] at hin
  simp only[Wh.Cm,hin,Wh.zY _ _ hin,if_neg hn,iy,nQ,cond_true,Bool.not_true,Bool.not_false,Bool.and_false,Bool.true_or,Bool.and_self]
end Pl
open Go Go.Ab
namespace Pl
set_option maxRecDepth 20000
theorem Y1:Wh.Br=Wh.yT:=rfl
theorem Y2:Wh.BQ=Wh.Ai:=rfl
theorem agd (x:Int)(n:Int)(h0:0≤n)(h1:n≤32):nQ (Wh.yT (x,n))=true:=by
 have e1:decide ((0:Int)≤IntKind.wrap .i64 (32-n))=true:=by rw[wrap64 (by omega) (by omega)];exact decide_eq_true (by omega)
 have e2:decide ((0:Int)≤n)=true:=decide_eq_true h0
 simp only[Wh.yT,e1,e2,iy,nQ,Bool.and_self,cond_true]
theorem wrap32 (x:Int):IntKind.wrap .u32 x=x % 4294967296:=by simp[IntKind.wrap,IntKind.signed,IntKind.bits]
theorem YX (p q a c:Int):IntKind.wrap .u32 (IntKind.wrap .u32 (IntKind.wrap .u32 (p+a)+q)+c)=IntKind.wrap .u32 (IntKind.wrap .u32 (IntKind.wrap .u32 (p+q)+a)+c):=by
 simp only[wrap32];omega
theorem afo (t a m:Int):IntKind.wrap .u32 (IntKind.wrap .u32 (t+a)+m)=IntKind.wrap .u32 (t+IntKind.wrap .u32 (a+m)):=by
 simp only[wrap32];omega
def y7 (n:Nat):List Int:=List.replicate n 0
theorem Zo (l:List Int)(n:Nat):l++y7 n ++ [(0:Int)]=l++y7 (n+1):=by
 rw[y7,y7,List.append_assoc,List.replicate_succ']
def zn (n:Nat):Nat:=(119-n % 64) % 64
theorem RY (n:Nat):(n+1+zn n) % 64=56:=by unfold zn;omega
theorem K0 (n:Nat):zn n<64:=by unfold zn;omega
theorem zn_no (n j:Nat)(h:j<zn n):(n+1+j) % 64≠56:=by unfold zn at h;omega
theorem KE (n k:Nat):Int.tmod (n:Int) (k:Int)=((n % k:Nat):Int):=by rw[Int.tmod_eq_emod_of_nonneg (by omega)];omega
def Ea (x:List UInt8):List Int:=bytesOf x ++ [128]++y7 (zn x.length)
theorem Gs (x:List UInt8):(bytesOf x).length=x.length:=by simp[bytesOf]
theorem Oz (x:List UInt8):(Ea x).length=x.length+1+zn x.length:=by simp[Ea,y7,Gs];omega
theorem acr (x:List UInt8)(h:x.length≤2147483648):Comes Wh.F0 (((),x),bytesOf x ++ [128]) (((),x),Ea x):=by
 have h0:=x7 (r:=Wh.F0) (fun i=>(((),x),bytesOf x ++ [128]++y7 i)) (n:=zn x.length) (y:=(((),x),Ea x)) (fun i hi=>by
   have hl:(bytesOf x ++ [128]++y7 i).length=x.length+1+i:=by simp[y7,Gs];omega
   have c1:(Int.tmod ((x.length+1+i:Nat):Int) (64:Int) != (56:Int))=true:=by
    have:=KE (x.length+1+i) 64
    have h2:=zn_no _ _ hi
    rw[bne_iff_ne]
    intro hc
    rw[show((64:Int))=((64:Nat):Int) from rfl,this] at hc
    omega
   have c2:decide (x.length+1+i+1≤dh)=true:=decide_eq_true (by have:=K0 x.length;unfold dh;omega)
   simp only[Wh.F0,hl,c1,c2,iy,cond_true,Zo]) (by
   have hl:(bytesOf x ++ [128]++y7 (zn x.length)).length=x.length+1+zn x.length:=by simp[y7,Gs];omega
   have c1:(Int.tmod ((x.length+1+zn x.length:Nat):Int) (64:Int) != (56:Int))=false:=by
    have:=KE (x.length+1+zn x.length) 64
    rw[show((64:Int))=((64:Nat):Int) from rfl,this,RY];rfl
   simp only[Wh.F0,hl,c1,cond_false];rfl) 0 (Nat.zero_le _)
 simpa[y7] using h0
theorem acq (x:List UInt8)(g:List Int)(h:x.length≤2147483648):Comes Wh.FU (((),(),x),bytesOf x ++ [128],g) (((),(),x),Ea x,g):=by
 have h0:=x7 (r:=Wh.FU) (fun i=>(((),(),x),bytesOf x ++ [128]++y7 i,g)) (n:=zn x.length) (y:=(((),(),x),Ea x,g)) (fun i hi=>by
   have hl:(bytesOf x ++ [128]++y7 i).length=x.length+1+i:=by simp[y7,Gs];omega
   have c1:(Int.tmod ((x.length+1+i:Nat):Int) (64:Int) != (56:Int))=true:=by
    have:=KE (x.length+1+i) 64
    have h2:=zn_no _ _ hi
    rw[bne_iff_ne]
    intro hc
    rw[show((64:Int))=((64:Nat):Int) from rfl,this] at hc
    omega
   have c2:decide (x.length+1+i+1≤dh)=true:=decide_eq_true (by have:=K0 x.length;unfold dh;omega)
   simp only[Wh.FU,hl,c1,c2,iy,cond_true,Zo]) (by
   have hl:(bytesOf x ++ [128]++y7 (zn x.length)).length=x.length+1+zn x.length:=by simp[y7,Gs];omega
   have c1:(Int.tmod ((x.length+1+zn x.length:Nat):Int) (64:Int) != (56:Int))=false:=by
    have:=KE (x.length+1+zn x.length) 64
    rw[show((64:Int))=((64:Nat):Int) from rfl,this,RY];rfl
   simp only[Wh.FU,hl,c1,cond_false];rfl) 0 (Nat.zero_le _)
 simpa[y7] using h0
def lenB (n:Int)(k:Nat):Int:=IntKind.wrap .u8 (Int.fdiv n ((2:Int) ^ (8*k)))
def AD (n:Int):Nat→List Int
 |0=>[]
 |i+1=>AD n i ++ [lenB n (7-i)]
theorem LC (n:Int):∀i,(AD n i).length=i
 |0=>rfl
 |i+1=>by rw[AD,List.length_append,LC n i];rfl
theorem abS (l:List Int)(n:Int)(h:l.length≤4294967296):Comes Wh.Hq ((7,n,()),l) ((),l++AD n 8):=by
 have h0:=x7 (r:=Wh.Hq) (fun i=>((7-(i:Int),n,()),l++AD n i)) (n:=8) (y:=((),l++AD n 8)) (fun i hi=>by
   have c1:decide ((7-(i:Int))≥0)=true:=decide_eq_true (by omega)
   have w1:IntKind.wrap .i64 (8*(7-(i:Int)))=((8*(7-i):Nat):Int):=by rw[wrap64 (by omega) (by omega)];omega
   have w2:IntKind.wrap .i64 (7-(i:Int)-1)=7-((i+1:Nat):Int):=by rw[wrap64 (by omega) (by omega)];omega
   have c2:decide ((l++AD n i).length+1≤dh)=true:=decide_eq_true (by rw[List.length_append,LC];unfold dh;omega)
   have c3:decide ((0:Int)≤((8*(7-i):Nat):Int))=true:=decide_eq_true (by omega)
   have w3:Min.min (8*(7-i)) (Go.IntKind.bits Go.IntKind.i64)=8*(7-i):=Nat.min_eq_left (by simp[IntKind.bits];omega)
   simp only[Wh.Hq,c1,w1,w2,c2,c3,iy,Bool.and_self,cond_true,Int.toNat_natCast,w3]
   rw[AD,←List.append_assoc];rfl) (by rfl) 0 (Nat.zero_le _)
 simpa[AD] using h0
theorem abR (l g:List Int)(n:Int)(h:l.length≤4294967296):Comes Wh.Hj ((56,n,(),()),l,g) (((),()),l++AD n 8,g):=by
 have h0:=x7 (r:=Wh.Hj) (fun i=>((56-8*(i:Int),n,(),()),l++AD n i,g)) (n:=8) (y:=(((),()),l++AD n 8,g)) (fun i hi=>by
   have c1:decide ((56-8*(i:Int))≥0)=true:=decide_eq_true (by omega)
   have w2:IntKind.wrap .i64 (56-8*(i:Int)-8)=56-8*((i+1:Nat):Int):=by rw[wrap64 (by omega) (by omega)];omega
   have c2:decide ((l++AD n i).length+1≤dh)=true:=decide_eq_true (by rw[List.length_append,LC];unfold dh;omega)
   have c3:decide ((0:Int)≤(56-8*(i:Int)))=true:=decide_eq_true (by omega)
   have w1:Int.toNat (56-8*(i:Int))=8*(7-i):=by omega
   have w3:Min.min (8*(7-i)) (Go.IntKind.bits Go.IntKind.u64)=8*(7-i):=Nat.min_eq_left (by simp[IntKind.bits];omega)
   simp only[Wh.Hj,c1,w1,w2,c2,iy,Bool.and_self,cond_true,w3]
   rw[AD,←List.append_assoc];rfl) (by rfl) 0 (Nat.zero_le _)
 simpa[AD] using h0
def A5 (x:List UInt8):List Int:=Ea x++AD ((x.length:Int)*8) 8
theorem OA (x:List UInt8):(A5 x).length=x.length+1+zn x.length+8:=by simp[A5,Oz,LC]
theorem WK (x:List UInt8):(A5 x).length % 64=0:=by rw[OA];have:=RY x.length;omega
theorem acs (x:List UInt8)(h:x.length≤2147483648):Wh.q90 x=some (A5 x,()):=by
 have c1:decide (x.length+1≤dh)=true:=decide_eq_true (by unfold dh;omega)
 have c2:decide (x.length≤dh)=true:=decide_eq_true (by unfold dh;omega)
 have a:=acr x h
 have w:IntKind.wrap .i64 ((x.length:Int)*8)=(x.length:Int)*8:=wrap64 (by omega) (by omega)
 have b:=abS (Ea x) ((x.length:Int)*8) (by rw[Oz];have:=K0 x.length;omega)
 simp only[Wh.q90,Gs,c1,c2,iy,Bool.and_self,cond_true,cb a,cv a,w,cb b,cv b]
 rfl
def word (b:List Int)(o i:Nat):Int:=
 nj Go.BinOp.or Go.IntKind.u32 (nj Go.BinOp.or Go.IntKind.u32 (nj Go.BinOp.or Go.IntKind.u32 (IntKind.wrap .u32 (IntKind.wrap .u32 (List.getD b (o+4*i) (0:Int))*(2:Int) ^ Min.min (Int.toNat (24:Int)) (Go.IntKind.bits Go.IntKind.u32))) (IntKind.wrap .u32 (IntKind.wrap .u32 (List.getD b (o+(4*i+1)) (0:Int))*(2:Int) ^ Min.min (Int.toNat (16:Int)) (Go.IntKind.bits Go.IntKind.u32)))) (IntKind.wrap .u32 (IntKind.wrap .u32 (List.getD b (o+(4*i+2)) (0:Int))*(2:Int) ^ Min.min (Int.toNat (8:Int)) (Go.IntKind.bits Go.IntKind.u32)))) (IntKind.wrap .u32 (List.getD b (o+(4*i+3)) (0:Int)))
def sig (x n m k:Int):Int:=nj Go.BinOp.xor Go.IntKind.u32 (nj Go.BinOp.xor Go.IntKind.u32 (Wh.Ai (x,n)).1 (Wh.Ai (x,m)).1) (Int.fdiv x ((2:Int) ^ Min.min (Int.toNat k) (Go.IntKind.bits Go.IntKind.u32)))
def ws (b:List Int)(o:Nat):Nat→List Int
 |0=>[]
 |i+1=>ws b o i ++ [if i<16 then word b o i else IntKind.wrap .u32 (IntKind.wrap .u32 (IntKind.wrap .u32 ((ws b o i).getD (i-16) 0+sig ((ws b o i).getD (i-15) 0) 7 18 3)+(ws b o i).getD (i-7) 0)+sig ((ws b o i).getD (i-2) 0) 17 19 10)]
theorem DR (b:List Int)(o:Nat):∀i,(ws b o i).length=i
 |0=>rfl
 |i+1=>by rw[ws,List.length_append,DR b o i];rfl
theorem w4 {i:Nat}(h:i≤1000):IntKind.wrap .i64 ((4:Int)*(i:Int))=((4*i:Nat):Int):=by rw[wrap64 (by omega) (by omega)];omega
theorem MY (b:List Int)(o j:Nat)(h:j<64):(List.take 64 (List.drop o b)).getD j 0=b.getD (o+j) 0:=by
 simp[List.getD,h]
theorem w41 {i:Nat}(h:i≤100000):IntKind.wrap .i64 ((i:Int)+1)=((i+1:Nat):Int):=by rw[wrap64 (by omega) (by omega)];omega
theorem w42 {i:Nat}(h:i≤100000):IntKind.wrap .i64 ((i:Int)+2)=((i+2:Nat):Int):=by rw[wrap64 (by omega) (by omega)];omega
theorem w43 {i:Nat}(h:i≤100000):IntKind.wrap .i64 ((i:Int)+3)=((i+3:Nat):Int):=by rw[wrap64 (by omega) (by omega)];omega
theorem m2 {i:Nat}(h:i≤1000)(hk:16≤i):IntKind.wrap .i64 ((i:Int)-2)=((i-2:Nat):Int):=by rw[wrap64 (by omega) (by omega)];omega
theorem m7 {i:Nat}(h:i≤1000)(hk:16≤i):IntKind.wrap .i64 ((i:Int)-7)=((i-7:Nat):Int):=by rw[wrap64 (by omega) (by omega)];omega
theorem m15 {i:Nat}(h:i≤1000)(hk:16≤i):IntKind.wrap .i64 ((i:Int)-15)=((i-15:Nat):Int):=by rw[wrap64 (by omega) (by omega)];omega
theorem m16 {i:Nat}(h:i≤1000)(hk:16≤i):IntKind.wrap .i64 ((i:Int)-16)=((i-16:Nat):Int):=by rw[wrap64 (by omega) (by omega)];omega
theorem g0 (n:Nat):decide ((0:Int)≤(n:Int))=true:=decide_eq_true (by omega)
theorem gl {n m:Nat}(hn:n<m):decide ((n:Int)<(m:Int))=true:=decide_eq_true (by omega)
theorem F2 (x:Int):nQ (Wh.yT (x,7))=true∧nQ (Wh.yT (x,18))=true∧nQ (Wh.yT (x,17))=true∧nQ (Wh.yT (x,19))=true ∧
  nQ (Wh.yT (x,6))=true∧nQ (Wh.yT (x,11))=true∧nQ (Wh.yT (x,25))=true∧nQ (Wh.yT (x,2))=true∧nQ (Wh.yT (x,13))=true∧nQ (Wh.yT (x,22))=true:=by
 refine⟨?_,?_,?_,?_,?_,?_,?_,?_,?_,?_⟩<;>exact agd _ _ (by omega) (by omega)
theorem ZL {X Y:Type}{r:X→Option (X⊕Y)}(st:Nat→X){n:Nat}{y:Y}(k:Nat)(hk:k≤n)(hs:∀i,k≤i→i<n→r (st i)=some (.inl (st (i+1))))(he:r (st n)=some (.inr y)):Comes r (st k) y:=by
 have:=x7 (r:=r) (fun i=>st (k+i)) (n:=n-k) (y:=y) (fun i hi=>hs (k+i) (by omega) (by omega)) (by rw[show k+(n-k)=n by omega];exact he) 0 (Nat.zero_le _)
 simpa using this
theorem agn (b:List Int)(o:Nat)(h:o+64≤b.length):Wh.Ix (List.take 64 (List.drop o b))=some (ws b o 64,()):=by
 have hb:(List.take 64 (List.drop o b)).length=64:=by simp;omega
 have a:=x7 (r:=Wh.GW) (fun i=>(((i:Int),List.take 64 (List.drop o b),()),ws b o i)) (n:=16) (y:=((),ws b o 16)) (fun i hi=>by
   have c1:decide ((i:Int)<16)=true:=decide_eq_true (by omega)
   have k0:=w4 (i:=i) (by omega)
   have k1:=w41 (i:=4*i) (by omega)
   have k2:=w42 (i:=4*i) (by omega)
   have k3:=w43 (i:=4*i) (by omega)
   have c2:decide ((ws b o i).length+1≤dh)=true:=decide_eq_true (by rw[DR];unfold dh;omega)
   simp only[Wh.GW,c1,k0,k1,k2,k3,c2,g0,hb,gl (show 4*i<64 by omega),gl (show 4*i+1<64 by omega),gl (show 4*i+2<64 by omega),gl (show 4*i+3<64 by omega),iy,Bool.and_self,cond_true,Int.toNat_natCast,mw (show i≤4611686018427387904 by omega),
    MY b o _ (show 4*i<64 by omega),MY b o _ (show 4*i+1<64 by omega),MY b o _ (show 4*i+2<64 by omega),MY b o _ (show 4*i+3<64 by omega)]
   rw[ws,if_pos hi];rfl) (by rfl) 0 (Nat.zero_le _)
 have c:=ZL (r:=Wh.GX) (fun i=>(((i:Int),()),ws b o i)) (n:=64) (y:=((),ws b o 64)) 16 (by omega) (fun i hi0 hi=>by
   have c1:decide ((i:Int)<64)=true:=decide_eq_true (by omega)
   have c2:decide ((ws b o i).length+1≤dh)=true:=decide_eq_true (by rw[DR];unfold dh;omega)
   obtain⟨t7,t18,t17,t19,_⟩:=F2 ((ws b o i).getD (i-15) 0)
   obtain⟨_,_,t17,t19,_⟩:=F2 ((ws b o i).getD (i-2) 0)
   rw[DR] at c2
   simp only[Wh.GX,c1,c2,m2 (show i≤1000 by omega) hi0,m7 (show i≤1000 by omega) hi0,m15 (show i≤1000 by omega) hi0,m16 (show i≤1000 by omega) hi0,g0,DR,gl (show i-2<i by omega),gl (show i-7<i by omega),gl (show i-15<i by omega),gl (show i-16<i by omega),t7,t18,t17,t19,iy,Bool.and_self,cond_true,Int.toNat_natCast,mw (show i≤4611686018427387904 by omega)]
   rw[ws,if_neg (by omega)];rfl) (by rfl)
 have a':Comes Wh.GW ((0,List.take 64 (List.drop o b),()),[]) ((),ws b o 16):=a
 have c':Comes Wh.GX ((16,()),ws b o 16) ((),ws b o 64):=c
 simp only[Wh.Ix,cb a',cv a',cb c',cv c',cond_true]
def arr (l:List Int):List Int:=l++y7 (64-l.length)
theorem Zw (l:List Int)(j:Nat)(h:j<l.length):(arr l).getD j 0=l.getD j 0:=by
 simp[arr,List.getD,List.getElem?_append_left h]
theorem Zx (l:List Int)(x:Int)(h:l.length<64):(arr l).set l.length x=arr (l ++ [x]):=by
 rw[arr,arr,y7,y7,List.set_append_right _ _ (Nat.le_refl _),Nat.sub_self,show 64-l.length=(64-(l ++ [x]).length)+1 by simp;omega,List.replicate_succ,List.set_cons_zero,List.append_assoc];rfl
theorem agm (b g:List Int)(o n:Nat)(h:64≤n):Comes Wh.FW (((0,(),(o,n),()),y7 64,b,g)) (((),(),o,n),ws b o 64,g,b):=by
 have a:=x7 (r:=Wh.FW) (fun i=>(((i:Int),(),(o,n),()),arr (ws b o i),b,g)) (n:=64) (y:=(((),(),o,n),ws b o 64,g,b)) (fun i hi=>by
   have c1:decide ((i:Int)<64)=true:=decide_eq_true (by omega)
   have hs:=Zx (ws b o i) (if i<16 then word b o i else IntKind.wrap .u32 (IntKind.wrap .u32 (IntKind.wrap .u32 ((ws b o i).getD (i-16) 0+sig ((ws b o i).getD (i-15) 0) 7 18 3)+(ws b o i).getD (i-7) 0)+sig ((ws b o i).getD (i-2) 0) 17 19 10)) (by rw[DR];exact hi)
   rw[DR] at hs
   by_cases h16:i<16
   ·have c2:decide ((i:Int)<16)=true:=decide_eq_true (by omega)
    have k0:=w4 (i:=i) (by omega)
    have k1:=w41 (i:=4*i) (by omega)
    have k2:=w42 (i:=4*i) (by omega)
    have k3:=w43 (i:=4*i) (by omega)
    rw[if_pos h16] at hs
    unfold word at hs
    simp only[Wh.FW,c1,k0,k1,k2,k3,c2,g0,gl hi,gl (show 4*i<n by omega),gl (show 4*i+1<n by omega),gl (show 4*i+2<n by omega),gl (show 4*i+3<n by omega),iy,Bool.and_self,cond_true,Int.toNat_natCast,mw (show i≤4611686018427387904 by omega),hs]
    rw[ws,if_pos h16];rfl
   ·have hi0:16≤i:=by omega
    have c2:decide ((i:Int)<16)=false:=decide_eq_false (by omega)
    rw[if_neg h16] at hs
    obtain⟨t7,t18,t17,t19,_⟩:=F2 ((ws b o i).getD (i-15) 0)
    obtain⟨_,_,t17,t19,_⟩:=F2 ((ws b o i).getD (i-2) 0)
    have hg (j:Nat) (hj:j<i):=Zw (ws b o i) j (by rw[DR];exact hj)
    have g64 (j:Nat) (hj:j<64):decide ((j:Int)<((64:Nat):Int))=true:=gl hj
    simp only[Wh.FW,c1,c2,m2 (show i≤1000 by omega) hi0,m7 (show i≤1000 by omega) hi0,m15 (show i≤1000 by omega) hi0,m16 (show i≤1000 by omega) hi0,g0,gl hi,gl (show i-2<64 by omega),gl (show i-7<64 by omega),gl (show i-15<64 by omega),gl (show i-16<64 by omega),
     hg (i-2) (by omega),hg (i-7) (by omega),hg (i-15) (by omega),hg (i-16) (by omega),Y1,Y2,t7,t18,t17,t19,iy,Bool.and_self,cond_true,cond_false,Int.toNat_natCast,mw (show i≤4611686018427387904 by omega)]
    rw[YX] at hs
    simp only[sig] at hs
    rw[hs]
    rw[ws,if_neg h16,YX];rfl) (by
   have e:arr (ws b o 64)=ws b o 64:=by simp[arr,DR,y7]
   rw[e];rfl) 0 (Nat.zero_le _)
 exact a
def big (x n m k:Int):Int:=nj Go.BinOp.xor Go.IntKind.u32 (nj Go.BinOp.xor Go.IntKind.u32 (Wh.Ai (x,n)).1 (Wh.Ai (x,m)).1) (Wh.Ai (x,k)).1
def chs (e f g:Int):Int:=nj Go.BinOp.xor Go.IntKind.u32 (nj Go.BinOp.and Go.IntKind.u32 e f) (nj Go.BinOp.and Go.IntKind.u32 (nj Go.BinOp.xor Go.IntKind.u32 (Go.IntKind.max Go.IntKind.u32) e) g)
def mjr (a b c:Int):Int:=nj Go.BinOp.xor Go.IntKind.u32 (nj Go.BinOp.xor Go.IntKind.u32 (nj Go.BinOp.and Go.IntKind.u32 a b) (nj Go.BinOp.and Go.IntKind.u32 a c)) (nj Go.BinOp.and Go.IntKind.u32 b c)
def tee (e f g h k w:Int):Int:=IntKind.wrap .u32 (IntKind.wrap .u32 (IntKind.wrap .u32 (IntKind.wrap .u32 (h+big e 6 11 25)+chs e f g)+k)+w)
def rnd (k w:Int):List Int→List Int
 | [a,b,c,d,e,f,g,h]=>[IntKind.wrap .u32 (IntKind.wrap .u32 (tee e f g h k w+big a 2 13 22)+mjr a b c),a,b,c,IntKind.wrap .u32 (d+tee e f g h k w),e,f,g]
 |_=>[0,0,0,0,0,0,0,0]
theorem afp (k w:Int)(l:List Int):(rnd k w l).length=8:=by unfold rnd;split<;>rfl
def BY (w h:List Int):Nat→List Int
 |0=>h
 |i+1=>rnd (Wh.Cy.getD i 0) (w.getD i 0) (BY w h i)
theorem MS (w h:List Int)(hh:h.length=8):∀i,(BY w h i).length=8
 |0=>hh
 |_i+1=>afp ..
theorem eight (l:List Int)(h:l.length=8):∃a b c d e f g k,l = [a,b,c,d,e,f,g,k]:=by
 match l,h with
 | [a,b,c,d,e,f,g,k],_=>exact⟨a,b,c,d,e,f,g,k,rfl⟩
theorem shift8 (a b c d e f g k i m s t:Int)(h l1 l2:List Int):Comes Wh.J5 ((7,(),(),(),h,i,m,s,t),[a,b,c,d,e,f,g,k],l1,l2) (((),(),(),h,i,m,s,t),[a,a,b,c,d,e,f,g],l1,l2):=
 .again (x':=((6,(),(),(),h,i,m,s,t),[a,b,c,d,e,f,g,g],l1,l2)) rfl <|
 .again (x':=((5,(),(),(),h,i,m,s,t),[a,b,c,d,e,f,f,g],l1,l2)) rfl <|
 .again (x':=((4,(),(),(),h,i,m,s,t),[a,b,c,d,e,e,f,g],l1,l2)) rfl <|
 .again (x':=((3,(),(),(),h,i,m,s,t),[a,b,c,d,d,e,f,g],l1,l2)) rfl <|
 .again (x':=((2,(),(),(),h,i,m,s,t),[a,b,c,c,d,e,f,g],l1,l2)) rfl <|
 .again (x':=((1,(),(),(),h,i,m,s,t),[a,b,b,c,d,e,f,g],l1,l2)) rfl <|
 .again (x':=((0,(),(),(),h,i,m,s,t),[a,a,b,c,d,e,f,g],l1,l2)) rfl <| .out rfl
theorem Uq:Wh.q89 ()=some (Wh.Cy,()):=rfl
theorem afr (w h:List Int)(hw:w.length=64)(hh:h.length=8):Comes Wh.GV (((),0,(),(),h),h,w,Wh.Cy) (((),h),BY w h 64):=
 x7 (r:=Wh.GV) (fun i=>(((),(i:Int),(),(),h),BY w h i,w,Wh.Cy)) (n:=64) (y:=(((),h),BY w h 64)) (fun i hi=>by
  obtain⟨a,b,c,d,e,f,g,k,hs⟩:=eight _ (MS w h hh i)
  have c1:decide ((i:Int)<64)=true:=decide_eq_true (by omega)
  obtain⟨_,_,_,_,t6,t11,t25,_⟩:=F2 e
  obtain⟨_,_,_,_,_,_,_,t2,t13,t22⟩:=F2 a
  have hk:Wh.Cy.length=64:=rfl
  have d4:decide ((4:Int)<((8:Nat):Int))=true:=rfl
  have d5:decide ((5:Int)<((8:Nat):Int))=true:=rfl
  have d6:decide ((6:Int)<((8:Nat):Int))=true:=rfl
  have d7:decide ((7:Int)<((8:Nat):Int))=true:=rfl
  have d0:decide ((0:Int)<((8:Nat):Int))=true:=rfl
  have d1:decide ((1:Int)<((8:Nat):Int))=true:=rfl
  have d2:decide ((2:Int)<((8:Nat):Int))=true:=rfl
  have l8: [a,b,c,d,e,f,g,k].length=8:=rfl
  have q0: [a,b,c,d,e,f,g,k].getD (Int.toNat 0) 0=a:=rfl
  have q1: [a,b,c,d,e,f,g,k].getD (Int.toNat 1) 0=b:=rfl
  have q2: [a,b,c,d,e,f,g,k].getD (Int.toNat 2) 0=c:=rfl
  have q4: [a,b,c,d,e,f,g,k].getD (Int.toNat 4) 0=e:=rfl
  have q5: [a,b,c,d,e,f,g,k].getD (Int.toNat 5) 0=f:=rfl
  have q6: [a,b,c,d,e,f,g,k].getD (Int.toNat 6) 0=g:=rfl
  have q7: [a,b,c,d,e,f,g,k].getD (Int.toNat 7) 0=k:=rfl
  have sh (i m s t:Int):=shift8 a b c d e f g k i m s t h w Wh.Cy
  have sb (i m s t:Int):=cb (sh i m s t)
  have sv (i m s t:Int):=cv (sh i m s t) Wh.Pd
  simp only[Wh.GV,hs,c1,q0,q1,q2,q4,q5,q6,q7,l8,t6,t11,t25,t2,t13,t22,d0,d1,d2,d4,d5,d6,d7,hk,hw,g0,gl hi,iy,Bool.and_self,cond_true,Int.toNat_natCast,sb,sv,mw (show i≤4611686018427387904 by omega)]
  rw[BY,hs];rfl) rfl 0 (Nat.zero_le _)
theorem afq (w h g':List Int)(o n:Nat)(hh:h.length=8):Comes Wh.Hl ((0,(),(),(),(o,n)),h,w,h,g') (((),(),(o,n)),h,BY w h 64,g'):=
 x7 (r:=Wh.Hl) (fun i=>(((i:Int),(),(),(),(o,n)),BY w h i,w,h,g')) (n:=64) (y:=(((),(),(o,n)),h,BY w h 64,g')) (fun i hi=>by
  obtain⟨a,b,c,d,e,f,g,k,hs⟩:=eight _ (MS w h hh i)
  have c1:decide ((i:Int)<64)=true:=decide_eq_true (by omega)
  obtain⟨_,_,_,_,t6,t11,t25,_⟩:=F2 e
  obtain⟨_,_,_,_,_,_,_,t2,t13,t22⟩:=F2 a
  have q0: [a,b,c,d,e,f,g,k].getD (Int.toNat 0) 0=a:=rfl
  have q1: [a,b,c,d,e,f,g,k].getD (Int.toNat 1) 0=b:=rfl
  have q2: [a,b,c,d,e,f,g,k].getD (Int.toNat 2) 0=c:=rfl
  have q3: [a,b,c,d,e,f,g,k].getD (Int.toNat 3) 0=d:=rfl
  have q4: [a,b,c,d,e,f,g,k].getD (Int.toNat 4) 0=e:=rfl
  have q5: [a,b,c,d,e,f,g,k].getD (Int.toNat 5) 0=f:=rfl
  have q6: [a,b,c,d,e,f,g,k].getD (Int.toNat 6) 0=g:=rfl
  have q7: [a,b,c,d,e,f,g,k].getD (Int.toNat 7) 0=k:=rfl
  have g64:decide ((i:Int)<((64:Nat):Int))=true:=gl hi
  simp only[Wh.Hl,hs,c1,q0,q1,q2,q3,q4,q5,q6,q7,Y1,Y2,t6,t11,t25,t2,t13,t22,g0,g64,iy,Bool.and_self,cond_true,Int.toNat_natCast,mw (show i≤4611686018427387904 by omega)]
  rw[BY,hs,rnd,afo (tee e f g k _ _) (big a 2 13 22) (mjr a b c)];rfl) rfl 0 (Nat.zero_le _)
def Jm:List Int→List Int→List Int
 | [a,b,c,d,e,f,g,h],[a',b',c',d',e',f',g',h']=>[IntKind.wrap .u32 (a+a'),IntKind.wrap .u32 (b+b'),IntKind.wrap .u32 (c+c'),IntKind.wrap .u32 (d+d'),IntKind.wrap .u32 (e+e'),IntKind.wrap .u32 (f+f'),IntKind.wrap .u32 (g+g'),IntKind.wrap .u32 (h+h')]
 |_,_=>[0,0,0,0,0,0,0,0]
theorem Zq (a b:List Int):(Jm a b).length=8:=by unfold Jm;split<;>rfl
theorem Zt (h v:List Int)(hh:h.length=8)(hv:v.length=8):Comes Wh.J6 ((0,(),h,()),v,[]) ((),Jm h v):=by
 obtain⟨a,b,c,d,e,f,g,k,rfl⟩:=eight _ hh
 obtain⟨a',b',c',d',e',f',g',k',rfl⟩:=eight _ hv
 exact .again rfl <| .again rfl <| .again rfl <| .again rfl <| .again rfl <| .again rfl <| .again rfl <| .again rfl <| .out rfl
theorem Zr (h v b:List Int)(o n:Nat)(hh:h.length=8)(hv:v.length=8):Comes Wh.Kj ((0,(),(),(o,n)),h,v,b) (((),(o,n)),Jm h v,b):=by
 obtain⟨a,b,c,d,e,f,g,k,rfl⟩:=eight _ hh
 obtain⟨a',b',c',d',e',f',g',k',rfl⟩:=eight _ hv
 exact .again rfl <| .again rfl <| .again rfl <| .again rfl <| .again rfl <| .again rfl <| .again rfl <| .again rfl <| .out rfl
def blk (b:List Int)(o:Nat)(h:List Int):List Int:=Jm h (BY (ws b o 64) h 64)
def Bc (b:List Int)(h:List Int):Nat→List Int
 |0=>h
 |i+1=>blk b (64*i) (Bc b h i)
theorem Gq (b h:List Int)(hh:h.length=8):∀i,(Bc b h i).length=8
 |0=>hh
 |_i+1=>Zq ..
theorem ZF (b h:List Int)(o:Nat)(hb:o+64≤b.length)(hh:h.length=8):Wh.Iw (h,List.take 64 (List.drop o b))=some (blk b o h,()):=by
 have e1:=agn b o hb
 have a:=afr (ws b o 64) h (DR ..) hh
 have c:=Zt h (BY (ws b o 64) h 64) hh (MS _ _ hh _)
 have c2:decide (0+h.length≤dh)=true:=decide_eq_true (by unfold dh;omega)
 simp only[Wh.Iw,Wh.Xl _ _ e1,e1,Wh.q89_v _ _ Uq,Uq,nQ,iy,c2,List.nil_append,cond_true,cb a,cv a,cb c,cv c]
 rfl
theorem afP (b h:List Int)(m:Nat)(hb:b.length=64*m)(hm:m≤100000000)(hh:h.length=8):Comes Wh.FB ((0,(),()),b,h) ((),Bc b h m):=
 x7 (r:=Wh.FB) (fun i=>((((64*i:Nat):Int),(),()),b,Bc b h i)) (n:=m) (y:=((),Bc b h m)) (fun i hi=>by
  have c1:decide (((64*i:Nat):Int)<((64*m:Nat):Int))=true:=gl (by omega)
  have w:IntKind.wrap .i64 (((64*i:Nat):Int)+64)=((64*(i+1):Nat):Int):=by rw[wrap64 (by omega) (by omega)];omega
  have e:=ZF b (Bc b h i) (64*i) (by omega) (Gq b h hh i)
  have e64:Int.toNat (((64*(i+1):Nat):Int)-((64*i:Nat):Int))=64:=by omega
  have c2:decide (((64*i:Nat):Int)≤((64*(i+1):Nat):Int))=true:=decide_eq_true (by omega)
  have c3:decide (((64*(i+1):Nat):Int)≤((64*m:Nat):Int))=true:=decide_eq_true (by omega)
  simp only[Wh.FB,hb,c1,w,e64,Int.toNat_natCast,e,Wh.Xi _ _ e,nQ,c2,c3,g0,iy,Bool.and_self,cond_true]
  rfl) (by
  have c1:decide (((64*m:Nat):Int)<((64*m:Nat):Int))=false:=decide_eq_false (by omega)
  simp only[Wh.FB,hb,c1,cond_false]) 0 (Nat.zero_le _)
theorem zer64:y7 64 = [(0:Int),(0:Int),(0:Int),(0:Int),(0:Int),(0:Int),(0:Int),(0:Int),(0:Int),(0:Int),(0:Int),(0:Int),(0:Int),(0:Int),(0:Int),(0:Int),(0:Int),(0:Int),(0:Int),(0:Int),(0:Int),(0:Int),(0:Int),(0:Int),(0:Int),(0:Int),(0:Int),(0:Int),(0:Int),(0:Int),(0:Int),(0:Int),(0:Int),(0:Int),(0:Int),(0:Int),(0:Int),(0:Int),(0:Int),(0:Int),(0:Int),(0:Int),(0:Int),(0:Int),(0:Int),(0:Int),(0:Int),(0:Int),(0:Int),(0:Int),(0:Int),(0:Int),(0:Int),(0:Int),(0:Int),(0:Int),(0:Int),(0:Int),(0:Int),(0:Int),(0:Int),(0:Int),(0:Int),(0:Int)]:=rfl
theorem afO (b h:List Int)(m:Nat)(hb:b.length=64*m)(hh:h.length=8):Comes Wh.FV (((0,b.length),()),b,h) ((),Bc b h m):=by
 rw[hb]
 exact x7 (r:=Wh.FV) (fun i=>(((64*i,64*m-64*i),()),b,Bc b h i)) (n:=m) (y:=((),Bc b h m)) (fun i hi=>by
  have c1:decide (((64*m-64*i:Nat):Int)>(0:Int))=true:=decide_eq_true (by omega)
  have a:=agm b (Bc b h i) (64*i) (64*m-64*i) (by omega)
  have d:=afq (ws b (64*i) 64) (Bc b h i) b (64*i) (64*m-64*i) (Gq b h hh i)
  have e:=Zr (Bc b h i) (BY (ws b (64*i) 64) (Bc b h i) 64) b (64*i) (64*m-64*i) (Gq b h hh i) (MS _ _ (Gq b h hh i) _)
  have e1:Int.toNat (((64*m-64*i:Nat):Int)-64)=64*m-64*(i+1):=by omega
  have e2:64*i+Int.toNat 64=64*(i+1):=by omega
  have c2:decide ((64:Int)≤((64*m-64*i:Nat):Int))=true:=decide_eq_true (by omega)
  have c3:decide (((64*i:Nat):Int)+((64*m-64*i:Nat):Int)≤((b.length:Nat):Int))=true:=decide_eq_true (by omega)
  rw[zer64] at a
  simp only[Wh.FV,c1,cond_true,cb a,cv a,cb d,cv d,cb e,cv e,e1,e2,c2,c3,iy,Bool.and_self]
  rfl) (by
  have c1:decide (((64*m-64*m:Nat):Int)>(0:Int))=false:=decide_eq_false (by omega)
  simp only[Wh.FV,c1,cond_false]) 0 (Nat.zero_le _)
def four (x:Int):List Int:=[IntKind.wrap .u8 (Int.fdiv x ((2:Int) ^ Min.min (Int.toNat (24:Int)) (Go.IntKind.bits Go.IntKind.u32))),IntKind.wrap .u8 (Int.fdiv x ((2:Int) ^ Min.min (Int.toNat (16:Int)) (Go.IntKind.bits Go.IntKind.u32))),IntKind.wrap .u8 (Int.fdiv x ((2:Int) ^ Min.min (Int.toNat (8:Int)) (Go.IntKind.bits Go.IntKind.u32))),IntKind.wrap .u8 x]
def Lr:List Int→List Int
 | [a,b,c,d,e,f,g,h]=>[]++four a++four b++four c++four d++four e++four f++four g++four h
 |_=>[]
theorem aa4 (l:List Int)(h:l.length=8):(Lr l).length=32:=by
 obtain⟨a,b,c,d,e,f,g,k,rfl⟩:=eight _ h
 rfl
theorem acp (l:List Int)(h:l.length=8):Comes Wh.Kc ((0,(),()),l,[]) ((),Lr l):=by
 obtain⟨a,b,c,d,e,f,g,k,rfl⟩:=eight _ h
 exact .again rfl <| .again rfl <| .again rfl <| .again rfl <| .again rfl <| .again rfl <| .again rfl <| .again rfl <| .out rfl
theorem aco (l:List Int)(h:l.length=8):Comes Wh.Kk ((0,(),l),[]) ((),Lr l):=by
 obtain⟨a,b,c,d,e,f,g,k,rfl⟩:=eight _ h
 exact .again rfl <| .again rfl <| .again rfl <| .again rfl <| .again rfl <| .again rfl <| .again rfl <| .again rfl <| .out rfl
def H0:List Int:=[1779033703,3144134277,1013904242,2773480762,1359893119,2600822924,528734635,1541459225]
def sha (x:List UInt8):List UInt8:=qp (Lr (Bc (A5 x) H0 ((A5 x).length / 64)))
theorem Y4 (x:List UInt8):(sha x).length=32:=by
 rw[sha,qp,List.length_map,aa4 _ (Gq _ _ rfl _)]
theorem afM (x:List UInt8)(h:x.length≤2147483648):Wh.IU x=some (sha x,()):=by
 have e:=acs x h
 have hl:=OA x
 have hz:=K0 x.length
 have hm:=WK x
 have a:=afP (A5 x) H0 ((A5 x).length / 64) (by omega) (by omega) rfl
 have d:=acp _ (Gq (A5 x) H0 rfl ((A5 x).length / 64))
 unfold H0 at a d
 simp only[Wh.IU,e,Wh.q90_v _ _ e,nQ,iy,cond_true,cb a,cv a,cb d,cv d]
 rfl
theorem abw (x:List UInt8)(h:x.length≤2147483648):Wh.q71 x=some (sha x,()):=by
 have hl:=OA x
 have hz:=K0 x.length
 have hm:=WK x
 have c1:decide (x.length+1≤dh)=true:=decide_eq_true (by unfold dh;omega)
 have c2:decide (x.length≤dh)=true:=decide_eq_true (by unfold dh;omega)
 have p:=acq x H0 h
 have w0:IntKind.wrap .u64 (x.length:Int)=(x.length:Int):=by simp[IntKind.wrap,IntKind.signed,IntKind.bits];omega
 have w:IntKind.wrap .u64 ((x.length:Int)*8)=(x.length:Int)*8:=by simp[IntKind.wrap,IntKind.signed,IntKind.bits];omega
 have b:=abR (Ea x) H0 ((x.length:Int)*8) (by rw[Oz];omega)
 have a:=afO (A5 x) H0 ((A5 x).length / 64) (by omega) rfl
 have d:=aco _ (Gq (A5 x) H0 rfl ((A5 x).length / 64))
 unfold H0 at p a b d
 change Comes _ _ (_,A5 x,_) at b
 simp only[Wh.q71,Gs,c1,c2,iy,Bool.and_self,cond_true,cb p,cv p,w0,w,cb b,cv b,cb a,cv a,cb d,cv d]
 rfl
theorem hexI (n:Nat)(h:n<256):IntKind.wrap .u8 (Int.tdiv (n:Int) 16)=((n / 16:Nat):Int):=by
 have:Int.tdiv (n:Int) 16=((n / 16:Nat):Int):=by rw[Int.tdiv_eq_ediv_of_nonneg (by omega)];omega
 rw[this];simp[IntKind.wrap,IntKind.signed,IntKind.bits];omega
theorem hexJ (n:Nat):Int.tmod (n:Int) 16=((n % 16:Nat):Int):=KE n 16
theorem hex_eq (s:List UInt8)(h:s.length≤2147483648):∃t,Wh.G9 s=some (t,())∧t.length=2*s.length:=by
 have main:∀d k,k+d=s.length→∀l:List Int,l.length=2*k→∃l',l'.length=2*s.length∧Comes Wh.FA (((k:Int),s,()),l) ((),l'):=by
  intro d
  induction d with
  |zero=>
   intro k hk l hl
   have:k=s.length:=by omega
   subst this
   have c1:decide ((s.length:Int)<(s.length:Int))=false:=decide_eq_false (by omega)
   exact⟨l,hl,.out (by simp only[Wh.FA,c1,cond_false])⟩
  |succ d ih=>
   intro k hk l hl
   have c1:decide ((k:Int)<(s.length:Int))=true:=gl (by omega)
   have hb:(s.getD k 0).toNat<256:=(s.getD k 0).toNat_lt
   have c2:decide (l.length+2≤dh)=true:=decide_eq_true (by unfold dh;omega)
   obtain⟨l',h1,h2⟩:=ih (k+1) (by omega) (l ++ [_,_]) (by rw[List.length_append,hl];simp;omega)
   exact⟨l',h1,.again (by
    simp only[Wh.FA,c1,Int.toNat_natCast,hexI _ hb,hexJ,g0,c2,gl (show(s.getD k 0).toNat / 16<16 by omega),gl (show(s.getD k 0).toNat % 16<16 by omega),iy,Bool.and_self,cond_true,mw (show k≤4611686018427387904 by omega)];rfl) h2⟩
 obtain⟨l',h1,h2⟩:=main s.length 0 (by omega) [] rfl
 refine⟨qp l',?_,by rw[qp,List.length_map,h1]⟩
 have h2':Comes Wh.FA ((0,s,()),[]) ((),l'):=h2
 simp only[Wh.G9,cb h2',cv h2',cond_true]
noncomputable def hash (x:List UInt8):List UInt8:=(Wh.Mj (sha x)).1
theorem NQ (x:List UInt8):Wh.G9 (sha x)=some (hash x,())∧(hash x).length=64:=by
 obtain⟨t,h1,h2⟩:=hex_eq (sha x) (by rw[Y4];omega)
 have:hash x=t:=by rw[hash,Wh.Qw _ _ h1]
 rw[this]
 exact⟨h1,by rw[h2,Y4]⟩
theorem B9 (x:List UInt8):(hash x).length=64:=(NQ x).2
theorem afL (x:List UInt8)(h:x.length≤2147483648):Wh.Ip x=some (hash x,()):=by
 have a:=afM x h
 have b:=(NQ x).1
 simp only[Wh.Ip,a,Wh.X5 _ _ a,b,Wh.Qw _ _ b,nQ,iy,Bool.and_self,cond_true]
theorem abu (x:List UInt8)(h:x.length≤2147483648):Wh.q92 x=some (hash x,()):=by
 have a:=abw x h
 have b:Wh.J_ (sha x)=_:=(NQ x).1
 simp only[Wh.q92,a,Wh.q71_v _ _ a,b,Wh.XR _ _ b,nQ,iy,Bool.and_self,cond_true]
end Pl
open Go Go.Ab Go.Lib
namespace Pl
theorem AV (n:Nat)(h:n≤9999999):(decDigits n).length≤7:=uE (by omega) (by omega)
theorem Vq (n:Nat)(r:List UInt8)(hn:n≤9999999)(hr:r.length≤9999999):(nX n r++r).length≤16+r.length:=by
 have:=AV n hn;have:=AV r.length hr
 simp only[nX,List.length_append,List.length_singleton];omega
theorem Vs (n:Nat)(r:List UInt8)(hn:n≤9999999)(hr:r.length≤9999999):Wh.IG ((n:Int),r)=some (line hash n r,()):=by
 have d1:=AV n hn
 have d2:=AV r.length hr
 have e1:=E8 n (by omega)
 have e2:=E8 r.length (by omega)
 have hl:=Vq n r hn hr
 have e3:=afL (nX n r++r) (by omega)
 have e4:=B9 (nX n r++r)
 have c1:decide ((decDigits n ++ [(32:UInt8)]++decDigits r.length).length+1≤dh)=true:=decide_eq_true (by simp only[List.length_append,List.length_singleton];unfold dh;omega)
 have c2:decide ((decDigits n ++ [(32:UInt8)]).length+(decDigits r.length).length≤dh)=true:=decide_eq_true (by simp only[List.length_append,List.length_singleton];unfold dh;omega)
 have c3:decide ((decDigits n).length+1≤dh)=true:=decide_eq_true (by unfold dh;omega)
 have q1:(List.take (Int.toNat ((16:Int)-(0:Int))) (List.drop (Int.toNat (0:Int)) (hash (nX n r++r))))=(hash (nX n r++r)).take 16:=rfl
 have q2:((hash (nX n r++r)).take 16).length=16:=by rw[List.length_take,e4];rfl
 have lh:(nX n r).length≤16:=by simp only[nX,List.length_append,List.length_singleton];omega
 unfold nX at e3 q1 q2 lh
 have c4 (k:Nat) (hk:k≤20000100):decide (k≤dh)=true:=decide_eq_true (by unfold dh;omega)
 have c5:decide ((16:Int)≤((64:Nat):Int))=true:=rfl
 unfold nX at e4
 simp only[Wh.IG,e1,Wh.Er _ _ e1,e2,Wh.Er _ _ e2,c1,c2,c3,nQ,iy,Bool.and_self,cond_true,e3,Wh.W_ _ _ e3,q1,e4,c5]
 rw[c4 _ (by simp only[List.length_append,List.length_singleton,List.length_take,e4] at lh ⊢;omega),c4 _ (by simp only[List.length_append,List.length_singleton,List.length_take,e4] at lh ⊢;omega),c4 _ (by simp only[List.length_append,List.length_singleton,List.length_take,e4] at lh ⊢;omega),c4 _ (by simp only[List.length_append,List.length_singleton,List.length_take,e4] at lh ⊢;omega),c4 _ (by simp only[List.length_append,List.length_singleton] at lh ⊢;omega)]
 rfl
theorem Vr (n:Nat)(r:List UInt8)(hn:n≤9999999)(hr:r.length≤9999999):Wh.q97 ((n:Int),r)=some (line hash n r,()):=by
 have d1:=AV n hn
 have d2:=AV r.length hr
 have e1:=D4 n (by omega)
 have e2:=D4 r.length (by omega)
 have hl:=Vq n r hn hr
 have e3:=abu (nX n r++r) (by omega)
 have e4:=B9 (nX n r++r)
 have c1:decide ((decDigits n ++ [(32:UInt8)]++decDigits r.length).length+1≤dh)=true:=decide_eq_true (by simp only[List.length_append,List.length_singleton];unfold dh;omega)
 have c2:decide ((decDigits n ++ [(32:UInt8)]).length+(decDigits r.length).length≤dh)=true:=decide_eq_true (by simp only[List.length_append,List.length_singleton];unfold dh;omega)
 have c3:decide ((decDigits n).length+1≤dh)=true:=decide_eq_true (by unfold dh;omega)
 have q1:(List.take (Int.toNat ((16:Int)-(0:Int))) (List.drop (Int.toNat (0:Int)) (hash (nX n r++r))))=(hash (nX n r++r)).take 16:=rfl
 have lh:(nX n r).length≤16:=by simp only[nX,List.length_append,List.length_singleton];omega
 unfold nX at e3 q1 lh
 have c4 (k:Nat) (hk:k≤20000100):decide (k≤dh)=true:=decide_eq_true (by unfold dh;omega)
 have c5:decide ((16:Int)≤((64:Nat):Int))=true:=rfl
 unfold nX at e4
 simp only[Wh.q97,e1,Wh.xL _ _ e1,e2,Wh.xL _ _ e2,c1,c2,c3,nQ,iy,Bool.and_self,cond_true,e3,Wh.q92_v _ _ e3,q1,e4,c5]
 rw[c4 _ (by simp only[List.length_append,List.length_singleton,List.length_take,e4] at lh ⊢;omega),c4 _ (by simp only[List.length_append,List.length_singleton,List.length_take,e4] at lh ⊢;omega),c4 _ (by simp only[List.length_append,List.length_singleton,List.length_take,e4] at lh ⊢;omega),c4 _ (by simp only[List.length_append,List.length_singleton,List.length_take,e4] at lh ⊢;omega),c4 _ (by simp only[List.length_append,List.length_singleton] at lh ⊢;omega)]
 rfl
theorem HA (log:List UInt8)(a:Nat)(p q:List UInt8)(h:log.drop a=p++q):List.take (Int.toNat (((a+p.length:Nat):Int)-(a:Int))) (List.drop a log)=p:=by
 rw[h,show Int.toNat (((a+p.length:Nat):Int)-(a:Int))=p.length by omega,List.take_left'];rfl
theorem HN (log:List UInt8)(a:Nat)(p q:List UInt8)(h:log.drop a=p++q):log.drop (a+p.length)=q:=by
 rw[←List.drop_drop,h,List.drop_left'];rfl
theorem HX (log:List UInt8)(a:Nat)(p q:List UInt8)(ha:a≤log.length)(h:log.drop a=p++q):a+p.length+q.length=log.length:=by
 have:=congrArg List.length h
 simp only[List.length_drop,List.length_append] at this;omega
theorem N2 (n:Nat)(r s:List UInt8):line hash n r++s=decDigits n++32::(decDigits r.length++32::((hash (nX n r++r)).take 16++32::(r++10::s))):=by
 rw[si];simp
theorem h16 (n:Nat)(r:List UInt8):((hash (nX n r++r)).take 16).length=16:=by rw[List.length_take,B9];rfl
noncomputable def Ib (t:List UInt8) (n:Nat):List UInt8×Int:=match jn hash t n with | none=>([],0)|some r=>(r,((line hash n r).length:Int))
theorem abC (log:List UInt8)(a n:Nat)(BG:log.length≤9999999)(ha:a≤log.length)(hn:n≤999999) :
  Wh.Fs (log,(a:Int),(n:Int))=some (Ib (log.drop a) n,()):=by
 unfold Ib
 have g0' (k:Nat):decide ((k:Int)<0)=false:=decide_eq_false (by omega)
 have le (x y:Nat) (h:x≤y):decide ((x:Int)≤(y:Int))=true:=decide_eq_true (by omega)
 cases hx:jn hash (log.drop a) n with
 |some r=>
  obtain⟨hr1,hr2,s,hs⟩:=mq hash hx
  rw[N2] at hs
  have hs:=hs.symm
  have f1:=HW log (decDigits n) _ a 32 (by omega) hs (ny n)
  have l1:=HX _ _ _ _ ha hs
  have t1:=HA _ _ _ _ hs
  have n1:=HV (decDigits n) (by have:=AV n (by omega);omega)
  rw[if_pos (JB hn),ru] at n1
  have hs2:log.drop (a+(decDigits n).length+1)=decDigits r.length++32::((hash (nX n r++r)).take 16++32::(r++10::s)):=by
   have:=HN log a (decDigits n ++ [32]) (decDigits r.length++32::((hash (nX n r++r)).take 16++32::(r++10::s))) (by rw[hs];simp)
   rw[List.length_append,List.length_singleton,←Nat.add_assoc] at this;exact this
  have l2:=HX _ _ _ _ (by simp at l1;omega) hs2
  have f2:=HW log (decDigits r.length) _ _ 32 (by omega) hs2 (ny _)
  have t2:=HA _ _ _ _ hs2
  have n2:=HV (decDigits r.length) (by have:=AV r.length (by omega);omega)
  rw[if_pos (JB (by omega)),ru] at n2
  have hs3:log.drop (a+(decDigits n).length+1+(decDigits r.length).length+18)=r++10::s:=by
   have:=HN log _ (decDigits r.length++32::((hash (nX n r++r)).take 16 ++ [32])) (r++10::s) (by rw[hs2];simp)
   rw[←this];congr 1
   simp only[List.length_append,List.length_cons,List.length_nil,h16];omega
  have l3:=HX _ _ _ _ (by simp only[List.length_append,List.length_cons,h16] at l2;omega) hs3
  simp only[List.length_cons] at l3
  have t3:=HA _ _ _ _ hs3
  have ls:=Vs n r (by omega) (by omega)
  have hw:line hash n r++s=log.drop a:=by rw[N2];exact hs.symm
  have hll:=vJ hash B9 n r
  have t4:=HA _ _ _ _ hw.symm
  have w1:=mw (i:=a+(decDigits n).length) (by omega)
  have w2:IntKind.wrap .i64 (((a+(decDigits n).length+1+(decDigits r.length).length:Nat):Int)+18)=((a+(decDigits n).length+1+(decDigits r.length).length+18:Nat):Int):=by rw[wrap64 (by omega) (by omega)];omega
  have w3:IntKind.wrap .i64 (((a+(decDigits n).length+1+(decDigits r.length).length+18:Nat):Int)+(r.length:Int))=((a+(decDigits n).length+1+(decDigits r.length).length+18+r.length:Nat):Int):=by rw[wrap64 (by omega) (by omega)];omega
  have w4:=mw (i:=a+(decDigits n).length+1+(decDigits r.length).length+18+r.length) (by omega)
  have e5:a+(decDigits n).length+1+(decDigits r.length).length+18+r.length+1=a+(line hash n r).length:=by omega
  rw[e5] at w4
  have cin:=za (r.length:Int) 1 500
  rw[decide_eq_true (show(1:Int)≤(r.length:Int)∧(r.length:Int)≤500 from⟨by omega,by omega⟩)] at cin
  have c6:decide (((a+(line hash n r).length:Nat):Int)>(log.length:Int))=false:=decide_eq_false (by omega)
  have c7:(((n:Int)) != (n:Int))=false:=by simp
  have c8:(line hash n r==line hash n r)=true:=beq_self_eq_true _
  have f1':Wh.zW (log,(a:Int),32)=_:=f1
  have f2':Wh.zW (log,((a+(decDigits n).length+1:Nat):Int),32)=_:=f2
  simp only[Wh.Fs,f1',Wh.DA _ _ f1',Int.toNat_natCast,g0',t1,n1,Wh.Hf _ _ n1,c7,cond_false,nQ,Bool.or_true,le a (a+(decDigits n).length) (by omega),le (a+(decDigits n).length) log.length (by omega),g0,iy,Bool.and_self,cond_true,w1,
   f2',Wh.DA _ _ f2',t2,n2,Wh.Hf _ _ n2,le (a+(decDigits n).length+1) (a+(decDigits n).length+1+(decDigits r.length).length) (by omega),le (a+(decDigits n).length+1+(decDigits r.length).length) log.length (by omega),cin,Wh.zY _ _ cin,Bool.not_true,w2,w3,w4,c6,t3,ls,Wh.P4 _ _ ls,
   le (a+(decDigits n).length+1+(decDigits r.length).length+18) (a+(decDigits n).length+1+(decDigits r.length).length+18+r.length) (by omega),le (a+(decDigits n).length+1+(decDigits r.length).length+18+r.length) log.length (by omega),le a (a+(line hash n r).length) (by omega),le (a+(line hash n r).length) log.length (by omega),t4,c8,Bool.not_true]
 |none=>
  simp only
  rcases Hz 32 (log.drop a) with h1|⟨p,q,hs,hp⟩
  ·have f1:Wh.zW (log,(a:Int),32)=_:=NW log a 32 (by omega) (by omega) h1
   have c1:decide ((-1:Int)<0)=true:=rfl
   simp only[Wh.Fs,f1,Wh.DA _ _ f1,c1,nQ,Bool.not_true,iy,cond_true]
   rfl
  have f1:Wh.zW (log,(a:Int),32)=_:=HW log p _ a 32 (by omega) hs hp
  have l1:=HX _ _ _ _ ha hs
  have t1:=HA _ _ _ _ hs
  simp only[List.length_cons] at l1
  have n1:=HV p (by omega)
  have w1:=mw (i:=a+p.length) (by omega)
  simp only[Wh.Fs,f1,Wh.DA _ _ f1,Int.toNat_natCast,g0',t1,n1,Wh.Hf _ _ n1,cond_false,nQ,Bool.or_true,le a (a+p.length) (by omega),le (a+p.length) log.length (by omega),g0,iy,Bool.and_self,cond_true,w1]
  cases hm:((if isNum p then(er p:Int) else -1) != (n:Int)) with
  |true=>rfl
  |false=>
  simp only[cond_false]
  have hs2:log.drop (a+p.length+1)=q:=by
   have:=HN log a (p ++ [32]) q (by rw[hs];simp)
   rw[List.length_append,List.length_singleton,←Nat.add_assoc] at this;exact this
  rcases Hz 32 q with h2|⟨p2,q2,hq,hp2⟩
  ·have f2:Wh.zW (log,((a+p.length+1:Nat):Int),32)=_:=NW log (a+p.length+1) 32 (by omega) (by omega) (by rw[hs2];exact h2)
   have c1:decide ((-1:Int)<0)=true:=rfl
   simp only[f2,Wh.DA _ _ f2,c1,cond_true]
  rw[hq] at hs2
  have l2:=HX _ _ _ _ (by omega) hs2
  simp only[List.length_cons] at l2
  have f2:Wh.zW (log,((a+p.length+1:Nat):Int),32)=_:=HW log p2 _ _ 32 (by omega) hs2 hp2
  have t2:=HA _ _ _ _ hs2
  have n2:=HV p2 (by omega)
  have cin:=za (if isNum p2 then(er p2:Int) else -1) 1 500
  have w2:IntKind.wrap .i64 (((a+p.length+1+p2.length:Nat):Int)+18)=((a+p.length+1+p2.length+18:Nat):Int):=by rw[wrap64 (by omega) (by omega)];omega
  simp only[f2,Wh.DA _ _ f2,g0',cond_false,t2,n2,Wh.Hf _ _ n2,le (a+p.length+1) (a+p.length+1+p2.length) (by omega),le (a+p.length+1+p2.length) log.length (by omega),cin,Wh.zY _ _ cin,w2,cond_true]
  by_cases hk:(1:Int)≤(if isNum p2 then(er p2:Int) else -1)∧(if isNum p2 then(er p2:Int) else -1)≤500
  ·obtain⟨k,hk1,hk2,hkv⟩:∃k:Nat,1≤k∧k≤500∧(if isNum p2 then(er p2:Int) else -1)=(k:Int):=by
    refine⟨Int.toNat (if isNum p2 then(er p2:Int) else -1),?_,?_,?_⟩<;>omega
   have w3:IntKind.wrap .i64 (((a+p.length+1+p2.length+18:Nat):Int)+(k:Int))=((a+p.length+1+p2.length+18+k:Nat):Int):=by rw[wrap64 (by omega) (by omega)];omega
   have w4:=mw (i:=a+p.length+1+p2.length+18+k) (by omega)
   simp only[hkv,decide_eq_true (show(1:Int)≤(k:Int)∧(k:Int)≤500 from⟨by omega,by omega⟩),Bool.not_true,cond_false,w3,w4]
   cases hc:decide (((a+p.length+1+p2.length+18+k+1:Nat):Int)>(log.length:Int)) with
   |true=>rfl
   |false=>
   have aJ:=of_decide_eq_false hc
   simp only[cond_false]
   have e1:Int.toNat (((a+p.length+1+p2.length+18+k:Nat):Int)-((a+p.length+1+p2.length+18:Nat):Int))=k:=by omega
   have hrl:(List.take k (List.drop (a+p.length+1+p2.length+18) log)).length=k:=by rw[List.length_take,List.length_drop];omega
   have ls:=Vs n (List.take k (List.drop (a+p.length+1+p2.length+18) log)) (by omega) (by omega)
   simp only[e1,ls,Wh.P4 _ _ ls,le (a+p.length+1+p2.length+18) (a+p.length+1+p2.length+18+k) (by omega),le (a+p.length+1+p2.length+18+k) log.length (by omega),le (a+p.length+1+p2.length+18+k+1) log.length (by omega),le a (a+p.length+1+p2.length+18+k+1) (by omega),cond_true,Int.toNat_natCast,Bool.and_self,g0]
   cases hb:(List.take (Int.toNat (((a+p.length+1+p2.length+18+k+1:Nat):Int)-(a:Int))) (List.drop a log)==line hash n (List.take k (List.drop (a+p.length+1+p2.length+18) log))) with
   |false=>rfl
   |true=>
    exfalso
    have hb':=eq_of_beq hb
    have:mY hash (log.drop a) n (List.take k (List.drop (a+p.length+1+p2.length+18) log)):=by
     refine⟨by omega,by omega,?_⟩
     rw[←hb'];exact List.take_prefix _ _
    rw[WE hash B9 this] at hx
    cases hx
  ·rw[decide_eq_false hk]
   rfl
theorem Vu (t:List UInt8)(n:Nat):eE hash (t.length+1) t n=match jn hash t n with
  |none=>([],0)
  |some r=>(r::(eE hash ((t.drop (line hash n r).length).length+1) (t.drop (line hash n r).length) (n+1)).1,(line hash n r).length+(eE hash ((t.drop (line hash n r).length).length+1) (t.drop (line hash n r).length) (n+1)).2):=by
 cases h:jn hash t n with
 |none=>exact abW hash h
 |some r=>exact abV hash B9 h
theorem Vl (log:List UInt8)(BG:log.length≤9999999):∀(d a:Nat) (l:List (List UInt8)),a≤log.length→log.length-a≤d→20*l.length≤a →
  Comes Wh.Fu (((a:Int),(),log),l) (((),((a+(eE hash ((log.drop a).length+1) (log.drop a) l.length).2:Nat):Int)),l++(eE hash ((log.drop a).length+1) (log.drop a) l.length).1)
 |d,a,l,ha,hd,hl=>by
  have e:=abC log a l.length BG ha (by omega)
  rw[Vu]
  cases hx:jn hash (log.drop a) l.length with
  |none=>
   refine .out ?_
   have ev:Ib (log.drop a) l.length=([],0):=by rw[Ib,hx]
   rw[ev] at e
   simp only[Wh.Fu,e,Wh.P6 _ _ e,nQ,iy,cond_true]
   simp
  |some r=>
   have ev:Ib (log.drop a) l.length=(r,((line hash l.length r).length:Int)):=by rw[Ib,hx]
   rw[ev] at e
   have hp:=pU hash B9 l.length r
   have hle:(line hash l.length r).length≤(log.drop a).length:=(mq hash hx).2.2.length_le
   rw[List.length_drop] at hle
   have c1:(((line hash l.length r).length:Int)==0)=false:=beq_eq_false_iff_ne.2 (by omega)
   have c2:decide (l.length+1≤dh)=true:=decide_eq_true (by unfold dh;omega)
   have w:IntKind.wrap .i64 ((a:Int)+((line hash l.length r).length:Int))=((a+(line hash l.length r).length:Nat):Int):=by rw[wrap64 (by omega) (by omega)];omega
   match d with
   |0=>omega
   |d+1=>
    have ih:=Vl log BG d (a+(line hash l.length r).length) (l ++ [r]) (by omega) (by omega) (by simp;omega)
    refine .again ?_ (x':=((((a+(line hash l.length r).length:Nat):Int),(),log),l ++ [r])) ?_
    ·simp only[Wh.Fu,e,Wh.P6 _ _ e,nQ,iy,cond_true,c1,cond_false,c2,w]
    ·rw[←List.drop_drop,List.length_append,List.length_singleton,List.append_assoc] at ih
     simp only[List.singleton_append] at ih
     simpa[Nat.add_assoc] using ih
theorem abD (log:List UInt8)(BG:log.length≤9999999):Wh.Ft log=some (((CE hash log).1,((CE hash log).2:Int)),()):=by
 have h:=Vl log BG log.length 0 [] (by omega) (by omega) (by simp)
 have h':Comes Wh.Fu ((0,(),log),[]) (((),((CE hash log).2:Int)),(CE hash log).1):=by simpa[CE] using h
 simp only[Wh.Ft,cb h',cv h',cond_true]
theorem wi {x:Int}{y:Nat}(h:x=(y:Int))(hy:y≤4611686018427387904):IntKind.wrap .i64 x=(y:Int):=by rw[h,wrap64 (by omega) (by omega)]
theorem wh3 (x y:Nat)(hx:x≤99999999)(hy:y≤99999999):IntKind.wrap .i64 (IntKind.wrap .i64 (IntKind.wrap .i64 ((x:Int)+1)+(y:Int))+18)=((x+1+y+18:Nat):Int):=by
 rw[show((x:Int)+1)=((x+1:Nat):Int) by omega,wi (x:=((x+1:Nat):Int)) rfl (by omega),show(((x+1:Nat):Int)+(y:Int))=((x+1+y:Nat):Int) by omega,wi (x:=((x+1+y:Nat):Int)) rfl (by omega)]
 exact wi (by omega) (by omega)
theorem wh2 (x y:Nat)(hx:x≤999999999)(hy:y≤999999999):IntKind.wrap .i64 (IntKind.wrap .i64 ((x:Int)+(y:Int))+1)=((x+y+1:Nat):Int):=by
 rw[show((x:Int)+(y:Int))=((x+y:Nat):Int) by omega,wi (x:=((x+y:Nat):Int)) rfl (by omega)]
 exact wi (by omega) (by omega)
theorem UX (s p:List UInt8)(_hs:s.length≤9999999)(_hp:p.length≤9999999):Wh.q21 (s,p)=some (decide (p <+:s),()):=by
 have h:Wh.q10 (s,p)=some (decide (p <+:s),()):=by
  by_cases hl:p.length≤s.length
  ·have c1:decide ((s.length:Int)≥(p.length:Int))=true:=decide_eq_true (by omega)
   have c2:decide ((p.length:Int)≤(s.length:Int))=true:=decide_eq_true (by omega)
   have e:List.take (Int.toNat ((p.length:Int)-0)) (List.drop (Int.toNat 0) s)=s.take p.length:=by simp
   have e2:(s.take p.length==p)=decide (p <+:s):=by
    rw[Bool.eq_iff_iff,beq_iff_eq,decide_eq_true_iff,List.prefix_iff_eq_take]
    exact eq_comm
   simp only[Wh.q10,c1,g0,e,e2,cond_true,iy,Bool.or_true,Bool.and_self,show decide ((0:Int)≤0)=true from rfl]
  ·have c1:decide ((s.length:Int)≥(p.length:Int))=false:=decide_eq_false (by omega)
   have e2:decide (p <+:s)=false:=decide_eq_false (fun h=>hl h.length_le)
   simp only[Wh.q10,c1,e2,cond_false,iy,Bool.not_false,Bool.true_or,Bool.and_self,cond_true]
 simp only[Wh.q21,h,Wh.q10_v _ _ h,nQ,iy,cond_true]
theorem abv (log:List UInt8)(BG:log.length≤9999999)(a:Nat)(l:List (List UInt8))(ha:a≤log.length)(hl:20*l.length≤a) :
  Wh.DI (((a:Int),(),log),l)=match jn hash (log.drop a) l.length with
   |none=>some (.inr (((),(a:Int)),l))
   |some r=>some (.inl ((((a+(line hash l.length r).length:Nat):Int),(),log),l ++ [r])):=by
 have le (x y:Nat) (h:x≤y):decide ((x:Int)≤(y:Int))=true:=decide_eq_true (by omega)
 have t0:List.take (Int.toNat ((log.length:Int)-(a:Int))) (List.drop a log)=log.drop a:=by
  rw[List.take_of_length_le];rw[List.length_drop];omega
 have htl:(log.drop a).length≤9999999:=by rw[List.length_drop];omega
 have e1:Wh.strings_Cut (log.drop a,[(32:UInt8)])=some (cut (log.drop a) [32],()):=by
  simp only[Wh.strings_Cut,decide_eq_true (show(log.drop a).length<4294967281 by omega),cond_true]
 have ei:=D4 l.length (by omega)
 have dl:=AV l.length (by omega)
 cases hx:jn hash (log.drop a) l.length with
 |some r=>
  obtain⟨hr1,hr2,s,hs⟩:=mq hash hx
  have hw:=hs.symm
  rw[N2] at hs
  have hs:=hs.symm
  have l1:=HX _ _ _ _ ha hw
  have hll:=vJ hash B9 l.length r
  have q1:=EY 32 (decDigits l.length) (decDigits r.length++32::((hash (nX l.length r++r)).take 16++32::(r++10::s))) (ny _)
  rw[←hs] at q1
  rw[q1] at e1
  have q2:=EY 32 (decDigits r.length) ((hash (nX l.length r++r)).take 16++32::(r++10::s)) (ny _)
  have hq:(decDigits r.length++32::((hash (nX l.length r++r)).take 16++32::(r++10::s))).length<4294967281:=by
   have:=congrArg List.length hs
   simp only[List.length_append,List.length_cons] at this ⊢;omega
  have e2:Wh.strings_Cut (decDigits r.length++32::((hash (nX l.length r++r)).take 16++32::(r++10::s)),[(32:UInt8)])=some ((decDigits r.length,(hash (nX l.length r++r)).take 16++32::(r++10::s),true),()):=by
   simp only[Wh.strings_Cut,decide_eq_true hq,cond_true,q2]
  have dr:=AV r.length (by omega)
  have e3:Wh.rV (decDigits r.length)=some (((r.length:Int),true),()):=by
   simp only[Wh.rV,decide_eq_true (show(decDigits r.length).length≤281474976710656 by omega),cond_true,if_pos (JB (show r.length≤999999 by omega)),ru]
  have cin:=zq (r.length:Int) 1 500
  rw[decide_eq_true (show(1:Int)≤(r.length:Int)∧(r.length:Int)≤500 from⟨by omega,by omega⟩)] at cin
  have w1:IntKind.wrap .i64 (IntKind.wrap .i64 (IntKind.wrap .i64 (((decDigits l.length).length:Int)+1)+((decDigits r.length).length:Int))+18)=(((decDigits l.length).length+1+(decDigits r.length).length+18:Nat):Int):=by exact wh3 _ _ (by omega) (by omega)
  have w2:IntKind.wrap .i64 (IntKind.wrap .i64 ((((decDigits l.length).length+1+(decDigits r.length).length+18:Nat):Int)+(r.length:Int))+1)=((line hash l.length r).length:Int):=by rw[hll];exact wh2 _ _ (by omega) (by omega)
  have w3:IntKind.wrap .i64 ((log.length:Int)-(a:Int))=((log.length-a:Nat):Int):=wi (by omega) (by omega)
  have c1:decide (((log.length-a:Nat):Int)<((line hash l.length r).length:Int))=false:=decide_eq_false (by omega)
  have w4:IntKind.wrap .i64 ((a:Int)+(((decDigits l.length).length+1+(decDigits r.length).length+18:Nat):Int))=((a+((decDigits l.length).length+1+(decDigits r.length).length+18):Nat):Int):=wi (by omega) (by omega)
  have w5:IntKind.wrap .i64 (((a+((decDigits l.length).length+1+(decDigits r.length).length+18):Nat):Int)+(r.length:Int))=((a+((decDigits l.length).length+1+(decDigits r.length).length+18)+r.length:Nat):Int):=wi (by omega) (by omega)
  have hs3:log.drop (a+((decDigits l.length).length+1+(decDigits r.length).length+18))=r++10::s:=by
   have:=HN log a (decDigits l.length++32::(decDigits r.length++32::((hash (nX l.length r++r)).take 16 ++ [32]))) (r++10::s) (by rw[hs];simp)
   rw[←this];congr 2
   simp only[List.length_append,List.length_cons,List.length_nil,h16];omega
  have t3:=HA _ _ _ _ hs3
  have ls:=Vr l.length r (by omega) (by omega)
  have hpre:line hash l.length r <+:log.drop a:=⟨s,hw.symm⟩
  have hp:=UX (log.drop a) (line hash l.length r) htl (by omega)
  rw[decide_eq_true hpre] at hp
  have w6:IntKind.wrap .i64 ((a:Int)+((line hash l.length r).length:Int))=((a+(line hash l.length r).length:Nat):Int):=wi (by omega) (by omega)
  have c2:decide (l.length+1≤dh)=true:=decide_eq_true (by unfold dh;omega)
  simp only[Wh.DI,Int.toNat_natCast,t0,e1,Wh.xM _ _ e1,e2,Wh.xM _ _ e2,e3,Wh.xK _ _ e3,ei,Wh.xL _ _ ei,nQ,g0,le a log.length ha,le log.length log.length (Nat.le_refl _),iy,Bool.and_self,cond_true,w1,w2,w3,w4,w5,c1,cin,Wh.zK _ _ cin,Bool.not_true,Bool.or_true,cond_false,t3,ls,Wh.RE _ _ ls,hp,Wh.QI _ _ hp,w6,c2,
   le (a+((decDigits l.length).length+1+(decDigits r.length).length+18)) (a+((decDigits l.length).length+1+(decDigits r.length).length+18)+r.length) (by omega),le (a+((decDigits l.length).length+1+(decDigits r.length).length+18)+r.length) log.length (by omega)]
 |none=>
  simp only
  have bI:(cut (log.drop a) [32]).2.1.length≤(log.drop a).length:=by
   rcases Hz 32 (log.drop a) with h|⟨p,q,h,hp⟩
   ·rw[Ln _ _ h];simp
   ·rw[h,EY _ _ _ hp];simp;omega
  generalize eK:cut (log.drop a) [32]=c1 at bI e1
  have e2:Wh.strings_Cut (c1.2.1,[(32:UInt8)])=some (cut c1.2.1 [32],()):=by
   simp only[Wh.strings_Cut,decide_eq_true (show c1.2.1.length<4294967281 by omega),cond_true]
  have hcl2:(cut c1.2.1 [32]).1.length≤c1.2.1.length:=by
   rcases Hz 32 c1.2.1 with h|⟨p,q,h,hp⟩
   ·rw[Ln _ _ h];simp
   ·rw[h,EY _ _ _ hp];simp
  generalize fU:cut c1.2.1 [32]=c2 at hcl2 e2
  have e3:Wh.rV c2.1=some (if isNum c2.1 then((er c2.1:Int),true) else(0,false),()):=by
   simp only[Wh.rV,decide_eq_true (show c2.1.length≤281474976710656 by omega),cond_true]
  have w1:IntKind.wrap .i64 (IntKind.wrap .i64 (IntKind.wrap .i64 (((decDigits l.length).length:Int)+1)+(c2.1.length:Int))+18)=(((decDigits l.length).length+1+c2.1.length+18:Nat):Int):=by exact wh3 _ _ (by omega) (by omega)
  by_cases hn:isNum c2.1
  ·rw[if_pos hn] at e3
   have cin:=zq (er c2.1:Int) 1 500
   have hv:=vF hn
   have w2:IntKind.wrap .i64 (IntKind.wrap .i64 ((((decDigits l.length).length+1+c2.1.length+18:Nat):Int)+(er c2.1:Int))+1)=(((decDigits l.length).length+1+c2.1.length+18+er c2.1+1:Nat):Int):=by exact wh2 _ _ (by omega) (by omega)
   have w3:IntKind.wrap .i64 ((log.length:Int)-(a:Int))=((log.length-a:Nat):Int):=wi (by omega) (by omega)
   simp only[Wh.DI,Int.toNat_natCast,t0,e1,Wh.xM _ _ e1,e2,Wh.xM _ _ e2,e3,Wh.xK _ _ e3,ei,Wh.xL _ _ ei,nQ,g0,le a log.length ha,le log.length log.length (Nat.le_refl _),iy,Bool.and_self,cond_true,w1,w2,w3,cin,Wh.zK _ _ cin,Bool.not_true,Bool.or_true,cond_false]
   by_cases hk:(1:Int)≤(er c2.1:Int)∧(er c2.1:Int)≤500
   ·simp only[decide_eq_true hk,Bool.not_true,cond_false]
    cases hc:decide (((log.length-a:Nat):Int)<(((decDigits l.length).length+1+c2.1.length+18+er c2.1+1:Nat):Int)) with
    |true=>rfl
    |false=>
    have aJ:=of_decide_eq_false hc
    have w4:IntKind.wrap .i64 ((a:Int)+(((decDigits l.length).length+1+c2.1.length+18:Nat):Int))=((a+((decDigits l.length).length+1+c2.1.length+18):Nat):Int):=wi (by omega) (by omega)
    have w5:IntKind.wrap .i64 (((a+((decDigits l.length).length+1+c2.1.length+18):Nat):Int)+(er c2.1:Int))=((a+((decDigits l.length).length+1+c2.1.length+18)+er c2.1:Nat):Int):=wi (by omega) (by omega)
    have e5:Int.toNat (((a+((decDigits l.length).length+1+c2.1.length+18)+er c2.1:Nat):Int)-((a+((decDigits l.length).length+1+c2.1.length+18):Nat):Int))=er c2.1:=by omega
    have hrl:(List.take (er c2.1) (List.drop (a+((decDigits l.length).length+1+c2.1.length+18)) log)).length=er c2.1:=by rw[List.length_take,List.length_drop];omega
    have ls:=Vr l.length (List.take (er c2.1) (List.drop (a+((decDigits l.length).length+1+c2.1.length+18)) log)) (by omega) (by omega)
    have hll:=vJ hash B9 l.length (List.take (er c2.1) (List.drop (a+((decDigits l.length).length+1+c2.1.length+18)) log))
    rw[hrl] at hll
    have dv:=AV (er c2.1) (by omega)
    have hp:=UX (log.drop a) (line hash l.length (List.take (er c2.1) (List.drop (a+((decDigits l.length).length+1+c2.1.length+18)) log))) htl (by omega)
    have hno:¬(line hash l.length (List.take (er c2.1) (List.drop (a+((decDigits l.length).length+1+c2.1.length+18)) log))) <+:log.drop a:=by
     intro h
     rw[WE hash B9 (r:=List.take (er c2.1) (List.drop (a+((decDigits l.length).length+1+c2.1.length+18)) log)) ⟨by omega,by omega,h⟩] at hx
     cases hx
    rw[decide_eq_false hno] at hp
    simp only[w4,w5,e5,Int.toNat_natCast,ls,Wh.RE _ _ ls,hp,Wh.QI _ _ hp,le (a+((decDigits l.length).length+1+c2.1.length+18)) (a+((decDigits l.length).length+1+c2.1.length+18)+er c2.1) (by omega),le (a+((decDigits l.length).length+1+c2.1.length+18)+er c2.1) log.length (by omega),g0,Bool.and_self,cond_true,cond_false,Bool.not_false]
   ·simp only[decide_eq_false hk,Bool.not_false,cond_true]
  ·rw[if_neg hn] at e3
   simp only[Wh.DI,Int.toNat_natCast,t0,e1,Wh.xM _ _ e1,e2,Wh.xM _ _ e2,e3,Wh.xK _ _ e3,ei,Wh.xL _ _ ei,nQ,g0,le a log.length ha,le log.length log.length (Nat.le_refl _),iy,Bool.and_self,cond_true,Bool.not_false,Bool.not_true,Bool.true_or]
theorem Va (log:List UInt8)(BG:log.length≤9999999):∀(d a:Nat) (l:List (List UInt8)),a≤log.length→log.length-a≤d→20*l.length≤a →
  Comes Wh.DI (((a:Int),(),log),l) (((),((a+(eE hash ((log.drop a).length+1) (log.drop a) l.length).2:Nat):Int)),l++(eE hash ((log.drop a).length+1) (log.drop a) l.length).1)
 |d,a,l,ha,hd,hl=>by
  have e:=abv log BG a l ha hl
  rw[Vu]
  cases hx:jn hash (log.drop a) l.length with
  |none=>
   rw[hx] at e
   exact .out (by simpa using e)
  |some r=>
   rw[hx] at e
   have hp:=pU hash B9 l.length r
   have hle:(line hash l.length r).length≤(log.drop a).length:=(mq hash hx).2.2.length_le
   rw[List.length_drop] at hle
   match d with
   |0=>omega
   |d+1=>
    have ih:=Va log BG d (a+(line hash l.length r).length) (l ++ [r]) (by omega) (by omega) (by simp;omega)
    refine .again e ?_
    rw[←List.drop_drop,List.length_append,List.length_singleton,List.append_assoc] at ih
    simp only[List.singleton_append] at ih
    simpa[Nat.add_assoc] using ih
theorem Zp (log:List UInt8)(BG:log.length≤9999999):Wh.q93 log=some (((CE hash log).1,((CE hash log).2:Int)),()):=by
 have h:=Va log BG log.length 0 [] (by omega) (by omega) (by simp)
 have h':Comes Wh.DI ((0,(),log),[]) (((),((CE hash log).2:Int)),(CE hash log).1):=by simpa[CE] using h
 simp only[Wh.q93,cb h',cv h',cond_true]
end Pl
open Go Go.Ab Go.Lib
namespace Pl
def first:Nat→(Nat→Bool)→Option Nat
 |0,_=>none
 |n+1,p=>match first n p with | some i=>some i|none=>if p n=true then some n else none
theorem Ap {p:Nat→Bool}:∀{n i:Nat},first n p=some i↔i<n∧p i=true∧∀j,j<i→p j=false
 |0,i=>by simp[first]
 |n+1,i=>by
  rw[first]
  cases h:first n p with
  |some k=>
   obtain⟨h1,h2,h3⟩:=Ap.1 h
   simp only[Option.some.injEq]
   constructor
   ·rintro rfl;exact⟨by omega,h2,h3⟩
   ·rintro⟨g1,g2,g3⟩
    rcases Nat.lt_trichotomy k i with h4|h4|h4
    ·rw[g3 k h4] at h2;cases h2
    ·exact h4
    ·rw[h3 i h4] at g2;cases g2
  |none=>
   have hn:∀j,j<n→p j=false:=by
    intro j hj
    cases hp:p j with
    |false=>rfl
    |true=>
     exfalso
     have:∀m,m≤n→(∃i,i<m∧p i=true)→first m p≠none:=by
      intro m
      induction m with
      |zero=>rintro _ ⟨i,hi,_⟩;omega
      |succ m ih=>
       rintro hm ⟨i,hi,aO⟩
       rw[first]
       cases hf:first m p with
       |some _=>simp
       |none=>
        have:i=m:=by
         rcases Nat.lt_or_ge i m with h5|h5
         ·exact absurd hf (ih (by omega) ⟨i,h5,aO⟩)
         ·omega
        subst this
        simp[aO]
     exact this n (Nat.le_refl _) ⟨j,hj,hp⟩ h
   simp only
   constructor
   ·intro h1
    split at h1
    ·cases h1;rename_i hp;exact⟨by omega,hp,hn⟩
    ·cases h1
   ·rintro⟨g1,g2,g3⟩
    have:i=n:=by
     rcases Nat.lt_or_ge i n with h5|h5
     ·rw[hn i h5] at g2;cases g2
     ·omega
    subst this
    rw[if_pos g2]
theorem EZ {p:Nat→Bool}{n:Nat}:first n p=none↔∀j,j<n→p j=false:=by
 constructor
 ·intro h j hj
  cases hp:p j with
  |false=>rfl
  |true=>
   exfalso
   have:∀m,(∃i,i<m∧p i=true)→∃i,first m p=some i:=by
    intro m
    induction m with
    |zero=>rintro⟨i,hi,_⟩;omega
    |succ m ih=>
     rintro⟨i,hi,aO⟩
     rw[first]
     cases hf:first m p with
     |some k=>exact⟨k,rfl⟩
     |none=>
      by_cases hm:p m=true
      ·exact⟨m,by simp[hm]⟩
      ·have:i≠m:=by rintro rfl;exact hm aO
       obtain⟨k,hk⟩:=ih ⟨i,by omega,aO⟩
       rw[hf] at hk;cases hk
   obtain⟨k,hk⟩:=this n ⟨j,hj,hp⟩
   rw[h] at hk;cases hk
 ·intro h
  cases hf:first n p with
  |none=>rfl
  |some i=>
   obtain⟨h1,h2,_⟩:=Ap.1 hf
   rw[h i h1] at h2;cases h2
theorem DZ {X Y:Type}{r:X→Option (X⊕Y)}(st:Nat→X){n:Nat}{p:Nat→Bool}{yt:Nat→Y}{yn:Y}(hs:∀i,i<n→p i=false→r (st i)=some (.inl (st (i+1))))
  (hf:∀i,i<n→p i=true→r (st i)=some (.inr (yt i))) (he:r (st n)=some (.inr yn)):Comes r (st 0) (match first n p with | some i=>yt i|none=>yn):=by
 rcases ZK st hs hf he with⟨i,h1,h2,h3,h4⟩|⟨h1,h2⟩
 ·rw[Ap.2 ⟨h1,h2,h3⟩];exact h4
 ·rw[EZ.2 h1];exact h2
theorem Z6 {p q:Nat→Bool}{n:Nat}(h:∀i,i<n→p i=q i):first n p=first n q:=by
 cases hf:first n q with
 |none=>exact EZ.2 fun j hj=>by rw[h j hj];exact EZ.1 hf j hj
 |some i=>
  obtain⟨h1,h2,h3⟩:=Ap.1 hf
  exact Ap.2 ⟨h1,by rw[h i h1];exact h2,fun j hj=>by rw[h j (by omega)];exact h3 j hj⟩
theorem K_ (a b:UInt8)(x y:List UInt8):Op.bytesLess (a::x) (b::y)=true↔a<b∨(a=b∧Op.bytesLess x y=true):=by
 rw[Op.bytesLess]
 by_cases h1:a<b<;>by_cases h2:a=b<;>simp[h1,h2]
theorem Uj:∀(x y:List UInt8),Op.bytesLess x y=true→Op.bytesLess y x=false
 | [],[],h=>by simp[Op.bytesLess] at h
 |_::_,[],h=>by simp[Op.bytesLess] at h
 | [],_::_,_=>by simp[Op.bytesLess]
 |a::x,b::y,h=>by
  rw[Bool.eq_false_iff]
  intro h'
  rw[K_] at h h'
  rcases h with h|⟨rfl,h⟩<;>rcases h' with h'|⟨e,h'⟩
  ·rw[UInt8.lt_iff_toNat_lt] at h h';omega
  ·subst e;rw[UInt8.lt_iff_toNat_lt] at h;omega
  ·rw[UInt8.lt_iff_toNat_lt] at h';omega
  ·rw[Uj x y h] at h';cases h'
theorem Ul:∀(x y z:List UInt8),Op.bytesLess x y=true→Op.bytesLess y z=true→Op.bytesLess x z=true
 |_,[],_,h,_=>by cases ‹List UInt8› <;>simp[Op.bytesLess] at h
 |_,_::_,[],_,h=>by simp[Op.bytesLess] at h
 | [],_::_,_::_,_,_=>by simp[Op.bytesLess]
 |a::x,b::y,c::z,h,h'=>by
  rw[K_] at h h' ⊢
  rcases h with h|⟨rfl,h⟩<;>rcases h' with h'|⟨e,h'⟩
  ·left;rw[UInt8.lt_iff_toNat_lt] at h h' ⊢;omega
  ·subst e;exact .inl h
  ·exact .inl h'
  ·subst e;exact .inr ⟨rfl,Ul x y z h h'⟩
theorem Uk:∀(x y:List UInt8),Op.bytesLess x y=true∨x=y∨Op.bytesLess y x=true
 | [],[]=>by simp
 |_::_,[]=>by simp[Op.bytesLess]
 | [],_::_=>by simp[Op.bytesLess]
 |a::x,b::y=>by
  rw[K_,K_]
  rcases Nat.lt_trichotomy a.toNat b.toNat with h|h|h
  ·exact .inl (.inl (UInt8.lt_iff_toNat_lt.2 h))
  ·have:a=b:=UInt8.toNat_inj.1 h
   subst this
   rcases Uk x y with h1|h1|h1
   ·exact .inl (.inr ⟨rfl,h1⟩)
   ·exact .inr (.inl (by rw[h1]))
   ·exact .inr (.inr (.inr ⟨rfl,h1⟩))
  ·exact .inr (.inr (.inl (UInt8.lt_iff_toNat_lt.2 h)))
abbrev It:Type:=Int×List UInt8×Int×List UInt8×Unit
abbrev Ct:Type:=Int×List It×Unit
def z0:It:=((0:Int),[],(0:Int),[],())
def yX (a:It)(h:Int)(n:List UInt8):Bool:=bif decide (a.1<h) then true else bif a.1==h then Op.bytesLess a.2.1 n else false
theorem NX (a:It)(h:Int)(n:List UInt8):Wh.IJ (a,h,n)=some (yX a h n,()):=rfl
theorem JF {a:It}{h:Int}{n:List UInt8}:yX a h n=true↔a.1<h∨(a.1=h∧Op.bytesLess a.2.1 n=true):=by
 unfold yX
 by_cases h1:a.1<h
 ·simp[h1]
 ·by_cases h2:a.1=h<;>simp[h1,h2]
theorem Vo {a b:It}(h:yX a b.1 b.2.1=true):yX b a.1 a.2.1=false:=by
 rw[Bool.eq_false_iff]
 intro h'
 rw[JF] at h h'
 rcases h with h|⟨h1,h2⟩<;>rcases h' with h'|⟨h3,h4⟩
 ·omega
 ·omega
 ·omega
 ·rw[Uj _ _ h2] at h4;cases h4
theorem abU {a b c:It}(h:yX a b.1 b.2.1=true)(h':yX b c.1 c.2.1=true):yX a c.1 c.2.1=true:=by
 rw[JF] at h h' ⊢
 rcases h with h|⟨h1,h2⟩<;>rcases h' with h'|⟨h3,h4⟩
 ·left;omega
 ·left;omega
 ·left;omega
 ·exact .inr ⟨by omega,Ul _ _ _ h2 h4⟩
theorem abT {a b:It}(hk:¬(a.1=b.1∧a.2.1=b.2.1))(h:yX a b.1 b.2.1=false):yX b a.1 a.2.1=true:=by
 rw[Bool.eq_false_iff,Ne,JF] at h
 rw[JF]
 rcases Int.lt_trichotomy a.1 b.1 with h1|h1|h1
 ·exact absurd (.inl h1) h
 ·rcases Uk a.2.1 b.2.1 with h2|h2|h2
  ·exact absurd (.inr ⟨h1,h2⟩) h
  ·exact absurd ⟨h1,h2⟩ hk
  ·exact .inr ⟨h1.symm,h2⟩
 ·exact .inl h1
theorem Ox (a b:It):∃v,Wh.q50 (a,b)=some (v,())∧decide (v<0)=yX a b.1 b.2.1:=by
 have n1 (x:Int):Wh.q62 x=some (false,()):=by simp[Wh.q62]
 have n2 (x:List UInt8):Wh.q22 x=some (false,()):=by simp[Wh.q22]
 have c1:Wh.q30 (a.1,b.1)=some (if a.1<b.1 then -1 else if a.1>b.1 then 1 else 0,()):=by
  simp only[Wh.q30,n1,Wh.q62_v _ _ (n1 _),nQ,iy,cond_true,cond_false]
  by_cases h1:a.1<b.1
  ·simp[h1]
  ·by_cases h2:a.1>b.1<;>simp[h1,h2]
 have c2:Wh.q14 (a.2.1,b.2.1)=some (if Op.bytesLess a.2.1 b.2.1=true then -1 else if a.2.1=b.2.1 then 0 else 1,()):=by
  simp only[Wh.q14,n2,Wh.q22_v _ _ (n2 _),nQ,iy,cond_true,cond_false]
  cases h1:Op.bytesLess a.2.1 b.2.1
  ·by_cases h2:a.2.1=b.2.1
   ·simp[h2]
   ·have hb:(a.2.1==b.2.1)=false:=beq_eq_false_iff_ne.2 h2
    simp[h2,hb]
  ·simp
 have c3 (x y:Int):Wh.IL [x,y]=some (if x≠0 then x else y,()):=by
  have:∃z,Comes Wh.Fw ((0,0,[x,y],(↑(nat_lit 2):Int)),()) z∧sumC z (fun HG=>some (HG.1,())) (fun KZ=>some (KZ.1,()))=some (if x≠0 then x else y,()):=by
   by_cases hx:x=0
   ·subst hx
    by_cases hy:y=0
    ·subst hy;exact⟨_,.again rfl <| .again rfl <| .out rfl,rfl⟩
    ·have hb:(y != 0)=true:=by simp[hy]
     exact⟨.inl (y,()),.again (x':=((1,0,[0,y],2),())) rfl <| .out (by
      have e: [(0:Int),y].getD (Int.toNat 1) 0=y:=rfl
      simp only[Wh.Fw,e,hb];rfl),rfl⟩
   ·have hb:(x != 0)=true:=by simp[hx]
    exact⟨.inl (x,()),.out (by
      have e: [x,y].getD (Int.toNat 0) 0=x:=rfl
      simp only[Wh.Fw,e,hb];rfl),by simp[sumC,hx]⟩
  obtain⟨z,h1,h2⟩:=this
  simp only[Wh.IL,List.length_cons,List.length_nil]
  have h1':Comes Wh.Fw ((0,0,[x,y],(↑(0+1+1:Nat):Int)),()) z:=h1
  rw[cb h1',cv h1',cond_true,←h2]
 refine⟨(if(if a.1<b.1 then(-1:Int) else if a.1>b.1 then 1 else 0)≠0 then(if a.1<b.1 then(-1:Int) else if a.1>b.1 then 1 else 0) else(if Op.bytesLess a.2.1 b.2.1=true then -1 else if a.2.1=b.2.1 then 0 else 1)),by
  simp only[Wh.q50,c1,Wh.q30_v _ _ c1,c2,Wh.q14_v _ _ c2,c3,Wh.XN _ _ (c3 _ _),nQ,iy,Bool.and_self,cond_true],?_⟩
 rw[Bool.eq_iff_iff,JF,decide_eq_true_iff]
 by_cases h1:a.1<b.1
 ·simp[h1]
 ·by_cases h2:a.1>b.1
  ·simp[h1,h2];omega
  ·have:a.1=b.1:=by omega
   simp[this]
   cases h3:Op.bytesLess a.2.1 b.2.1
   ·by_cases h4:a.2.1=b.2.1<;>simp[h4]
   ·simp
def zU (s:List UInt8):Bool:=jS s.length (fun i=>decide (97≤(s.getD i 0).toNat∧(s.getD i 0).toNat≤122))&&decide (1≤s.length∧s.length≤6)
theorem LS (c:Nat):(bif decide ((c:Int)<97) then true else decide ((c:Int)>122)) = !decide (97≤c∧c≤122):=by
 by_cases h1:(c:Int)<97
 ·rw[decide_eq_true h1,cond_true,decide_eq_false (by omega)];rfl
 ·rw[decide_eq_false h1,cond_false]
  by_cases h2:(c:Int)>122
  ·rw[decide_eq_true h2,decide_eq_false (by omega)];rfl
  ·rw[decide_eq_false h2,decide_eq_true (by omega)];rfl
theorem Zb (s:List UInt8)(hs:s.length≤9999999):Wh.G2 s=some (zU s,()):=by
 have h:=Ac (r:=Wh.Ej) (fun i=>(((i:Int),s),())) (n:=s.length) (p:=fun i=>decide (97≤(s.getD i 0).toNat∧(s.getD i 0).toNat≤122)) (yf:=.inl (false,())) (yt:=.inr (s,())) (fun i hi _ hp=>by
   have hp':decide (97≤(s.getD i 0).toNat∧(s.getD i 0).toNat≤122)=true:=hp
   simp only[Wh.Ej,gl hi,g0,Int.toNat_natCast,LS,hp',Bool.or_true,iy,Bool.and_self,cond_true,Bool.not_true,cond_false,mw (show i≤4611686018427387904 by omega)]) (fun i hi _ hp=>by
   have hp':decide (97≤(s.getD i 0).toNat∧(s.getD i 0).toNat≤122)=false:=hp
   simp only[Wh.Ej,gl hi,g0,Int.toNat_natCast,LS,hp',Bool.or_true,iy,Bool.and_self,cond_true,Bool.not_false]) (by
   have c1:decide ((s.length:Int)<(s.length:Int))=false:=decide_eq_false (by omega)
   simp only[Wh.Ej,c1,cond_false])
 have h':Comes Wh.Ej ((0,s),()) _:=h
 have cin:=za (s.length:Int) 1 6
 simp only[Wh.G2,cb h',cv h',cond_true]
 unfold zU
 cases hp:jS s.length (fun i=>decide (97≤(s.getD i 0).toNat∧(s.getD i 0).toNat≤122)) with
 |false=>rfl
 |true=>
  have e:decide ((1:Int)≤(s.length:Int)∧(s.length:Int)≤6)=decide (1≤s.length∧s.length≤6):=by congr 1;simp only[eq_iff_iff];omega
  simp only[if_true]
  dsimp only[sumC]
  simp only[cin,Wh.zY _ _ cin,nQ,iy,cond_true,e,Bool.true_and]
theorem NV (s:List UInt8)(hs:s.length≤9999999):Wh.Fm s=some (zU s,()):=by
 have h:=Ac (r:=Wh.Eh) (fun i=>(((i:Int),s,(s.length:Int)),())) (n:=s.length) (p:=fun i=>decide (97≤(s.getD i 0).toNat∧(s.getD i 0).toNat≤122)) (yf:=.inl (false,())) (yt:=.inr (s,())) (fun i hi _ hp=>by
   have hp':decide (97≤(s.getD i 0).toNat∧(s.getD i 0).toNat≤122)=true:=hp
   simp only[Wh.Eh,gl hi,g0,Int.toNat_natCast,LS,hp',Bool.or_true,iy,Bool.and_self,cond_true,Bool.not_true,cond_false,mw (show i≤4611686018427387904 by omega)]) (fun i hi _ hp=>by
   have hp':decide (97≤(s.getD i 0).toNat∧(s.getD i 0).toNat≤122)=false:=hp
   simp only[Wh.Eh,gl hi,g0,Int.toNat_natCast,LS,hp',Bool.or_true,iy,Bool.and_self,cond_true,Bool.not_false]) (by
   have c1:decide ((s.length:Int)<(s.length:Int))=false:=decide_eq_false (by omega)
   simp only[Wh.Eh,c1,cond_false])
 have h':Comes Wh.Eh ((0,s,(s.length:Int)),()) _:=h
 have cin:=zq (s.length:Int) 1 6
 simp only[Wh.Fm,cb h',cv h',cond_true]
 unfold zU
 cases hp:jS s.length (fun i=>decide (97≤(s.getD i 0).toNat∧(s.getD i 0).toNat≤122)) with
 |false=>rfl
 |true=>
  have e:decide ((1:Int)≤(s.length:Int)∧(s.length:Int)≤6)=decide (1≤s.length∧s.length≤6):=by congr 1;simp only[eq_iff_iff];omega
  simp only[if_true]
  dsimp only[sumC]
  simp only[cin,Wh.zK _ _ cin,nQ,iy,cond_true,e,Bool.true_and]
theorem WD (s:List UInt8)(h:zU s=true)(c:UInt8)(hc:c.toNat<97):∀x∈s,x≠c:=by
 unfold zU at h
 rw[Bool.and_eq_true,oL] at h
 intro x hx e
 subst e
 obtain⟨i,hi,rfl⟩:=List.getElem_of_mem hx
 have:=of_decide_eq_true (h.1 i hi)
 rw[getD_eq _ _ _ hi] at this
 omega
theorem JP (s:List UInt8)(h:zU s=true):1≤s.length∧s.length≤6:=by
 unfold zU at h
 rw[Bool.and_eq_true] at h
 exact of_decide_eq_true h.2
def A6 (h:Int)(n t:List UInt8):Bool:=decide (0≤h∧h≤1)&&zU n&&decide (1≤t.length∧t.length≤300)
theorem LB (t:It)(h1:t.2.1.length≤9999999):Wh.Eu t=some (A6 t.1 t.2.1 t.2.2.2.1,()):=by
 have a:=za t.1 0 1
 have b:=Zb t.2.1 h1
 have c:=za (t.2.2.2.1.length:Int) 1 300
 have e:decide ((1:Int)≤(t.2.2.2.1.length:Int)∧(t.2.2.2.1.length:Int)≤300)=decide (1≤t.2.2.2.1.length∧t.2.2.2.1.length≤300):=by congr 1;simp only[eq_iff_iff];omega
 rw[e] at c
 simp only[Wh.Eu,a,Wh.zY _ _ a,b,Wh.PJ _ _ b,c,Wh.zY _ _ c,nQ,iy,Bool.or_true,Bool.and_self,cond_true,A6]
 cases decide (0≤t.1∧t.1≤1)<;>cases zU t.2.1<;>rfl
theorem pub_eq (h:Int)(n t:List UInt8)(h1:n.length≤9999999):Wh.q27 (h,n,t)=some (A6 h n t,()):=by
 have a:=zq h 0 1
 have a':Wh.Cl h=some (decide (0≤h∧h≤1),()):=by simp only[Wh.Cl,a,Wh.zK _ _ a,nQ,iy,cond_true]
 have b:=NV n h1
 have c:=zq (t.length:Int) 1 300
 have e:decide ((1:Int)≤(t.length:Int)∧(t.length:Int)≤300)=decide (1≤t.length∧t.length≤300):=by congr 1;simp only[eq_iff_iff];omega
 rw[e] at c
 simp only[Wh.q27,a',Wh.Mf _ _ a',b,Wh.L6 _ _ b,c,Wh.zK _ _ c,nQ,iy,Bool.or_true,Bool.and_self,cond_true,A6]
 cases decide (0≤h∧h≤1)<;>cases zU n<;>rfl
def n5 (l:List It)(h:Int):Nat:=(l.map fun t=>if t.1=h then t.2.2.2.1.length else 0).sum
theorem Un (l:List It)(h:Int)(i:Nat)(hi:i<l.length):n5 (l.take (i+1)) h=n5 (l.take i) h+if(l.getD i z0).1=h then(l.getD i z0).2.2.2.1.length else 0:=by
 rw[getD_eq _ _ _ hi,List.take_succ_eq_append_getElem hi,n5,List.map_append,List.sum_append]
 simp only[List.map_cons,List.map_nil,List.sum_cons,List.sum_nil,Nat.add_zero]
 rfl
theorem HL (a b:List It)(h:Int):n5 (a++b) h=n5 a h+n5 b h:=by simp[n5]
theorem RL (l:List It)(h:Int)(hl:n5 l h≤9999999)(hn:l.length≤9999999):Wh.GY (l,h)=some ((n5 l h:Int),()):=by
 have mono:∀i,i≤l.length→n5 (l.take i) h≤n5 l h:=by
  intro i hi
  have:n5 l h=n5 (l.take i) h+n5 (l.drop i) h:=by rw[←HL,List.take_append_drop]
  omega
 have c:=x7 (r:=Wh.Eg) (fun i=>(((i:Int),l,(n5 (l.take i) h:Int),h),())) (n:=l.length) (y:=((n5 l h:Int),())) (fun i hi=>by
  have hb:=Un l h i hi
  have hm:=mono (i+1) hi
  have h0:=mono i (by omega)
  by_cases hh:(l.getD i z0).1=h
  ·rw[if_pos hh] at hb
   have c1:((l.getD i z0).1==h)=true:=beq_iff_eq.2 hh
   have w:IntKind.wrap .i64 ((n5 (l.take i) h:Int)+((l.getD i z0).2.2.2.1.length:Int))=(n5 (l.take (i+1)) h:Int):=wi (by omega) (by omega)
   unfold z0 at c1 w
   simp only[Wh.Eg,gl hi,g0,Int.toNat_natCast,c1,w,iy,Bool.and_self,cond_true,mw (show i≤4611686018427387904 by omega)]
  ·rw[if_neg hh] at hb
   have c1:((l.getD i z0).1==h)=false:=beq_eq_false_iff_ne.2 hh
   unfold z0 at c1
   simp only[Wh.Eg,gl hi,g0,Int.toNat_natCast,c1,iy,Bool.and_self,cond_true,cond_false,hb,Nat.add_zero,mw (show i≤4611686018427387904 by omega)]) (by
  have c1:decide ((l.length:Int)<(l.length:Int))=false:=decide_eq_false (by omega)
  simp only[Wh.Eg,c1,cond_false,List.take_length]) 0 (Nat.zero_le _)
 have c':Comes Wh.Eg ((0,l,0,h),()) ((n5 l h:Int),()):=c
 simp only[Wh.GY,cb c',cv c',cond_true]
theorem abg (c:Ct)(h:Int)(hl:n5 c.2.1 h≤9999999)(hn:c.2.1.length≤9999999):Wh.q46 (c,h)=some ((n5 c.2.1 h:Int),()):=by
 obtain⟨ce,l,_⟩:=c
 have mono:∀i,i≤l.length→n5 (l.take i) h≤n5 l h:=by
  intro i hi
  have:n5 l h=n5 (l.take i) h+n5 (l.drop i) h:=by rw[←HL,List.take_append_drop]
  omega
 have c:=x7 (r:=Wh.EC) (fun i=>(((i:Int),(n5 (l.take i) h:Int),h,l,(l.length:Int)),())) (n:=l.length) (y:=((n5 l h:Int),())) (fun i hi=>by
  have hb:=Un l h i hi
  have hm:=mono (i+1) hi
  have h0:=mono i (by omega)
  by_cases hh:(l.getD i z0).1=h
  ·rw[if_pos hh] at hb
   have c1:((l.getD i z0).1==h)=true:=beq_iff_eq.2 hh
   have w:IntKind.wrap .i64 ((n5 (l.take i) h:Int)+((l.getD i z0).2.2.2.1.length:Int))=(n5 (l.take (i+1)) h:Int):=wi (by simp only at hl;omega) (by simp only at hl;omega)
   unfold z0 at c1 w
   simp only[Wh.EC,gl hi,g0,Int.toNat_natCast,c1,w,iy,Bool.and_self,cond_true,mw (show i≤4611686018427387904 by simp only at hn;omega)]
  ·rw[if_neg hh] at hb
   have c1:((l.getD i z0).1==h)=false:=beq_eq_false_iff_ne.2 hh
   unfold z0 at c1
   simp only[Wh.EC,gl hi,g0,Int.toNat_natCast,c1,iy,Bool.and_self,cond_true,cond_false,hb,Nat.add_zero,mw (show i≤4611686018427387904 by simp only at hn;omega)]) (by
  have c1:decide ((l.length:Int)<(l.length:Int))=false:=decide_eq_false (by omega)
  simp only[Wh.EC,c1,cond_false,List.take_length]) 0 (Nat.zero_le _)
 have c':Comes Wh.EC ((0,0,h,l,(l.length:Int)),()) ((n5 l h:Int),()):=c
 simp only[Wh.q46,cb c',cv c',cond_true]
def zD (l:List It)(h:Int)(n:List UInt8):Option Nat:=first l.length fun i=>(l.getD i z0).1==h&&(l.getD i z0).2.1==n
def yC:Option Nat→Int
 |some i=>(i:Int)
 |none=> -1
theorem MT (c:Ct)(h:Int)(n:List UInt8)(hn:c.2.1.length≤9999999):Wh.CN (c,h,n)=some (yC (zD c.2.1 h n),()):=by
 obtain⟨ce,l,u⟩:=c
 have hl:l.length≤9999999:=hn
 have q:=DZ (r:=Wh.Et) (fun i=>(((i:Int),n,(),h),(ce,l,u))) (n:=l.length) (p:=fun i=>(l.getD i z0).1==h&&(l.getD i z0).2.1==n) (yt:=fun i=>.inl ((i:Int),())) (yn:=.inr ((),())) (fun i hi hp=>by
   have hp':(bif(l.getD i z0).1==h then(l.getD i z0).2.1==n else false)=false:=by
    cases e:((l.getD i z0).1==h) with
    |false=>rfl
    |true=>simp only[e,Bool.true_and] at hp;exact hp
   unfold z0 at hp'
   simp only[Wh.Et,gl hi,g0,Int.toNat_natCast,hp',Bool.or_true,iy,Bool.and_self,cond_true,cond_false,mw (show i≤4611686018427387904 by omega)]) (fun i hi hp=>by
   have hp':(bif(l.getD i z0).1==h then(l.getD i z0).2.1==n else false)=true:=by
    cases e:((l.getD i z0).1==h) with
    |false=>simp only[e,Bool.false_and] at hp;cases hp
    |true=>simp only[e,Bool.true_and] at hp;exact hp
   unfold z0 at hp'
   simp only[Wh.Et,gl hi,g0,Int.toNat_natCast,hp',Bool.or_true,iy,Bool.and_self,cond_true]) (by
   have c1:decide ((l.length:Int)<(l.length:Int))=false:=decide_eq_false (by omega)
   simp only[Wh.Et,c1,cond_false])
 have q':Comes Wh.Et ((0,n,(),h),(ce,l,u)) _:=q
 simp only[Wh.CN,cb q',cv q',cond_true,zD]
 cases first l.length (fun i=>(l.getD i z0).1==h&&(l.getD i z0).2.1==n)<;>rfl
theorem NT (c:Ct)(h:Int)(n:List UInt8)(hn:c.2.1.length≤9999999):Wh.CQ (c,h,n)=some (yC (zD c.2.1 h n),()):=by
 obtain⟨ce,l,u⟩:=c
 have hl:l.length≤9999999:=hn
 have f (x:It):Wh.q31 (x,h,n)=some ((bif x.1==h then x.2.1==n else false),()):=rfl
 have q:=DZ (r:=Wh.EK) (fun i=>(((i:Int),l,(h,n,()),(l.length:Int)),())) (n:=l.length) (p:=fun i=>(l.getD i z0).1==h&&(l.getD i z0).2.1==n) (yt:=fun i=>.inl ((i:Int),())) (yn:=.inr ((),())) (fun i hi hp=>by
   have hp':(bif(l.getD i z0).1==h then(l.getD i z0).2.1==n else false)=false:=by
    cases e:((l.getD i z0).1==h) with
    |false=>rfl
    |true=>simp only[e,Bool.true_and] at hp;exact hp
   unfold z0 at hp'
   simp only[Wh.EK,gl hi,g0,Int.toNat_natCast,f,Wh.QM _ _ (f _),hp',nQ,iy,Bool.and_self,cond_true,cond_false,mw (show i≤4611686018427387904 by omega)]) (fun i hi hp=>by
   have hp':(bif(l.getD i z0).1==h then(l.getD i z0).2.1==n else false)=true:=by
    cases e:((l.getD i z0).1==h) with
    |false=>simp only[e,Bool.false_and] at hp;cases hp
    |true=>simp only[e,Bool.true_and] at hp;exact hp
   unfold z0 at hp'
   simp only[Wh.EK,gl hi,g0,Int.toNat_natCast,f,Wh.QM _ _ (f _),hp',nQ,iy,Bool.and_self,cond_true]) (by
   have c1:decide ((l.length:Int)<(l.length:Int))=false:=decide_eq_false (by omega)
   simp only[Wh.EK,c1,cond_false])
 have q':Comes Wh.EK ((0,l,(h,n,()),(l.length:Int)),()) _:=q
 have e:Wh.q7 (l,h,n,())=some (yC (zD l h n),()):=by
  simp only[Wh.q7,cb q',cv q',cond_true,zD]
  cases first l.length (fun i=>(l.getD i z0).1==h&&(l.getD i z0).2.1==n)<;>rfl
 simp only[Wh.CQ,e,Wh.q7_v _ _ e,nQ,iy,cond_true]
end Pl
open Go Go.Ab Go.Lib
namespace Pl
def lt2 (a b:It):Prop:=yX a b.1 b.2.1=true
def yp (l:List It)(h:Int)(n:List UInt8):Nat:=match first l.length (fun i=> !yX (l.getD i z0) h n) with | some i=>i|none=>l.length
theorem Ig (l:List It)(h:Int)(n:List UInt8):yp l h n≤l.length:=by
 unfold yp;split
 ·rename_i hf;have:=(Ap.1 hf).1;omega
 ·exact Nat.le_refl _
theorem WR (l:List It)(h:Int)(n:List UInt8):∀j,j<yp l h n→yX (l.getD j z0) h n=true:=by
 unfold yp;split
 ·rename_i hf
  intro j hj
  have:=(Ap.1 hf).2.2 j hj
  simpa using this
 ·rename_i hf
  intro j hj
  have:=EZ.1 hf j hj
  simpa using this
theorem pos_ge (l:List It)(h:Int)(n:List UInt8)(hk:yp l h n<l.length):yX (l.getD (yp l h n) z0) h n=false:=by
 revert hk
 unfold yp;split
 ·rename_i hf
  intro _
  have:=(Ap.1 hf).2.1
  simpa using this
 ·intro hk;omega
theorem LV {R:It→It→Prop}{l:List It}(h:l.Pairwise R){i j:Nat}(hij:i<j)(hj:j<l.length):R (l.getD i z0) (l.getD j z0):=by
 rw[getD_eq _ _ _ (by omega),getD_eq _ _ _ hj]
 exact List.pairwise_iff_getElem.1 h i j (by omega) hj hij
theorem WQ (l:List It)(t:It)(hs:l.Pairwise lt2)(hk:zD l t.1 t.2.1=none):∀j,yp l t.1 t.2.1≤j→j<l.length→yX t (l.getD j z0).1 (l.getD j z0).2.1=true:=by
 intro j hj hl
 have h0:=pos_ge l t.1 t.2.1 (by omega)
 have hne (i:Nat) (hi:i<l.length):¬((l.getD i z0).1=t.1∧(l.getD i z0).2.1=t.2.1):=by
  have:=EZ.1 hk i hi
  rintro⟨h1,h2⟩
  rw[h1,h2] at this
  simp at this
 have h1:=abT (hne _ (by omega)) h0
 rcases Nat.lt_or_ge (yp l t.1 t.2.1) j with h2|h2
 ·exact abU h1 (LV hs h2 hl)
 ·have:j=yp l t.1 t.2.1:=by omega
  rw[this];exact h1
def y_ (l:List It)(t:It):List It:=l.take (yp l t.1 t.2.1)++t::l.drop (yp l t.1 t.2.1)
theorem afQ (A B:List It)(x t:It)(n:Nat)(hn:A.length=n):((A++x::t::B).set (n+1) x).set n t=A++t::x::B:=by
 subst hn
 rw[List.set_append_right _ _ (by omega),show A.length+1-A.length=1 by omega,List.set_cons_succ,List.set_cons_zero,List.set_append_right _ _ (Nat.le_refl _),Nat.sub_self,List.set_cons_zero]
theorem get_at (A B:List It)(x:It)(n:Nat)(hn:A.length=n):(A++x::B).getD n z0=x:=by
 subst hn;simp[List.getD]
theorem UT (A B:List It)(x t:It)(n:Nat)(hn:A.length=n):(A++x::t::B).getD (n+1) z0=t:=by
 subst hn
 have:=get_at (A ++ [x]) B t (A.length+1) (by simp)
 rw[List.append_assoc] at this
 exact this
theorem Vd (l:List It)(t:It)(k:Nat)(b i:Int)(hgt:∀j,k≤j→j<l.length→yX t (l.getD j z0).1 (l.getD j z0).2.1=true)(hst:k=0∨yX t (l.getD (k-1) z0).1 (l.getD (k-1) z0).2.1=false)(hl:l.length≤99999999) :
  ∀d,k+d≤l.length→Comes Wh.DC ((((k+d:Nat):Int),(),(),0,b,i),l.take (k+d)++t::l.drop (k+d)) (((),(),0,b,i),l.take k++t::l.drop k)
 |0,hd=>by
  refine .out ?_
  rcases Nat.eq_zero_or_pos k with rfl|hk
  ·have c1:decide (((0+0:Nat):Int)>0)=false:=rfl
   simp only[Wh.DC,c1,Bool.not_false,Bool.true_or,iy,Bool.and_self,cond_true,cond_false,Nat.add_zero]
  ·obtain⟨m,rfl⟩:∃m,k=m+1:=⟨k-1,by omega⟩
   have hs:yX t (l.getD m z0).1 (l.getD m z0).2.1=false:=by rcases hst with h|h;omega;exact h
   have hlen:(l.take m).length=m:=by rw[List.length_take];omega
   have e:l.take (m+1)++t::l.drop (m+1)=l.take m++l.getD m z0::t::l.drop (m+1):=by
    rw[List.take_succ_eq_append_getElem (by omega),List.append_assoc,getD_eq _ _ _ (by omega)];rfl
   have e1:(l.take m++l.getD m z0::t::l.drop (m+1)).getD (m+1) z0=t:=UT _ _ _ _ _ hlen
   have e2:(l.take m++l.getD m z0::t::l.drop (m+1)).getD m z0=l.getD m z0:=get_at _ _ _ _ hlen
   obtain⟨v,hv1,y9⟩:=Ox t (l.getD m z0)
   rw[hs] at y9
   have w1:IntKind.wrap .i64 (((m+1:Nat):Int)-1)=(m:Int):=wi (by omega) (by omega)
   have c1:decide (((m+1:Nat):Int)>0)=true:=decide_eq_true (by omega)
   have ll:(l.take m++l.getD m z0::t::l.drop (m+1)).length=l.length+1:=by
    simp only[List.length_append,List.length_cons,List.length_drop,hlen];omega
   rw[Nat.add_zero,e]
   unfold z0 at e1 e2 hv1 ll ⊢
   simp only[Wh.DC,c1,w1,Int.toNat_natCast,e1,e2,hv1,Wh.Mu _ _ hv1,y9,ll,g0,gl (show m<l.length+1 by omega),gl (show m+1<l.length+1 by omega),nQ,Bool.or_true,iy,Bool.and_self,cond_true,cond_false]
 |d+1,hd=>by
  have ih:=Vd l t k b i hgt hst hl d (by omega)
  refine .again ?_ ih
  have hs:=hgt (k+d) (by omega) (by omega)
  generalize hm:k+d=m at *
  have hm':k+(d+1)=m+1:=by omega
  rw[hm']
  have hlen:(l.take m).length=m:=by rw[List.length_take];omega
  have e:l.take (m+1)++t::l.drop (m+1)=l.take m++l.getD m z0::t::l.drop (m+1):=by
   rw[List.take_succ_eq_append_getElem (by omega),List.append_assoc,getD_eq _ _ _ (by omega)];rfl
  have e1:(l.take m++l.getD m z0::t::l.drop (m+1)).getD (m+1) z0=t:=UT _ _ _ _ _ hlen
  have e2:(l.take m++l.getD m z0::t::l.drop (m+1)).getD m z0=l.getD m z0:=get_at _ _ _ _ hlen
  have e3:((l.take m++l.getD m z0::t::l.drop (m+1)).set (m+1) (l.getD m z0)).set m t=l.take m++t::l.drop m:=by
   rw[afQ _ _ _ _ _ hlen,getD_eq _ _ _ (show m<l.length by omega),List.drop_eq_getElem_cons (show m<l.length by omega)]
  obtain⟨v,hv1,y9⟩:=Ox t (l.getD m z0)
  rw[hs] at y9
  have w1:IntKind.wrap .i64 (((m+1:Nat):Int)-1)=(m:Int):=wi (by omega) (by omega)
  have c1:decide (((m+1:Nat):Int)>0)=true:=decide_eq_true (by omega)
  have ll:(l.take m++l.getD m z0::t::l.drop (m+1)).length=l.length+1:=by
   simp only[List.length_append,List.length_cons,List.length_drop,hlen];omega
  rw[e]
  unfold z0 at e1 e2 e3 hv1 ll ⊢
  simp only[Wh.DC,c1,w1,Int.toNat_natCast,e1,e2,e3,hv1,Wh.Mu _ _ hv1,y9,ll,List.length_set,g0,gl (show m<l.length+1 by omega),gl (show m+1<l.length+1 by omega),nQ,Bool.or_true,iy,Bool.and_self,cond_true]
theorem afv (l:List It)(t:It)(hs:l.Pairwise lt2)(hk:zD l t.1 t.2.1=none)(hl:l.length≤8) :
  Wh.I1 (l ++ [t],())=some ((),y_ l t,()):=by
 have hlen:(l ++ [t]).length=l.length+1:=by simp
 have hout:Comes Wh.CP (((),1,(),0,((l.length+1:Nat):Int)),l ++ [t]) ((),y_ l t):=by
  rcases Nat.eq_zero_or_pos l.length with h0|hpos
  ·have:l = []:=List.length_eq_zero_iff.1 h0
   subst this
   exact .out rfl
  ·have hend:Comes Wh.CP (((),((l.length+1:Nat):Int),(),0,((l.length+1:Nat):Int)),y_ l t) ((),y_ l t):=by
    have c1:decide (((l.length+1:Nat):Int)<((l.length+1:Nat):Int))=false:=decide_eq_false (by omega)
    exact .out (by simp only[Wh.CP,c1,cond_false])
   have NS:Comes Wh.CP (((),(l.length:Int),(),0,((l.length+1:Nat):Int)),l ++ [t]) ((),y_ l t):=by
    have q:=Vd l t (yp l t.1 t.2.1) ((l.length+1:Nat):Int) (l.length:Int) (WQ l t hs hk) (by
     rcases Nat.eq_zero_or_pos (yp l t.1 t.2.1) with h1|h1
     ·exact .inl h1
     ·right
      have h2:=WR l t.1 t.2.1 (yp l t.1 t.2.1-1) (by omega)
      exact Vo h2) (by omega) (l.length-yp l t.1 t.2.1) (by have:=Ig l t.1 t.2.1;omega)
    have hp:=Ig l t.1 t.2.1
    rw[show yp l t.1 t.2.1+(l.length-yp l t.1 t.2.1)=l.length by omega,List.take_length,List.drop_length] at q
    have c1:decide ((l.length:Int)<((l.length+1:Nat):Int))=true:=decide_eq_true (by omega)
    refine .again ?_ hend
    simp only[Wh.CP,c1,cond_true,cb q,cv q,mw (show l.length≤4611686018427387904 by omega)]
    rfl
   have hmid:∀d i,1≤i→i+d=l.length→Comes Wh.CP (((),(i:Int),(),0,((l.length+1:Nat):Int)),l ++ [t]) ((),y_ l t):=by
    intro d
    induction d with
    |zero=>intro i h1 h2;have:i=l.length:=by omega
           subst this;exact NS
    |succ d ih=>
     intro i h1 h2
     refine .again ?_ (ih (i+1) (by omega) (by omega))
     obtain⟨m,rfl⟩:∃m,i=m+1:=⟨i-1,by omega⟩
     have hlt:=LV hs (i:=m) (j:=m+1) (by omega) (by omega)
     obtain⟨v,hv1,y9⟩:=Ox (l.getD (m+1) z0) (l.getD m z0)
     rw[Vo hlt] at y9
     have w1:IntKind.wrap .i64 (((m+1:Nat):Int)-1)=(m:Int):=wi (by omega) (by omega)
     have c0:decide (((m+1:Nat):Int)>0)=true:=decide_eq_true (by omega)
     have e1:(l ++ [t]).getD (m+1) z0=l.getD (m+1) z0:=by simp[List.getD,List.getElem?_append_left (show m+1<l.length by omega)]
     have e2:(l ++ [t]).getD m z0=l.getD m z0:=by simp[List.getD,List.getElem?_append_left (show m<l.length by omega)]
     have q:Comes Wh.DC ((((m+1:Nat):Int),(),(),0,((l.length+1:Nat):Int),((m+1:Nat):Int)),l ++ [t]) (((),(),0,((l.length+1:Nat):Int),((m+1:Nat):Int)),l ++ [t]):=by
      refine .out ?_
      unfold z0 at e1 e2 hv1
      simp only[Wh.DC,c0,w1,Int.toNat_natCast,e1,e2,hv1,Wh.Mu _ _ hv1,y9,hlen,g0,gl (show m<l.length+1 by omega),gl (show m+1<l.length+1 by omega),nQ,Bool.or_true,iy,Bool.and_self,cond_true,cond_false]
     have c1:decide (((m+1:Nat):Int)<((l.length+1:Nat):Int))=true:=decide_eq_true (by omega)
     simp only[Wh.CP,c1,cond_true,cb q,cv q,mw (show m+1≤4611686018427387904 by omega)]
   exact hmid (l.length-1) 1 (Nat.le_refl _) (by omega)
 have hins:Wh.q1 (l ++ [t],0,((l.length+1:Nat):Int),())=some ((),y_ l t,()):=by
  have w:IntKind.wrap .i64 ((0:Int)+1)=1:=by decide
  simp only[Wh.q1,w,cb hout,cv hout,cond_true]
 have w2:IntKind.wrap .i64 (((l.length+1:Nat):Int)-0)=((l.length+1:Nat):Int):=wi (by omega) (by omega)
 have c12:decide (((l.length+1:Nat):Int)≤12)=true:=decide_eq_true (by omega)
 have hp:∀lim,Wh.q4 (l ++ [t],0,((l.length+1:Nat):Int),lim,())=some ((),y_ l t,()):=by
  intro lim
  have q:Comes Wh.IY (((),((l.length+1:Nat):Int),0,(),true,true,lim),l ++ [t]) ((),y_ l t):=by
   refine .out ?_
   simp only[Wh.IY,w2,c12,hins,Wh.q1_v _ _ hins,nQ,iy,cond_true]
  simp only[Wh.q4,cb q,cv q,cond_true]
 have w3:IntKind.wrap .u64 ((l.length+1:Nat):Int)=((l.length+1:Nat):Int):=by simp[IntKind.wrap,IntKind.signed,IntKind.bits];omega
 have hb:Wh.bits_Len ((l.length+1:Nat):Int)=some ((bitLen (l.length+1):Int),()):=by
  have d1:decide (((l.length+1:Nat):Int)≤18446744073709551615)=true:=decide_eq_true (by omega)
  simp only[Wh.bits_Len,g0,d1,Bool.and_self,cond_true,Int.toNat_natCast]
 simp only[Wh.I1,hlen,w3,hb,hp,Wh.q4_v _ _ (hp _),nQ,iy,Bool.and_self,cond_true]
structure yJ (c:Ct):Prop where
 ed:0≤c.1∧c.1≤99999
 len:c.2.1.length≤8
 ok:∀t∈c.2.1,A6 t.1 t.2.1 t.2.2.2.1=true
 eds:∀t∈c.2.1,1≤t.2.2.1∧t.2.2.1≤c.1
 srt:c.2.1.Pairwise lt2
 dis:c.2.1.Pairwise (fun a b=>a.2.2.1≠b.2.2.1)
 byt:∀h:Int,n5 c.2.1 h≤500
def Dr (c:Ct)(h:Int)(n t:List UInt8):Ct×Int:=
 bif !A6 h n t then(c,1) else match zD c.2.1 h n with
  |some _=>(c,2)
  |none=>if 8≤c.2.1.length∨99999≤c.1∨500<n5 c.2.1 h+t.length then(c,4) else((c.1+1,y_ c.2.1 (h,n,c.1+1,t,()),()),0)
def DM (c:Ct)(h:Int)(n:List UInt8):Ct×Int:=
 match zD c.2.1 h n with
 |none=>(c,3)
 |some i=>((c.1,c.2.1.take i++c.2.1.drop (i+1),()),0)
end Pl
open Go Go.Ab Go.Lib
namespace Pl
theorem LY {h:Int}{n t:List UInt8}(hp:A6 h n t=true):(0≤h∧h≤1)∧zU n=true∧1≤t.length∧t.length≤300:=by
 unfold A6 at hp
 rw[Bool.and_eq_true,Bool.and_eq_true] at hp
 exact⟨of_decide_eq_true hp.1.1,hp.1.2,of_decide_eq_true hp.2⟩
theorem Lb (c:Ct)(I:yJ c):Wh.Fx c=some (true,()):=by
 obtain⟨ce,l,u⟩:=c
 have hed:0≤ce∧ce≤99999:=I.ed
 have hlen:l.length≤8:=I.len
 have hok:∀t∈l,A6 t.1 t.2.1 t.2.2.2.1=true:=I.ok
 have heds:∀t∈l,1≤t.2.2.1∧t.2.2.1≤ce:=I.eds
 have hsrt:l.Pairwise lt2:=I.srt
 have fG:l.Pairwise (fun a b=>a.2.2.1≠b.2.2.1):=I.dis
 have Lx:∀h:Int,n5 l h≤500:=I.byt
 have hmem (i:Nat) (hi:i<l.length):l.getD i z0∈l:=by rw[getD_eq _ _ _ hi];exact List.getElem_mem hi
 have c0:=za ce 0 99999
 rw[decide_eq_true hed] at c0
 have c1:decide ((l.length:Int)>8)=false:=decide_eq_false (by omega)
 have q0:=x7 (r:=Wh.En) (fun i=>(((),(i:Int)),(ce,l,u))) (n:=l.length) (y:=.inr ((),(ce,l,u))) (fun i hi=>by
  have hmm:=hmem i hi
  have hp:=hok _ hmm
  have hn:=JP _ (LY hp).2.1
  have a1:=LB (l.getD i z0) (by omega)
  rw[hp] at a1
  have a2:=za (l.getD i z0).2.2.1 1 ce
  rw[decide_eq_true (heds _ hmm)] at a2
  have qi:=x7 (r:=Wh.Fy) (fun k=>(((k:Int),(),(),(i:Int)),l.getD i z0,(ce,l,u))) (n:=i) (y:=.inr (((),(i:Int)),(ce,l,u))) (fun k hk=>by
   have hd:=LV fG hk hi
   have d1:((l.getD k ((0:Int),[],(0:Int),[],())).2.2.1==(l.getD i z0).2.2.1)=false:=beq_eq_false_iff_ne.2 hd
   have d2:decide ((k:Int)<(l.length:Int))=true:=gl (by omega)
   simp only[Wh.Fy,gl hk,g0,Int.toNat_natCast,d1,d2,iy,Bool.and_self,cond_true,cond_false,mw (show k≤4611686018427387904 by omega)]) (by
   have d1:decide ((i:Int)<(i:Int))=false:=decide_eq_false (by omega)
   simp only[Wh.Fy,d1,cond_false]) 0 (Nat.zero_le _)
  have CX:Comes Wh.Fy ((0,(),(),(i:Int)),l.getD i z0,(ce,l,u)) _:=qi
  unfold z0 at a1 a2 CX
  have wi1:=mw (show i≤4611686018427387904 by omega)
  rcases Nat.eq_zero_or_pos i with h0|h0
  ·subst h0
   have d3:decide (((0:Nat):Int)>0)=false:=rfl
   simp only[Wh.En,gl hi,g0,Int.toNat_natCast,a1,Wh.FD _ _ a1,a2,Wh.zY _ _ a2,d3,nQ,Bool.not_true,Bool.not_false,Bool.false_and,Bool.true_or,Bool.or_true,iy,Bool.and_self,cond_true,cond_false,cb CX,cv CX,sumC,wi1]
  ·obtain⟨m,rfl⟩:∃m,i=m+1:=⟨i-1,by omega⟩
   have hl:=LV hsrt (i:=m) (j:=m+1) (by omega) hi
   have a3:=NX (l.getD m z0) (l.getD (m+1) z0).1 (l.getD (m+1) z0).2.1
   rw[show yX _ _ _=true from hl] at a3
   unfold z0 at a3
   have w1:IntKind.wrap .i64 (((m+1:Nat):Int)-1)=(m:Int):=wi (by omega) (by omega)
   have d3:decide (((m+1:Nat):Int)>0)=true:=decide_eq_true (by omega)
   simp only[Wh.En,gl hi,gl (show m<l.length by omega),w1,g0,Int.toNat_natCast,a1,Wh.FD _ _ a1,a2,Wh.zY _ _ a2,a3,Wh.Md _ _ a3,d3,nQ,Bool.not_true,Bool.not_false,Bool.or_true,iy,Bool.and_self,cond_true,cond_false,cb CX,cv CX,sumC,wi1]) (by
  have d1:decide ((l.length:Int)<(l.length:Int))=false:=decide_eq_false (by omega)
  simp only[Wh.En,d1,cond_false]) 0 (Nat.zero_le _)
 have q0':Comes Wh.En (((),0),(ce,l,u)) _:=q0
 have b0:=RL l 0 (by have:=Lx 0;omega) (by omega)
 have b1:=RL l 1 (by have:=Lx 1;omega) (by omega)
 have e0:decide ((n5 l 0:Int)>500)=false:=decide_eq_false (by have:=Lx 0;omega)
 have e1:decide ((n5 l 1:Int)>500)=false:=decide_eq_false (by have:=Lx 1;omega)
 have q2:Comes Wh.G6 ((0,()),(ce,l,u)) (.inr ((),())):=by
  refine .again (x':=((1,()),(ce,l,u))) ?_ (.again (x':=((2,()),(ce,l,u))) ?_ (.out rfl))
  ·simp only[Wh.G6,b0,Wh.L5 _ _ b0,e0,nQ,iy,cond_true,cond_false];rfl
  ·simp only[Wh.G6,b1,Wh.L5 _ _ b1,e1,nQ,iy,cond_true,cond_false];rfl
 simp only[Wh.Fx,c0,Wh.zY _ _ c0,c1,nQ,iy,Bool.not_true,cond_true,cond_false,cb q0',cv q0',sumC,cb q2,cv q2]
theorem copy_eq (c:Ct)(h:c.2.1.length≤99999):Wh.DB c=some (c,()):=by
 have d:decide (0+c.2.1.length≤dh)=true:=decide_eq_true (by unfold dh;omega)
 simp only[Wh.DB,d,iy,cond_true,List.nil_append]
theorem Ld (c:Ct)(h:c.2.1.length≤99999):Wh.EJ c=some (c,()):=by
 have d:decide (0+c.2.1.length≤dh)=true:=decide_eq_true (by unfold dh;omega)
 simp only[Wh.EJ,d,iy,cond_true,List.nil_append]
theorem Nt {l:List It}{h:Int}{n:List UInt8}{i:Nat}(e:zD l h n=some i):i<l.length:=(Ap.1 e).1
theorem Nu:decide (yC none<0)=true:=rfl
theorem afG (c:Ct)(I:yJ c)(h:Int)(n:List UInt8):Wh.GS (c,h,n)=some (DM c h n,()):=by
 have hl:=I.len
 have a:=Lb c I
 have b:=MT c h n (by omega)
 unfold DM
 cases e:zD c.2.1 h n with
 |none=>
  rw[e] at b
  have d:=copy_eq c (by omega)
  simp only[Wh.GS,a,Wh.Fz _ _ a,b,Wh.Hg _ _ b,Nu,d,Wh.II _ _ d,nQ,iy,cond_true,cond_false,Bool.not_true]
 |some i=>
  rw[e] at b
  have hi:=Nt e
  have w1:IntKind.wrap .i64 ((i:Int)+1)=((i+1:Nat):Int):=wi (by omega) (by omega)
  have t0:List.take (Int.toNat ((i:Int)-0)) (List.drop (Int.toNat 0) c.2.1)=c.2.1.take i:=by simp
  have t1:List.take (Int.toNat ((c.2.1.length:Int)-((i+1:Nat):Int))) (List.drop (i+1) c.2.1)=c.2.1.drop (i+1):=by
   rw[List.take_of_length_le];rw[List.length_drop];omega
  have d1:decide ((c.2.1.take i).length+(c.2.1.drop (i+1)).length≤dh)=true:=decide_eq_true (by rw[List.length_take,List.length_drop];unfold dh;omega)
  have d2:decide (((i+1:Nat):Int)≤(c.2.1.length:Int))=true:=decide_eq_true (by omega)
  have d3:decide ((c.2.1.length:Int)≤(c.2.1.length:Int))=true:=decide_eq_true (by omega)
  have d4:decide ((i:Int)≤(c.2.1.length:Int))=true:=decide_eq_true (by omega)
  have d5:decide (0+(c.2.1.take i).length≤dh)=true:=decide_eq_true (by rw[List.length_take];unfold dh;omega)
  have f:Wh.IK (c,(i:Int))=some ((c.1,c.2.1.take i++c.2.1.drop (i+1),()),()):=by
   simp only[Wh.IK,w1,t0,t1,Int.toNat_natCast,List.nil_append,d1,d2,d3,d4,d5,g0,iy,Bool.and_self,cond_true]
  have b':Wh.CN (c,h,n)=some ((i:Int),()):=b
  have e1:decide ((i:Int)<0)=false:=decide_eq_false (by omega)
  simp only[Wh.GS,a,Wh.Fz _ _ a,b',Wh.Hg _ _ b',e1,f,Wh.XL _ _ f,nQ,iy,cond_true,cond_false,Bool.not_true]
theorem ZP (l:List It)(i:Nat)(hi:i<l.length)(hl:l.length≤99999):Wh.q17 (l,(i:Int),((i+1:Nat):Int))=some (l.take i++l.drop (i+1),()):=by
 have le (x y:Nat) (h:x≤y):decide ((x:Int)≤(y:Int))=true:=decide_eq_true (by omega)
 have t1:List.take (Int.toNat ((l.length:Int)-((i+1:Nat):Int))) (List.drop (i+1) l)=l.drop (i+1):=by
  rw[List.take_of_length_le];rw[List.length_drop];omega
 have ne:((i:Int)==((i+1:Nat):Int))=false:=beq_eq_false_iff_ne.2 (by omega)
 have t0:Int.toNat ((i:Int)-0)=i:=by omega
 have ld:(l.drop (i+1)).length=l.length-(i+1):=by simp
 have d1:decide (Int.toNat 0+i+(l.length-(i+1))≤l.length)=true:=decide_eq_true (by simp;omega)
 have s9:i+(l.length-(i+1))=l.length-1:=by omega
 have lp:(List.take (Int.toNat 0+i) l++(l.drop (i+1)++List.drop (Int.toNat 0+i+(l.length-(i+1))) l)).length=l.length:=by
  simp only[Int.toNat_zero,Nat.zero_add,List.length_append,List.length_take,List.length_drop];omega
 have d2:decide (((Int.toNat 0:Nat):Int)+(l.length:Int)≤(l.length:Int))=true:=decide_eq_true (by simp)
 simp only[Wh.q17,t0,t1,ne,ld,d1,s9,lp,d2,g0,le i (i+1) (by omega),le (i+1) l.length (by omega),le l.length l.length (Nat.le_refl _),le i l.length (by omega),le (l.length-1) l.length (by omega),Int.toNat_natCast,iy,Bool.and_self,cond_true,cond_false]
 congr 2
 rw[List.take_append_of_le_length (by rw[List.length_take,lp];simp),List.take_take]
 have e1:min (l.length-1) (Int.toNat 0+(l.length-1))=l.length-1:=by simp
 rw[e1]
 have e2:(List.take (Int.toNat 0+i) l++l.drop (i+1)).length=l.length-1:=by
  simp only[Int.toNat_zero,Nat.zero_add,List.length_append,List.length_take,List.length_drop];omega
 rw[←List.append_assoc,List.take_append_of_le_length (by omega),List.take_of_length_le (by omega)]
 simp
theorem abp (c:Ct)(h:Int)(n:List UInt8)(hl:c.2.1.length≤99999):Wh.q65 (c,h,n)=some (DM c h n,()):=by
 have a:=Ld c (by omega)
 have b:=NT c h n (by omega)
 unfold DM
 cases e:zD c.2.1 h n with
 |none=>
  rw[e] at b
  simp only[Wh.q65,a,Wh.FR _ _ a,b,Wh.BV _ _ b,Nu,nQ,iy,cond_true]
 |some i=>
  rw[e] at b
  have hi:=Nt e
  have b':Wh.CQ (c,h,n)=some ((i:Int),()):=b
  have e1:decide ((i:Int)<0)=false:=decide_eq_false (by omega)
  have w1:IntKind.wrap .i64 ((i:Int)+1)=((i+1:Nat):Int):=wi (by omega) (by omega)
  have f:=ZP c.2.1 i hi (by omega)
  have d5:decide (0+(c.2.1.take i++c.2.1.drop (i+1)).length≤dh)=true:=decide_eq_true (by rw[List.length_append,List.length_take,List.length_drop];unfold dh;omega)
  simp only[Wh.q65,a,Wh.FR _ _ a,b',Wh.BV _ _ b',e1,w1,f,Wh.q17_v _ _ f,d5,List.nil_append,nQ,iy,Bool.and_self,cond_true,cond_false]
theorem afE (c:Ct)(I:yJ c)(h:Int)(n t:List UInt8)(hn:n.length≤9999999)(ht:t.length≤9999999):Wh.Fp (c,h,n,t)=some (Dr c h n t,()):=by
 have hl:=I.len
 have hb:=I.byt h
 have hed:=I.ed
 have a:=Lb c I
 have a2:=LB (h,n,0,t,()) hn
 have d:=copy_eq c (by omega)
 unfold Dr
 simp only at a2
 cases hp:A6 h n t with
 |false=>
  rw[hp] at a2
  simp only[Wh.Fp,a,Wh.Fz _ _ a,a2,Wh.FD _ _ a2,d,Wh.II _ _ d,nQ,iy,cond_true,cond_false,Bool.not_true,Bool.not_false]
 |true=>
  rw[hp] at a2
  have b:=MT c h n (by omega)
  cases e:zD c.2.1 h n with
  |some i=>
   rw[e] at b
   have b':Wh.CN (c,h,n)=some ((i:Int),()):=b
   have e1:decide ((i:Int)≥0)=true:=decide_eq_true (by omega)
   simp only[Wh.Fp,a,Wh.Fz _ _ a,a2,Wh.FD _ _ a2,b',Wh.Hg _ _ b',e1,d,Wh.II _ _ d,nQ,iy,cond_true,cond_false,Bool.not_true]
  |none=>
   rw[e] at b
   have b':Wh.CN (c,h,n)=some (-1,()):=b
   have e1:decide ((-1:Int)≥0)=false:=rfl
   have f:=RL c.2.1 h (by omega) (by omega)
   have w1:IntKind.wrap .i64 ((n5 c.2.1 h:Int)+(t.length:Int))=((n5 c.2.1 h+t.length:Nat):Int):=wi (by omega) (by omega)
   have cc:(bif bif decide ((c.2.1.length:Int)≥8) then true else decide (c.1≥99999) then true else decide (((n5 c.2.1 h+t.length:Nat):Int)>500))=decide (8≤c.2.1.length∨99999≤c.1∨500<n5 c.2.1 h+t.length):=by
    by_cases h1:(c.2.1.length:Int)≥8
    ·rw[decide_eq_true h1,decide_eq_true (p:=8≤c.2.1.length∨99999≤c.1∨500<n5 c.2.1 h+t.length) (by omega)];rfl
    ·rw[decide_eq_false h1]
     by_cases h2:c.1≥99999
     ·rw[decide_eq_true h2,decide_eq_true (p:=8≤c.2.1.length∨99999≤c.1∨500<n5 c.2.1 h+t.length) (by omega)];rfl
     ·rw[decide_eq_false h2]
      simp only[cond_false]
      congr 1;simp only[eq_iff_iff];omega
   simp only[Wh.Fp,a,Wh.Fz _ _ a,a2,Wh.FD _ _ a2,b',Wh.Hg _ _ b',e1,f,Wh.L5 _ _ f,w1,cc,d,Wh.II _ _ d,nQ,Bool.or_true,iy,cond_true,cond_false,Bool.not_true]
   by_cases hc:8≤c.2.1.length∨99999≤c.1∨500<n5 c.2.1 h+t.length
   ·rw[decide_eq_true hc,if_pos hc];rfl
   ·rw[decide_eq_false hc,if_neg hc]
    obtain⟨ce,l,u⟩:=c
    simp only at hed hl hc
    have hx:=DZ (r:=Wh.Es) (fun i=>(((i:Int),(),(),()),(((0:Int),(),()),(ce,l,u),(h,n,(0:Int),t,()),[]))) (n:=l.length) (p:=fun i=> !yX (l.getD i z0) h n) (yt:=fun i=>(((),(i:Int),(),()),(((0:Int),(),()),(ce,l,u),(h,n,(0:Int),t,()),[]))) (yn:=(((),(l.length:Int),(),()),(((0:Int),(),()),(ce,l,u),(h,n,(0:Int),t,()),[]))) (fun i hi hp=>by
      have q:=NX (l.getD i z0) h n
      have hp':yX (l.getD i z0) h n=true:=by simpa using hp
      rw[hp'] at q
      unfold z0 at q
      simp only[Wh.Es,gl hi,g0,Int.toNat_natCast,q,Wh.Md _ _ q,nQ,Bool.or_true,iy,Bool.and_self,cond_true,mw (show i≤4611686018427387904 by omega)]) (fun i hi hp=>by
      have q:=NX (l.getD i z0) h n
      have hp':yX (l.getD i z0) h n=false:=by simpa using hp
      rw[hp'] at q
      unfold z0 at q
      simp only[Wh.Es,gl hi,g0,Int.toNat_natCast,q,Wh.Md _ _ q,nQ,Bool.or_true,iy,Bool.and_self,cond_true,cond_false]) (by
      have d1:decide ((l.length:Int)<(l.length:Int))=false:=decide_eq_false (by omega)
      simp only[Wh.Es,d1,Bool.not_false,Bool.true_or,iy,Bool.and_self,cond_true,cond_false])
    have hx':Comes Wh.Es ((0,(),(),()),(((0:Int),(),()),(ce,l,u),(h,n,(0:Int),t,()),[])) (((),(yp l h n:Int),(),()),(((0:Int),(),()),(ce,l,u),(h,n,(0:Int),t,()),[])):=by
     have:(match first l.length (fun i=> !yX (l.getD i z0) h n) with | some i=>(((),(i:Int),(),()),(((0:Int),(),()),(ce,l,u),(h,n,(0:Int),t,()),([]:List It)))|none=>(((),(l.length:Int),(),()),(((0:Int),(),()),(ce,l,u),(h,n,(0:Int),t,()),[])))=(((),(yp l h n:Int),(),()),(((0:Int),(),()),(ce,l,u),(h,n,(0:Int),t,()),[])):=by
      unfold yp;cases first l.length (fun i=> !yX (l.getD i z0) h n)<;>rfl
     rw[←this];exact hx
    have hpl:=Ig l h n
    have w2:IntKind.wrap .i64 (ce+1)=ce+1:=wrap64 (by omega) (by omega)
    have t0:List.take (Int.toNat ((yp l h n:Int)-0)) (List.drop (Int.toNat 0) l)=l.take (yp l h n):=by simp
    have t1:List.take (Int.toNat ((l.length:Int)-(yp l h n:Int))) (List.drop (yp l h n) l)=l.drop (yp l h n):=by
     rw[List.take_of_length_le];rw[List.length_drop];omega
    have d1 (k:Nat) (hk:k≤100):decide (k≤dh)=true:=decide_eq_true (by unfold dh;omega)
    have d2:decide ((yp l h n:Int)≤(l.length:Int))=true:=decide_eq_true (by omega)
    have d3:decide ((l.length:Int)≤(l.length:Int))=true:=decide_eq_true (by omega)
    have hf:Wh.IV ((ce,l,u),h,n,0,t,())=some ((ce+1,y_ l (h,n,ce+1,t,()),()),()):=by
     simp only[Wh.IV,cb hx',cv hx',cond_true,w2,t0,t1,Int.toNat_natCast,List.nil_append,g0,d2,d3]
     rw[d1 _ (by simp only[List.length_append,List.length_take,List.length_drop,List.length_cons,List.length_nil];omega),d1 _ (by simp only[List.length_take];omega),d1 _ (by simp only[List.length_take];omega)]
     simp only[iy,Bool.and_self,cond_true,y_,List.append_assoc]
     rfl
    simp only[hf,Wh.X9 _ _ hf,cond_true,cond_false]
theorem abn (c:Ct)(I:yJ c)(h:Int)(n t:List UInt8)(hn:n.length≤9999999)(ht:t.length≤9999999):Wh.q91 (c,h,n,t)=some (Dr c h n t,()):=by
 have hl:=I.len
 have hb:=I.byt h
 have hed:=I.ed
 have a:=Ld c (by omega)
 have a2:=pub_eq h n t hn
 unfold Dr
 cases hp:A6 h n t with
 |false=>
  rw[hp] at a2
  simp only[Wh.q91,a,Wh.FR _ _ a,a2,Wh.Mr _ _ a2,nQ,iy,cond_true,Bool.not_false]
 |true=>
  rw[hp] at a2
  have b:=NT c h n (by omega)
  cases e:zD c.2.1 h n with
  |some i=>
   rw[e] at b
   have b':Wh.CQ (c,h,n)=some ((i:Int),()):=b
   have e1:decide ((i:Int)≥0)=true:=decide_eq_true (by omega)
   simp only[Wh.q91,a,Wh.FR _ _ a,a2,Wh.Mr _ _ a2,b',Wh.BV _ _ b',e1,nQ,iy,cond_true,cond_false,Bool.not_true]
  |none=>
   rw[e] at b
   have b':Wh.CQ (c,h,n)=some (-1,()):=b
   have e1:decide ((-1:Int)≥0)=false:=rfl
   have f:=abg c h (by omega) (by omega)
   have w1:IntKind.wrap .i64 ((n5 c.2.1 h:Int)+(t.length:Int))=((n5 c.2.1 h+t.length:Nat):Int):=wi (by omega) (by omega)
   have cc:(bif bif(c.2.1.length:Int)==8 then true else c.1==99999 then true else decide (((n5 c.2.1 h+t.length:Nat):Int)>500))=decide (8≤c.2.1.length∨99999≤c.1∨500<n5 c.2.1 h+t.length):=by
    by_cases h1:(c.2.1.length:Int)=8
    ·rw[beq_iff_eq.2 h1,decide_eq_true (p:=8≤c.2.1.length∨99999≤c.1∨500<n5 c.2.1 h+t.length) (by omega)];rfl
    ·rw[beq_eq_false_iff_ne.2 h1]
     by_cases h2:c.1=99999
     ·rw[beq_iff_eq.2 h2,decide_eq_true (p:=8≤c.2.1.length∨99999≤c.1∨500<n5 c.2.1 h+t.length) (by omega)];rfl
     ·rw[beq_eq_false_iff_ne.2 h2]
      simp only[cond_false]
      congr 1;simp only[eq_iff_iff];omega
   simp only[Wh.q91,a,Wh.FR _ _ a,a2,Wh.Mr _ _ a2,b',Wh.BV _ _ b',e1,f,Wh.q46_v _ _ f,w1,cc,nQ,Bool.or_true,iy,cond_true,cond_false,Bool.not_true]
   by_cases hc:8≤c.2.1.length∨99999≤c.1∨500<n5 c.2.1 h+t.length
   ·rw[decide_eq_true hc,if_pos hc];rfl
   ·rw[decide_eq_false hc,if_neg hc]
    obtain⟨ce,l,u⟩:=c
    simp only at hed hl hc e
    have w2:IntKind.wrap .i64 (ce+1)=ce+1:=wrap64 (by omega) (by omega)
    have d1:decide (l.length+1≤dh)=true:=decide_eq_true (by unfold dh;omega)
    have s:=afv l (h,n,ce+1,t,()) I.srt e hl
    have hil:(y_ l (h,n,ce+1,t,())).length=l.length+1:=by
     have:=Ig l h n
     simp only[y_,List.length_append,List.length_cons,List.length_take,List.length_drop];omega
    have k:=Ld (ce+1,y_ l (h,n,ce+1,t,()),u) (by simp only[hil];omega)
    simp only[w2,d1,s,Wh.q8_v _ _ s,k,Wh.FR _ _ k,cond_true,cond_false]
end Pl
open Go Go.Ab Go.Lib
namespace Pl
theorem Vf {l:List It}{t x:It}(h:x∈y_ l t):x=t∨x∈l:=by
 unfold y_ at h
 rcases List.mem_append.1 h with h|h
 ·exact .inr (List.mem_of_mem_take h)
 ·rcases List.mem_cons.1 h with h|h
  ·exact .inl h
  ·exact .inr (List.mem_of_mem_drop h)
theorem aby (l:List It)(t:It):(y_ l t).length=l.length+1:=by
 have:=Ig l t.1 t.2.1
 simp only[y_,List.length_append,List.length_cons,List.length_take,List.length_drop];omega
theorem abx (l:List It)(t:It)(h:Int):n5 (y_ l t) h=n5 l h+if t.1=h then t.2.2.2.1.length else 0:=by
 have e:n5 l h=n5 (l.take (yp l t.1 t.2.1)) h+n5 (l.drop (yp l t.1 t.2.1)) h:=by rw[←HL,List.take_append_drop]
 have e2:n5 (t::l.drop (yp l t.1 t.2.1)) h=(if t.1=h then t.2.2.2.1.length else 0)+n5 (l.drop (yp l t.1 t.2.1)) h:=by simp[n5]
 rw[y_,HL,e2,e];omega
theorem ab9 {l:List It}{k:Nat}{x:It}(hk:k≤l.length)(h:x∈l.take k):∃i,i<k∧l.getD i z0=x:=by
 obtain⟨i,hi,rfl⟩:=List.getElem_of_mem h
 rw[List.length_take] at hi
 exact⟨i,by omega,by rw[getD_eq _ _ _ (by omega),List.getElem_take]⟩
theorem ab8 {l:List It}{k:Nat}{x:It}(h:x∈l.drop k):∃i,k≤i∧i<l.length∧l.getD i z0=x:=by
 obtain⟨i,hi,rfl⟩:=List.getElem_of_mem h
 rw[List.length_drop] at hi
 exact⟨k+i,by omega,by omega,by rw[getD_eq _ _ _ (by omega),List.getElem_drop]⟩
theorem Vg {R:It→It→Prop}{l:List It}{t:It}(h:l.Pairwise R)(h1:∀x∈l.take (yp l t.1 t.2.1),R x t)(h2:∀x∈l.drop (yp l t.1 t.2.1),R t x):(y_ l t).Pairwise R:=by
 unfold y_
 rw[List.pairwise_append]
 have hs:(l.take (yp l t.1 t.2.1)++l.drop (yp l t.1 t.2.1)).Pairwise R:=by rw[List.take_append_drop];exact h
 rw[List.pairwise_append] at hs
 refine⟨hs.1,List.pairwise_cons.2 ⟨h2,hs.2.1⟩,?_⟩
 intro a ha b hb
 rcases List.mem_cons.1 hb with rfl|hb
 ·exact h1 a ha
 ·exact hs.2.2 a ha b hb
theorem acz (c:Ct)(I:yJ c)(h:Int)(n t:List UInt8):yJ (Dr c h n t).1:=by
 unfold Dr
 cases hp:A6 h n t with
 |false=>exact I
 |true=>
  simp only[Bool.not_true,cond_false]
  cases e:zD c.2.1 h n with
  |some i=>exact I
  |none=>
   simp only
   split
   ·exact I
   ·rename_i hc
    obtain⟨ce,l,u⟩:=c
    have hed:0≤ce∧ce≤99999:=I.ed
    have hlen:l.length≤8:=I.len
    simp only at hc e ⊢
    refine⟨⟨by simp only;omega,by simp only;omega⟩,?_,?_,?_,?_,?_,?_⟩
    ·simp only[aby];omega
    ·intro x hx
     rcases Vf hx with rfl|hx
     ·exact hp
     ·exact I.ok x hx
    ·intro x hx
     rcases Vf hx with rfl|hx
     ·simp only;omega
     ·have:=I.eds x hx;simp only at this ⊢;omega
    ·refine Vg I.srt ?_ ?_
     ·intro x hx
      obtain⟨i,hi,rfl⟩:=ab9 (Ig _ _ _) hx
      exact WR l h n i hi
     ·intro x hx
      obtain⟨i,h1,h2,rfl⟩:=ab8 hx
      exact WQ l (h,n,ce+1,t,()) I.srt e i h1 h2
    ·refine Vg I.dis ?_ ?_
     ·intro x hx
      have:=I.eds x (List.mem_of_mem_take hx);simp only at this ⊢;omega
     ·intro x hx
      have:=I.eds x (List.mem_of_mem_drop hx);simp only at this ⊢;omega
    ·intro g
     have hb:=I.byt g
     simp only at hb
     simp only[abx]
     by_cases hg:h=g
     ·subst hg;rw[if_pos rfl];omega
     ·rw[if_neg hg];omega
theorem afZ (c:Ct)(I:yJ c)(h:Int)(n:List UInt8):yJ (DM c h n).1:=by
 unfold DM
 cases e:zD c.2.1 h n with
 |none=>exact I
 |some i=>
  obtain⟨ce,l,u⟩:=c
  simp only at e ⊢
  have hlen:l.length≤8:=I.len
  have hsub:(l.take i++l.drop (i+1)).Sublist l:=by
   have e1:l.take i++l.drop i=l:=List.take_append_drop ..
   have:(l.take i++l.drop (i+1)).Sublist (l.take i++l.drop i):=List.Sublist.append_left (by rw[←List.drop_drop];exact List.drop_sublist _ _) _
   rw[e1] at this;exact this
  refine⟨I.ed,?_,fun x hx=>I.ok x (hsub.subset hx),fun x hx=>I.eds x (hsub.subset hx),I.srt.sublist hsub,I.dis.sublist hsub,?_⟩
  ·have:=hsub.length_le;simp only;omega
  ·intro g
   have:=I.byt g
   simp only at this ⊢
   have e1:n5 l g=n5 (l.take i) g+n5 (l.drop i) g:=by rw[←HL,List.take_append_drop]
   have e2:n5 (l.drop i) g=n5 (l.drop i) g:=rfl
   have e3:n5 (l.drop (i+1)) g≤n5 (l.drop i) g:=by
    have hi:=Nt e
    rw[List.drop_eq_getElem_cons hi,n5,n5,List.map_cons,List.sum_cons]
    exact Nat.le_add_left _ _
   rw[HL];omega
theorem Lc:yJ (0,[],()):=by
 refine⟨⟨by simp,by simp⟩,by simp,by simp,by simp,.nil,.nil,by simp[n5]⟩
def AN (h:Int)(n t:List UInt8):Bool:=decide (0≤h∧h≤1)&&zU n&&decide (t.length≤300)
def Ax (h:Int)(n t:List UInt8):List UInt8:=if AN h n t=true then decDigits h.toNat++32::(n++58::t) else []
theorem Hw {h:Int}{n t:List UInt8}(hp:AN h n t=true):(0≤h∧h≤1)∧zU n=true∧t.length≤300:=by
 unfold AN at hp
 rw[Bool.and_eq_true,Bool.and_eq_true] at hp
 exact⟨of_decide_eq_true hp.1.1,hp.1.2,of_decide_eq_true hp.2⟩
theorem Zc (h:Int)(n t:List UInt8)(hn:n.length≤9999999)(ht:t.length≤9999999):Wh.q58 (h,n,t)=some (Ax h n t,()):=by
 have body (hr:AN h n t=true):Wh.Bw h=some (decDigits h.toNat,())∧(∀k,k≤1000→decide (k≤dh)=true)∧(decDigits h.toNat).length≤7∧n.length≤6∧t.length≤300:=by
  obtain⟨h1,h2,h3⟩:=Hw hr
  have:=E8 h.toNat (by omega)
  rw[show((h.toNat:Nat):Int)=h by omega] at this
  exact⟨this,fun k hk=>decide_eq_true (by unfold dh;omega),AV _ (by omega),(JP _ h2).2,h3⟩
 have fin (hr:AN h n t=true):(bif iy [decide (List.length ((Wh.Av h).1 ++ [(32:UInt8)]++n ++ [(58:UInt8)])+List.length t≤dh),decide (List.length ((Wh.Av h).1 ++ [(32:UInt8)]++n)+(1:Nat)≤dh),decide (List.length ((Wh.Av h).1 ++ [(32:UInt8)])+List.length n≤dh),decide (List.length (Wh.Av h).1+(1:Nat)≤dh),nQ (Wh.Bw h)] then some ((Wh.Av h).1 ++ [(32:UInt8)]++n ++ [(58:UInt8)]++t,()) else none)=some (Ax h n t,()):=by
  obtain⟨e,d,l1,l2,l3⟩:=body hr
  rw[Wh.Er _ _ e,e]
  simp only
  rw[d _ (by simp only[List.length_append,List.length_singleton];omega),d _ (by simp only[List.length_append,List.length_singleton];omega),d _ (by simp only[List.length_append,List.length_singleton];omega),d _ (by omega)]
  simp[iy,nQ,Ax,hr]
 by_cases ht0:t = []
 ·have c1:(t==([]:List UInt8))=true:=beq_iff_eq.2 ht0
  have a:=LB (h,n,0,[(120:UInt8)],()) hn
  have hr:A6 h n [120]=AN h n t:=by subst ht0;rfl
  simp only[hr] at a
  simp only[Wh.q58,c1,cond_true,a,Wh.FD _ _ a,nQ,iy]
  cases hx:AN h n t with
  |false=>simp[Ax,hx]
  |true=>exact fin hx
 ·have c1:(t==([]:List UInt8))=false:=beq_eq_false_iff_ne.2 ht0
  have a:=LB (h,n,0,t,()) hn
  have hr:A6 h n t=AN h n t:=by
   have:1≤t.length:=by cases t;exact absurd rfl ht0;simp
   unfold A6 AN
   congr 2;simp only[eq_iff_iff];omega
  simp only[hr] at a
  simp only[Wh.q58,c1,cond_false,a,Wh.FD _ _ a,nQ,iy,cond_true]
  cases hx:AN h n t with
  |false=>simp[Ax,hx]
  |true=>exact fin hx
theorem U8 (h:Int)(n t:List UInt8)(hn:n.length≤9999999)(ht:t.length≤9999999):Wh.q44 (h,n,t)=some (Ax h n t,()):=by
 have a:=zq h 0 1
 have a':Wh.Cl h=some (decide (0≤h∧h≤1),()):=by simp only[Wh.Cl,a,Wh.zK _ _ a,nQ,iy,cond_true]
 have b:=NV n hn
 have hc:(bif bif !decide (0≤h∧h≤1) then true else !zU n then true else decide ((t.length:Int)>300)) = !AN h n t:=by
  unfold AN
  cases decide (0≤h∧h≤1)
  ·rfl
  ·cases zU n
   ·rfl
   ·simp only[Bool.not_true,cond_false,Bool.and_self,Bool.true_and]
    by_cases h3:t.length≤300
    ·rw[decide_eq_true h3,decide_eq_false (by omega)];rfl
    ·rw[decide_eq_false h3,decide_eq_true (by omega)];rfl
 simp only[Wh.q44,a',Wh.Mf _ _ a',b,Wh.L6 _ _ b,hc,nQ,Bool.or_true,iy,Bool.and_self,cond_true]
 cases hx:AN h n t with
 |false=>simp[Ax,hx]
 |true=>
  obtain⟨h1,h2,h3⟩:=Hw hx
  have e:=D4 h.toNat (by omega)
  rw[show((h.toNat:Nat):Int)=h by omega] at e
  have d (k:Nat) (hk:k≤1000):decide (k≤dh)=true:=decide_eq_true (by unfold dh;omega)
  have l1:=AV h.toNat (by omega)
  have l2:=(JP _ h2).2
  simp only[Bool.not_true,cond_false]
  rw[Wh.xL _ _ e,e]
  simp only
  rw[d _ (by simp only[List.length_append,List.length_singleton];omega),d _ (by simp only[List.length_append,List.length_singleton];omega),d _ (by simp only[List.length_append,List.length_singleton];omega),d _ (by omega)]
  simp[Ax,hx]
theorem YZ {h:Int}{n t s:List UInt8}(hs:Ax h n t=s)(hne:s ≠ []):AN h n t=true∧s=decDigits h.toNat++32::(n++58::t):=by
 unfold Ax at hs
 split at hs
 ·rename_i hr;exact⟨hr,hs.symm⟩
 ·exact absurd hs.symm hne
def HJ (s:List UInt8)(p:Int×List UInt8×List UInt8):Prop:=AN p.1 p.2.1 p.2.2=true∧s=decDigits p.1.toNat++32::(p.2.1++58::p.2.2)
theorem MO {h:Int}{n t:List UInt8}(hr:AN h n t=true):∀x∈decDigits h.toNat++32::n,x≠58:=by
 intro x hx
 rcases List.mem_append.1 hx with hx|hx
 ·have:=rm _ x hx
  intro e;subst e
  unfold eg at this
  have h58:(58:UInt8).toNat=58:=rfl
  omega
 ·rcases List.mem_cons.1 hx with rfl|hx
  ·decide
  ·exact WD n (Hw hr).2.1 58 (by decide) x hx
theorem abz {s:List UInt8}{p q:Int×List UInt8×List UInt8}(h:HJ s p)(h':HJ s q):p=q:=by
 obtain⟨h1,n1,t1⟩:=p
 obtain⟨h2,n2,t2⟩:=q
 have e:=h.2.symm.trans h'.2
 have a1:(decDigits h1.toNat++32::n1)++58::t1=(decDigits h2.toNat++32::n2)++58::t2:=by simpa using e
 obtain⟨e1,e2⟩:=pI (MO h.1) (MO h'.1) a1
 obtain⟨e3,e4⟩:=pI (ny _) (ny _) e1
 have e5:=uD e3
 have r1:=(Hw h.1).1
 have r2:=(Hw h'.1).1
 simp only at r1 r2
 have:h1=h2:=by omega
 simp only at e4
 rw[this,e2,e4]
open Classical in
noncomputable def Dn (s:List UInt8):Option (Int×List UInt8×List UInt8):=if h:∃p,HJ s p then some (Classical.choose h) else none
theorem WL {s:List UInt8}{p:Int×List UInt8×List UInt8}(h:Dn s=some p):HJ s p:=by
 unfold Dn at h
 split at h
 ·rename_i hex;cases h;exact Classical.choose_spec hex
 ·cases h
theorem WM {s:List UInt8}{p:Int×List UInt8×List UInt8}(h:HJ s p):Dn s=some p:=by
 have hex:∃p,HJ s p:=⟨p,h⟩
 unfold Dn
 rw[dif_pos hex]
 exact congrArg some (abz (Classical.choose_spec hex) h)
noncomputable def B5 (c:Ct) (s:List UInt8):Ct×Bool:=match Dn s with
 |none=>((0,[],()),false)
 |some (h,n,t)=>if t = [] then((DM c h n).1,(DM c h n).2==0) else((Dr c h n t).1,(Dr c h n t).2==0)
theorem Nz (s)(k:Nat)(hk:k≤s.length)(hs:s.length≤9999999)(from_:Int)(ls:List (List UInt8))(y):∀d i,i+d=k→(∀j,i≤j→j<k→s.getD j 0≠32)→Comes Wh.Au (((k:Int),from_,s,(),32),ls) y→Comes Wh.Au (((i:Int),from_,s,(),32),ls) y
 |0,i,h1,_,h3=>by have:i=k:=by omega
                  rw[this];exact h3
 |d+1,i,h1,h2,h3=>by
  refine .again ?_ (Nz s k hk hs from_ ls y d (i+1) (by omega) (fun j hj=>h2 j (by omega)) h3)
  have c1:(((s.getD i 0).toNat:Int)==32)=false:=beq_eq_false_iff_ne.2 (by
   intro e
   exact h2 i (Nat.le_refl _) (by omega) (UInt8.toNat_inj.1 (by have:(32:UInt8).toNat=32:=rfl;omega)))
  simp only[Wh.Au,gl (show i<s.length by omega),g0,Int.toNat_natCast,c1,iy,Bool.and_self,cond_true,cond_false,mw (show i≤4611686018427387904 by omega)]
theorem ZN (p q:List UInt8)(hp:∀x∈p,x≠32)(hq:∀x∈q,x≠32)(hl:(p++32::q).length≤9999999):Wh.Fq (p++32::q,32)=some ([p,q],()):=by
 have hlen:(p++32::q).length=p.length+1+q.length:=by simp;omega
 have gp (j:Nat) (hj:j<p.length):(p++32::q).getD j 0≠32:=by
  simp only[List.getD,List.getElem?_append_left hj,List.getElem?_eq_getElem hj,Option.getD_some]
  exact hp _ (List.getElem_mem hj)
 have gm:(p++32::q).getD p.length 0=32:=by rw[List.getD,List.getElem?_append_right (Nat.le_refl _),Nat.sub_self];rfl
 have gq (j:Nat) (h1:p.length+1≤j) (h2:j<p.length+1+q.length):(p++32::q).getD j 0≠32:=by
  obtain⟨m,rfl⟩:∃m,j=p.length+1+m:=⟨j-(p.length+1),by omega⟩
  have e:p.length+1+m-p.length=m+1:=by omega
  rw[List.getD,List.getElem?_append_right (by omega),e,List.getElem?_cons_succ]
  rw[List.getElem?_eq_getElem (by omega),Option.getD_some]
  exact hq _ (List.getElem_mem _)
 have hend:Comes Wh.Au ((((p.length+1+q.length:Nat):Int),((p.length+1:Nat):Int),p++32::q,(),32),[p]) ((((p.length+1:Nat):Int),p++32::q,()),[p]):=by
  refine .out ?_
  have c1:decide (((p.length+1+q.length:Nat):Int)<((p.length+1+q.length:Nat):Int))=false:=decide_eq_false (by omega)
  simp only[Wh.Au,hlen,c1,cond_false]
 have h2:=Nz (p++32::q) (p.length+1+q.length) (by omega) (by omega) ((p.length+1:Nat):Int) [p] _ q.length (p.length+1) (by omega) (fun j h1 h2=>gq j h1 h2) hend
 have h1:Comes Wh.Au (((p.length:Int),0,p++32::q,(),32),[]) ((((p.length+1:Nat):Int),p++32::q,()),[p]):=by
  refine .again ?_ h2
  have c1:(((32:UInt8).toNat:Int)==32)=true:=rfl
  have t0:List.take (Int.toNat ((p.length:Int)-0)) (List.drop (Int.toNat 0) (p++32::q))=p:=by simp
  have d1:decide ((p.length:Int)≤((p.length+1+q.length:Nat):Int))=true:=decide_eq_true (by omega)
  have d2:decide (([]:List (List UInt8)).length+1≤dh)=true:=rfl
  have d3:decide ((0:Int)≤0)=true:=rfl
  simp only[Wh.Au,hlen,gl (show p.length<p.length+1+q.length by omega),g0,Int.toNat_natCast,gm,c1,t0,d1,d2,d3,iy,Bool.and_self,cond_true,mw (show p.length≤4611686018427387904 by omega),List.nil_append]
 have h0:Comes Wh.Au ((0,0,p++32::q,(),32),[]) _:=Nz (p++32::q) p.length (by omega) (by omega) 0 [] _ p.length 0 (by omega) (fun j _ h=>gp j h) h1
 have t1:List.take (Int.toNat (((p.length+1+q.length:Nat):Int)-((p.length+1:Nat):Int))) (List.drop (p.length+1) (p++32::q))=q:=by
  have:List.drop (p.length+1) (p++32::q)=q:=by rw[←List.drop_drop];simp
  rw[this,List.take_of_length_le (by omega)]
 have d1:decide (((p.length+1:Nat):Int)≤((p.length+1+q.length:Nat):Int))=true:=decide_eq_true (by omega)
 have d2:decide (((p.length+1+q.length:Nat):Int)≤((p.length+1+q.length:Nat):Int))=true:=decide_eq_true (by omega)
 have d3:decide ([p].length+1≤dh)=true:=rfl
 simp only[Wh.Fq,cb h0,cv h0,cond_true,hlen,Int.toNat_natCast,t1,g0,d1,d2,d3,iy,Bool.and_self]
 rfl
theorem ZM (s:List UInt8)(hs:s.length≤9999999):∃l,Wh.Fq (s,32)=some (l,())∧∀x∈l,x.length≤s.length:=by
 have main:∀d i (from_:Nat) (ls:List (List UInt8)),i+d=s.length→from_≤i→ls.length≤i→(∀x∈ls,x.length≤s.length) →
   ∃(f:Nat) (l:List (List UInt8)),f≤s.length∧l.length≤s.length∧(∀x∈l,x.length≤s.length)∧Comes Wh.Au (((i:Int),(from_:Int),s,(),32),ls) (((f:Int),s,()),l):=by
  intro d
  induction d with
  |zero=>
   intro i from_ ls h1 h2 h3 h4
   have:i=s.length:=by omega
   subst this
   have c1:decide ((s.length:Int)<(s.length:Int))=false:=decide_eq_false (by omega)
   exact⟨from_,ls,h2,h3,h4,.out (by simp only[Wh.Au,c1,cond_false])⟩
  |succ d ih=>
   intro i from_ ls h1 h2 h3 h4
   by_cases hc:((s.getD i 0).toNat:Int)=32
   ·have hx:(List.take (Int.toNat ((i:Int)-(from_:Int))) (List.drop from_ s)).length≤s.length:=by simp;omega
    obtain⟨f,l,a1,a2,a3,a4⟩:=ih (i+1) (i+1) (ls ++ [List.take (Int.toNat ((i:Int)-(from_:Int))) (List.drop from_ s)]) (by omega) (Nat.le_refl _) (by simp;omega) (by
     intro x hx'
     rcases List.mem_append.1 hx' with hx'|hx'
     ·exact h4 x hx'
     ·rw[List.mem_singleton.1 hx'];exact hx)
    refine⟨f,l,a1,a2,a3,.again ?_ a4⟩
    have c1:(((s.getD i 0).toNat:Int)==32)=true:=beq_iff_eq.2 hc
    have d1:decide ((from_:Int)≤(i:Int))=true:=decide_eq_true (by omega)
    have d2:decide ((i:Int)≤(s.length:Int))=true:=decide_eq_true (by omega)
    have d3:decide (ls.length+1≤dh)=true:=decide_eq_true (by unfold dh;omega)
    simp only[Wh.Au,gl (show i<s.length by omega),g0,Int.toNat_natCast,c1,d1,d2,d3,iy,Bool.and_self,cond_true,mw (show i≤4611686018427387904 by omega)]
   ·obtain⟨f,l,a1,a2,a3,a4⟩:=ih (i+1) from_ ls (by omega) (by omega) (by omega) h4
    refine⟨f,l,a1,a2,a3,.again ?_ a4⟩
    have c1:(((s.getD i 0).toNat:Int)==32)=false:=beq_eq_false_iff_ne.2 hc
    simp only[Wh.Au,gl (show i<s.length by omega),g0,Int.toNat_natCast,c1,iy,Bool.and_self,cond_true,cond_false,mw (show i≤4611686018427387904 by omega)]
 obtain⟨f,l,a1,a2,a3,a4⟩:=main s.length 0 0 [] (by omega) (Nat.le_refl _) (Nat.zero_le _) (by simp)
 have Am:Comes Wh.Au ((0,0,s,(),32),[]) _:=a4
 refine⟨l ++ [List.take (Int.toNat ((s.length:Int)-(f:Int))) (List.drop f s)],?_,?_⟩
 ·have d1:decide ((f:Int)≤(s.length:Int))=true:=decide_eq_true (by omega)
  have d2:decide ((s.length:Int)≤(s.length:Int))=true:=decide_eq_true (by omega)
  have d3:decide (l.length+1≤dh)=true:=decide_eq_true (by unfold dh;omega)
  simp only[Wh.Fq,cb Am,cv Am,cond_true,Int.toNat_natCast,g0,d1,d2,d3,iy,Bool.and_self]
 ·intro x hx
  rcases List.mem_append.1 hx with hx|hx
  ·exact a3 x hx
  ·rw[List.mem_singleton.1 hx];simp
end Pl
open Go Go.Ab Go.Lib
namespace Pl
theorem Nq {c:Ct}{s:List UInt8}(h:Dn s=none):B5 c s=((0,[],()),false):=by unfold B5;rw[h]
theorem Nr {c:Ct}{s:List UInt8}{h:Int}{n t:List UInt8}(hp:Dn s=some (h,n,t)):B5 c s=if t = [] then((DM c h n).1,(DM c h n).2==0) else((Dr c h n t).1,(Dr c h n t).2==0):=by unfold B5;rw[hp]
theorem abE (c:Ct)(I:yJ c)(s:List UInt8)(hs:s.length≤9999999):Wh.Fv (c,s)=some (B5 c s,()):=by
 have le (x y:Nat) (h:x≤y):decide ((x:Int)≤(y:Int))=true:=decide_eq_true (by omega)
 have g0' (k:Nat):decide ((k:Int)<0)=false:=decide_eq_false (by omega)
 cases hp:Dn s with
 |some p=>
  obtain⟨h,n,t⟩:=p
  obtain⟨hr,hsh⟩:=WL hp
  simp only at hr hsh
  obtain⟨hh,hn,ht⟩:=Hw hr
  have gh:=JP n hn
  have hdl:=AV h.toNat (by omega)
  have HR:s=(decDigits h.toNat++32::n)++58::t:=by rw[hsh];simp
  have hd:s.drop 0=(decDigits h.toNat++32::n)++58::t:=HR
  have f1:Wh.zW (s,0,58)=some (((0+(decDigits h.toNat++32::n).length:Nat):Int),()):=HW s _ t 0 58 (by omega) hd (MO hr)
  rw[Nat.zero_add] at f1
  have hlen:s.length=(decDigits h.toNat++32::n).length+1+t.length:=by rw[HR];simp;omega
  have t1:List.take (Int.toNat (((decDigits h.toNat++32::n).length:Int)-0)) (List.drop (Int.toNat 0) s)=decDigits h.toNat++32::n:=by
   rw[show Int.toNat (((decDigits h.toNat++32::n).length:Int)-0)=(decDigits h.toNat++32::n).length by omega,show Int.toNat 0=0 from rfl,hd,List.take_left'];rfl
  have cu:=ZN (decDigits h.toNat) n (ny _) (WD n hn 32 (by decide)) (by simp;omega)
  have w1:=mw (i:=(decDigits h.toNat++32::n).length) (by omega)
  have t2:List.take (Int.toNat ((s.length:Int)-(((decDigits h.toNat++32::n).length+1:Nat):Int))) (List.drop ((decDigits h.toNat++32::n).length+1) s)=t:=by
   have:=HN s 0 ((decDigits h.toNat++32::n) ++ [58]) t (by rw[List.drop_zero,HR];simp)
   rw[Nat.zero_add,List.length_append,List.length_singleton] at this
   rw[this,List.take_of_length_le (by omega)]
  have nu:=HV (decDigits h.toNat) (by omega)
  rw[if_pos (JB (by omega)),ru,show((h.toNat:Nat):Int)=h by omega] at nu
  have re:=Zc h n t (by omega) (by omega)
  have rs:Ax h n t=s:=by rw[Ax,if_pos hr,hsh]
  rw[rs] at re
  have q0: [decDigits h.toNat,n].getD (Int.toNat 0) []=decDigits h.toNat:=rfl
  have q1: [decDigits h.toNat,n].getD (Int.toNat 1) []=n:=rfl
  have c1:(((([decDigits h.toNat,n]:List (List UInt8)).length:Nat):Int) != 2)=false:=rfl
  have c2:(s==s)=true:=beq_self_eq_true _
  have tk:=afG c I h n
  have pu:=afE c I h n t (by omega) (by omega)
  rw[Nr hp]
  have k1:decide ((0:Int)<((([decDigits h.toNat,n]:List (List UInt8)).length:Nat):Int))=true:=rfl
  have k2:decide ((1:Int)<((([decDigits h.toNat,n]:List (List UInt8)).length:Nat):Int))=true:=rfl
  have k3:decide ((0:Int)≤0)=true:=rfl
  have k4:decide ((0:Int)≤1)=true:=rfl
  simp only[Wh.Fv,f1,Wh.DA _ _ f1,g0',t1,cu,Wh.PX _ _ cu,w1,t2,Int.toNat_natCast,q0,q1,nu,Wh.Hf _ _ nu,re,Wh.Q_ _ _ re,c1,c2,tk,Wh.W9 _ _ tk,pu,Wh.Xz _ _ pu,nQ,g0,k1,k2,k3,k4,
   le (decDigits h.toNat++32::n).length s.length (by omega),le ((decDigits h.toNat++32::n).length+1) s.length (by omega),le s.length s.length (Nat.le_refl _),Bool.or_true,Bool.not_true,Bool.not_false,iy,Bool.and_self,cond_true,cond_false]
  by_cases ht0:t = []
  ·rw[beq_iff_eq.2 ht0,if_pos ht0];rfl
  ·rw[beq_eq_false_iff_ne.2 ht0,if_neg ht0];rfl
 |none=>
  rw[Nq hp]
  rcases Hz 58 s with h1|⟨p,t,hsh,hp58⟩
  ·have f1:Wh.zW (s,0,58)=some (-1,()):=NW s 0 58 (by omega) (by omega) h1
   have c1:decide ((-1:Int)<0)=true:=rfl
   simp only[Wh.Fv,f1,Wh.DA _ _ f1,c1,nQ,iy,cond_true]
  ·have hd:s.drop 0=p++58::t:=hsh
   have f1:Wh.zW (s,0,58)=some (((0+p.length:Nat):Int),()):=HW s _ t 0 58 (by omega) hd hp58
   rw[Nat.zero_add] at f1
   have hlen:s.length=p.length+1+t.length:=by rw[hsh];simp;omega
   have t1:List.take (Int.toNat ((p.length:Int)-0)) (List.drop (Int.toNat 0) s)=p:=by
    rw[show Int.toNat ((p.length:Int)-0)=p.length by omega,show Int.toNat 0=0 from rfl,hd,List.take_left'];rfl
   obtain⟨F,cu,hF⟩:=ZM p (by omega)
   have w1:=mw (i:=p.length) (by omega)
   have t2:List.take (Int.toNat ((s.length:Int)-((p.length+1:Nat):Int))) (List.drop (p.length+1) s)=t:=by
    have:=HN s 0 (p ++ [58]) t (by rw[List.drop_zero,hsh];simp)
    rw[Nat.zero_add,List.length_append,List.length_singleton] at this
    rw[this,List.take_of_length_le (by omega)]
   simp only[Wh.Fv,f1,Wh.DA _ _ f1,g0',t1,cu,Wh.PX _ _ cu,w1,t2,Int.toNat_natCast,nQ,g0,
    le p.length s.length (by omega),le (p.length+1) s.length (by omega),le s.length s.length (Nat.le_refl _),iy,Bool.and_self,cond_true,cond_false]
   cases h2:((F.length:Int) != 2) with
   |true=>simp only[Bool.not_true,Bool.not_false,Bool.true_or,Bool.and_self,cond_true]
   |false=>
    have hF2:F.length=2:=by
     have:=bne_eq_false_iff_eq.1 h2;omega
    obtain⟨a,b,rfl⟩:∃a b,F = [a,b]:=by
     match F,hF2 with
     | [a,b],_=>exact⟨a,b,rfl⟩
    have ha:=hF a (by simp)
    have hb:=hF b (by simp)
    have q0: [a,b].getD (Int.toNat 0) []=a:=rfl
    have q1: [a,b].getD (Int.toNat 1) []=b:=rfl
    have nu:=HV a (by omega)
    have re:=Zc (if isNum a then(er a:Int) else -1) b t (by omega) (by omega)
    have k1:decide ((0:Int)<((([a,b]:List (List UInt8)).length:Nat):Int))=true:=rfl
    have k2:decide ((1:Int)<((([a,b]:List (List UInt8)).length:Nat):Int))=true:=rfl
    have k3:decide ((0:Int)≤0)=true:=rfl
    have k4:decide ((0:Int)≤1)=true:=rfl
    have hne:(Ax (if isNum a then(er a:Int) else -1) b t==s)=false:=by
     rw[beq_eq_false_iff_ne]
     intro e
     obtain⟨r1,r2⟩:=YZ e (by rw[hsh];simp)
     rw[WM (p:=(_,b,t)) ⟨r1,r2⟩] at hp
     cases hp
    simp only[q0,q1,nu,Wh.Hf _ _ nu,re,Wh.Q_ _ _ re,hne,k1,k2,k3,k4,Bool.not_false,Bool.or_true,Bool.and_self,cond_true,cond_false]
theorem abf (c:Ct)(I:yJ c)(s:List UInt8)(hs:s.length≤9999999):Wh.q45 (c,s)=some (B5 c s,()):=by
 have hl:=I.len
 have e1:Wh.strings_Cut (s,[(58:UInt8)])=some (cut s [58],()):=by
  simp only[Wh.strings_Cut,decide_eq_true (show s.length<4294967281 by omega),cond_true]
 cases hp:Dn s with
 |some p=>
  obtain⟨h,n,t⟩:=p
  obtain⟨hr,hsh⟩:=WL hp
  simp only at hr hsh
  obtain⟨hh,hn,ht⟩:=Hw hr
  have gh:=JP n hn
  have hdl:=AV h.toNat (by omega)
  have HR:s=(decDigits h.toNat++32::n)++58::t:=by rw[hsh];simp
  have q1:=EY 58 (decDigits h.toNat++32::n) t (MO hr)
  rw[←HR] at q1
  rw[q1] at e1
  have q2:=EY 32 (decDigits h.toNat) n (ny _)
  have e2:Wh.strings_Cut (decDigits h.toNat++32::n,[(32:UInt8)])=some ((decDigits h.toNat,n,true),()):=by
   simp only[Wh.strings_Cut,decide_eq_true (show(decDigits h.toNat++32::n).length<4294967281 by simp;omega),cond_true,q2]
  have e3:Wh.rV (decDigits h.toNat)=some ((h,true),()):=by
   simp only[Wh.rV,decide_eq_true (show(decDigits h.toNat).length≤281474976710656 by omega),cond_true,if_pos (JB (show h.toNat≤999999 by omega)),ru]
   rw[show((h.toNat:Nat):Int)=h by omega]
  have re:=U8 h n t (by omega) (by omega)
  have rs:Ax h n t=s:=by rw[Ax,if_pos hr,hsh]
  rw[rs] at re
  have c1:(s==([]:List UInt8))=false:=beq_eq_false_iff_ne.2 (by rw[HR];simp)
  have c2:(s==s)=true:=beq_self_eq_true _
  have tk:=abp c h n (by omega)
  have pu:=abn c I h n t (by omega) (by omega)
  rw[Nr hp]
  simp only[Wh.q45,e1,Wh.xM _ _ e1,e2,Wh.xM _ _ e2,e3,Wh.xK _ _ e3,c1,c2,re,Wh.QY _ _ re,tk,Wh.q65_v _ _ tk,pu,Wh.q91_v _ _ pu,nQ,Bool.or_true,Bool.not_true,Bool.not_false,iy,cond_true,cond_false]
  by_cases ht0:t = []
  ·rw[beq_iff_eq.2 ht0,if_pos ht0];rfl
  ·rw[beq_eq_false_iff_ne.2 ht0,if_neg ht0];rfl
 |none=>
  rw[Nq hp]
  have bI:(cut s [58]).1.length≤s.length∧(cut s [58]).2.1.length≤s.length:=by
   rcases Hz 58 s with h|⟨p,q,h,hp⟩
   ·rw[Ln _ _ h];simp
   ·rw[h,EY _ _ _ hp];simp;omega
  generalize eK:cut s [58]=c1 at bI e1
  have e2:Wh.strings_Cut (c1.1,[(32:UInt8)])=some (cut c1.1 [32],()):=by
   simp only[Wh.strings_Cut,decide_eq_true (show c1.1.length<4294967281 by omega),cond_true]
  have hcl2:(cut c1.1 [32]).1.length≤c1.1.length∧(cut c1.1 [32]).2.1.length≤c1.1.length:=by
   rcases Hz 32 c1.1 with h|⟨p,q,h,hp⟩
   ·rw[Ln _ _ h];simp
   ·rw[h,EY _ _ _ hp];simp;omega
  generalize fU:cut c1.1 [32]=c2 at hcl2 e2
  obtain⟨v,e3⟩:∃v,Wh.rV c2.1=some (v,()):=by
   simp only[Wh.rV,decide_eq_true (show c2.1.length≤281474976710656 by omega),cond_true]
   exact⟨_,rfl⟩
  have re:=U8 v.1 c2.2.1 c1.2.1 (by omega) (by omega)
  simp only[Wh.q45,e1,Wh.xM _ _ e1,e2,Wh.xM _ _ e2,e3,Wh.xK _ _ e3,re,Wh.QY _ _ re,nQ,Bool.or_true,iy,cond_true]
  have hv7:(bif s==([]:List UInt8) then true else !Ax v.1 c2.2.1 c1.2.1==s)=true:=by
   by_cases hs0:s = []
   ·rw[beq_iff_eq.2 hs0];rfl
   ·rw[beq_eq_false_iff_ne.2 hs0,cond_false]
    have hne:(Ax v.1 c2.2.1 c1.2.1==s)=false:=by
     rw[beq_eq_false_iff_ne]
     intro e
     obtain⟨r1,r2⟩:=YZ e hs0
     rw[WM (p:=(v.1,c2.2.1,c1.2.1)) ⟨r1,r2⟩] at hp
     cases hp
    rw[hne];rfl
  rw[hv7,cond_true]
theorem Np (c:Ct)(I:yJ c)(s:List UInt8)(h:(B5 c s).2=true):yJ (B5 c s).1:=by
 cases hp:Dn s with
 |none=>rw[Nq hp] at h;cases h
 |some p=>
  obtain⟨g,n,t⟩:=p
  rw[Nr hp]
  split
  ·exact afZ c I g n
  ·exact acz c I g n t
noncomputable def Bd:Ct→List (List UInt8)→Option Ct
 |c,[]=>some c
 |c,r::l=>if(B5 c r).2=true then Bd (B5 c r).1 l else none
theorem Uo:∀(l:List (List UInt8)) (c c':Ct),yJ c→Bd c l=some c'→yJ c'
 | [],c,c',I,h=>by rw[Bd] at h;cases h;exact I
 |r::l,c,c',I,h=>by
  rw[Bd] at h
  split at h
  ·rename_i hb;exact Uo l _ c' (Np c I r hb) h
  ·cases h
noncomputable def An (l:List (List UInt8)):Ct×Bool:=match Bd (0,[],()) l with
 |some c=>(c,true)
 |none=>((0,[],()),false)
theorem Y7 (l:List (List UInt8))(hl:l.length≤9999999)(hr:∀r∈l,r.length≤9999999):∀d i (c:Ct),i+d=l.length→yJ c →
  Comes Wh.Em (((),(i:Int),(),l),((0:Int),(),()),(c.1,(),c.2.2),[],c.2.1) (match Bd c (l.drop i) with
   |some c'=>.inr (((),()),((0:Int),(),()),(c'.1,(),c'.2.2),[],c'.2.1)
   |none=>.inl (((),false),((0:Int),(),()),[]))
 |0,i,c,h1,I=>by
  have:i=l.length:=by omega
  subst this
  rw[List.drop_length,Bd]
  have c1:decide ((l.length:Int)<(l.length:Int))=false:=decide_eq_false (by omega)
  exact .out (by simp only[Wh.Em,c1,cond_false])
 |d+1,i,c,h1,I=>by
  have hi:i<l.length:=by omega
  rw[List.drop_eq_getElem_cons hi,Bd]
  have e:=abE c I l[i] (hr _ (List.getElem_mem hi))
  rw[←getD_eq l i [] hi] at e ⊢
  obtain⟨c1,c2,c3⟩:=c
  cases hb:(B5 (c1,c2,c3) (l.getD i [])).2 with
  |true=>
   rw[if_pos rfl]
   refine .again ?_ (Y7 l hl hr d (i+1) _ (by omega) (Np _ I _ hb))
   simp only[Wh.Em,gl hi,g0,Int.toNat_natCast,e,Wh.P_ _ _ e,hb,nQ,iy,Bool.and_self,cond_true,cond_false,Bool.not_true,mw (show i≤4611686018427387904 by omega)]
  |false=>
   rw[if_neg (by simp)]
   exact .out (by simp only[Wh.Em,gl hi,g0,Int.toNat_natCast,e,Wh.P_ _ _ e,hb,nQ,iy,Bool.and_self,cond_true,Bool.not_false])
theorem afx (l:List (List UInt8))(hl:l.length≤9999999)(hr:∀r∈l,r.length≤9999999):Wh.G5 l=some (An l,()):=by
 have h:=Y7 l hl hr l.length 0 (0,[],()) (by omega) Lc
 have h':Comes Wh.Em (((),0,(),l),((0:Int),(),()),((0:Int),(),()),[],[]) _:=h
 simp only[Wh.G5,cb h',cv h',cond_true,List.drop_zero,An]
 cases Bd (0,[],()) l<;>rfl
theorem U3 (l:List (List UInt8))(hl:l.length≤9999999)(hr:∀r∈l,r.length≤9999999):∀d i (c:Ct),i+d=l.length→yJ c →
  Comes Wh.El (((),(i:Int),(),l,(l.length:Int)),((0:Int),(),()),(c.1,(),c.2.2),[],c.2.1) (match Bd c (l.drop i) with
   |some c'=>.inr (((),()),((0:Int),(),()),(c'.1,(),c'.2.2),[],c'.2.1)
   |none=>.inl (((),false),((0:Int),(),()),[]))
 |0,i,c,h1,I=>by
  have:i=l.length:=by omega
  subst this
  rw[List.drop_length,Bd]
  have c1:decide ((l.length:Int)<(l.length:Int))=false:=decide_eq_false (by omega)
  exact .out (by simp only[Wh.El,c1,cond_false])
 |d+1,i,c,h1,I=>by
  have hi:i<l.length:=by omega
  rw[List.drop_eq_getElem_cons hi,Bd]
  have e:=abf c I l[i] (hr _ (List.getElem_mem hi))
  rw[←getD_eq l i [] hi] at e ⊢
  obtain⟨c1,c2,c3⟩:=c
  cases hb:(B5 (c1,c2,c3) (l.getD i [])).2 with
  |true=>
   rw[if_pos rfl]
   refine .again ?_ (U3 l hl hr d (i+1) _ (by omega) (Np _ I _ hb))
   simp only[Wh.El,gl hi,g0,Int.toNat_natCast,e,Wh.QZ _ _ e,hb,nQ,iy,Bool.and_self,cond_true,cond_false,Bool.not_true,mw (show i≤4611686018427387904 by omega)]
  |false=>
   rw[if_neg (by simp)]
   exact .out (by simp only[Wh.El,gl hi,g0,Int.toNat_natCast,e,Wh.QZ _ _ e,hb,nQ,iy,Bool.and_self,cond_true,Bool.not_false])
theorem abh (l:List (List UInt8))(hl:l.length≤9999999)(hr:∀r∈l,r.length≤9999999):Wh.IM l=some (An l,()):=by
 have h:=U3 l hl hr l.length 0 (0,[],()) (by omega) Lc
 have h':Comes Wh.El (((),0,(),l,(l.length:Int)),((0:Int),(),()),((0:Int),(),()),[],[]) _:=h
 simp only[Wh.IM,cb h',cv h',cond_true,List.drop_zero,An]
 cases Bd (0,[],()) l<;>rfl
end Pl
open Go Go.Ab Go.Lib
namespace Pl
abbrev Fr:Type:=Int×Int×Int×Int×Bool×Unit
abbrev Po:Type:=List Fr×Int×Unit
def zF:Fr:=((0:Int),(0:Int),(0:Int),(0:Int),false,())
def nS (n lo hi:Int):Bool:=decide (lo≤n∧n≤hi)
theorem Bh (n lo hi:Int):Wh.xV (n,lo,hi)=some (nS n lo hi,()):=za n lo hi
theorem yV (n lo hi:Int):Wh.ye (n,lo,hi)=some (nS n lo hi,()):=zq n lo hi
theorem UZ (n:Int):Wh.Cl n=some (nS n 0 1,()):=by simp only[Wh.Cl,yV,Wh.zK _ _ (yV _ _ _),nQ,iy,cond_true]
def okF (f:Fr):Bool:=bif f.2.1==0 then(f.1==0&&(f.2.1==0&&(f.2.2.1==0&&(f.2.2.2.1==0&&(f.2.2.2.2.1==false&&true))))) else nS f.1 0 1&&nS f.2.1 1 99999&&nS f.2.2.1 0 23&&nS f.2.2.2.1 0 99999
theorem Vj (f:Fr):Wh.G7 f=some (okF f,()):=by
 unfold okF
 cases h:(f.2.1==0) with
 |true=>simp only[Wh.G7,h,cond_true]
 |false=>
  simp only[Wh.G7,h,cond_false,Bh,Wh.zY _ _ (Bh _ _ _),nQ,Bool.or_true,iy,Bool.and_self,cond_true]
  cases nS f.1 0 1<;>cases nS f.2.1 1 99999<;>cases nS f.2.2.1 0 23<;>cases nS f.2.2.2.1 0 99999<;>rfl
def yN (l:List Fr)(i k:Nat):Bool:=bif bif decide ((l.getD i zF).2.1>0) then(l.getD i zF).2.1==(l.getD k zF).2.1 else false then(l.getD i zF).2.2.1==(l.getD k zF).2.2.1 else false
def Ay (l:List Fr)(i:Nat):Bool:=okF (l.getD i zF)&&jS i (fun k=> !yN l i k)
def we (l:List Fr)(h:Int):Nat→Nat
 |0=>0
 |i+1=>we l h i+if(bif decide ((l.getD i zF).2.1>0) then(l.getD i zF).1==h else false)=true then 1 else 0
theorem Ou (l:List Fr)(h:Int):∀i,we l h i≤i
 |0=>Nat.le_refl _
 |i+1=>by have:=Ou l h i;rw[we];split<;>omega
def Ci (p:Po):Bool:=(p.1.length==8&&nS p.2.1 0 7)&&(jS 8 (Ay p.1)&&(decide (we p.1 0 8≤5)&&decide (we p.1 1 8≤5)))
theorem afA (p:Po)(h:Int)(hl:p.1.length≤9999999):Wh.IS (p,h)=some ((we p.1 h p.1.length:Int),()):=by
 obtain⟨l,nx,u⟩:=p
 have hl:l.length≤9999999:=hl
 have q:=x7 (r:=Wh.Eo) (fun i=>(((i:Int),(we l h i:Int),h,()),(l,nx,u))) (n:=l.length) (y:=((we l h l.length:Int),())) (fun i hi=>by
  have hb:=Ou l h i
  cases e:(bif decide ((l.getD i zF).2.1>0) then(l.getD i zF).1==h else false) with
  |true=>
   have e2:we l h (i+1)=we l h i+1:=by rw[we,if_pos e]
   unfold zF at e
   simp only[Wh.Eo,gl hi,g0,Int.toNat_natCast,e,Bool.or_true,iy,Bool.and_self,cond_true,mw (show i≤4611686018427387904 by omega),mw (show we l h i≤4611686018427387904 by omega),e2]
  |false=>
   have e2:we l h (i+1)=we l h i:=by rw[we,e,if_neg (by simp)];rfl
   unfold zF at e
   simp only[Wh.Eo,gl hi,g0,Int.toNat_natCast,e,Bool.or_true,iy,Bool.and_self,cond_true,cond_false,mw (show i≤4611686018427387904 by omega),e2]) (by
  have c1:decide ((l.length:Int)<(l.length:Int))=false:=decide_eq_false (by omega)
  simp only[Wh.Eo,c1,cond_false]) 0 (Nat.zero_le _)
 have q':Comes Wh.Eo ((0,0,h,()),(l,nx,u)) _:=q
 simp only[Wh.IS,cb q',cv q',cond_true]
theorem abj (p:Po)(h:Int)(hl:p.1.length≤9999999):Wh.q95 (p,h)=some ((we p.1 h p.1.length:Int),()):=by
 obtain⟨l,nx,u⟩:=p
 have hl:l.length≤9999999:=hl
 have q:=x7 (r:=Wh.EN) (fun i=>(((i:Int),(we l h i:Int),h,l,(l.length:Int)),())) (n:=l.length) (y:=((we l h l.length:Int),())) (fun i hi=>by
  have hb:=Ou l h i
  cases e:(bif decide ((l.getD i zF).2.1>0) then(l.getD i zF).1==h else false) with
  |true=>
   have e2:we l h (i+1)=we l h i+1:=by rw[we,if_pos e]
   unfold zF at e
   simp only[Wh.EN,gl hi,g0,Int.toNat_natCast,e,iy,Bool.and_self,cond_true,mw (show i≤4611686018427387904 by omega),mw (show we l h i≤4611686018427387904 by omega),e2]
  |false=>
   have e2:we l h (i+1)=we l h i:=by rw[we,e,if_neg (by simp)];rfl
   unfold zF at e
   simp only[Wh.EN,gl hi,g0,Int.toNat_natCast,e,iy,Bool.and_self,cond_true,cond_false,mw (show i≤4611686018427387904 by omega),e2]) (by
  have c1:decide ((l.length:Int)<(l.length:Int))=false:=decide_eq_false (by omega)
  simp only[Wh.EN,c1,cond_false]) 0 (Nat.zero_le _)
 have q':Comes Wh.EN ((0,0,h,l,(l.length:Int)),()) _:=q
 simp only[Wh.q95,cb q',cv q',cond_true]
theorem agh (p:Po)(hl:p.1.length=8):∃y,Comes Wh.Dy ((0,()),p) y∧y=(if(decide (we p.1 0 8≤5)&&decide (we p.1 1 8≤5))=true then .inr ((),()) else .inl (false,())):=by
 have a (h:Int):=afA p h (by omega)
 rw[hl] at a
 by_cases h0:we p.1 0 8≤5
 ·have c0:decide ((we p.1 0 8:Int)>5)=false:=decide_eq_false (by omega)
  by_cases h1:we p.1 1 8≤5
  ·have c1:decide ((we p.1 1 8:Int)>5)=false:=decide_eq_false (by omega)
   refine⟨.inr ((),()),.again (x':=((1,()),p)) ?_ (.again (x':=((2,()),p)) ?_ (.out rfl)),by simp[h0,h1]⟩
   ·simp only[Wh.Dy,a,Wh.IT _ _ (a _),c0,nQ,iy,cond_true,cond_false];rfl
   ·simp only[Wh.Dy,a,Wh.IT _ _ (a _),c1,nQ,iy,cond_true,cond_false];rfl
  ·have c1:decide ((we p.1 1 8:Int)>5)=true:=decide_eq_true (by omega)
   refine⟨.inl (false,()),.again (x':=((1,()),p)) ?_ (.out ?_),by simp[h0,h1]⟩
   ·simp only[Wh.Dy,a,Wh.IT _ _ (a _),c0,nQ,iy,cond_true,cond_false];rfl
   ·simp only[Wh.Dy,a,Wh.IT _ _ (a _),c1,nQ,iy,cond_true];rfl
 ·have c0:decide ((we p.1 0 8:Int)>5)=true:=decide_eq_true (by omega)
  refine⟨.inl (false,()),.out ?_,by simp[h0]⟩
  simp only[Wh.Dy,a,Wh.IT _ _ (a _),c0,nQ,iy,cond_true];rfl
theorem agf (p:Po)(hl:p.1.length=8):∃y,Comes Wh.Dv ((0,()),p) y∧y=(if(decide (we p.1 0 8≤5)&&decide (we p.1 1 8≤5))=true then .inr ((),()) else .inl (false,())):=by
 have a (h:Int):=abj p h (by omega)
 rw[hl] at a
 by_cases h0:we p.1 0 8≤5
 ·have c0:decide ((we p.1 0 8:Int)>5)=false:=decide_eq_false (by omega)
  by_cases h1:we p.1 1 8≤5
  ·have c1:decide ((we p.1 1 8:Int)>5)=false:=decide_eq_false (by omega)
   refine⟨.inr ((),()),.again (x':=((1,()),p)) ?_ (.again (x':=((2,()),p)) ?_ (.out rfl)),by simp[h0,h1]⟩
   ·simp only[Wh.Dv,a,Wh.I5 _ _ (a _),c0,nQ,iy,cond_true,cond_false];rfl
   ·simp only[Wh.Dv,a,Wh.I5 _ _ (a _),c1,nQ,iy,cond_true,cond_false];rfl
  ·have c1:decide ((we p.1 1 8:Int)>5)=true:=decide_eq_true (by omega)
   refine⟨.inl (false,()),.again (x':=((1,()),p)) ?_ (.out ?_),by simp[h0,h1]⟩
   ·simp only[Wh.Dv,a,Wh.I5 _ _ (a _),c0,nQ,iy,cond_true,cond_false];rfl
   ·simp only[Wh.Dv,a,Wh.I5 _ _ (a _),c1,nQ,iy,cond_true];rfl
 ·have c0:decide ((we p.1 0 8:Int)>5)=true:=decide_eq_true (by omega)
  refine⟨.inl (false,()),.out ?_,by simp[h0]⟩
  simp only[Wh.Dv,a,Wh.I5 _ _ (a _),c0,nQ,iy,cond_true];rfl
theorem afD (p:Po)(hp:p.1.length≤9999999):Wh.G3 p=some (Ci p,()):=by
 obtain⟨l,nx,u⟩:=p
 have hlm:l.length≤9999999:=hp
 unfold Ci
 by_cases hl:l.length=8
 ·have c1:((l.length:Int) != 8)=false:=by rw[hl];rfl
  have c2:(l.length==8)=true:=by rw[hl];rfl
  simp only[Wh.G3,c1,c2,Bh,Wh.zY _ _ (Bh _ _ _),cond_false,nQ,Bool.or_true,iy,cond_true,Bool.true_and]
  cases hn:nS nx 0 7 with
  |false=>rfl
  |true=>
   simp only[Bool.not_true,cond_false,Bool.true_and]
   have q:=Ac (r:=Wh.Dx) (fun i=>(((),(i:Int)),(l,nx,u))) (n:=8) (p:=Ay l) (yf:=.inl (false,())) (yt:=.inr ((),(l,nx,u))) (fun i hi _ hr=>by
     have hi8:i<l.length:=by omega
     unfold Ay at hr
     rw[Bool.and_eq_true] at hr
     have a:=Vj (l.getD i zF)
     rw[hr.1] at a
     have qi:=Ac (r:=Wh.Bt) (fun k=>(((k:Int),(),(i:Int)),(l,nx,u))) (n:=i) (p:=fun k=> !yN l i k) (yf:=.inl (false,())) (yt:=.inr (((),(i:Int)),(l,nx,u))) (fun k hk _ ht=>by
       have ht':yN l i k=false:=by simpa using ht
       unfold yN zF at ht'
       simp only[Wh.Bt,gl hk,gl hi8,gl (show k<l.length by omega),g0,Int.toNat_natCast,ht',Bool.or_true,iy,Bool.and_self,cond_true,cond_false,mw (show k≤4611686018427387904 by omega)]) (fun k hk _ ht=>by
       have ht':yN l i k=true:=by simpa using ht
       unfold yN zF at ht'
       simp only[Wh.Bt,gl hk,gl hi8,gl (show k<l.length by omega),g0,Int.toNat_natCast,ht',Bool.or_true,iy,Bool.and_self,cond_true]) (by
       have d1:decide ((i:Int)<(i:Int))=false:=decide_eq_false (by omega)
       simp only[Wh.Bt,d1,cond_false])
     rw[if_pos hr.2] at qi
     have CX:Comes Wh.Bt ((0,(),(i:Int)),(l,nx,u)) _:=qi
     unfold zF at a
     simp only[Wh.Dx,gl hi8,g0,Int.toNat_natCast,a,Wh.Mh _ _ a,nQ,iy,Bool.and_self,cond_true,Bool.not_true,cond_false,cb CX,cv CX,sumC,mw (show i≤4611686018427387904 by omega)]) (fun i hi _ hr=>by
     have hi8:i<l.length:=by omega
     unfold Ay at hr
     have a:=Vj (l.getD i zF)
     cases hok:okF (l.getD i zF) with
     |false=>
      rw[hok] at a
      unfold zF at a
      simp only[Wh.Dx,gl hi8,g0,Int.toNat_natCast,a,Wh.Mh _ _ a,nQ,iy,Bool.and_self,cond_true,Bool.not_false]
     |true=>
      rw[hok] at a
      rw[hok,Bool.true_and] at hr
      have qi:=Ac (r:=Wh.Bt) (fun k=>(((k:Int),(),(i:Int)),(l,nx,u))) (n:=i) (p:=fun k=> !yN l i k) (yf:=.inl (false,())) (yt:=.inr (((),(i:Int)),(l,nx,u))) (fun k hk _ ht=>by
       have ht':yN l i k=false:=by simpa using ht
       unfold yN zF at ht'
       simp only[Wh.Bt,gl hk,gl hi8,gl (show k<l.length by omega),g0,Int.toNat_natCast,ht',Bool.or_true,iy,Bool.and_self,cond_true,cond_false,mw (show k≤4611686018427387904 by omega)]) (fun k hk _ ht=>by
       have ht':yN l i k=true:=by simpa using ht
       unfold yN zF at ht'
       simp only[Wh.Bt,gl hk,gl hi8,gl (show k<l.length by omega),g0,Int.toNat_natCast,ht',Bool.or_true,iy,Bool.and_self,cond_true]) (by
       have d1:decide ((i:Int)<(i:Int))=false:=decide_eq_false (by omega)
       simp only[Wh.Bt,d1,cond_false])
      rw[if_neg (by rw[hr];simp)] at qi
      have CX:Comes Wh.Bt ((0,(),(i:Int)),(l,nx,u)) _:=qi
      unfold zF at a
      simp only[Wh.Dx,gl hi8,g0,Int.toNat_natCast,a,Wh.Mh _ _ a,nQ,iy,Bool.and_self,cond_true,Bool.not_true,cond_false,cb CX,cv CX,sumC]) (by
     have d1:decide (((8:Nat):Int)<(l.length:Int))=false:=decide_eq_false (by omega)
     simp only[Wh.Dx,d1,cond_false])
   have q':Comes Wh.Dx (((),0),(l,nx,u)) _:=q
   simp only[cb q',cv q',cond_true]
   cases hr:jS 8 (Ay l) with
   |false=>simp[sumC]
   |true=>
    obtain⟨y,hy,ey⟩:=agh (l,nx,u) hl
    simp only[if_true,sumC,cb hy,cv hy,cond_true,Bool.true_and]
    rw[ey]
    cases (decide (we l 0 8≤5)&&decide (we l 1 8≤5))<;>rfl
 ·have c1:((l.length:Int) != 8)=true:=bne_iff_ne.2 (by omega)
  have c2:(l.length==8)=false:=beq_eq_false_iff_ne.2 hl
  simp only[Wh.G3,c1,c2,cond_true,Bool.not_true,Bool.not_false,Bool.true_or,iy,Bool.false_and]
theorem find_eq (p:Po)(ed bl:Int)(hl:p.1.length≤9999999):Wh.q48 (p,ed,bl)=some (yC (first p.1.length (fun i=>bif(p.1.getD i zF).2.1==ed then(p.1.getD i zF).2.2.1==bl else false)),()):=by
 obtain⟨l,nx,u⟩:=p
 have hl:l.length≤9999999:=hl
 have q:=DZ (r:=Wh.ED) (fun i=>(((i:Int),bl,ed,l,(l.length:Int)),())) (n:=l.length) (p:=fun i=>bif(l.getD i zF).2.1==ed then(l.getD i zF).2.2.1==bl else false) (yt:=fun i=>.inl ((i:Int),())) (yn:=.inr ((),())) (fun i hi hp=>by
   have hp':(bif(l.getD i zF).2.1==ed then(l.getD i zF).2.2.1==bl else false)=false:=hp
   unfold zF at hp'
   simp only[Wh.ED,gl hi,g0,Int.toNat_natCast,hp',iy,Bool.and_self,cond_true,cond_false,mw (show i≤4611686018427387904 by omega)]) (fun i hi hp=>by
   have hp':(bif(l.getD i zF).2.1==ed then(l.getD i zF).2.2.1==bl else false)=true:=hp
   unfold zF at hp'
   simp only[Wh.ED,gl hi,g0,Int.toNat_natCast,hp',iy,Bool.and_self,cond_true]) (by
   have d1:decide ((l.length:Int)<(l.length:Int))=false:=decide_eq_false (by omega)
   simp only[Wh.ED,d1,cond_false])
 have q':Comes Wh.ED ((0,bl,ed,l,(l.length:Int)),()) _:=q
 simp only[Wh.q48,cb q',cv q',cond_true]
 cases first l.length (fun i=>bif(l.getD i zF).2.1==ed then(l.getD i zF).2.2.1==bl else false)<;>rfl
theorem Z5 (l:List Fr)(i:Nat)(hi:i<l.length)(hpos:(l.getD i zF).2.1>0) :
  ((yC (first l.length (fun k=>bif(l.getD k zF).2.1==(l.getD i zF).2.1 then(l.getD k zF).2.2.1==(l.getD i zF).2.2.1 else false))) != (i:Int)) = !jS i (fun k=> !yN l i k):=by
 have tw (k:Nat):yN l i k=(bif(l.getD k zF).2.1==(l.getD i zF).2.1 then(l.getD k zF).2.2.1==(l.getD i zF).2.2.1 else false):=by
  unfold yN
  rw[decide_eq_true hpos,cond_true]
  by_cases h1:(l.getD i zF).2.1=(l.getD k zF).2.1
  ·rw[beq_iff_eq.2 h1,beq_iff_eq.2 h1.symm,cond_true,cond_true]
   by_cases h2:(l.getD i zF).2.2.1=(l.getD k zF).2.2.1
   ·rw[beq_iff_eq.2 h2,beq_iff_eq.2 h2.symm]
   ·rw[beq_eq_false_iff_ne.2 h2,beq_eq_false_iff_ne.2 (Ne.symm h2)]
  ·rw[beq_eq_false_iff_ne.2 h1,beq_eq_false_iff_ne.2 (Ne.symm h1)];rfl
 rw[Z6 (q:=fun k=>yN l i k) (fun k _=>(tw k).symm)]
 have self:yN l i i=true:=by rw[tw];simp
 cases ha:jS i (fun k=> !yN l i k) with
 |true=>
  have:=oL.1 ha
  rw[Ap.2 ⟨hi,self,fun j hj=>by simpa using this j hj⟩]
  simp[yC]
 |false=>
  cases hf:first l.length (fun k=>yN l i k) with
  |none=>rfl
  |some k=>
   obtain⟨h1,h2,h3⟩:=Ap.1 hf
   have:k≠i:=by
    rintro rfl
    have:jS k (fun j=> !yN l k j)=true:=oL.2 fun j hj=>by rw[h3 j hj];rfl
    rw[this] at ha;cases ha
   simp only[yC,Bool.not_false]
   exact bne_iff_ne.2 (by omega)
theorem abm (p:Po)(hp:p.1.length≤9999999):Wh.GZ p=some (Ci p,()):=by
 obtain⟨l,nx,u⟩:=p
 have hlm:l.length≤9999999:=hp
 unfold Ci
 by_cases hl:l.length=8
 ·have c1:((l.length:Int) != 8)=false:=by rw[hl];rfl
  have c2:(l.length==8)=true:=by rw[hl];rfl
  simp only[Wh.GZ,c1,c2,yV,Wh.zK _ _ (yV _ _ _),cond_false,nQ,Bool.or_true,iy,cond_true,Bool.true_and]
  cases hn:nS nx 0 7 with
  |false=>rfl
  |true=>
   simp only[Bool.not_true,cond_false,Bool.true_and]
   have hrow:∀i,i<l.length→Wh.Du (((i:Int),(),l,(l.length:Int)),(l,nx,u))=if Ay l i=true then some (.inl ((((i+1:Nat):Int),(),l,(l.length:Int)),(l,nx,u))) else some (.inr (.inl (false,()))):=by
    intro i hi
    have w:=mw (show i≤4611686018427387904 by omega)
    have fd:=find_eq (l,nx,u) (l.getD i zF).2.1 (l.getD i zF).2.2.1 hlm
    simp only at fd
    cases hz:((l.getD i zF).2.1==0) with
    |true=>
     have hr:Ay l i=(((l.getD i zF).1==0&&((l.getD i zF).2.1==0&&((l.getD i zF).2.2.1==0&&((l.getD i zF).2.2.2.1==0&&((l.getD i zF).2.2.2.2.1==false&&true)))))):=by
      unfold Ay okF
      rw[hz,cond_true]
      have:jS i (fun k=> !yN l i k)=true:=oL.2 fun k _=>by
       have h0:(l.getD i zF).2.1=0:=eq_of_beq hz
       have d:decide ((l.getD i zF).2.1>0)=false:=decide_eq_false (by omega)
       unfold yN
       rw[d];rfl
      rw[this,Bool.and_true]
     rw[hr]
     unfold zF at hz ⊢
     simp only[Wh.Du,gl hi,g0,Int.toNat_natCast,hz,iy,Bool.and_self,cond_true,w]
     cases ((l.getD i ((0:Int),(0:Int),(0:Int),(0:Int),false,())).1==0&&(true&&((l.getD i ((0:Int),(0:Int),(0:Int),(0:Int),false,())).2.2.1==0&&((l.getD i ((0:Int),(0:Int),(0:Int),(0:Int),false,())).2.2.2.1==0&&((l.getD i ((0:Int),(0:Int),(0:Int),(0:Int),false,())).2.2.2.2.1==false&&true)))))<;>rfl
    |false=>
     have hr:Ay l i=((nS (l.getD i zF).1 0 1&&nS (l.getD i zF).2.1 1 99999&&nS (l.getD i zF).2.2.1 0 23&&nS (l.getD i zF).2.2.2.1 0 99999)&&jS i (fun k=> !yN l i k)):=by
      unfold Ay okF
      rw[hz,cond_false]
     have h47:(bif bif bif bif !nS (l.getD i zF).1 0 1 then true else !nS (l.getD i zF).2.1 1 99999 then true else !nS (l.getD i zF).2.2.1 0 23 then true else !nS (l.getD i zF).2.2.2.1 0 99999 then true else(yC (first l.length (fun k=>bif(l.getD k zF).2.1==(l.getD i zF).2.1 then(l.getD k zF).2.2.1==(l.getD i zF).2.2.1 else false))) != (i:Int)) = !Ay l i:=by
      rw[hr]
      cases h1:nS (l.getD i zF).2.1 1 99999 with
      |false=>cases nS (l.getD i zF).1 0 1<;>rfl
      |true=>
       have:(l.getD i zF).2.1>0:=by unfold nS at h1;have:=of_decide_eq_true h1;omega
       rw[Z5 l i hi this]
       cases nS (l.getD i zF).1 0 1<;>cases nS (l.getD i zF).2.2.1 0 23<;>cases nS (l.getD i zF).2.2.2.1 0 99999<;>cases jS i (fun k=> !yN l i k)<;>rfl
     unfold zF at hz fd h47
     simp only[Wh.Du,gl hi,g0,Int.toNat_natCast,hz,UZ,Wh.Mf _ _ (UZ _),yV,Wh.zK _ _ (yV _ _ _),fd,Wh.q48_v _ _ fd,h47,nQ,Bool.or_true,iy,Bool.and_self,cond_true,cond_false,w]
     cases Ay l i<;>rfl
   have q:=Ac (r:=Wh.Du) (fun i=>(((i:Int),(),l,(l.length:Int)),(l,nx,u))) (n:=8) (p:=Ay l) (yf:=.inl (false,())) (yt:=.inr ((),(l,nx,u))) (fun i hi _ hr=>by
     rw[hrow i (by omega),if_pos hr]) (fun i hi _ hr=>by
     rw[hrow i (by omega),if_neg (by rw[hr];simp)]) (by
     have d1:decide (((8:Nat):Int)<(l.length:Int))=false:=decide_eq_false (by omega)
     simp only[Wh.Du,d1,cond_false])
   have q':Comes Wh.Du ((0,(),l,(l.length:Int)),(l,nx,u)) _:=q
   simp only[cb q',cv q',cond_true]
   cases hr:jS 8 (Ay l) with
   |false=>simp[sumC]
   |true=>
    obtain⟨y,hy,ey⟩:=agf (l,nx,u) hl
    simp only[if_true,sumC,cb hy,cv hy,cond_true,Bool.true_and]
    rw[ey]
    cases (decide (we l 0 8≤5)&&decide (we l 1 8≤5))<;>rfl
 ·have c1:((l.length:Int) != 8)=true:=bne_iff_ne.2 (by omega)
  have c2:(l.length==8)=false:=beq_eq_false_iff_ne.2 hl
  simp only[Wh.GZ,c1,c2,cond_true,Bool.not_true,Bool.not_false,Bool.true_or,iy,Bool.false_and]
end Pl
