import Derived.Test.YtfeoanopdlpabaaGreatDoorX8
open Go Go.Ab Go.Lib
namespace Pl
theorem B_ (n lo hi:Int):Wh.xW (n,lo,hi)=some (decide (lo≤n∧n≤hi),()):=by
 by_cases h:lo≤n<;>simp[Wh.xW,h]
theorem Fl (n lo hi:Int):Wh.yc (n,lo,hi)=some (decide (lo≤n∧n≤hi),()):=by
 by_cases h:lo≤n<;>simp[Wh.yc,h]
theorem Ss:∀(k n:Nat),n<10 ^ k→k≤18→1≤k→Wh.AI k (n:Int)=some (decDigits n,())
 |0,_,_,_,h=>by omega
 |k+1,n,hn,hk,_=>by
  have hb:(10:Nat) ^ (k+1)≤10 ^ 18:=Nat.pow_le_pow_right (by omega) hk
  have c1:decide ((n:Int) < -9223372036854775807)=false:=decide_eq_false (by omega)
  have c2:decide ((n:Int)<0)=false:=decide_eq_false (by omega)
  rw[Wh.PB]
  by_cases h10:n<10
  ·have c3:decide ((n:Int)<10)=true:=decide_eq_true (by omega)
   have w1:IntKind.wrap .u8 (IntKind.wrap .i64 (48+(n:Int)))=((48+n:Nat):Int):=by
    rw[wrap64 (by omega) (by omega)]
    simp[IntKind.wrap,IntKind.signed,IntKind.bits]
    omega
   simp only[Wh.q28,c1,c2,c3,cond_false,cond_true,w1]
   rw[decDigits,dif_pos h10]
   rfl
  ·have c3:decide ((n:Int)<10)=false:=decide_eq_false (by omega)
   have hk1:1≤k:=by
    rcases k with _|k
    ·simp at hn;omega
    ·omega
   have ih:=Ss k (n / 10) (by rw[Nat.pow_succ] at hn;omega) (by omega) hk1
   have w1:IntKind.wrap .u8 (IntKind.wrap .i64 (48+Int.tmod (n:Int) 10))=((48+n % 10:Nat):Int):=by
    have:Int.tmod (n:Int) 10=((n % 10:Nat):Int):=by rw[Int.tmod_eq_emod_of_nonneg (by omega)];omega
    rw[this,wrap64 (by omega) (by omega)]
    simp[IntKind.wrap,IntKind.signed,IntKind.bits]
    omega
   have w2:IntKind.wrap .i64 (Int.tdiv (n:Int) 10)=((n / 10:Nat):Int):=by
    have:Int.tdiv (n:Int) 10=((n / 10:Nat):Int):=by rw[Int.tdiv_eq_ediv_of_nonneg (by omega)];omega
    rw[this,wrap64 (by omega) (by omega)]
   have hlen:(decDigits (n / 10)).length+1≤dh:=by
    have:=uE (n:=n / 10) (k:=18) (by omega) (by omega)
    unfold dh;omega
   simp only[Wh.q28,c1,c2,c3,cond_false,w1,w2,ih,iy,nQ,hlen,decide_true,cond_true,Bool.and_self]
   rw[decDigits.eq_1 n,dif_neg h10]
   rfl
theorem NT (n:Nat) (h:n<10 ^ 18):Wh.BJ (n:Int)=some (decDigits n,()):=by
 have mono:∀(k:Nat) (x:Int) y,Wh.AI k x=some y→Wh.AI (k+1) x=some y:=by
  intro k
  induction k with
  |zero=>intro x y h;cases h
  |succ k ih=>
   intro x y h
   rw[Wh.PB] at h ⊢
   unfold Wh.q28 at h ⊢
   cases c1:decide (x<(-9223372036854775807:Int)) with
   |true=>simp only[c1,cond_true] at h ⊢;exact h
   |false=>
    simp only[c1,cond_false] at h ⊢
    cases c2:decide (x<(0:Int)) with
    |true=>
     simp only[c2,cond_true] at h ⊢
     cases hr:Wh.AI k (IntKind.wrap .i64 (0-x)) with
     |none=>simp only[hr,iy,nQ,Bool.and_false,cond_false,reduceCtorEq] at h
     |some z=>simp only[hr,ih _ _ hr] at h ⊢;exact h
    |false=>
     simp only[c2,cond_false] at h ⊢
     cases c3:decide (x<(10:Int)) with
     |true=>simp only[c3,cond_true] at h ⊢;exact h
     |false=>
      simp only[c3,cond_false] at h ⊢
      cases hr:Wh.AI k (IntKind.wrap .i64 (Int.tdiv x 10)) with
      |none=>simp only[hr,iy,nQ,Bool.and_false,Bool.false_and,cond_false,reduceCtorEq] at h
      |some z=>simp only[hr,ih _ _ hr] at h ⊢;exact h
 exact mono 19 _ _ (mono 18 _ _ (Ss 18 n h (by omega) (by omega)))
theorem KO (n:Nat) (h:n<10 ^ 18):Wh.strconv_Itoa (n:Int)=some (decDigits n,()):=by
 have h1:decide (-9223372036854775808≤(n:Int))=true:=decide_eq_true (by omega)
 have h2:decide ((n:Int)≤9223372036854775807)=true:=decide_eq_true (by omega)
 have h3:itoa (n:Int)=decDigits n:=by unfold itoa;rw[if_neg (by omega)];simp
 simp only[Wh.strconv_Itoa,h1,h2,Bool.and_self,cond_true,h3]
theorem FH (s p q:List UInt8) (at_:Nat) (b:UInt8) (hs:s.length≤4611686018427387904) (hd:s.drop at_=p++b::q) (hp:∀x∈p,x≠b) :
  Wh.y2 (s,(at_:Int),(b.toNat:Int))=some (((at_+p.length:Nat):Int),()):=by
 have hlen:s.length=at_+p.length+1+q.length:=by
  have:=congrArg List.length hd
  simp only[List.length_drop,List.length_append,List.length_cons] at this
  by_cases h:at_≤s.length
  ·omega
  ·omega
 have j5:∀i,i<p.length→s.getD (at_+i) 0=p.getD i 0:=by
  intro i hi
  have:(s.drop at_).getD i 0=(p++b::q).getD i 0:=by rw[hd]
  simp only[List.getD_eq_getElem?_getD,List.getElem?_drop,List.getElem?_append_left hi] at this ⊢
  exact this
 have hb:s.getD (at_+p.length) 0=b:=by
  have:(s.drop at_).getD p.length 0=(p++b::q).getD p.length 0:=by rw[hd]
  simp only[List.getD_eq_getElem?_getD,List.getElem?_drop] at this ⊢
  rw[this]
  simp
 have hc:∀d i,i+d=p.length→Comes Wh.BG ((((at_+i:Nat):Int),(b.toNat:Int),s),()) (.inl (((at_+p.length:Nat):Int),())):=by
  intro d
  induction d with
  |zero=>
   intro i hi
   have:i=p.length:=by omega
   subst this
   refine .out ?_
   have c1:decide (((at_+p.length:Nat):Int)<(s.length:Int))=true:=decide_eq_true (by omega)
   have c0:decide ((0:Int)≤((at_+p.length:Nat):Int))=true:=decide_eq_true (by omega)
   simp only[Wh.BG,c1,c0,Int.toNat_natCast,hb,beq_self_eq_true,iy,cond_true,Bool.and_self]
  |succ d ih=>
   intro i hi
   refine .again ?_ (ih (i+1) (by omega))
   have c1:decide (((at_+i:Nat):Int)<(s.length:Int))=true:=decide_eq_true (by omega)
   have c0:decide ((0:Int)≤((at_+i:Nat):Int))=true:=decide_eq_true (by omega)
   have c2:((((s.getD (at_+i) 0).toNat:Nat):Int)==((b.toNat:Nat):Int))=false:=by
    rw[beq_eq_false_iff_ne]
    intro e
    have e1:(s.getD (at_+i) 0).toNat=b.toNat:=by omega
    have e2:=UInt8.toNat_inj.1 e1
    rw[j5 i (by omega)] at e2
    refine hp _ ?_ e2
    rw[getD_eq _ _ _ (by omega)]
    exact List.getElem_mem _
   have w:=mb (i:=at_+i) (by omega)
   simp only[Wh.BG,c1,c0,Int.toNat_natCast,c2,w,iy,cond_true,cond_false,Bool.and_self]
   rfl
 have h0:=hc p.length 0 (by omega)
 rw[Nat.add_zero] at h0
 simp only[Wh.y2,cb h0,cv h0,cond_true]
theorem NU (s:List UInt8) (at_:Nat) (b:UInt8) (hs:s.length≤4611686018427387904) (ha:at_≤4611686018427387904) (hd:∀x∈s.drop at_,x≠b) :
  Wh.y2 (s,(at_:Int),(b.toNat:Int))=some (-1,()):=by
 have hc:∀d i,at_+i+d=max s.length at_→Comes Wh.BG ((((at_+i:Nat):Int),(b.toNat:Int),s),()) (.inr ((),())):=by
  intro d
  induction d with
  |zero=>
   intro i hi
   refine .out ?_
   have c1:decide (((at_+i:Nat):Int)<(s.length:Int))=false:=decide_eq_false (by omega)
   simp only[Wh.BG,c1,cond_false]
  |succ d ih=>
   intro i hi
   refine .again ?_ (ih (i+1) (by omega))
   have hlt:at_+i<s.length:=by omega
   have c1:decide (((at_+i:Nat):Int)<(s.length:Int))=true:=decide_eq_true (by omega)
   have c0:decide ((0:Int)≤((at_+i:Nat):Int))=true:=decide_eq_true (by omega)
   have c2:((((s.getD (at_+i) 0).toNat:Nat):Int)==((b.toNat:Nat):Int))=false:=by
    rw[beq_eq_false_iff_ne]
    intro e
    have e1:(s.getD (at_+i) 0).toNat=b.toNat:=by omega
    have e2:=UInt8.toNat_inj.1 e1
    refine hd _ ?_ e2
    rw[getD_eq _ _ _ hlt]
    have:(s.drop at_)[i]'(by simp;omega)=s[at_+i]:=by simp
    rw[←this]
    exact List.getElem_mem _
   have w:=mb (i:=at_+i) (by omega)
   simp only[Wh.BG,c1,c0,Int.toNat_natCast,c2,w,iy,cond_true,cond_false,Bool.and_self]
   rfl
 have h0:=hc (max s.length at_-at_) 0 (by omega)
 rw[Nat.add_zero] at h0
 simp only[Wh.y2,cb h0,cv h0,cond_true]
theorem Sp (c:UInt8):((bif decide (((c.toNat:Nat):Int)<48) then true else decide (((c.toNat:Nat):Int)>57))=false)↔eg c:=by
 unfold eg
 by_cases h:c.toNat<48
 ·have:decide (((c.toNat:Nat):Int)<48)=true:=by simp;omega
  simp only[this,cond_true]
  constructor
  ·intro h;cases h
  ·intro hh;omega
 ·have:decide (((c.toNat:Nat):Int)<48)=false:=by simp;omega
  simp only[this,cond_false,decide_eq_false_iff_not]
  constructor<;>intro hh<;>omega
theorem wrapU8 {x:Nat} (h:48≤x) (h':x≤57):IntKind.wrap .u8 ((x:Int)-48)=((x-48:Nat):Int):=by
 simp[IntKind.wrap,IntKind.signed,IntKind.bits]
 omega
theorem acC (s:List UInt8) (i:Nat) (h:i<s.length):er (s.take (i+1))=er (s.take i)*10+(s[i].toNat-48):=by
 rw[List.take_succ_eq_append_getElem h,qA]
theorem FG (s:List UInt8) (hs:s.length≤4611686018427387904):Wh.AF s=some (if isNum s then(er s:Int) else -1,()):=by
 have hin:=B_ (s.length:Int) 1 6
 by_cases hl:1≤s.length∧s.length≤6
 ·have c0:decide ((1:Int)≤(s.length:Int)∧(s.length:Int)≤6)=true:=decide_eq_true (by omega)
  rw[c0] at hin
  by_cases hz:1<s.length∧s.getD 0 0=48
  ·have hn:¬isNum s:=by
    rintro⟨⟨h1,_,h3⟩,_⟩
    rcases h3 with h3|h3
    ·omega
    ·apply h3
     rw[getD_eq _ _ _ (by omega)] at hz
     cases s with
     |nil=>exact absurd rfl h1
     |cons a l=>simp at hz ⊢;exact hz.2
   have d1:decide ((s.length:Int)>1)=true:=decide_eq_true (by omega)
   have d2:decide ((0:Int)<(s.length:Int))=true:=decide_eq_true (by omega)
   have d3:((((s.getD (Int.toNat 0) 0).toNat:Nat):Int)==(48:Int))=true:=by
    rw[show Int.toNat 0=0 from rfl,hz.2];rfl
   simp only[Wh.AF,hin,Wh.zc _ _ hin,d1,d2,d3,if_neg hn,iy,nQ,cond_true,cond_false,Bool.not_true,Bool.not_false,Bool.or_true,Bool.and_self,Int.le_refl,decide_true]
  ·have key:∀(b:Bool),b=decide ((s.length:Int)>1)→(bif b then((((s.getD (Int.toNat 0) 0).toNat:Nat):Int)==(48:Int)) else false)=false:=by
    intro b hb
    subst hb
    by_cases h1:1<s.length
    ·have d1:decide ((s.length:Int)>1)=true:=decide_eq_true (by omega)
     simp only[d1,cond_true,beq_eq_false_iff_ne]
     intro e
     apply hz
     refine⟨h1,?_⟩
     rw[show Int.toNat 0=0 from rfl] at e
     have:(s.getD 0 0).toNat=(48:UInt8).toNat:=by simpa using(by omega:(s.getD 0 0).toNat=48)
     exact UInt8.toNat_inj.1 this
    ·have d1:decide ((s.length:Int)>1)=false:=decide_eq_false (by omega)
     simp only[d1,cond_false]
   have d2:decide ((0:Int)<(s.length:Int))=true:=decide_eq_true (by omega)
   let p:Nat→Bool:=fun i=>decide (eg (s.getD i 0))
   have hc:=zV (r:=Wh.Dr) (st:=fun i=>(((i:Int),s,(er (s.take i):Int)),())) (n:=s.length) (p:=p) (yf:=.inl ((-1:Int),())) (yt:=.inr ((er s:Int),()))
    (fun i hi hprev aO=>by
     have hp:eg (s.getD i 0):=of_decide_eq_true aO
     have c1:decide ((i:Int)<(s.length:Int))=true:=decide_eq_true (by omega)
     have c2:decide ((0:Int)≤(i:Int))=true:=decide_eq_true (by omega)
     have c3:=(Sp (s.getD i 0)).2 hp
     have hval:er (s.take i)<10 ^ 6:=by
      have h1:=VL (s.take i) fun c hc=>by
       obtain⟨j,hj,e⟩:=List.getElem_of_mem hc
       have hj':j<i:=by simp at hj;omega
       have:=of_decide_eq_true (hprev j hj')
       rw[getD_eq _ _ _ (by omega)] at this
       rw[←e,List.getElem_take]
       exact this
      have h2:(10:Nat) ^ (s.take i).length≤10 ^ 6:=Nat.pow_le_pow_right (by omega) (by simp;omega)
      omega
     have hg:=getD_eq s i 0 hi
     unfold eg at hp
     have w1:IntKind.wrap .i64 ((er (s.take i):Int)*10)=(er (s.take i):Int)*10:=wrap64 (by omega) (by omega)
     have w2:IntKind.wrap .u8 ((((s.getD i 0).toNat:Nat):Int)-48)=(((s.getD i 0).toNat-48:Nat):Int):=wrapU8 hp.1 hp.2
     have w3:IntKind.wrap .i64 ((((s.getD i 0).toNat-48:Nat):Int))=(((s.getD i 0).toNat-48:Nat):Int):=wrap64 (by omega) (by omega)
     have w4:IntKind.wrap .i64 ((er (s.take i):Int)*10+(((s.getD i 0).toNat-48:Nat):Int))=(er (s.take (i+1)):Int):=by
      rw[acC s i hi,wrap64 (by omega) (by omega),hg]
      omega
     simp only[Wh.Dr,c1,c2,c3,Int.toNat_natCast,w1,w2,w3,w4,mb (i:=i) (by omega),iy,cond_true,cond_false,Bool.or_true,Bool.and_self])
    (fun i hi hprev aO=>by
     have hp:¬eg (s.getD i 0):=of_decide_eq_false aO
     have c1:decide ((i:Int)<(s.length:Int))=true:=decide_eq_true (by omega)
     have c2:decide ((0:Int)≤(i:Int))=true:=decide_eq_true (by omega)
     have c3:(bif decide ((((s.getD i 0).toNat:Nat):Int)<48) then true else decide ((((s.getD i 0).toNat:Nat):Int)>57))=true:=by
      cases hh:(bif decide ((((s.getD i 0).toNat:Nat):Int)<48) then true else decide ((((s.getD i 0).toNat:Nat):Int)>57)) with
      |true=>rfl
      |false=>exact absurd ((Sp _).1 hh) hp
     simp only[Wh.Dr,c1,c2,c3,Int.toNat_natCast,iy,cond_true,Bool.or_true,Bool.and_self])
    (by
     have c1:decide (((s.length:Nat):Int)<(s.length:Int))=false:=decide_eq_false (by omega)
     simp only[Wh.Dr,c1,cond_false,List.take_length])
   simp only[List.take_zero] at hc
   rw[show((er []:Nat):Int)=0 from rfl,show(((0:Nat):Int))=0 from rfl] at hc
   have hiff:jS s.length p=true↔isNum s:=by
    rw[oL]
    constructor
    ·intro h
     refine⟨⟨fun e=>by rw[e] at hl;simp at hl,fun c hc=>?_,?_⟩,hl.2⟩
     ·obtain⟨j,hj,e⟩:=List.getElem_of_mem hc
      have:=of_decide_eq_true (h j hj)
      rw[getD_eq _ _ _ hj,e] at this
      exact this
     ·by_cases h1:s.length=1
      ·exact .inl h1
      ·right
       intro e
       apply hz
       refine⟨by omega,?_⟩
       cases s with
       |nil=>simp at hl
       |cons a l=>simp at e ⊢;exact e
    ·intro h i hi
     refine decide_eq_true ?_
     rw[getD_eq _ _ _ hi]
     exact h.1.2.1 _ (List.getElem_mem _)
   have hk:=key _ rfl
   simp only[Wh.AF,hin,Wh.zc _ _ hin,d2,hk,cb hc,cv hc,iy,nQ,cond_true,cond_false,Bool.not_true,Bool.not_false,Bool.or_true,Bool.and_self,Int.le_refl,decide_true]
   by_cases hn:isNum s
   ·simp only[if_pos (hiff.2 hn),if_pos hn]
   ·have:¬jS s.length p=true:=fun h=>hn (hiff.1 h)
    simp only[if_neg this,if_neg hn]
 ·have hn:¬isNum s:=by
   rintro⟨⟨h1,_⟩,h2⟩
   apply hl
   refine⟨?_,h2⟩
   rcases Nat.eq_zero_or_pos s.length with e|e
   ·exact absurd (List.length_eq_zero_iff.1 e) h1
   ·exact e
  have c0:decide ((1:Int)≤(s.length:Int)∧(s.length:Int)≤6)=false:=decide_eq_false (by omega)
  rw[c0] at hin
  simp only[Wh.AF,hin,Wh.zc _ _ hin,if_neg hn,iy,nQ,cond_true,Bool.not_true,Bool.not_false,Bool.and_false,Bool.true_or,Bool.and_self]
end Pl
open Go Go.Ab
namespace Pl
set_option maxRecDepth 20000
theorem Vu:Wh.z8=Wh.yd:=rfl
theorem Vv:Wh.AD=Wh.zp:=rfl
theorem acz (x:Int) (n:Int) (h0:0≤n) (h1:n≤32):nQ (Wh.yd (x,n))=true:=by
 have e1:decide ((0:Int)≤IntKind.wrap .i64 (32-n))=true:=by rw[wrap64 (by omega) (by omega)];exact decide_eq_true (by omega)
 have e2:decide ((0:Int)≤n)=true:=decide_eq_true h0
 simp only[Wh.yd,e1,e2,iy,nQ,Bool.and_self,cond_true]
theorem wrap32 (x:Int):IntKind.wrap .u32 x=x % 4294967296:=by simp[IntKind.wrap,IntKind.signed,IntKind.bits]
theorem Vp (p q a c:Int):IntKind.wrap .u32 (IntKind.wrap .u32 (IntKind.wrap .u32 (p+a)+q)+c)=IntKind.wrap .u32 (IntKind.wrap .u32 (IntKind.wrap .u32 (p+q)+a)+c):=by
 simp only[wrap32];omega
theorem abM (t a m:Int):IntKind.wrap .u32 (IntKind.wrap .u32 (t+a)+m)=IntKind.wrap .u32 (t+IntKind.wrap .u32 (a+m)):=by
 simp only[wrap32];omega
def yF (n:Nat):List Int:=List.replicate n 0
theorem VN (l:List Int) (n:Nat):l++yF n ++ [(0:Int)]=l++yF (n+1):=by
 rw[yF,yF,List.append_assoc,List.replicate_succ']
def zn (n:Nat):Nat:=(119-n % 64) % 64
theorem Q6 (n:Nat):(n+1+zn n) % 64=56:=by unfold zn;omega
theorem Im (n:Nat):zn n<64:=by unfold zn;omega
theorem zn_no (n j:Nat) (h:j<zn n):(n+1+j) % 64≠56:=by unfold zn at h;omega
theorem HS (n k:Nat):Int.tmod (n:Int) (k:Int)=((n % k:Nat):Int):=by rw[Int.tmod_eq_emod_of_nonneg (by omega)];omega
def Cd (x:List UInt8):List Int:=bytesOf x ++ [128]++yF (zn x.length)
theorem Ec (x:List UInt8):(bytesOf x).length=x.length:=by simp[bytesOf]
theorem Oz (x:List UInt8):(Cd x).length=x.length+1+zn x.length:=by simp[Cd,yF,Ec];omega
theorem Zh (x:List UInt8) (h:x.length≤2147483648):Comes Wh.DL (((),x),bytesOf x ++ [128]) (((),x),Cd x):=by
 have h0:=xR (r:=Wh.DL) (fun i=>(((),x),bytesOf x ++ [128]++yF i)) (n:=zn x.length) (y:=(((),x),Cd x)) (fun i hi=>by
   have hl:(bytesOf x ++ [128]++yF i).length=x.length+1+i:=by simp[yF,Ec];omega
   have c1:(Int.tmod ((x.length+1+i:Nat):Int) (64:Int) != (56:Int))=true:=by
    have:=HS (x.length+1+i) 64
    have h2:=zn_no _ _ hi
    rw[bne_iff_ne]
    intro hc
    rw[show((64:Int))=((64:Nat):Int) from rfl,this] at hc
    omega
   have c2:decide (x.length+1+i+1≤dh)=true:=decide_eq_true (by have:=Im x.length;unfold dh;omega)
   simp only[Wh.DL,hl,c1,c2,iy,cond_true,VN]) (by
   have hl:(bytesOf x ++ [128]++yF (zn x.length)).length=x.length+1+zn x.length:=by simp[yF,Ec];omega
   have c1:(Int.tmod ((x.length+1+zn x.length:Nat):Int) (64:Int) != (56:Int))=false:=by
    have:=HS (x.length+1+zn x.length) 64
    rw[show((64:Int))=((64:Nat):Int) from rfl,this,Q6];rfl
   simp only[Wh.DL,hl,c1,cond_false];rfl) 0 (Nat.zero_le _)
 simpa[yF] using h0
theorem Zg (x:List UInt8) (g:List Int) (h:x.length≤2147483648):Comes Wh.DF (((),(),x),bytesOf x ++ [128],g) (((),(),x),Cd x,g):=by
 have h0:=xR (r:=Wh.DF) (fun i=>(((),(),x),bytesOf x ++ [128]++yF i,g)) (n:=zn x.length) (y:=(((),(),x),Cd x,g)) (fun i hi=>by
   have hl:(bytesOf x ++ [128]++yF i).length=x.length+1+i:=by simp[yF,Ec];omega
   have c1:(Int.tmod ((x.length+1+i:Nat):Int) (64:Int) != (56:Int))=true:=by
    have:=HS (x.length+1+i) 64
    have h2:=zn_no _ _ hi
    rw[bne_iff_ne]
    intro hc
    rw[show((64:Int))=((64:Nat):Int) from rfl,this] at hc
    omega
   have c2:decide (x.length+1+i+1≤dh)=true:=decide_eq_true (by have:=Im x.length;unfold dh;omega)
   simp only[Wh.DF,hl,c1,c2,iy,cond_true,VN]) (by
   have hl:(bytesOf x ++ [128]++yF (zn x.length)).length=x.length+1+zn x.length:=by simp[yF,Ec];omega
   have c1:(Int.tmod ((x.length+1+zn x.length:Nat):Int) (64:Int) != (56:Int))=false:=by
    have:=HS (x.length+1+zn x.length) 64
    rw[show((64:Int))=((64:Nat):Int) from rfl,this,Q6];rfl
   simp only[Wh.DF,hl,c1,cond_false];rfl) 0 (Nat.zero_le _)
 simpa[yF] using h0
def lenB (n:Int) (k:Nat):Int:=IntKind.wrap .u8 (Int.fdiv n ((2:Int) ^ (8*k)))
def zI (n:Int):Nat→List Int
 |0=>[]
 |i+1=>zI n i ++ [lenB n (7-i)]
theorem KQ (n:Int):∀i,(zI n i).length=i
 |0=>rfl
 |i+1=>by rw[zI,List.length_append,KQ n i];rfl
theorem Xz (l:List Int) (n:Int) (h:l.length≤4294967296):Comes Wh.E5 ((7,n,()),l) ((),l++zI n 8):=by
 have h0:=xR (r:=Wh.E5) (fun i=>((7-(i:Int),n,()),l++zI n i)) (n:=8) (y:=((),l++zI n 8)) (fun i hi=>by
   have c1:decide ((7-(i:Int))≥0)=true:=decide_eq_true (by omega)
   have w1:IntKind.wrap .i64 (8*(7-(i:Int)))=((8*(7-i):Nat):Int):=by rw[wrap64 (by omega) (by omega)];omega
   have w2:IntKind.wrap .i64 (7-(i:Int)-1)=7-((i+1:Nat):Int):=by rw[wrap64 (by omega) (by omega)];omega
   have c2:decide ((l++zI n i).length+1≤dh)=true:=decide_eq_true (by rw[List.length_append,KQ];unfold dh;omega)
   have c3:decide ((0:Int)≤((8*(7-i):Nat):Int))=true:=decide_eq_true (by omega)
   have w3:Min.min (8*(7-i)) (Go.IntKind.bits Go.IntKind.i64)=8*(7-i):=Nat.min_eq_left (by simp[IntKind.bits];omega)
   simp only[Wh.E5,c1,w1,w2,c2,c3,iy,Bool.and_self,cond_true,Int.toNat_natCast,w3]
   rw[zI,←List.append_assoc];rfl) (by rfl) 0 (Nat.zero_le _)
 simpa[zI] using h0
theorem Xy (l g:List Int) (n:Int) (h:l.length≤4294967296):Comes Wh.EY ((56,n,(),()),l,g) (((),()),l++zI n 8,g):=by
 have h0:=xR (r:=Wh.EY) (fun i=>((56-8*(i:Int),n,(),()),l++zI n i,g)) (n:=8) (y:=(((),()),l++zI n 8,g)) (fun i hi=>by
   have c1:decide ((56-8*(i:Int))≥0)=true:=decide_eq_true (by omega)
   have w2:IntKind.wrap .i64 (56-8*(i:Int)-8)=56-8*((i+1:Nat):Int):=by rw[wrap64 (by omega) (by omega)];omega
   have c2:decide ((l++zI n i).length+1≤dh)=true:=decide_eq_true (by rw[List.length_append,KQ];unfold dh;omega)
   have c3:decide ((0:Int)≤(56-8*(i:Int)))=true:=decide_eq_true (by omega)
   have w1:Int.toNat (56-8*(i:Int))=8*(7-i):=by omega
   have w3:Min.min (8*(7-i)) (Go.IntKind.bits Go.IntKind.u64)=8*(7-i):=Nat.min_eq_left (by simp[IntKind.bits];omega)
   simp only[Wh.EY,c1,w1,w2,c2,iy,Bool.and_self,cond_true,w3]
   rw[zI,←List.append_assoc];rfl) (by rfl) 0 (Nat.zero_le _)
 simpa[zI] using h0
def z7 (x:List UInt8):List Int:=Cd x++zI ((x.length:Int)*8) 8
theorem OA (x:List UInt8):(z7 x).length=x.length+1+zn x.length+8:=by simp[z7,Oz,KQ]
theorem TH (x:List UInt8):(z7 x).length % 64=0:=by rw[OA];have:=Q6 x.length;omega
theorem Zi (x:List UInt8) (h:x.length≤2147483648):Wh.q72 x=some (z7 x,()):=by
 have c1:decide (x.length+1≤dh)=true:=decide_eq_true (by unfold dh;omega)
 have c2:decide (x.length≤dh)=true:=decide_eq_true (by unfold dh;omega)
 have a:=Zh x h
 have w:IntKind.wrap .i64 ((x.length:Int)*8)=(x.length:Int)*8:=wrap64 (by omega) (by omega)
 have b:=Xz (Cd x) ((x.length:Int)*8) (by rw[Oz];have:=Im x.length;omega)
 simp only[Wh.q72,Ec,c1,c2,iy,Bool.and_self,cond_true,cb a,cv a,w,cb b,cv b]
 rfl
def word (b:List Int) (o i:Nat):Int:=
 nj Go.BinOp.or Go.IntKind.u32 (nj Go.BinOp.or Go.IntKind.u32 (nj Go.BinOp.or Go.IntKind.u32 (IntKind.wrap .u32 (IntKind.wrap .u32 (List.getD b (o+4*i) (0:Int))*(2:Int) ^ Min.min (Int.toNat (24:Int)) (Go.IntKind.bits Go.IntKind.u32))) (IntKind.wrap .u32 (IntKind.wrap .u32 (List.getD b (o+(4*i+1)) (0:Int))*(2:Int) ^ Min.min (Int.toNat (16:Int)) (Go.IntKind.bits Go.IntKind.u32)))) (IntKind.wrap .u32 (IntKind.wrap .u32 (List.getD b (o+(4*i+2)) (0:Int))*(2:Int) ^ Min.min (Int.toNat (8:Int)) (Go.IntKind.bits Go.IntKind.u32)))) (IntKind.wrap .u32 (List.getD b (o+(4*i+3)) (0:Int)))
def sig (x n m k:Int):Int:=nj Go.BinOp.xor Go.IntKind.u32 (nj Go.BinOp.xor Go.IntKind.u32 (Wh.zp (x,n)).1 (Wh.zp (x,m)).1) (Int.fdiv x ((2:Int) ^ Min.min (Int.toNat k) (Go.IntKind.bits Go.IntKind.u32)))
def ws (b:List Int) (o:Nat):Nat→List Int
 |0=>[]
 |i+1=>ws b o i ++ [if i<16 then word b o i else IntKind.wrap .u32 (IntKind.wrap .u32 (IntKind.wrap .u32 ((ws b o i).getD (i-16) 0+sig ((ws b o i).getD (i-15) 0) 7 18 3)+(ws b o i).getD (i-7) 0)+sig ((ws b o i).getD (i-2) 0) 17 19 10)]
theorem BY (b:List Int) (o:Nat):∀i,(ws b o i).length=i
 |0=>rfl
 |i+1=>by rw[ws,List.length_append,BY b o i];rfl
theorem w4 {i:Nat} (h:i≤1000):IntKind.wrap .i64 ((4:Int)*(i:Int))=((4*i:Nat):Int):=by rw[wrap64 (by omega) (by omega)];omega
theorem L2 (b:List Int) (o j:Nat) (h:j<64):(List.take 64 (List.drop o b)).getD j 0=b.getD (o+j) 0:=by
 simp[List.getD,h]
theorem w41 {i:Nat} (h:i≤100000):IntKind.wrap .i64 ((i:Int)+1)=((i+1:Nat):Int):=by rw[wrap64 (by omega) (by omega)];omega
theorem w42 {i:Nat} (h:i≤100000):IntKind.wrap .i64 ((i:Int)+2)=((i+2:Nat):Int):=by rw[wrap64 (by omega) (by omega)];omega
theorem w43 {i:Nat} (h:i≤100000):IntKind.wrap .i64 ((i:Int)+3)=((i+3:Nat):Int):=by rw[wrap64 (by omega) (by omega)];omega
theorem m2 {i:Nat} (h:i≤1000) (hk:16≤i):IntKind.wrap .i64 ((i:Int)-2)=((i-2:Nat):Int):=by rw[wrap64 (by omega) (by omega)];omega
theorem m7 {i:Nat} (h:i≤1000) (hk:16≤i):IntKind.wrap .i64 ((i:Int)-7)=((i-7:Nat):Int):=by rw[wrap64 (by omega) (by omega)];omega
theorem m15 {i:Nat} (h:i≤1000) (hk:16≤i):IntKind.wrap .i64 ((i:Int)-15)=((i-15:Nat):Int):=by rw[wrap64 (by omega) (by omega)];omega
theorem m16 {i:Nat} (h:i≤1000) (hk:16≤i):IntKind.wrap .i64 ((i:Int)-16)=((i-16:Nat):Int):=by rw[wrap64 (by omega) (by omega)];omega
theorem g0 (n:Nat):decide ((0:Int)≤(n:Int))=true:=decide_eq_true (by omega)
theorem gl {n m:Nat} (hn:n<m):decide ((n:Int)<(m:Int))=true:=decide_eq_true (by omega)
theorem DS (x:Int):nQ (Wh.yd (x,7))=true∧nQ (Wh.yd (x,18))=true∧nQ (Wh.yd (x,17))=true∧nQ (Wh.yd (x,19))=true ∧
  nQ (Wh.yd (x,6))=true∧nQ (Wh.yd (x,11))=true∧nQ (Wh.yd (x,25))=true∧nQ (Wh.yd (x,2))=true∧nQ (Wh.yd (x,13))=true∧nQ (Wh.yd (x,22))=true:=by
 refine⟨?_,?_,?_,?_,?_,?_,?_,?_,?_,?_⟩<;>exact acz _ _ (by omega) (by omega)
theorem V3 {X Y:Type} {r:X→Option (X⊕Y)} (st:Nat→X) {n:Nat} {y:Y} (k:Nat) (hk:k≤n) (hs:∀i,k≤i→i<n→r (st i)=some (.inl (st (i+1)))) (he:r (st n)=some (.inr y)):Comes r (st k) y:=by
 have:=xR (r:=r) (fun i=>st (k+i)) (n:=n-k) (y:=y) (fun i hi=>hs (k+i) (by omega) (by omega)) (by rw[show k+(n-k)=n by omega];exact he) 0 (Nat.zero_le _)
 simpa using this
theorem acF (b:List Int) (o:Nat) (h:o+64≤b.length):Wh.q98 (List.take 64 (List.drop o b))=some (ws b o 64,()):=by
 have hb:(List.take 64 (List.drop o b)).length=64:=by simp;omega
 have a:=xR (r:=Wh.E9) (fun i=>(((i:Int),List.take 64 (List.drop o b),()),ws b o i)) (n:=16) (y:=((),ws b o 16)) (fun i hi=>by
   have c1:decide ((i:Int)<16)=true:=decide_eq_true (by omega)
   have k0:=w4 (i:=i) (by omega)
   have k1:=w41 (i:=4*i) (by omega)
   have k2:=w42 (i:=4*i) (by omega)
   have k3:=w43 (i:=4*i) (by omega)
   have c2:decide ((ws b o i).length+1≤dh)=true:=decide_eq_true (by rw[BY];unfold dh;omega)
   simp only[Wh.E9,c1,k0,k1,k2,k3,c2,g0,hb,gl (show 4*i<64 by omega),gl (show 4*i+1<64 by omega),gl (show 4*i+2<64 by omega),gl (show 4*i+3<64 by omega),iy,Bool.and_self,cond_true,Int.toNat_natCast,mb (show i≤4611686018427387904 by omega),
    L2 b o _ (show 4*i<64 by omega),L2 b o _ (show 4*i+1<64 by omega),L2 b o _ (show 4*i+2<64 by omega),L2 b o _ (show 4*i+3<64 by omega)]
   rw[ws,if_pos hi];rfl) (by rfl) 0 (Nat.zero_le _)
 have c:=V3 (r:=Wh.E_) (fun i=>(((i:Int),()),ws b o i)) (n:=64) (y:=((),ws b o 64)) 16 (by omega) (fun i hi0 hi=>by
   have c1:decide ((i:Int)<64)=true:=decide_eq_true (by omega)
   have c2:decide ((ws b o i).length+1≤dh)=true:=decide_eq_true (by rw[BY];unfold dh;omega)
   obtain⟨t7,t18,t17,t19,_⟩:=DS ((ws b o i).getD (i-15) 0)
   obtain⟨_,_,t17,t19,_⟩:=DS ((ws b o i).getD (i-2) 0)
   rw[BY] at c2
   simp only[Wh.E_,c1,c2,m2 (show i≤1000 by omega) hi0,m7 (show i≤1000 by omega) hi0,m15 (show i≤1000 by omega) hi0,m16 (show i≤1000 by omega) hi0,g0,BY,gl (show i-2<i by omega),gl (show i-7<i by omega),gl (show i-15<i by omega),gl (show i-16<i by omega),t7,t18,t17,t19,iy,Bool.and_self,cond_true,Int.toNat_natCast,mb (show i≤4611686018427387904 by omega)]
   rw[ws,if_neg (by omega)];rfl) (by rfl)
 have a':Comes Wh.E9 ((0,List.take 64 (List.drop o b),()),[]) ((),ws b o 16):=a
 have c':Comes Wh.E_ ((16,()),ws b o 16) ((),ws b o 64):=c
 simp only[Wh.q98,cb a',cv a',cb c',cv c',cond_true]
def arr (l:List Int):List Int:=l++yF (64-l.length)
theorem VU (l:List Int) (j:Nat) (h:j<l.length):(arr l).getD j 0=l.getD j 0:=by
 simp[arr,List.getD,List.getElem?_append_left h]
theorem VV (l:List Int) (x:Int) (h:l.length<64):(arr l).set l.length x=arr (l ++ [x]):=by
 rw[arr,arr,yF,yF,List.set_append_right _ _ (Nat.le_refl _),Nat.sub_self,show 64-l.length=(64-(l ++ [x]).length)+1 by simp;omega,List.replicate_succ,List.set_cons_zero,List.append_assoc];rfl
theorem acE (b g:List Int) (o n:Nat) (h:64≤n):Comes Wh.DH (((0,(),(o,n),()),yF 64,b,g)) (((),(),o,n),ws b o 64,g,b):=by
 have a:=xR (r:=Wh.DH) (fun i=>(((i:Int),(),(o,n),()),arr (ws b o i),b,g)) (n:=64) (y:=(((),(),o,n),ws b o 64,g,b)) (fun i hi=>by
   have c1:decide ((i:Int)<64)=true:=decide_eq_true (by omega)
   have hs:=VV (ws b o i) (if i<16 then word b o i else IntKind.wrap .u32 (IntKind.wrap .u32 (IntKind.wrap .u32 ((ws b o i).getD (i-16) 0+sig ((ws b o i).getD (i-15) 0) 7 18 3)+(ws b o i).getD (i-7) 0)+sig ((ws b o i).getD (i-2) 0) 17 19 10)) (by rw[BY];exact hi)
   rw[BY] at hs
   by_cases h16:i<16
   ·have c2:decide ((i:Int)<16)=true:=decide_eq_true (by omega)
    have k0:=w4 (i:=i) (by omega)
    have k1:=w41 (i:=4*i) (by omega)
    have k2:=w42 (i:=4*i) (by omega)
    have k3:=w43 (i:=4*i) (by omega)
    rw[if_pos h16] at hs
    unfold word at hs
    simp only[Wh.DH,c1,k0,k1,k2,k3,c2,g0,gl hi,gl (show 4*i<n by omega),gl (show 4*i+1<n by omega),gl (show 4*i+2<n by omega),gl (show 4*i+3<n by omega),iy,Bool.and_self,cond_true,Int.toNat_natCast,mb (show i≤4611686018427387904 by omega),hs]
    rw[ws,if_pos h16];rfl
   ·have hi0:16≤i:=by omega
    have c2:decide ((i:Int)<16)=false:=decide_eq_false (by omega)
    rw[if_neg h16] at hs
    obtain⟨t7,t18,t17,t19,_⟩:=DS ((ws b o i).getD (i-15) 0)
    obtain⟨_,_,t17,t19,_⟩:=DS ((ws b o i).getD (i-2) 0)
    have hg (j:Nat) (hj:j<i):=VU (ws b o i) j (by rw[BY];exact hj)
    have g64 (j:Nat) (hj:j<64):decide ((j:Int)<((64:Nat):Int))=true:=gl hj
    simp only[Wh.DH,c1,c2,m2 (show i≤1000 by omega) hi0,m7 (show i≤1000 by omega) hi0,m15 (show i≤1000 by omega) hi0,m16 (show i≤1000 by omega) hi0,g0,gl hi,gl (show i-2<64 by omega),gl (show i-7<64 by omega),gl (show i-15<64 by omega),gl (show i-16<64 by omega),
     hg (i-2) (by omega),hg (i-7) (by omega),hg (i-15) (by omega),hg (i-16) (by omega),Vu,Vv,t7,t18,t17,t19,iy,Bool.and_self,cond_true,cond_false,Int.toNat_natCast,mb (show i≤4611686018427387904 by omega)]
    rw[Vp] at hs
    simp only[sig] at hs
    rw[hs]
    rw[ws,if_neg h16,Vp];rfl) (by
   have e:arr (ws b o 64)=ws b o 64:=by simp[arr,BY,yF]
   rw[e];rfl) 0 (Nat.zero_le _)
 exact a
def big (x n m k:Int):Int:=nj Go.BinOp.xor Go.IntKind.u32 (nj Go.BinOp.xor Go.IntKind.u32 (Wh.zp (x,n)).1 (Wh.zp (x,m)).1) (Wh.zp (x,k)).1
def chs (e f g:Int):Int:=nj Go.BinOp.xor Go.IntKind.u32 (nj Go.BinOp.and Go.IntKind.u32 e f) (nj Go.BinOp.and Go.IntKind.u32 (nj Go.BinOp.xor Go.IntKind.u32 (Go.IntKind.max Go.IntKind.u32) e) g)
def mjr (a b c:Int):Int:=nj Go.BinOp.xor Go.IntKind.u32 (nj Go.BinOp.xor Go.IntKind.u32 (nj Go.BinOp.and Go.IntKind.u32 a b) (nj Go.BinOp.and Go.IntKind.u32 a c)) (nj Go.BinOp.and Go.IntKind.u32 b c)
def tee (e f g h k w:Int):Int:=IntKind.wrap .u32 (IntKind.wrap .u32 (IntKind.wrap .u32 (IntKind.wrap .u32 (h+big e 6 11 25)+chs e f g)+k)+w)
def rnd (k w:Int):List Int→List Int
 | [a,b,c,d,e,f,g,h]=>[IntKind.wrap .u32 (IntKind.wrap .u32 (tee e f g h k w+big a 2 13 22)+mjr a b c),a,b,c,IntKind.wrap .u32 (d+tee e f g h k w),e,f,g]
 |_=>[0,0,0,0,0,0,0,0]
theorem abN (k w:Int) (l:List Int):(rnd k w l).length=8:=by unfold rnd;split<;>rfl
def AJ (w h:List Int):Nat→List Int
 |0=>h
 |i+1=>rnd (Wh.A4.getD i 0) (w.getD i 0) (AJ w h i)
theorem LY (w h:List Int) (hh:h.length=8):∀i,(AJ w h i).length=8
 |0=>hh
 |_i+1=>abN ..
theorem eight (l:List Int) (h:l.length=8):∃a b c d e f g k,l = [a,b,c,d,e,f,g,k]:=by
 match l,h with
 | [a,b,c,d,e,f,g,k],_=>exact⟨a,b,c,d,e,f,g,k,rfl⟩
theorem shift8 (a b c d e f g k i m s t:Int) (h l1 l2:List Int):Comes Wh.HC ((7,(),(),(),h,i,m,s,t),[a,b,c,d,e,f,g,k],l1,l2) (((),(),(),h,i,m,s,t),[a,a,b,c,d,e,f,g],l1,l2):=
 .again (x':=((6,(),(),(),h,i,m,s,t),[a,b,c,d,e,f,g,g],l1,l2)) rfl <|
 .again (x':=((5,(),(),(),h,i,m,s,t),[a,b,c,d,e,f,f,g],l1,l2)) rfl <|
 .again (x':=((4,(),(),(),h,i,m,s,t),[a,b,c,d,e,e,f,g],l1,l2)) rfl <|
 .again (x':=((3,(),(),(),h,i,m,s,t),[a,b,c,d,d,e,f,g],l1,l2)) rfl <|
 .again (x':=((2,(),(),(),h,i,m,s,t),[a,b,c,c,d,e,f,g],l1,l2)) rfl <|
 .again (x':=((1,(),(),(),h,i,m,s,t),[a,b,b,c,d,e,f,g],l1,l2)) rfl <|
 .again (x':=((0,(),(),(),h,i,m,s,t),[a,a,b,c,d,e,f,g],l1,l2)) rfl <| .out rfl
theorem RA:Wh.q71 ()=some (Wh.A4,()):=rfl
theorem abP (w h:List Int) (hw:w.length=64) (hh:h.length=8):Comes Wh.E8 (((),0,(),(),h),h,w,Wh.A4) (((),h),AJ w h 64):=
 xR (r:=Wh.E8) (fun i=>(((),(i:Int),(),(),h),AJ w h i,w,Wh.A4)) (n:=64) (y:=(((),h),AJ w h 64)) (fun i hi=>by
  obtain⟨a,b,c,d,e,f,g,k,hs⟩:=eight _ (LY w h hh i)
  have c1:decide ((i:Int)<64)=true:=decide_eq_true (by omega)
  obtain⟨_,_,_,_,t6,t11,t25,_⟩:=DS e
  obtain⟨_,_,_,_,_,_,_,t2,t13,t22⟩:=DS a
  have hk:Wh.A4.length=64:=rfl
  have d4:decide ((4:Int)<((8:Nat):Int))=true:=rfl
  have d5:decide ((5:Int)<((8:Nat):Int))=true:=rfl
  have d6:decide ((6:Int)<((8:Nat):Int))=true:=rfl
  have d7:decide ((7:Int)<((8:Nat):Int))=true:=rfl
  have d0:decide ((0:Int)<((8:Nat):Int))=true:=rfl
  have d1:decide ((1:Int)<((8:Nat):Int))=true:=rfl
  have d2:decide ((2:Int)<((8:Nat):Int))=true:=rfl
  have l8: [a,b,c,d,e,f,g,k].length=8:=rfl
  have q0: [a,b,c,d,e,f,g,k].getD (Int.toNat 0) 0=a:=rfl
  have q1: [a,b,c,d,e,f,g,k].getD (Int.toNat 1) 0=b:=rfl
  have q2: [a,b,c,d,e,f,g,k].getD (Int.toNat 2) 0=c:=rfl
  have q4: [a,b,c,d,e,f,g,k].getD (Int.toNat 4) 0=e:=rfl
  have q5: [a,b,c,d,e,f,g,k].getD (Int.toNat 5) 0=f:=rfl
  have q6: [a,b,c,d,e,f,g,k].getD (Int.toNat 6) 0=g:=rfl
  have q7: [a,b,c,d,e,f,g,k].getD (Int.toNat 7) 0=k:=rfl
  have sh (i m s t:Int):=shift8 a b c d e f g k i m s t h w Wh.A4
  have sb (i m s t:Int):=cb (sh i m s t)
  have sv (i m s t:Int):=cv (sh i m s t) Wh.QL
  simp only[Wh.E8,hs,c1,q0,q1,q2,q4,q5,q6,q7,l8,t6,t11,t25,t2,t13,t22,d0,d1,d2,d4,d5,d6,d7,hk,hw,g0,gl hi,iy,Bool.and_self,cond_true,Int.toNat_natCast,sb,sv,mb (show i≤4611686018427387904 by omega)]
  rw[AJ,hs];rfl) rfl 0 (Nat.zero_le _)
theorem abO (w h g':List Int) (o n:Nat) (hh:h.length=8):Comes Wh.EZ ((0,(),(),(),(o,n)),h,w,h,g') (((),(),(o,n)),h,AJ w h 64,g'):=
 xR (r:=Wh.EZ) (fun i=>(((i:Int),(),(),(),(o,n)),AJ w h i,w,h,g')) (n:=64) (y:=(((),(),(o,n)),h,AJ w h 64,g')) (fun i hi=>by
  obtain⟨a,b,c,d,e,f,g,k,hs⟩:=eight _ (LY w h hh i)
  have c1:decide ((i:Int)<64)=true:=decide_eq_true (by omega)
  obtain⟨_,_,_,_,t6,t11,t25,_⟩:=DS e
  obtain⟨_,_,_,_,_,_,_,t2,t13,t22⟩:=DS a
  have q0: [a,b,c,d,e,f,g,k].getD (Int.toNat 0) 0=a:=rfl
  have q1: [a,b,c,d,e,f,g,k].getD (Int.toNat 1) 0=b:=rfl
  have q2: [a,b,c,d,e,f,g,k].getD (Int.toNat 2) 0=c:=rfl
  have q3: [a,b,c,d,e,f,g,k].getD (Int.toNat 3) 0=d:=rfl
  have q4: [a,b,c,d,e,f,g,k].getD (Int.toNat 4) 0=e:=rfl
  have q5: [a,b,c,d,e,f,g,k].getD (Int.toNat 5) 0=f:=rfl
  have q6: [a,b,c,d,e,f,g,k].getD (Int.toNat 6) 0=g:=rfl
  have q7: [a,b,c,d,e,f,g,k].getD (Int.toNat 7) 0=k:=rfl
  have g64:decide ((i:Int)<((64:Nat):Int))=true:=gl hi
  simp only[Wh.EZ,hs,c1,q0,q1,q2,q3,q4,q5,q6,q7,Vu,Vv,t6,t11,t25,t2,t13,t22,g0,g64,iy,Bool.and_self,cond_true,Int.toNat_natCast,mb (show i≤4611686018427387904 by omega)]
  rw[AJ,hs,rnd,abM (tee e f g k _ _) (big a 2 13 22) (mjr a b c)];rfl) rfl 0 (Nat.zero_le _)
def GR:List Int→List Int→List Int
 | [a,b,c,d,e,f,g,h],[a',b',c',d',e',f',g',h']=>[IntKind.wrap .u32 (a+a'),IntKind.wrap .u32 (b+b'),IntKind.wrap .u32 (c+c'),IntKind.wrap .u32 (d+d'),IntKind.wrap .u32 (e+e'),IntKind.wrap .u32 (f+f'),IntKind.wrap .u32 (g+g'),IntKind.wrap .u32 (h+h')]
 |_,_=>[0,0,0,0,0,0,0,0]
theorem VO (a b:List Int):(GR a b).length=8:=by unfold GR;split<;>rfl
theorem VR (h v:List Int) (hh:h.length=8) (hv:v.length=8):Comes Wh.HD ((0,(),h,()),v,[]) ((),GR h v):=by
 obtain⟨a,b,c,d,e,f,g,k,rfl⟩:=eight _ hh
 obtain⟨a',b',c',d',e',f',g',k',rfl⟩:=eight _ hv
 exact .again rfl <| .again rfl <| .again rfl <| .again rfl <| .again rfl <| .again rfl <| .again rfl <| .again rfl <| .out rfl
theorem VP (h v b:List Int) (o n:Nat) (hh:h.length=8) (hv:v.length=8):Comes Wh.Hx ((0,(),(),(o,n)),h,v,b) (((),(o,n)),GR h v,b):=by
 obtain⟨a,b,c,d,e,f,g,k,rfl⟩:=eight _ hh
 obtain⟨a',b',c',d',e',f',g',k',rfl⟩:=eight _ hv
 exact .again rfl <| .again rfl <| .again rfl <| .again rfl <| .again rfl <| .again rfl <| .again rfl <| .again rfl <| .out rfl
def blk (b:List Int) (o:Nat) (h:List Int):List Int:=GR h (AJ (ws b o 64) h 64)
def Ah (b:List Int) (h:List Int):Nat→List Int
 |0=>h
 |i+1=>blk b (64*i) (Ah b h i)
theorem Ea (b h:List Int) (hh:h.length=8):∀i,(Ah b h i).length=8
 |0=>hh
 |_i+1=>VO ..
theorem VY (b h:List Int) (o:Nat) (hb:o+64≤b.length) (hh:h.length=8):Wh.q96 (h,List.take 64 (List.drop o b))=some (blk b o h,()):=by
 have e1:=acF b o hb
 have a:=abP (ws b o 64) h (BY ..) hh
 have c:=VR h (AJ (ws b o 64) h 64) hh (LY _ _ hh _)
 have c2:decide (0+h.length≤dh)=true:=decide_eq_true (by unfold dh;omega)
 simp only[Wh.q96,Wh.q98_v _ _ e1,e1,Wh.q71_v _ _ RA,RA,nQ,iy,c2,List.nil_append,cond_true,cb a,cv a,cb c,cv c]
 rfl
theorem ab8 (b h:List Int) (m:Nat) (hb:b.length=64*m) (hm:m≤100000000) (hh:h.length=8):Comes Wh.Dp ((0,(),()),b,h) ((),Ah b h m):=
 xR (r:=Wh.Dp) (fun i=>((((64*i:Nat):Int),(),()),b,Ah b h i)) (n:=m) (y:=((),Ah b h m)) (fun i hi=>by
  have c1:decide (((64*i:Nat):Int)<((64*m:Nat):Int))=true:=gl (by omega)
  have w:IntKind.wrap .i64 (((64*i:Nat):Int)+64)=((64*(i+1):Nat):Int):=by rw[wrap64 (by omega) (by omega)];omega
  have e:=VY b (Ah b h i) (64*i) (by omega) (Ea b h hh i)
  have e64:Int.toNat (((64*(i+1):Nat):Int)-((64*i:Nat):Int))=64:=by omega
  have c2:decide (((64*i:Nat):Int)≤((64*(i+1):Nat):Int))=true:=decide_eq_true (by omega)
  have c3:decide (((64*(i+1):Nat):Int)≤((64*m:Nat):Int))=true:=decide_eq_true (by omega)
  simp only[Wh.Dp,hb,c1,w,e64,Int.toNat_natCast,e,Wh.q96_v _ _ e,nQ,c2,c3,g0,iy,Bool.and_self,cond_true]
  rfl) (by
  have c1:decide (((64*m:Nat):Int)<((64*m:Nat):Int))=false:=decide_eq_false (by omega)
  simp only[Wh.Dp,hb,c1,cond_false]) 0 (Nat.zero_le _)
theorem zer64:yF 64 = [(0:Int),(0:Int),(0:Int),(0:Int),(0:Int),(0:Int),(0:Int),(0:Int),(0:Int),(0:Int),(0:Int),(0:Int),(0:Int),(0:Int),(0:Int),(0:Int),(0:Int),(0:Int),(0:Int),(0:Int),(0:Int),(0:Int),(0:Int),(0:Int),(0:Int),(0:Int),(0:Int),(0:Int),(0:Int),(0:Int),(0:Int),(0:Int),(0:Int),(0:Int),(0:Int),(0:Int),(0:Int),(0:Int),(0:Int),(0:Int),(0:Int),(0:Int),(0:Int),(0:Int),(0:Int),(0:Int),(0:Int),(0:Int),(0:Int),(0:Int),(0:Int),(0:Int),(0:Int),(0:Int),(0:Int),(0:Int),(0:Int),(0:Int),(0:Int),(0:Int),(0:Int),(0:Int),(0:Int),(0:Int)]:=rfl
theorem ab7 (b h:List Int) (m:Nat) (hb:b.length=64*m) (hh:h.length=8):Comes Wh.DG (((0,b.length),()),b,h) ((),Ah b h m):=by
 rw[hb]
 exact xR (r:=Wh.DG) (fun i=>(((64*i,64*m-64*i),()),b,Ah b h i)) (n:=m) (y:=((),Ah b h m)) (fun i hi=>by
  have c1:decide (((64*m-64*i:Nat):Int)>(0:Int))=true:=decide_eq_true (by omega)
  have a:=acE b (Ah b h i) (64*i) (64*m-64*i) (by omega)
  have d:=abO (ws b (64*i) 64) (Ah b h i) b (64*i) (64*m-64*i) (Ea b h hh i)
  have e:=VP (Ah b h i) (AJ (ws b (64*i) 64) (Ah b h i) 64) b (64*i) (64*m-64*i) (Ea b h hh i) (LY _ _ (Ea b h hh i) _)
  have e1:Int.toNat (((64*m-64*i:Nat):Int)-64)=64*m-64*(i+1):=by omega
  have e2:64*i+Int.toNat 64=64*(i+1):=by omega
  have c2:decide ((64:Int)≤((64*m-64*i:Nat):Int))=true:=decide_eq_true (by omega)
  have c3:decide (((64*i:Nat):Int)+((64*m-64*i:Nat):Int)≤((b.length:Nat):Int))=true:=decide_eq_true (by omega)
  rw[zer64] at a
  simp only[Wh.DG,c1,cond_true,cb a,cv a,cb d,cv d,cb e,cv e,e1,e2,c2,c3,iy,Bool.and_self]
  rfl) (by
  have c1:decide (((64*m-64*m:Nat):Int)>(0:Int))=false:=decide_eq_false (by omega)
  simp only[Wh.DG,c1,cond_false]) 0 (Nat.zero_le _)
def four (x:Int):List Int:=[IntKind.wrap .u8 (Int.fdiv x ((2:Int) ^ Min.min (Int.toNat (24:Int)) (Go.IntKind.bits Go.IntKind.u32))),IntKind.wrap .u8 (Int.fdiv x ((2:Int) ^ Min.min (Int.toNat (16:Int)) (Go.IntKind.bits Go.IntKind.u32))),IntKind.wrap .u8 (Int.fdiv x ((2:Int) ^ Min.min (Int.toNat (8:Int)) (Go.IntKind.bits Go.IntKind.u32))),IntKind.wrap .u8 x]
def KG:List Int→List Int
 | [a,b,c,d,e,f,g,h]=>[]++four a++four b++four c++four d++four e++four f++four g++four h
 |_=>[]
theorem WT (l:List Int) (h:l.length=8):(KG l).length=32:=by
 obtain⟨a,b,c,d,e,f,g,k,rfl⟩:=eight _ h
 rfl
theorem Zf (l:List Int) (h:l.length=8):Comes Wh.Hs ((0,(),()),l,[]) ((),KG l):=by
 obtain⟨a,b,c,d,e,f,g,k,rfl⟩:=eight _ h
 exact .again rfl <| .again rfl <| .again rfl <| .again rfl <| .again rfl <| .again rfl <| .again rfl <| .again rfl <| .out rfl
theorem Ze (l:List Int) (h:l.length=8):Comes Wh.Hy ((0,(),l),[]) ((),KG l):=by
 obtain⟨a,b,c,d,e,f,g,k,rfl⟩:=eight _ h
 exact .again rfl <| .again rfl <| .again rfl <| .again rfl <| .again rfl <| .again rfl <| .again rfl <| .again rfl <| .out rfl
def H0:List Int:=[1779033703,3144134277,1013904242,2773480762,1359893119,2600822924,528734635,1541459225]
def sha (x:List UInt8):List UInt8:=qp (KG (Ah (z7 x) H0 ((z7 x).length / 64)))
theorem Vx (x:List UInt8):(sha x).length=32:=by
 rw[sha,qp,List.length_map,WT _ (Ea _ _ rfl _)]
theorem ab5 (x:List UInt8) (h:x.length≤2147483648):Wh.ET x=some (sha x,()):=by
 have e:=Zi x h
 have hl:=OA x
 have hz:=Im x.length
 have hm:=TH x
 have a:=ab8 (z7 x) H0 ((z7 x).length / 64) (by omega) (by omega) rfl
 have d:=Zf _ (Ea (z7 x) H0 rfl ((z7 x).length / 64))
 unfold H0 at a d
 simp only[Wh.ET,e,Wh.q72_v _ _ e,nQ,iy,cond_true,cb a,cv a,cb d,cv d]
 rfl
theorem Xh (x:List UInt8) (h:x.length≤2147483648):Wh.q53 x=some (sha x,()):=by
 have hl:=OA x
 have hz:=Im x.length
 have hm:=TH x
 have c1:decide (x.length+1≤dh)=true:=decide_eq_true (by unfold dh;omega)
 have c2:decide (x.length≤dh)=true:=decide_eq_true (by unfold dh;omega)
 have p:=Zg x H0 h
 have w0:IntKind.wrap .u64 (x.length:Int)=(x.length:Int):=by simp[IntKind.wrap,IntKind.signed,IntKind.bits];omega
 have w:IntKind.wrap .u64 ((x.length:Int)*8)=(x.length:Int)*8:=by simp[IntKind.wrap,IntKind.signed,IntKind.bits];omega
 have b:=Xy (Cd x) H0 ((x.length:Int)*8) (by rw[Oz];omega)
 have a:=ab7 (z7 x) H0 ((z7 x).length / 64) (by omega) rfl
 have d:=Ze _ (Ea (z7 x) H0 rfl ((z7 x).length / 64))
 unfold H0 at p a b d
 change Comes _ _ (_,z7 x,_) at b
 simp only[Wh.q53,Ec,c1,c2,iy,Bool.and_self,cond_true,cb p,cv p,w0,w,cb b,cv b,cb a,cv a,cb d,cv d]
 rfl
theorem hexI (n:Nat) (h:n<256):IntKind.wrap .u8 (Int.tdiv (n:Int) 16)=((n / 16:Nat):Int):=by
 have:Int.tdiv (n:Int) 16=((n / 16:Nat):Int):=by rw[Int.tdiv_eq_ediv_of_nonneg (by omega)];omega
 rw[this];simp[IntKind.wrap,IntKind.signed,IntKind.bits];omega
theorem hexJ (n:Nat):Int.tmod (n:Int) 16=((n % 16:Nat):Int):=HS n 16
theorem hex_eq (s:List UInt8) (h:s.length≤2147483648):∃t,Wh.Dm s=some (t,())∧t.length=2*s.length:=by
 have main:∀d k,k+d=s.length→∀l:List Int,l.length=2*k→∃l',l'.length=2*s.length∧Comes Wh.Dn (((k:Int),s,()),l) ((),l'):=by
  intro d
  induction d with
  |zero=>
   intro k hk l hl
   have:k=s.length:=by omega
   subst this
   have c1:decide ((s.length:Int)<(s.length:Int))=false:=decide_eq_false (by omega)
   exact⟨l,hl,.out (by simp only[Wh.Dn,c1,cond_false])⟩
  |succ d ih=>
   intro k hk l hl
   have c1:decide ((k:Int)<(s.length:Int))=true:=gl (by omega)
   have hb:(s.getD k 0).toNat<256:=(s.getD k 0).toNat_lt
   have c2:decide (l.length+2≤dh)=true:=decide_eq_true (by unfold dh;omega)
   obtain⟨l',h1,h2⟩:=ih (k+1) (by omega) (l ++ [_,_]) (by rw[List.length_append,hl];simp;omega)
   exact⟨l',h1,.again (by
    simp only[Wh.Dn,c1,Int.toNat_natCast,hexI _ hb,hexJ,g0,c2,gl (show(s.getD k 0).toNat / 16<16 by omega),gl (show(s.getD k 0).toNat % 16<16 by omega),iy,Bool.and_self,cond_true,mb (show k≤4611686018427387904 by omega)];rfl) h2⟩
 obtain⟨l',h1,h2⟩:=main s.length 0 (by omega) [] rfl
 refine⟨qp l',?_,by rw[qp,List.length_map,h1]⟩
 have h2':Comes Wh.Dn ((0,s,()),[]) ((),l'):=h2
 simp only[Wh.Dm,cb h2',cv h2',cond_true]
noncomputable def hash (x:List UInt8):List UInt8:=(Wh.Lv (sha x)).1
theorem NQ (x:List UInt8):Wh.Dm (sha x)=some (hash x,())∧(hash x).length=64:=by
 obtain⟨t,h1,h2⟩:=hex_eq (sha x) (by rw[Vx];omega)
 have:hash x=t:=by rw[hash,Wh.PD _ _ h1]
 rw[this]
 exact⟨h1,by rw[h2,Vx]⟩
theorem Al (x:List UInt8):(hash x).length=64:=(NQ x).2
theorem ab4 (x:List UInt8) (h:x.length≤2147483648):Wh.q91 x=some (hash x,()):=by
 have a:=ab5 x h
 have b:=(NQ x).1
 simp only[Wh.q91,a,Wh.Ux _ _ a,b,Wh.PD _ _ b,nQ,iy,Bool.and_self,cond_true]
theorem Xf (x:List UInt8) (h:x.length≤2147483648):Wh.q74 x=some (hash x,()):=by
 have a:=Xh x h
 have b:Wh.FZ (sha x)=_:=(NQ x).1
 simp only[Wh.q74,a,Wh.q53_v _ _ a,b,Wh.Uk _ _ b,nQ,iy,Bool.and_self,cond_true]
end Pl
open Go Go.Ab Go.Lib
namespace Pl
theorem zi (n:Nat) (h:n≤9999999):(decDigits n).length≤7:=uE (by omega) (by omega)
theorem Sz (n:Nat) (r:List UInt8) (hn:n≤9999999) (hr:r.length≤9999999):(nX n r++r).length≤16+r.length:=by
 have:=zi n hn;have:=zi r.length hr
 simp only[nX,List.length_append,List.length_singleton];omega
theorem N1 (n:Nat) (r:List UInt8) (hn:n≤9999999) (hr:r.length≤9999999):Wh.De ((n:Int),r)=some (line hash n r,()):=by
 have d1:=zi n hn
 have d2:=zi r.length hr
 have e1:=NT n (by omega)
 have e2:=NT r.length (by omega)
 have hl:=Sz n r hn hr
 have e3:=ab4 (nX n r++r) (by omega)
 have e4:=Al (nX n r++r)
 have c1:decide ((decDigits n ++ [(32:UInt8)]++decDigits r.length).length+1≤dh)=true:=decide_eq_true (by simp only[List.length_append,List.length_singleton];unfold dh;omega)
 have c2:decide ((decDigits n ++ [(32:UInt8)]).length+(decDigits r.length).length≤dh)=true:=decide_eq_true (by simp only[List.length_append,List.length_singleton];unfold dh;omega)
 have c3:decide ((decDigits n).length+1≤dh)=true:=decide_eq_true (by unfold dh;omega)
 have q1:(List.take (Int.toNat ((16:Int)-(0:Int))) (List.drop (Int.toNat (0:Int)) (hash (nX n r++r))))=(hash (nX n r++r)).take 16:=rfl
 have q2:((hash (nX n r++r)).take 16).length=16:=by rw[List.length_take,e4];rfl
 have lh:(nX n r).length≤16:=by simp only[nX,List.length_append,List.length_singleton];omega
 unfold nX at e3 q1 q2 lh
 have c4 (k:Nat) (hk:k≤20000100):decide (k≤dh)=true:=decide_eq_true (by unfold dh;omega)
 have c5:decide ((16:Int)≤((64:Nat):Int))=true:=rfl
 unfold nX at e4
 simp only[Wh.De,e1,Wh.Lu _ _ e1,e2,Wh.Lu _ _ e2,c1,c2,c3,nQ,iy,Bool.and_self,cond_true,e3,Wh.q91_v _ _ e3,q1,e4,c5]
 rw[c4 _ (by simp only[List.length_append,List.length_singleton,List.length_take,e4] at lh ⊢;omega),c4 _ (by simp only[List.length_append,List.length_singleton,List.length_take,e4] at lh ⊢;omega),c4 _ (by simp only[List.length_append,List.length_singleton,List.length_take,e4] at lh ⊢;omega),c4 _ (by simp only[List.length_append,List.length_singleton,List.length_take,e4] at lh ⊢;omega),c4 _ (by simp only[List.length_append,List.length_singleton] at lh ⊢;omega)]
 rfl
theorem NZ (n:Nat) (r:List UInt8) (hn:n≤9999999) (hr:r.length≤9999999):Wh.q79 ((n:Int),r)=some (line hash n r,()):=by
 have d1:=zi n hn
 have d2:=zi r.length hr
 have e1:=KO n (by omega)
 have e2:=KO r.length (by omega)
 have hl:=Sz n r hn hr
 have e3:=Xf (nX n r++r) (by omega)
 have e4:=Al (nX n r++r)
 have c1:decide ((decDigits n ++ [(32:UInt8)]++decDigits r.length).length+1≤dh)=true:=decide_eq_true (by simp only[List.length_append,List.length_singleton];unfold dh;omega)
 have c2:decide ((decDigits n ++ [(32:UInt8)]).length+(decDigits r.length).length≤dh)=true:=decide_eq_true (by simp only[List.length_append,List.length_singleton];unfold dh;omega)
 have c3:decide ((decDigits n).length+1≤dh)=true:=decide_eq_true (by unfold dh;omega)
 have q1:(List.take (Int.toNat ((16:Int)-(0:Int))) (List.drop (Int.toNat (0:Int)) (hash (nX n r++r))))=(hash (nX n r++r)).take 16:=rfl
 have lh:(nX n r).length≤16:=by simp only[nX,List.length_append,List.length_singleton];omega
 unfold nX at e3 q1 lh
 have c4 (k:Nat) (hk:k≤20000100):decide (k≤dh)=true:=decide_eq_true (by unfold dh;omega)
 have c5:decide ((16:Int)≤((64:Nat):Int))=true:=rfl
 unfold nX at e4
 simp only[Wh.q79,e1,Wh.xL _ _ e1,e2,Wh.xL _ _ e2,c1,c2,c3,nQ,iy,Bool.and_self,cond_true,e3,Wh.q74_v _ _ e3,q1,e4,c5]
 rw[c4 _ (by simp only[List.length_append,List.length_singleton,List.length_take,e4] at lh ⊢;omega),c4 _ (by simp only[List.length_append,List.length_singleton,List.length_take,e4] at lh ⊢;omega),c4 _ (by simp only[List.length_append,List.length_singleton,List.length_take,e4] at lh ⊢;omega),c4 _ (by simp only[List.length_append,List.length_singleton,List.length_take,e4] at lh ⊢;omega),c4 _ (by simp only[List.length_append,List.length_singleton] at lh ⊢;omega)]
 rfl
theorem Fg (log:List UInt8) (a:Nat) (p q:List UInt8) (h:log.drop a=p++q):List.take (Int.toNat (((a+p.length:Nat):Int)-(a:Int))) (List.drop a log)=p:=by
 rw[h,show Int.toNat (((a+p.length:Nat):Int)-(a:Int))=p.length by omega,List.take_left'];rfl
theorem FA (log:List UInt8) (a:Nat) (p q:List UInt8) (h:log.drop a=p++q):log.drop (a+p.length)=q:=by
 rw[←List.drop_drop,h,List.drop_left'];rfl
theorem FI (log:List UInt8) (a:Nat) (p q:List UInt8) (ha:a≤log.length) (h:log.drop a=p++q):a+p.length+q.length=log.length:=by
 have:=congrArg List.length h
 simp only[List.length_drop,List.length_append] at this;omega
theorem N0 (n:Nat) (r s:List UInt8):line hash n r++s=decDigits n++32::(decDigits r.length++32::((hash (nX n r++r)).take 16++32::(r++10::s))):=by
 rw[si];simp
theorem h16 (n:Nat) (r:List UInt8):((hash (nX n r++r)).take 16).length=16:=by rw[List.length_take,Al];rfl
noncomputable def FO (t:List UInt8) (n:Nat):List UInt8×Int:=match jn hash t n with | none=>([],0)|some r=>(r,((line hash n r).length:Int))
theorem Xl (log:List UInt8) (a n:Nat) (Ax:log.length≤9999999) (ha:a≤log.length) (hn:n≤999999) :
  Wh.Cj (log,(a:Int),(n:Int))=some (FO (log.drop a) n,()):=by
 unfold FO
 have g0' (k:Nat):decide ((k:Int)<0)=false:=decide_eq_false (by omega)
 have le (x y:Nat) (h:x≤y):decide ((x:Int)≤(y:Int))=true:=decide_eq_true (by omega)
 cases hx:jn hash (log.drop a) n with
 |some r=>
  obtain⟨hr1,hr2,s,hs⟩:=mq hash hx
  rw[N0] at hs
  have hs:=hs.symm
  have f1:=FH log (decDigits n) _ a 32 (by omega) hs (ny n)
  have l1:=FI _ _ _ _ ha hs
  have t1:=Fg _ _ _ _ hs
  have n1:=FG (decDigits n) (by have:=zi n (by omega);omega)
  rw[if_pos (G0 hn),ru] at n1
  have hs2:log.drop (a+(decDigits n).length+1)=decDigits r.length++32::((hash (nX n r++r)).take 16++32::(r++10::s)):=by
   have:=FA log a (decDigits n ++ [32]) (decDigits r.length++32::((hash (nX n r++r)).take 16++32::(r++10::s))) (by rw[hs];simp)
   rw[List.length_append,List.length_singleton,←Nat.add_assoc] at this;exact this
  have l2:=FI _ _ _ _ (by simp at l1;omega) hs2
  have f2:=FH log (decDigits r.length) _ _ 32 (by omega) hs2 (ny _)
  have t2:=Fg _ _ _ _ hs2
  have n2:=FG (decDigits r.length) (by have:=zi r.length (by omega);omega)
  rw[if_pos (G0 (by omega)),ru] at n2
  have hs3:log.drop (a+(decDigits n).length+1+(decDigits r.length).length+18)=r++10::s:=by
   have:=FA log _ (decDigits r.length++32::((hash (nX n r++r)).take 16 ++ [32])) (r++10::s) (by rw[hs2];simp)
   rw[←this];congr 1
   simp only[List.length_append,List.length_cons,List.length_nil,h16];omega
  have l3:=FI _ _ _ _ (by simp only[List.length_append,List.length_cons,h16] at l2;omega) hs3
  simp only[List.length_cons] at l3
  have t3:=Fg _ _ _ _ hs3
  have ls:=N1 n r (by omega) (by omega)
  have hw:line hash n r++s=log.drop a:=by rw[N0];exact hs.symm
  have hll:=vJ hash Al n r
  have t4:=Fg _ _ _ _ hw.symm
  have w1:=mb (i:=a+(decDigits n).length) (by omega)
  have w2:IntKind.wrap .i64 (((a+(decDigits n).length+1+(decDigits r.length).length:Nat):Int)+18)=((a+(decDigits n).length+1+(decDigits r.length).length+18:Nat):Int):=by rw[wrap64 (by omega) (by omega)];omega
  have w3:IntKind.wrap .i64 (((a+(decDigits n).length+1+(decDigits r.length).length+18:Nat):Int)+(r.length:Int))=((a+(decDigits n).length+1+(decDigits r.length).length+18+r.length:Nat):Int):=by rw[wrap64 (by omega) (by omega)];omega
  have w4:=mb (i:=a+(decDigits n).length+1+(decDigits r.length).length+18+r.length) (by omega)
  have e5:a+(decDigits n).length+1+(decDigits r.length).length+18+r.length+1=a+(line hash n r).length:=by omega
  rw[e5] at w4
  have cin:=B_ (r.length:Int) 1 500
  rw[decide_eq_true (show(1:Int)≤(r.length:Int)∧(r.length:Int)≤500 from⟨by omega,by omega⟩)] at cin
  have c6:decide (((a+(line hash n r).length:Nat):Int)>(log.length:Int))=false:=decide_eq_false (by omega)
  have c7:(((n:Int)) != (n:Int))=false:=by simp
  have c8:(line hash n r==line hash n r)=true:=beq_self_eq_true _
  have f1':Wh.y2 (log,(a:Int),32)=_:=f1
  have f2':Wh.y2 (log,((a+(decDigits n).length+1:Nat):Int),32)=_:=f2
  simp only[Wh.Cj,f1',Wh.BH _ _ f1',Int.toNat_natCast,g0',t1,n1,Wh.EU _ _ n1,c7,cond_false,nQ,Bool.or_true,le a (a+(decDigits n).length) (by omega),le (a+(decDigits n).length) log.length (by omega),g0,iy,Bool.and_self,cond_true,w1,
   f2',Wh.BH _ _ f2',t2,n2,Wh.EU _ _ n2,le (a+(decDigits n).length+1) (a+(decDigits n).length+1+(decDigits r.length).length) (by omega),le (a+(decDigits n).length+1+(decDigits r.length).length) log.length (by omega),cin,Wh.zc _ _ cin,Bool.not_true,w2,w3,w4,c6,t3,ls,Wh.Lh _ _ ls,
   le (a+(decDigits n).length+1+(decDigits r.length).length+18) (a+(decDigits n).length+1+(decDigits r.length).length+18+r.length) (by omega),le (a+(decDigits n).length+1+(decDigits r.length).length+18+r.length) log.length (by omega),le a (a+(line hash n r).length) (by omega),le (a+(line hash n r).length) log.length (by omega),t4,c8,Bool.not_true]
 |none=>
  simp only
  rcases Ff 32 (log.drop a) with h1|⟨p,q,hs,hp⟩
  ·have f1:Wh.y2 (log,(a:Int),32)=_:=NU log a 32 (by omega) (by omega) h1
   have c1:decide ((-1:Int)<0)=true:=rfl
   simp only[Wh.Cj,f1,Wh.BH _ _ f1,c1,nQ,Bool.not_true,iy,cond_true]
   rfl
  have f1:Wh.y2 (log,(a:Int),32)=_:=FH log p _ a 32 (by omega) hs hp
  have l1:=FI _ _ _ _ ha hs
  have t1:=Fg _ _ _ _ hs
  simp only[List.length_cons] at l1
  have n1:=FG p (by omega)
  have w1:=mb (i:=a+p.length) (by omega)
  simp only[Wh.Cj,f1,Wh.BH _ _ f1,Int.toNat_natCast,g0',t1,n1,Wh.EU _ _ n1,cond_false,nQ,Bool.or_true,le a (a+p.length) (by omega),le (a+p.length) log.length (by omega),g0,iy,Bool.and_self,cond_true,w1]
  cases hm:((if isNum p then(er p:Int) else -1) != (n:Int)) with
  |true=>rfl
  |false=>
  simp only[cond_false]
  have hs2:log.drop (a+p.length+1)=q:=by
   have:=FA log a (p ++ [32]) q (by rw[hs];simp)
   rw[List.length_append,List.length_singleton,←Nat.add_assoc] at this;exact this
  rcases Ff 32 q with h2|⟨p2,q2,hq,hp2⟩
  ·have f2:Wh.y2 (log,((a+p.length+1:Nat):Int),32)=_:=NU log (a+p.length+1) 32 (by omega) (by omega) (by rw[hs2];exact h2)
   have c1:decide ((-1:Int)<0)=true:=rfl
   simp only[f2,Wh.BH _ _ f2,c1,cond_true]
  rw[hq] at hs2
  have l2:=FI _ _ _ _ (by omega) hs2
  simp only[List.length_cons] at l2
  have f2:Wh.y2 (log,((a+p.length+1:Nat):Int),32)=_:=FH log p2 _ _ 32 (by omega) hs2 hp2
  have t2:=Fg _ _ _ _ hs2
  have n2:=FG p2 (by omega)
  have cin:=B_ (if isNum p2 then(er p2:Int) else -1) 1 500
  have w2:IntKind.wrap .i64 (((a+p.length+1+p2.length:Nat):Int)+18)=((a+p.length+1+p2.length+18:Nat):Int):=by rw[wrap64 (by omega) (by omega)];omega
  simp only[f2,Wh.BH _ _ f2,g0',cond_false,t2,n2,Wh.EU _ _ n2,le (a+p.length+1) (a+p.length+1+p2.length) (by omega),le (a+p.length+1+p2.length) log.length (by omega),cin,Wh.zc _ _ cin,w2,cond_true]
  by_cases hk:(1:Int)≤(if isNum p2 then(er p2:Int) else -1)∧(if isNum p2 then(er p2:Int) else -1)≤500
  ·obtain⟨k,hk1,hk2,hkv⟩:∃k:Nat,1≤k∧k≤500∧(if isNum p2 then(er p2:Int) else -1)=(k:Int):=by
    refine⟨Int.toNat (if isNum p2 then(er p2:Int) else -1),?_,?_,?_⟩<;>omega
   have w3:IntKind.wrap .i64 (((a+p.length+1+p2.length+18:Nat):Int)+(k:Int))=((a+p.length+1+p2.length+18+k:Nat):Int):=by rw[wrap64 (by omega) (by omega)];omega
   have w4:=mb (i:=a+p.length+1+p2.length+18+k) (by omega)
   simp only[hkv,decide_eq_true (show(1:Int)≤(k:Int)∧(k:Int)≤500 from⟨by omega,by omega⟩),Bool.not_true,cond_false,w3,w4]
   cases hc:decide (((a+p.length+1+p2.length+18+k+1:Nat):Int)>(log.length:Int)) with
   |true=>rfl
   |false=>
   have aJ:=of_decide_eq_false hc
   simp only[cond_false]
   have e1:Int.toNat (((a+p.length+1+p2.length+18+k:Nat):Int)-((a+p.length+1+p2.length+18:Nat):Int))=k:=by omega
   have hrl:(List.take k (List.drop (a+p.length+1+p2.length+18) log)).length=k:=by rw[List.length_take,List.length_drop];omega
   have ls:=N1 n (List.take k (List.drop (a+p.length+1+p2.length+18) log)) (by omega) (by omega)
   simp only[e1,ls,Wh.Lh _ _ ls,le (a+p.length+1+p2.length+18) (a+p.length+1+p2.length+18+k) (by omega),le (a+p.length+1+p2.length+18+k) log.length (by omega),le (a+p.length+1+p2.length+18+k+1) log.length (by omega),le a (a+p.length+1+p2.length+18+k+1) (by omega),cond_true,Int.toNat_natCast,Bool.and_self,g0]
   cases hb:(List.take (Int.toNat (((a+p.length+1+p2.length+18+k+1:Nat):Int)-(a:Int))) (List.drop a log)==line hash n (List.take k (List.drop (a+p.length+1+p2.length+18) log))) with
   |false=>rfl
   |true=>
    exfalso
    have hb':=eq_of_beq hb
    have:mY hash (log.drop a) n (List.take k (List.drop (a+p.length+1+p2.length+18) log)):=by
     refine⟨by omega,by omega,?_⟩
     rw[←hb'];exact List.take_prefix _ _
    rw[TC hash Al this] at hx
    cases hx
  ·rw[decide_eq_false hk]
   rfl
theorem SC (t:List UInt8) (n:Nat):eE hash (t.length+1) t n=match jn hash t n with
  |none=>([],0)
  |some r=>(r::(eE hash ((t.drop (line hash n r).length).length+1) (t.drop (line hash n r).length) (n+1)).1,(line hash n r).length+(eE hash ((t.drop (line hash n r).length).length+1) (t.drop (line hash n r).length) (n+1)).2):=by
 cases h:jn hash t n with
 |none=>exact XG hash h
 |some r=>exact XF hash Al h
theorem Su (log:List UInt8) (Ax:log.length≤9999999):∀(d a:Nat) (l:List (List UInt8)),a≤log.length→log.length-a≤d→20*l.length≤a →
  Comes Wh.Df (((a:Int),(),log),l) (((),((a+(eE hash ((log.drop a).length+1) (log.drop a) l.length).2:Nat):Int)),l++(eE hash ((log.drop a).length+1) (log.drop a) l.length).1)
 |d,a,l,ha,hd,hl=>by
  have e:=Xl log a l.length Ax ha (by omega)
  rw[SC]
  cases hx:jn hash (log.drop a) l.length with
  |none=>
   refine .out ?_
   have ev:FO (log.drop a) l.length=([],0):=by rw[FO,hx]
   rw[ev] at e
   simp only[Wh.Df,e,Wh.Pc _ _ e,nQ,iy,cond_true]
   simp
  |some r=>
   have ev:FO (log.drop a) l.length=(r,((line hash l.length r).length:Int)):=by rw[FO,hx]
   rw[ev] at e
   have hp:=pU hash Al l.length r
   have hle:(line hash l.length r).length≤(log.drop a).length:=(mq hash hx).2.2.length_le
   rw[List.length_drop] at hle
   have c1:(((line hash l.length r).length:Int)==0)=false:=beq_eq_false_iff_ne.2 (by omega)
   have c2:decide (l.length+1≤dh)=true:=decide_eq_true (by unfold dh;omega)
   have w:IntKind.wrap .i64 ((a:Int)+((line hash l.length r).length:Int))=((a+(line hash l.length r).length:Nat):Int):=by rw[wrap64 (by omega) (by omega)];omega
   match d with
   |0=>omega
   |d+1=>
    have ih:=Su log Ax d (a+(line hash l.length r).length) (l ++ [r]) (by omega) (by omega) (by simp;omega)
    refine .again ?_ (x':=((((a+(line hash l.length r).length:Nat):Int),(),log),l ++ [r])) ?_
    ·simp only[Wh.Df,e,Wh.Pc _ _ e,nQ,iy,cond_true,c1,cond_false,c2,w]
    ·rw[←List.drop_drop,List.length_append,List.length_singleton,List.append_assoc] at ih
     simp only[List.singleton_append] at ih
     simpa[Nat.add_assoc] using ih
theorem NV (log:List UInt8) (Ax:log.length≤9999999):Wh.Ba log=some (((xU hash log).1,((xU hash log).2:Int)),()):=by
 have h:=Su log Ax log.length 0 [] (by omega) (by omega) (by simp)
 have h':Comes Wh.Df ((0,(),log),[]) (((),((xU hash log).2:Int)),(xU hash log).1):=by simpa[xU] using h
 simp only[Wh.Ba,cb h',cv h',cond_true]
theorem wi {x:Int} {y:Nat} (h:x=(y:Int)) (hy:y≤4611686018427387904):IntKind.wrap .i64 x=(y:Int):=by rw[h,wrap64 (by omega) (by omega)]
theorem wh3 (x y:Nat) (hx:x≤99999999) (hy:y≤99999999):IntKind.wrap .i64 (IntKind.wrap .i64 (IntKind.wrap .i64 ((x:Int)+1)+(y:Int))+18)=((x+1+y+18:Nat):Int):=by
 rw[show((x:Int)+1)=((x+1:Nat):Int) by omega,wi (x:=((x+1:Nat):Int)) rfl (by omega),show(((x+1:Nat):Int)+(y:Int))=((x+1+y:Nat):Int) by omega,wi (x:=((x+1+y:Nat):Int)) rfl (by omega)]
 exact wi (by omega) (by omega)
theorem wh2 (x y:Nat) (hx:x≤999999999) (hy:y≤999999999):IntKind.wrap .i64 (IntKind.wrap .i64 ((x:Int)+(y:Int))+1)=((x+y+1:Nat):Int):=by
 rw[show((x:Int)+(y:Int))=((x+y:Nat):Int) by omega,wi (x:=((x+y:Nat):Int)) rfl (by omega)]
 exact wi (by omega) (by omega)
theorem R8 (s p:List UInt8) (_hs:s.length≤9999999) (_hp:p.length≤9999999):Wh.q11 (s,p)=some (decide (p <+:s),()):=by
 have h:Wh.q6 (s,p)=some (decide (p <+:s),()):=by
  by_cases hl:p.length≤s.length
  ·have c1:decide ((s.length:Int)≥(p.length:Int))=true:=decide_eq_true (by omega)
   have c2:decide ((p.length:Int)≤(s.length:Int))=true:=decide_eq_true (by omega)
   have e:List.take (Int.toNat ((p.length:Int)-0)) (List.drop (Int.toNat 0) s)=s.take p.length:=by simp
   have e2:(s.take p.length==p)=decide (p <+:s):=by
    rw[Bool.eq_iff_iff,beq_iff_eq,decide_eq_true_iff,List.prefix_iff_eq_take]
    exact eq_comm
   simp only[Wh.q6,c1,g0,e,e2,cond_true,iy,Bool.or_true,Bool.and_self,show decide ((0:Int)≤0)=true from rfl]
  ·have c1:decide ((s.length:Int)≥(p.length:Int))=false:=decide_eq_false (by omega)
   have e2:decide (p <+:s)=false:=decide_eq_false (fun h=>hl h.length_le)
   simp only[Wh.q6,c1,e2,cond_false,iy,Bool.not_false,Bool.true_or,Bool.and_self,cond_true]
 simp only[Wh.q11,h,Wh.q6_v _ _ h,nQ,iy,cond_true]
theorem Xg (log:List UInt8) (Ax:log.length≤9999999) (a:Nat) (l:List (List UInt8)) (ha:a≤log.length) (hl:20*l.length≤a) :
  Wh.BQ (((a:Int),(),log),l)=match jn hash (log.drop a) l.length with
   |none=>some (.inr (((),(a:Int)),l))
   |some r=>some (.inl ((((a+(line hash l.length r).length:Nat):Int),(),log),l ++ [r])):=by
 have le (x y:Nat) (h:x≤y):decide ((x:Int)≤(y:Int))=true:=decide_eq_true (by omega)
 have t0:List.take (Int.toNat ((log.length:Int)-(a:Int))) (List.drop a log)=log.drop a:=by
  rw[List.take_of_length_le];rw[List.length_drop];omega
 have htl:(log.drop a).length≤9999999:=by rw[List.length_drop];omega
 have e1:Wh.strings_Cut (log.drop a,[(32:UInt8)])=some (cut (log.drop a) [32],()):=by
  simp only[Wh.strings_Cut,decide_eq_true (show(log.drop a).length<4294967281 by omega),cond_true]
 have ei:=KO l.length (by omega)
 have dl:=zi l.length (by omega)
 cases hx:jn hash (log.drop a) l.length with
 |some r=>
  obtain⟨hr1,hr2,s,hs⟩:=mq hash hx
  have hw:=hs.symm
  rw[N0] at hs
  have hs:=hs.symm
  have l1:=FI _ _ _ _ ha hw
  have hll:=vJ hash Al l.length r
  have q1:=CW 32 (decDigits l.length) (decDigits r.length++32::((hash (nX l.length r++r)).take 16++32::(r++10::s))) (ny _)
  rw[←hs] at q1
  rw[q1] at e1
  have q2:=CW 32 (decDigits r.length) ((hash (nX l.length r++r)).take 16++32::(r++10::s)) (ny _)
  have hq:(decDigits r.length++32::((hash (nX l.length r++r)).take 16++32::(r++10::s))).length<4294967281:=by
   have:=congrArg List.length hs
   simp only[List.length_append,List.length_cons] at this ⊢;omega
  have e2:Wh.strings_Cut (decDigits r.length++32::((hash (nX l.length r++r)).take 16++32::(r++10::s)),[(32:UInt8)])=some ((decDigits r.length,(hash (nX l.length r++r)).take 16++32::(r++10::s),true),()):=by
   simp only[Wh.strings_Cut,decide_eq_true hq,cond_true,q2]
  have dr:=zi r.length (by omega)
  have e3:Wh.rV (decDigits r.length)=some (((r.length:Int),true),()):=by
   simp only[Wh.rV,decide_eq_true (show(decDigits r.length).length≤281474976710656 by omega),cond_true,if_pos (G0 (show r.length≤999999 by omega)),ru]
  have cin:=Fl (r.length:Int) 1 500
  rw[decide_eq_true (show(1:Int)≤(r.length:Int)∧(r.length:Int)≤500 from⟨by omega,by omega⟩)] at cin
  have w1:IntKind.wrap .i64 (IntKind.wrap .i64 (IntKind.wrap .i64 (((decDigits l.length).length:Int)+1)+((decDigits r.length).length:Int))+18)=(((decDigits l.length).length+1+(decDigits r.length).length+18:Nat):Int):=by exact wh3 _ _ (by omega) (by omega)
  have w2:IntKind.wrap .i64 (IntKind.wrap .i64 ((((decDigits l.length).length+1+(decDigits r.length).length+18:Nat):Int)+(r.length:Int))+1)=((line hash l.length r).length:Int):=by rw[hll];exact wh2 _ _ (by omega) (by omega)
  have w3:IntKind.wrap .i64 ((log.length:Int)-(a:Int))=((log.length-a:Nat):Int):=wi (by omega) (by omega)
  have c1:decide (((log.length-a:Nat):Int)<((line hash l.length r).length:Int))=false:=decide_eq_false (by omega)
  have w4:IntKind.wrap .i64 ((a:Int)+(((decDigits l.length).length+1+(decDigits r.length).length+18:Nat):Int))=((a+((decDigits l.length).length+1+(decDigits r.length).length+18):Nat):Int):=wi (by omega) (by omega)
  have w5:IntKind.wrap .i64 (((a+((decDigits l.length).length+1+(decDigits r.length).length+18):Nat):Int)+(r.length:Int))=((a+((decDigits l.length).length+1+(decDigits r.length).length+18)+r.length:Nat):Int):=wi (by omega) (by omega)
  have hs3:log.drop (a+((decDigits l.length).length+1+(decDigits r.length).length+18))=r++10::s:=by
   have:=FA log a (decDigits l.length++32::(decDigits r.length++32::((hash (nX l.length r++r)).take 16 ++ [32]))) (r++10::s) (by rw[hs];simp)
   rw[←this];congr 2
   simp only[List.length_append,List.length_cons,List.length_nil,h16];omega
  have t3:=Fg _ _ _ _ hs3
  have ls:=NZ l.length r (by omega) (by omega)
  have hpre:line hash l.length r <+:log.drop a:=⟨s,hw.symm⟩
  have hp:=R8 (log.drop a) (line hash l.length r) htl (by omega)
  rw[decide_eq_true hpre] at hp
  have w6:IntKind.wrap .i64 ((a:Int)+((line hash l.length r).length:Int))=((a+(line hash l.length r).length:Nat):Int):=wi (by omega) (by omega)
  have c2:decide (l.length+1≤dh)=true:=decide_eq_true (by unfold dh;omega)
  simp only[Wh.BQ,Int.toNat_natCast,t0,e1,Wh.xM _ _ e1,e2,Wh.xM _ _ e2,e3,Wh.xK _ _ e3,ei,Wh.xL _ _ ei,nQ,g0,le a log.length ha,le log.length log.length (Nat.le_refl _),iy,Bool.and_self,cond_true,w1,w2,w3,w4,w5,c1,cin,Wh.zo _ _ cin,Bool.not_true,Bool.or_true,cond_false,t3,ls,Wh.LL _ _ ls,hp,Wh.Pa _ _ hp,w6,c2,
   le (a+((decDigits l.length).length+1+(decDigits r.length).length+18)) (a+((decDigits l.length).length+1+(decDigits r.length).length+18)+r.length) (by omega),le (a+((decDigits l.length).length+1+(decDigits r.length).length+18)+r.length) log.length (by omega)]
 |none=>
  simp only
  have bI:(cut (log.drop a) [32]).2.1.length≤(log.drop a).length:=by
   rcases Ff 32 (log.drop a) with h|⟨p,q,h,hp⟩
   ·rw[KD _ _ h];simp
   ·rw[h,CW _ _ _ hp];simp;omega
  generalize eK:cut (log.drop a) [32]=c1 at bI e1
  have e2:Wh.strings_Cut (c1.2.1,[(32:UInt8)])=some (cut c1.2.1 [32],()):=by
   simp only[Wh.strings_Cut,decide_eq_true (show c1.2.1.length<4294967281 by omega),cond_true]
  have hcl2:(cut c1.2.1 [32]).1.length≤c1.2.1.length:=by
   rcases Ff 32 c1.2.1 with h|⟨p,q,h,hp⟩
   ·rw[KD _ _ h];simp
   ·rw[h,CW _ _ _ hp];simp
  generalize fU:cut c1.2.1 [32]=c2 at hcl2 e2
  have e3:Wh.rV c2.1=some (if isNum c2.1 then((er c2.1:Int),true) else(0,false),()):=by
   simp only[Wh.rV,decide_eq_true (show c2.1.length≤281474976710656 by omega),cond_true]
  have w1:IntKind.wrap .i64 (IntKind.wrap .i64 (IntKind.wrap .i64 (((decDigits l.length).length:Int)+1)+(c2.1.length:Int))+18)=(((decDigits l.length).length+1+c2.1.length+18:Nat):Int):=by exact wh3 _ _ (by omega) (by omega)
  by_cases hn:isNum c2.1
  ·rw[if_pos hn] at e3
   have cin:=Fl (er c2.1:Int) 1 500
   have hv:=vF hn
   have w2:IntKind.wrap .i64 (IntKind.wrap .i64 ((((decDigits l.length).length+1+c2.1.length+18:Nat):Int)+(er c2.1:Int))+1)=(((decDigits l.length).length+1+c2.1.length+18+er c2.1+1:Nat):Int):=by exact wh2 _ _ (by omega) (by omega)
   have w3:IntKind.wrap .i64 ((log.length:Int)-(a:Int))=((log.length-a:Nat):Int):=wi (by omega) (by omega)
   simp only[Wh.BQ,Int.toNat_natCast,t0,e1,Wh.xM _ _ e1,e2,Wh.xM _ _ e2,e3,Wh.xK _ _ e3,ei,Wh.xL _ _ ei,nQ,g0,le a log.length ha,le log.length log.length (Nat.le_refl _),iy,Bool.and_self,cond_true,w1,w2,w3,cin,Wh.zo _ _ cin,Bool.not_true,Bool.or_true,cond_false]
   by_cases hk:(1:Int)≤(er c2.1:Int)∧(er c2.1:Int)≤500
   ·simp only[decide_eq_true hk,Bool.not_true,cond_false]
    cases hc:decide (((log.length-a:Nat):Int)<(((decDigits l.length).length+1+c2.1.length+18+er c2.1+1:Nat):Int)) with
    |true=>rfl
    |false=>
    have aJ:=of_decide_eq_false hc
    have w4:IntKind.wrap .i64 ((a:Int)+(((decDigits l.length).length+1+c2.1.length+18:Nat):Int))=((a+((decDigits l.length).length+1+c2.1.length+18):Nat):Int):=wi (by omega) (by omega)
    have w5:IntKind.wrap .i64 (((a+((decDigits l.length).length+1+c2.1.length+18):Nat):Int)+(er c2.1:Int))=((a+((decDigits l.length).length+1+c2.1.length+18)+er c2.1:Nat):Int):=wi (by omega) (by omega)
    have e5:Int.toNat (((a+((decDigits l.length).length+1+c2.1.length+18)+er c2.1:Nat):Int)-((a+((decDigits l.length).length+1+c2.1.length+18):Nat):Int))=er c2.1:=by omega
    have hrl:(List.take (er c2.1) (List.drop (a+((decDigits l.length).length+1+c2.1.length+18)) log)).length=er c2.1:=by rw[List.length_take,List.length_drop];omega
    have ls:=NZ l.length (List.take (er c2.1) (List.drop (a+((decDigits l.length).length+1+c2.1.length+18)) log)) (by omega) (by omega)
    have hll:=vJ hash Al l.length (List.take (er c2.1) (List.drop (a+((decDigits l.length).length+1+c2.1.length+18)) log))
    rw[hrl] at hll
    have dv:=zi (er c2.1) (by omega)
    have hp:=R8 (log.drop a) (line hash l.length (List.take (er c2.1) (List.drop (a+((decDigits l.length).length+1+c2.1.length+18)) log))) htl (by omega)
    have hno:¬(line hash l.length (List.take (er c2.1) (List.drop (a+((decDigits l.length).length+1+c2.1.length+18)) log))) <+:log.drop a:=by
     intro h
     rw[TC hash Al (r:=List.take (er c2.1) (List.drop (a+((decDigits l.length).length+1+c2.1.length+18)) log)) ⟨by omega,by omega,h⟩] at hx
     cases hx
    rw[decide_eq_false hno] at hp
    simp only[w4,w5,e5,Int.toNat_natCast,ls,Wh.LL _ _ ls,hp,Wh.Pa _ _ hp,le (a+((decDigits l.length).length+1+c2.1.length+18)) (a+((decDigits l.length).length+1+c2.1.length+18)+er c2.1) (by omega),le (a+((decDigits l.length).length+1+c2.1.length+18)+er c2.1) log.length (by omega),g0,Bool.and_self,cond_true,cond_false,Bool.not_false]
   ·simp only[decide_eq_false hk,Bool.not_false,cond_true]
  ·rw[if_neg hn] at e3
   simp only[Wh.BQ,Int.toNat_natCast,t0,e1,Wh.xM _ _ e1,e2,Wh.xM _ _ e2,e3,Wh.xK _ _ e3,ei,Wh.xL _ _ ei,nQ,g0,le a log.length ha,le log.length log.length (Nat.le_refl _),iy,Bool.and_self,cond_true,Bool.not_false,Bool.not_true,Bool.true_or]
theorem Sk (log:List UInt8) (Ax:log.length≤9999999):∀(d a:Nat) (l:List (List UInt8)),a≤log.length→log.length-a≤d→20*l.length≤a →
  Comes Wh.BQ (((a:Int),(),log),l) (((),((a+(eE hash ((log.drop a).length+1) (log.drop a) l.length).2:Nat):Int)),l++(eE hash ((log.drop a).length+1) (log.drop a) l.length).1)
 |d,a,l,ha,hd,hl=>by
  have e:=Xg log Ax a l ha hl
  rw[SC]
  cases hx:jn hash (log.drop a) l.length with
  |none=>
   rw[hx] at e
   exact .out (by simpa using e)
  |some r=>
   rw[hx] at e
   have hp:=pU hash Al l.length r
   have hle:(line hash l.length r).length≤(log.drop a).length:=(mq hash hx).2.2.length_le
   rw[List.length_drop] at hle
   match d with
   |0=>omega
   |d+1=>
    have ih:=Sk log Ax d (a+(line hash l.length r).length) (l ++ [r]) (by omega) (by omega) (by simp;omega)
    refine .again e ?_
    rw[←List.drop_drop,List.length_append,List.length_singleton,List.append_assoc] at ih
    simp only[List.singleton_append] at ih
    simpa[Nat.add_assoc] using ih
theorem Rm (log:List UInt8) (Ax:log.length≤9999999):Wh.CH log=some (((xU hash log).1,((xU hash log).2:Int)),()):=by
 have h:=Sk log Ax log.length 0 [] (by omega) (by omega) (by simp)
 have h':Comes Wh.BQ ((0,(),log),[]) (((),((xU hash log).2:Int)),(xU hash log).1):=by simpa[xU] using h
 simp only[Wh.CH,cb h',cv h',cond_true]
end Pl
open Go Go.Ab Go.Lib
namespace Pl
def first:Nat→(Nat→Bool)→Option Nat
 |0,_=>none
 |n+1,p=>match first n p with | some i=>some i|none=>if p n=true then some n else none
theorem AP {p:Nat→Bool}:∀{n i:Nat},first n p=some i↔i<n∧p i=true∧∀j,j<i→p j=false
 |0,i=>by simp[first]
 |n+1,i=>by
  rw[first]
  cases h:first n p with
  |some k=>
   obtain⟨h1,h2,h3⟩:=AP.1 h
   simp only[Option.some.injEq]
   constructor
   ·rintro rfl;exact⟨by omega,h2,h3⟩
   ·rintro⟨g1,g2,g3⟩
    rcases Nat.lt_trichotomy k i with h4|h4|h4
    ·rw[g3 k h4] at h2;cases h2
    ·exact h4
    ·rw[h3 i h4] at g2;cases g2
  |none=>
   have hn:∀j,j<n→p j=false:=by
    intro j hj
    cases hp:p j with
    |false=>rfl
    |true=>
     exfalso
     have:∀m,m≤n→(∃i,i<m∧p i=true)→first m p≠none:=by
      intro m
      induction m with
      |zero=>rintro _ ⟨i,hi,_⟩;omega
      |succ m ih=>
       rintro hm ⟨i,hi,aO⟩
       rw[first]
       cases hf:first m p with
       |some _=>simp
       |none=>
        have:i=m:=by
         rcases Nat.lt_or_ge i m with h5|h5
         ·exact absurd hf (ih (by omega) ⟨i,h5,aO⟩)
         ·omega
        subst this
        simp[aO]
     exact this n (Nat.le_refl _) ⟨j,hj,hp⟩ h
   simp only
   constructor
   ·intro h1
    split at h1
    ·cases h1;rename_i hp;exact⟨by omega,hp,hn⟩
    ·cases h1
   ·rintro⟨g1,g2,g3⟩
    have:i=n:=by
     rcases Nat.lt_or_ge i n with h5|h5
     ·rw[hn i h5] at g2;cases g2
     ·omega
    subst this
    rw[if_pos g2]
theorem GW {p:Nat→Bool} {n:Nat}:first n p=none↔∀j,j<n→p j=false:=by
 constructor
 ·intro h j hj
  cases hp:p j with
  |false=>rfl
  |true=>
   exfalso
   have:∀m,(∃i,i<m∧p i=true)→∃i,first m p=some i:=by
    intro m
    induction m with
    |zero=>rintro⟨i,hi,_⟩;omega
    |succ m ih=>
     rintro⟨i,hi,aO⟩
     rw[first]
     cases hf:first m p with
     |some k=>exact⟨k,rfl⟩
     |none=>
      by_cases hm:p m=true
      ·exact⟨m,by simp[hm]⟩
      ·have:i≠m:=by rintro rfl;exact hm aO
       obtain⟨k,hk⟩:=ih ⟨i,by omega,aO⟩
       rw[hf] at hk;cases hk
   obtain⟨k,hk⟩:=this n ⟨j,hj,hp⟩
   rw[h] at hk;cases hk
 ·intro h
  cases hf:first n p with
  |none=>rfl
  |some i=>
   obtain⟨h1,h2,_⟩:=AP.1 hf
   rw[h i h1] at h2;cases h2
theorem Fz {X Y:Type} {r:X→Option (X⊕Y)} (st:Nat→X) {n:Nat} {p:Nat→Bool} {yt:Nat→Y} {yn:Y} (hs:∀i,i<n→p i=false→r (st i)=some (.inl (st (i+1))))
  (hf:∀i,i<n→p i=true→r (st i)=some (.inr (yt i))) (he:r (st n)=some (.inr yn)):Comes r (st 0) (match first n p with | some i=>yt i|none=>yn):=by
 rcases V2 st hs hf he with⟨i,h1,h2,h3,h4⟩|⟨h1,h2⟩
 ·rw[AP.2 ⟨h1,h2,h3⟩];exact h4
 ·rw[GW.2 h1];exact h2
theorem Wj {p q:Nat→Bool} {n:Nat} (h:∀i,i<n→p i=q i):first n p=first n q:=by
 cases hf:first n q with
 |none=>exact GW.2 fun j hj=>by rw[h j hj];exact GW.1 hf j hj
 |some i=>
  obtain⟨h1,h2,h3⟩:=AP.1 hf
  exact AP.2 ⟨h1,by rw[h i h1];exact h2,fun j hj=>by rw[h j (by omega)];exact h3 j hj⟩
theorem Kr (a b:UInt8) (x y:List UInt8):Op.bytesLess (a::x) (b::y)=true↔a<b∨(a=b∧Op.bytesLess x y=true):=by
 rw[Op.bytesLess]
 by_cases h1:a<b<;>by_cases h2:a=b<;>simp[h1,h2]
theorem Rt:∀(x y:List UInt8),Op.bytesLess x y=true→Op.bytesLess y x=false
 | [],[],h=>by simp[Op.bytesLess] at h
 |_::_,[],h=>by simp[Op.bytesLess] at h
 | [],_::_,_=>by simp[Op.bytesLess]
 |a::x,b::y,h=>by
  rw[Bool.eq_false_iff]
  intro h'
  rw[Kr] at h h'
  rcases h with h|⟨rfl,h⟩<;>rcases h' with h'|⟨e,h'⟩
  ·rw[UInt8.lt_iff_toNat_lt] at h h';omega
  ·subst e;rw[UInt8.lt_iff_toNat_lt] at h;omega
  ·rw[UInt8.lt_iff_toNat_lt] at h';omega
  ·rw[Rt x y h] at h';cases h'
theorem Rv:∀(x y z:List UInt8),Op.bytesLess x y=true→Op.bytesLess y z=true→Op.bytesLess x z=true
 |_,[],_,h,_=>by cases ‹List UInt8› <;>simp[Op.bytesLess] at h
 |_,_::_,[],_,h=>by simp[Op.bytesLess] at h
 | [],_::_,_::_,_,_=>by simp[Op.bytesLess]
 |a::x,b::y,c::z,h,h'=>by
  rw[Kr] at h h' ⊢
  rcases h with h|⟨rfl,h⟩<;>rcases h' with h'|⟨e,h'⟩
  ·left;rw[UInt8.lt_iff_toNat_lt] at h h' ⊢;omega
  ·subst e;exact .inl h
  ·exact .inl h'
  ·subst e;exact .inr ⟨rfl,Rv x y z h h'⟩
theorem Ru:∀(x y:List UInt8),Op.bytesLess x y=true∨x=y∨Op.bytesLess y x=true
 | [],[]=>by simp
 |_::_,[]=>by simp[Op.bytesLess]
 | [],_::_=>by simp[Op.bytesLess]
 |a::x,b::y=>by
  rw[Kr,Kr]
  rcases Nat.lt_trichotomy a.toNat b.toNat with h|h|h
  ·exact .inl (.inl (UInt8.lt_iff_toNat_lt.2 h))
  ·have:a=b:=UInt8.toNat_inj.1 h
   subst this
   rcases Ru x y with h1|h1|h1
   ·exact .inl (.inr ⟨rfl,h1⟩)
   ·exact .inr (.inl (by rw[h1]))
   ·exact .inr (.inr (.inr ⟨rfl,h1⟩))
  ·exact .inr (.inr (.inl (UInt8.lt_iff_toNat_lt.2 h)))
abbrev It:Type:=Int×List UInt8×Int×List UInt8×Unit
abbrev Ct:Type:=Int×List It×Unit
def z0:It:=((0:Int),[],(0:Int),[],())
def yw (a:It) (h:Int) (n:List UInt8):Bool:=bif decide (a.1<h) then true else bif a.1==h then Op.bytesLess a.2.1 n else false
theorem NW (a:It) (h:Int) (n:List UInt8):Wh.EH (a,h,n)=some (yw a h n,()):=rfl
theorem G3 {a:It} {h:Int} {n:List UInt8}:yw a h n=true↔a.1<h∨(a.1=h∧Op.bytesLess a.2.1 n=true):=by
 unfold yw
 by_cases h1:a.1<h
 ·simp[h1]
 ·by_cases h2:a.1=h<;>simp[h1,h2]
theorem Sy {a b:It} (h:yw a b.1 b.2.1=true):yw b a.1 a.2.1=false:=by
 rw[Bool.eq_false_iff]
 intro h'
 rw[G3] at h h'
 rcases h with h|⟨h1,h2⟩<;>rcases h' with h'|⟨h3,h4⟩
 ·omega
 ·omega
 ·omega
 ·rw[Rt _ _ h2] at h4;cases h4
theorem XB {a b c:It} (h:yw a b.1 b.2.1=true) (h':yw b c.1 c.2.1=true):yw a c.1 c.2.1=true:=by
 rw[G3] at h h' ⊢
 rcases h with h|⟨h1,h2⟩<;>rcases h' with h'|⟨h3,h4⟩
 ·left;omega
 ·left;omega
 ·left;omega
 ·exact .inr ⟨by omega,Rv _ _ _ h2 h4⟩
theorem XA {a b:It} (hk:¬(a.1=b.1∧a.2.1=b.2.1)) (h:yw a b.1 b.2.1=false):yw b a.1 a.2.1=true:=by
 rw[Bool.eq_false_iff,Ne,G3] at h
 rw[G3]
 rcases Int.lt_trichotomy a.1 b.1 with h1|h1|h1
 ·exact absurd (.inl h1) h
 ·rcases Ru a.2.1 b.2.1 with h2|h2|h2
  ·exact absurd (.inr ⟨h1,h2⟩) h
  ·exact absurd ⟨h1,h2⟩ hk
  ·exact .inr ⟨h1.symm,h2⟩
 ·exact .inl h1
theorem Oy (a b:It):∃v,Wh.q35 (a,b)=some (v,())∧decide (v<0)=yw a b.1 b.2.1:=by
 have n1 (x:Int):Wh.q45 x=some (false,()):=by simp[Wh.q45]
 have n2 (x:List UInt8):Wh.q12 x=some (false,()):=by simp[Wh.q12]
 have c1:Wh.q18 (a.1,b.1)=some (if a.1<b.1 then -1 else if a.1>b.1 then 1 else 0,()):=by
  simp only[Wh.q18,n1,Wh.q45_v _ _ (n1 _),nQ,iy,cond_true,cond_false]
  by_cases h1:a.1<b.1
  ·simp[h1]
  ·by_cases h2:a.1>b.1<;>simp[h1,h2]
 have c2:Wh.q7 (a.2.1,b.2.1)=some (if Op.bytesLess a.2.1 b.2.1=true then -1 else if a.2.1=b.2.1 then 0 else 1,()):=by
  simp only[Wh.q7,n2,Wh.q12_v _ _ (n2 _),nQ,iy,cond_true,cond_false]
  cases h1:Op.bytesLess a.2.1 b.2.1
  ·by_cases h2:a.2.1=b.2.1
   ·simp[h2]
   ·have hb:(a.2.1==b.2.1)=false:=beq_eq_false_iff_ne.2 h2
    simp[h2,hb]
  ·simp
 have c3 (x y:Int):Wh.EJ [x,y]=some (if x≠0 then x else y,()):=by
  have:∃z,Comes Wh.Dg ((0,0,[x,y],(↑(nat_lit 2):Int)),()) z∧sumC z (fun Fm=>some (Fm.1,())) (fun Il=>some (Il.1,()))=some (if x≠0 then x else y,()):=by
   by_cases hx:x=0
   ·subst hx
    by_cases hy:y=0
    ·subst hy;exact⟨_,.again rfl <| .again rfl <| .out rfl,rfl⟩
    ·have hb:(y != 0)=true:=by simp[hy]
     exact⟨.inl (y,()),.again (x':=((1,0,[0,y],2),())) rfl <| .out (by
      have e: [(0:Int),y].getD (Int.toNat 1) 0=y:=rfl
      simp only[Wh.Dg,e,hb];rfl),rfl⟩
   ·have hb:(x != 0)=true:=by simp[hx]
    exact⟨.inl (x,()),.out (by
      have e: [x,y].getD (Int.toNat 0) 0=x:=rfl
      simp only[Wh.Dg,e,hb];rfl),by simp[sumC,hx]⟩
  obtain⟨z,h1,h2⟩:=this
  simp only[Wh.EJ,List.length_cons,List.length_nil]
  have h1':Comes Wh.Dg ((0,0,[x,y],(↑(0+1+1:Nat):Int)),()) z:=h1
  rw[cb h1',cv h1',cond_true,←h2]
 refine⟨(if(if a.1<b.1 then(-1:Int) else if a.1>b.1 then 1 else 0)≠0 then(if a.1<b.1 then(-1:Int) else if a.1>b.1 then 1 else 0) else(if Op.bytesLess a.2.1 b.2.1=true then -1 else if a.2.1=b.2.1 then 0 else 1)),by
  simp only[Wh.q35,c1,Wh.q18_v _ _ c1,c2,Wh.q7_v _ _ c2,c3,Wh.Ug _ _ (c3 _ _),nQ,iy,Bool.and_self,cond_true],?_⟩
 rw[Bool.eq_iff_iff,G3,decide_eq_true_iff]
 by_cases h1:a.1<b.1
 ·simp[h1]
 ·by_cases h2:a.1>b.1
  ·simp[h1,h2];omega
  ·have:a.1=b.1:=by omega
   simp[this]
   cases h3:Op.bytesLess a.2.1 b.2.1
   ·by_cases h4:a.2.1=b.2.1<;>simp[h4]
   ·simp
def zN (s:List UInt8):Bool:=jS s.length (fun i=>decide (97≤(s.getD i 0).toNat∧(s.getD i 0).toNat≤122))&&decide (1≤s.length∧s.length≤6)
theorem K6 (c:Nat):(bif decide ((c:Int)<97) then true else decide ((c:Int)>122)) = !decide (97≤c∧c≤122):=by
 by_cases h1:(c:Int)<97
 ·rw[decide_eq_true h1,cond_true,decide_eq_false (by omega)];rfl
 ·rw[decide_eq_false h1,cond_false]
  by_cases h2:(c:Int)>122
  ·rw[decide_eq_true h2,decide_eq_false (by omega)];rfl
  ·rw[decide_eq_false h2,decide_eq_true (by omega)];rfl
theorem abW (s:List UInt8) (hs:s.length≤9999999):Wh.ED s=some (zN s,()):=by
 have h:=zV (r:=Wh.Ch) (fun i=>(((i:Int),s),())) (n:=s.length) (p:=fun i=>decide (97≤(s.getD i 0).toNat∧(s.getD i 0).toNat≤122)) (yf:=.inl (false,())) (yt:=.inr (s,())) (fun i hi _ hp=>by
   have hp':decide (97≤(s.getD i 0).toNat∧(s.getD i 0).toNat≤122)=true:=hp
   simp only[Wh.Ch,gl hi,g0,Int.toNat_natCast,K6,hp',Bool.or_true,iy,Bool.and_self,cond_true,Bool.not_true,cond_false,mb (show i≤4611686018427387904 by omega)]) (fun i hi _ hp=>by
   have hp':decide (97≤(s.getD i 0).toNat∧(s.getD i 0).toNat≤122)=false:=hp
   simp only[Wh.Ch,gl hi,g0,Int.toNat_natCast,K6,hp',Bool.or_true,iy,Bool.and_self,cond_true,Bool.not_false]) (by
   have c1:decide ((s.length:Int)<(s.length:Int))=false:=decide_eq_false (by omega)
   simp only[Wh.Ch,c1,cond_false])
 have h':Comes Wh.Ch ((0,s),()) _:=h
 have cin:=B_ (s.length:Int) 1 6
 simp only[Wh.ED,cb h',cv h',cond_true]
 unfold zN
 cases hp:jS s.length (fun i=>decide (97≤(s.getD i 0).toNat∧(s.getD i 0).toNat≤122)) with
 |false=>rfl
 |true=>
  have e:decide ((1:Int)≤(s.length:Int)∧(s.length:Int)≤6)=decide (1≤s.length∧s.length≤6):=by congr 1;simp only[eq_iff_iff];omega
  simp only[if_true]
  dsimp only[sumC]
  simp only[cin,Wh.zc _ _ cin,nQ,iy,cond_true,e,Bool.true_and]
theorem Sg (s:List UInt8) (hs:s.length≤9999999):Wh.Db s=some (zN s,()):=by
 have h:=zV (r:=Wh.Cf) (fun i=>(((i:Int),s,(s.length:Int)),())) (n:=s.length) (p:=fun i=>decide (97≤(s.getD i 0).toNat∧(s.getD i 0).toNat≤122)) (yf:=.inl (false,())) (yt:=.inr (s,())) (fun i hi _ hp=>by
   have hp':decide (97≤(s.getD i 0).toNat∧(s.getD i 0).toNat≤122)=true:=hp
   simp only[Wh.Cf,gl hi,g0,Int.toNat_natCast,K6,hp',Bool.or_true,iy,Bool.and_self,cond_true,Bool.not_true,cond_false,mb (show i≤4611686018427387904 by omega)]) (fun i hi _ hp=>by
   have hp':decide (97≤(s.getD i 0).toNat∧(s.getD i 0).toNat≤122)=false:=hp
   simp only[Wh.Cf,gl hi,g0,Int.toNat_natCast,K6,hp',Bool.or_true,iy,Bool.and_self,cond_true,Bool.not_false]) (by
   have c1:decide ((s.length:Int)<(s.length:Int))=false:=decide_eq_false (by omega)
   simp only[Wh.Cf,c1,cond_false])
 have h':Comes Wh.Cf ((0,s,(s.length:Int)),()) _:=h
 have cin:=Fl (s.length:Int) 1 6
 simp only[Wh.Db,cb h',cv h',cond_true]
 unfold zN
 cases hp:jS s.length (fun i=>decide (97≤(s.getD i 0).toNat∧(s.getD i 0).toNat≤122)) with
 |false=>rfl
 |true=>
  have e:decide ((1:Int)≤(s.length:Int)∧(s.length:Int)≤6)=decide (1≤s.length∧s.length≤6):=by congr 1;simp only[eq_iff_iff];omega
  simp only[if_true]
  dsimp only[sumC]
  simp only[cin,Wh.zo _ _ cin,nQ,iy,cond_true,e,Bool.true_and]
theorem TA (s:List UInt8) (h:zN s=true) (c:UInt8) (hc:c.toNat<97):∀x∈s,x≠c:=by
 unfold zN at h
 rw[Bool.and_eq_true,oL] at h
 intro x hx e
 subst e
 obtain⟨i,hi,rfl⟩:=List.getElem_of_mem hx
 have:=of_decide_eq_true (h.1 i hi)
 rw[getD_eq _ _ _ hi] at this
 omega
theorem Er (s:List UInt8) (h:zN s=true):1≤s.length∧s.length≤6:=by
 unfold zN at h
 rw[Bool.and_eq_true] at h
 exact of_decide_eq_true h.2
def zA (h:Int) (n t:List UInt8):Bool:=decide (0≤h∧h≤1)&&zN n&&decide (1≤t.length∧t.length≤300)
theorem KP (t:It) (h1:t.2.1.length≤9999999):Wh.BK t=some (zA t.1 t.2.1 t.2.2.2.1,()):=by
 have a:=B_ t.1 0 1
 have b:=abW t.2.1 h1
 have c:=B_ (t.2.2.2.1.length:Int) 1 300
 have e:decide ((1:Int)≤(t.2.2.2.1.length:Int)∧(t.2.2.2.1.length:Int)≤300)=decide (1≤t.2.2.2.1.length∧t.2.2.2.1.length≤300):=by congr 1;simp only[eq_iff_iff];omega
 rw[e] at c
 simp only[Wh.BK,a,Wh.zc _ _ a,b,Wh.T6 _ _ b,c,Wh.zc _ _ c,nQ,iy,Bool.or_true,Bool.and_self,cond_true,zA]
 cases decide (0≤t.1∧t.1≤1)<;>cases zN t.2.1<;>rfl
theorem pub_eq (h:Int) (n t:List UInt8) (h1:n.length≤9999999):Wh.q15 (h,n,t)=some (zA h n t,()):=by
 have a:=Fl h 0 1
 have a':Wh.AE h=some (decide (0≤h∧h≤1),()):=by simp only[Wh.AE,a,Wh.zo _ _ a,nQ,iy,cond_true]
 have b:=Sg n h1
 have c:=Fl (t.length:Int) 1 300
 have e:decide ((1:Int)≤(t.length:Int)∧(t.length:Int)≤300)=decide (1≤t.length∧t.length≤300):=by congr 1;simp only[eq_iff_iff];omega
 rw[e] at c
 simp only[Wh.q15,a',Wh.Lp _ _ a',b,Wh.OK _ _ b,c,Wh.zo _ _ c,nQ,iy,Bool.or_true,Bool.and_self,cond_true,zA]
 cases decide (0≤h∧h≤1)<;>cases zN n<;>rfl
def mw (l:List It) (h:Int):Nat:=(l.map fun t=>if t.1=h then t.2.2.2.1.length else 0).sum
theorem Rx (l:List It) (h:Int) (i:Nat) (hi:i<l.length):mw (l.take (i+1)) h=mw (l.take i) h+if(l.getD i z0).1=h then(l.getD i z0).2.2.2.1.length else 0:=by
 rw[getD_eq _ _ _ hi,List.take_succ_eq_append_getElem hi,mw,List.map_append,List.sum_append]
 simp only[List.map_cons,List.map_nil,List.sum_cons,List.sum_nil,Nat.add_zero]
 rfl
theorem Fy (a b:List It) (h:Int):mw (a++b) h=mw a h+mw b h:=by simp[mw]
theorem QW (l:List It) (h:Int) (hl:mw l h≤9999999) (hn:l.length≤9999999):Wh.Da (l,h)=some ((mw l h:Int),()):=by
 have mono:∀i,i≤l.length→mw (l.take i) h≤mw l h:=by
  intro i hi
  have:mw l h=mw (l.take i) h+mw (l.drop i) h:=by rw[←Fy,List.take_append_drop]
  omega
 have c:=xR (r:=Wh.Ce) (fun i=>(((i:Int),l,(mw (l.take i) h:Int),h),())) (n:=l.length) (y:=((mw l h:Int),())) (fun i hi=>by
  have hb:=Rx l h i hi
  have hm:=mono (i+1) hi
  have h0:=mono i (by omega)
  by_cases hh:(l.getD i z0).1=h
  ·rw[if_pos hh] at hb
   have c1:((l.getD i z0).1==h)=true:=beq_iff_eq.2 hh
   have w:IntKind.wrap .i64 ((mw (l.take i) h:Int)+((l.getD i z0).2.2.2.1.length:Int))=(mw (l.take (i+1)) h:Int):=wi (by omega) (by omega)
   unfold z0 at c1 w
   simp only[Wh.Ce,gl hi,g0,Int.toNat_natCast,c1,w,iy,Bool.and_self,cond_true,mb (show i≤4611686018427387904 by omega)]
  ·rw[if_neg hh] at hb
   have c1:((l.getD i z0).1==h)=false:=beq_eq_false_iff_ne.2 hh
   unfold z0 at c1
   simp only[Wh.Ce,gl hi,g0,Int.toNat_natCast,c1,iy,Bool.and_self,cond_true,cond_false,hb,Nat.add_zero,mb (show i≤4611686018427387904 by omega)]) (by
  have c1:decide ((l.length:Int)<(l.length:Int))=false:=decide_eq_false (by omega)
  simp only[Wh.Ce,c1,cond_false,List.take_length]) 0 (Nat.zero_le _)
 have c':Comes Wh.Ce ((0,l,0,h),()) ((mw l h:Int),()):=c
 simp only[Wh.Da,cb c',cv c',cond_true]
theorem W6 (c:Ct) (h:Int) (hl:mw c.2.1 h≤9999999) (hn:c.2.1.length≤9999999):Wh.q31 (c,h)=some ((mw c.2.1 h:Int),()):=by
 obtain⟨ce,l,_⟩:=c
 have mono:∀i,i≤l.length→mw (l.take i) h≤mw l h:=by
  intro i hi
  have:mw l h=mw (l.take i) h+mw (l.drop i) h:=by rw[←Fy,List.take_append_drop]
  omega
 have c:=xR (r:=Wh.Cz) (fun i=>(((i:Int),(mw (l.take i) h:Int),h,l,(l.length:Int)),())) (n:=l.length) (y:=((mw l h:Int),())) (fun i hi=>by
  have hb:=Rx l h i hi
  have hm:=mono (i+1) hi
  have h0:=mono i (by omega)
  by_cases hh:(l.getD i z0).1=h
  ·rw[if_pos hh] at hb
   have c1:((l.getD i z0).1==h)=true:=beq_iff_eq.2 hh
   have w:IntKind.wrap .i64 ((mw (l.take i) h:Int)+((l.getD i z0).2.2.2.1.length:Int))=(mw (l.take (i+1)) h:Int):=wi (by simp only at hl;omega) (by simp only at hl;omega)
   unfold z0 at c1 w
   simp only[Wh.Cz,gl hi,g0,Int.toNat_natCast,c1,w,iy,Bool.and_self,cond_true,mb (show i≤4611686018427387904 by simp only at hn;omega)]
  ·rw[if_neg hh] at hb
   have c1:((l.getD i z0).1==h)=false:=beq_eq_false_iff_ne.2 hh
   unfold z0 at c1
   simp only[Wh.Cz,gl hi,g0,Int.toNat_natCast,c1,iy,Bool.and_self,cond_true,cond_false,hb,Nat.add_zero,mb (show i≤4611686018427387904 by simp only at hn;omega)]) (by
  have c1:decide ((l.length:Int)<(l.length:Int))=false:=decide_eq_false (by omega)
  simp only[Wh.Cz,c1,cond_false,List.take_length]) 0 (Nat.zero_le _)
 have c':Comes Wh.Cz ((0,0,h,l,(l.length:Int)),()) ((mw l h:Int),()):=c
 simp only[Wh.q31,cb c',cv c',cond_true]
def zE (l:List It) (h:Int) (n:List UInt8):Option Nat:=first l.length fun i=>(l.getD i z0).1==h&&(l.getD i z0).2.1==n
def AO:Option Nat→Int
 |some i=>(i:Int)
 |none=> -1
theorem Vy (c:Ct) (h:Int) (n:List UInt8) (hn:c.2.1.length≤9999999):Wh.Bd (c,h,n)=some (AO (zE c.2.1 h n),()):=by
 obtain⟨ce,l,u⟩:=c
 have hl:l.length≤9999999:=hn
 have q:=Fz (r:=Wh.Cr) (fun i=>(((i:Int),n,(),h),(ce,l,u))) (n:=l.length) (p:=fun i=>(l.getD i z0).1==h&&(l.getD i z0).2.1==n) (yt:=fun i=>.inl ((i:Int),())) (yn:=.inr ((),())) (fun i hi hp=>by
   have hp':(bif(l.getD i z0).1==h then(l.getD i z0).2.1==n else false)=false:=by
    cases e:((l.getD i z0).1==h) with
    |false=>rfl
    |true=>simp only[e,Bool.true_and] at hp;exact hp
   unfold z0 at hp'
   simp only[Wh.Cr,gl hi,g0,Int.toNat_natCast,hp',Bool.or_true,iy,Bool.and_self,cond_true,cond_false,mb (show i≤4611686018427387904 by omega)]) (fun i hi hp=>by
   have hp':(bif(l.getD i z0).1==h then(l.getD i z0).2.1==n else false)=true:=by
    cases e:((l.getD i z0).1==h) with
    |false=>simp only[e,Bool.false_and] at hp;cases hp
    |true=>simp only[e,Bool.true_and] at hp;exact hp
   unfold z0 at hp'
   simp only[Wh.Cr,gl hi,g0,Int.toNat_natCast,hp',Bool.or_true,iy,Bool.and_self,cond_true]) (by
   have c1:decide ((l.length:Int)<(l.length:Int))=false:=decide_eq_false (by omega)
   simp only[Wh.Cr,c1,cond_false])
 have q':Comes Wh.Cr ((0,n,(),h),(ce,l,u)) _:=q
 simp only[Wh.Bd,cb q',cv q',cond_true,zE]
 cases first l.length (fun i=>(l.getD i z0).1==h&&(l.getD i z0).2.1==n)<;>rfl
theorem Sa (c:Ct) (h:Int) (n:List UInt8) (hn:c.2.1.length≤9999999):Wh.Be (c,h,n)=some (AO (zE c.2.1 h n),()):=by
 obtain⟨ce,l,u⟩:=c
 have hl:l.length≤9999999:=hn
 have f (x:It):Wh.q19 (x,h,n)=some ((bif x.1==h then x.2.1==n else false),()):=rfl
 have q:=Fz (r:=Wh.CC) (fun i=>(((i:Int),l,(h,n,()),(l.length:Int)),())) (n:=l.length) (p:=fun i=>(l.getD i z0).1==h&&(l.getD i z0).2.1==n) (yt:=fun i=>.inl ((i:Int),())) (yn:=.inr ((),())) (fun i hi hp=>by
   have hp':(bif(l.getD i z0).1==h then(l.getD i z0).2.1==n else false)=false:=by
    cases e:((l.getD i z0).1==h) with
    |false=>rfl
    |true=>simp only[e,Bool.true_and] at hp;exact hp
   unfold z0 at hp'
   simp only[Wh.CC,gl hi,g0,Int.toNat_natCast,f,Wh.PR _ _ (f _),hp',nQ,iy,Bool.and_self,cond_true,cond_false,mb (show i≤4611686018427387904 by omega)]) (fun i hi hp=>by
   have hp':(bif(l.getD i z0).1==h then(l.getD i z0).2.1==n else false)=true:=by
    cases e:((l.getD i z0).1==h) with
    |false=>simp only[e,Bool.false_and] at hp;cases hp
    |true=>simp only[e,Bool.true_and] at hp;exact hp
   unfold z0 at hp'
   simp only[Wh.CC,gl hi,g0,Int.toNat_natCast,f,Wh.PR _ _ (f _),hp',nQ,iy,Bool.and_self,cond_true]) (by
   have c1:decide ((l.length:Int)<(l.length:Int))=false:=decide_eq_false (by omega)
   simp only[Wh.CC,c1,cond_false])
 have q':Comes Wh.CC ((0,l,(h,n,()),(l.length:Int)),()) _:=q
 have e:Wh.q3 (l,h,n,())=some (AO (zE l h n),()):=by
  simp only[Wh.q3,cb q',cv q',cond_true,zE]
  cases first l.length (fun i=>(l.getD i z0).1==h&&(l.getD i z0).2.1==n)<;>rfl
 simp only[Wh.Be,e,Wh.q3_v _ _ e,nQ,iy,cond_true]
end Pl
open Go Go.Ab Go.Lib
namespace Pl
def lt2 (a b:It):Prop:=yw a b.1 b.2.1=true
def xN (l:List It) (h:Int) (n:List UInt8):Nat:=match first l.length (fun i=> !yw (l.getD i z0) h n) with | some i=>i|none=>l.length
theorem FV (l:List It) (h:Int) (n:List UInt8):xN l h n≤l.length:=by
 unfold xN;split
 ·rename_i hf;have:=(AP.1 hf).1;omega
 ·exact Nat.le_refl _
theorem TM (l:List It) (h:Int) (n:List UInt8):∀j,j<xN l h n→yw (l.getD j z0) h n=true:=by
 unfold xN;split
 ·rename_i hf
  intro j hj
  have:=(AP.1 hf).2.2 j hj
  simpa using this
 ·rename_i hf
  intro j hj
  have:=GW.1 hf j hj
  simpa using this
theorem pos_ge (l:List It) (h:Int) (n:List UInt8) (hk:xN l h n<l.length):yw (l.getD (xN l h n) z0) h n=false:=by
 revert hk
 unfold xN;split
 ·rename_i hf
  intro _
  have:=(AP.1 hf).2.1
  simpa using this
 ·intro hk;omega
theorem K7 {R:It→It→Prop} {l:List It} (h:l.Pairwise R) {i j:Nat} (hij:i<j) (hj:j<l.length):R (l.getD i z0) (l.getD j z0):=by
 rw[getD_eq _ _ _ (by omega),getD_eq _ _ _ hj]
 exact List.pairwise_iff_getElem.1 h i j (by omega) hj hij
theorem TL (l:List It) (t:It) (hs:l.Pairwise lt2) (hk:zE l t.1 t.2.1=none):∀j,xN l t.1 t.2.1≤j→j<l.length→yw t (l.getD j z0).1 (l.getD j z0).2.1=true:=by
 intro j hj hl
 have h0:=pos_ge l t.1 t.2.1 (by omega)
 have hne (i:Nat) (hi:i<l.length):¬((l.getD i z0).1=t.1∧(l.getD i z0).2.1=t.2.1):=by
  have:=GW.1 hk i hi
  rintro⟨h1,h2⟩
  rw[h1,h2] at this
  simp at this
 have h1:=XA (hne _ (by omega)) h0
 rcases Nat.lt_or_ge (xN l t.1 t.2.1) j with h2|h2
 ·exact XB h1 (K7 hs h2 hl)
 ·have:j=xN l t.1 t.2.1:=by omega
  rw[this];exact h1
def yI (l:List It) (t:It):List It:=l.take (xN l t.1 t.2.1)++t::l.drop (xN l t.1 t.2.1)
theorem ab9 (A B:List It) (x t:It) (n:Nat) (hn:A.length=n):((A++x::t::B).set (n+1) x).set n t=A++t::x::B:=by
 subst hn
 rw[List.set_append_right _ _ (by omega),show A.length+1-A.length=1 by omega,List.set_cons_succ,List.set_cons_zero,List.set_append_right _ _ (Nat.le_refl _),Nat.sub_self,List.set_cons_zero]
theorem get_at (A B:List It) (x:It) (n:Nat) (hn:A.length=n):(A++x::B).getD n z0=x:=by
 subst hn;simp[List.getD]
theorem R6 (A B:List It) (x t:It) (n:Nat) (hn:A.length=n):(A++x::t::B).getD (n+1) z0=t:=by
 subst hn
 have:=get_at (A ++ [x]) B t (A.length+1) (by simp)
 rw[List.append_assoc] at this
 exact this
theorem Sm (l:List It) (t:It) (k:Nat) (b i:Int) (hgt:∀j,k≤j→j<l.length→yw t (l.getD j z0).1 (l.getD j z0).2.1=true) (hst:k=0∨yw t (l.getD (k-1) z0).1 (l.getD (k-1) z0).2.1=false) (hl:l.length≤99999999) :
  ∀d,k+d≤l.length→Comes Wh.Bz ((((k+d:Nat):Int),(),(),0,b,i),l.take (k+d)++t::l.drop (k+d)) (((),(),0,b,i),l.take k++t::l.drop k)
 |0,hd=>by
  refine .out ?_
  rcases Nat.eq_zero_or_pos k with rfl|hk
  ·have c1:decide (((0+0:Nat):Int)>0)=false:=rfl
   simp only[Wh.Bz,c1,Bool.not_false,Bool.true_or,iy,Bool.and_self,cond_true,cond_false,Nat.add_zero]
  ·obtain⟨m,rfl⟩:∃m,k=m+1:=⟨k-1,by omega⟩
   have hs:yw t (l.getD m z0).1 (l.getD m z0).2.1=false:=by rcases hst with h|h;omega;exact h
   have hlen:(l.take m).length=m:=by rw[List.length_take];omega
   have e:l.take (m+1)++t::l.drop (m+1)=l.take m++l.getD m z0::t::l.drop (m+1):=by
    rw[List.take_succ_eq_append_getElem (by omega),List.append_assoc,getD_eq _ _ _ (by omega)];rfl
   have e1:(l.take m++l.getD m z0::t::l.drop (m+1)).getD (m+1) z0=t:=R6 _ _ _ _ _ hlen
   have e2:(l.take m++l.getD m z0::t::l.drop (m+1)).getD m z0=l.getD m z0:=get_at _ _ _ _ hlen
   obtain⟨v,hv1,A5⟩:=Oy t (l.getD m z0)
   rw[hs] at A5
   have w1:IntKind.wrap .i64 (((m+1:Nat):Int)-1)=(m:Int):=wi (by omega) (by omega)
   have c1:decide (((m+1:Nat):Int)>0)=true:=decide_eq_true (by omega)
   have ll:(l.take m++l.getD m z0::t::l.drop (m+1)).length=l.length+1:=by
    simp only[List.length_append,List.length_cons,List.length_drop,hlen];omega
   rw[Nat.add_zero,e]
   unfold z0 at e1 e2 hv1 ll ⊢
   simp only[Wh.Bz,c1,w1,Int.toNat_natCast,e1,e2,hv1,Wh.LC _ _ hv1,A5,ll,g0,gl (show m<l.length+1 by omega),gl (show m+1<l.length+1 by omega),nQ,Bool.or_true,iy,Bool.and_self,cond_true,cond_false]
 |d+1,hd=>by
  have ih:=Sm l t k b i hgt hst hl d (by omega)
  refine .again ?_ ih
  have hs:=hgt (k+d) (by omega) (by omega)
  generalize hm:k+d=m at *
  have hm':k+(d+1)=m+1:=by omega
  rw[hm']
  have hlen:(l.take m).length=m:=by rw[List.length_take];omega
  have e:l.take (m+1)++t::l.drop (m+1)=l.take m++l.getD m z0::t::l.drop (m+1):=by
   rw[List.take_succ_eq_append_getElem (by omega),List.append_assoc,getD_eq _ _ _ (by omega)];rfl
  have e1:(l.take m++l.getD m z0::t::l.drop (m+1)).getD (m+1) z0=t:=R6 _ _ _ _ _ hlen
  have e2:(l.take m++l.getD m z0::t::l.drop (m+1)).getD m z0=l.getD m z0:=get_at _ _ _ _ hlen
  have e3:((l.take m++l.getD m z0::t::l.drop (m+1)).set (m+1) (l.getD m z0)).set m t=l.take m++t::l.drop m:=by
   rw[ab9 _ _ _ _ _ hlen,getD_eq _ _ _ (show m<l.length by omega),List.drop_eq_getElem_cons (show m<l.length by omega)]
  obtain⟨v,hv1,A5⟩:=Oy t (l.getD m z0)
  rw[hs] at A5
  have w1:IntKind.wrap .i64 (((m+1:Nat):Int)-1)=(m:Int):=wi (by omega) (by omega)
  have c1:decide (((m+1:Nat):Int)>0)=true:=decide_eq_true (by omega)
  have ll:(l.take m++l.getD m z0::t::l.drop (m+1)).length=l.length+1:=by
   simp only[List.length_append,List.length_cons,List.length_drop,hlen];omega
  rw[e]
  unfold z0 at e1 e2 e3 hv1 ll ⊢
  simp only[Wh.Bz,c1,w1,Int.toNat_natCast,e1,e2,e3,hv1,Wh.LC _ _ hv1,A5,ll,List.length_set,g0,gl (show m<l.length+1 by omega),gl (show m+1<l.length+1 by omega),nQ,Bool.or_true,iy,Bool.and_self,cond_true]
theorem abS (l:List It) (t:It) (hs:l.Pairwise lt2) (hk:zE l t.1 t.2.1=none) (hl:l.length≤8) :
  Wh.q4 (l ++ [t],())=some ((),yI l t,()):=by
 have hlen:(l ++ [t]).length=l.length+1:=by simp
 have hout:Comes Wh.A_ (((),1,(),0,((l.length+1:Nat):Int)),l ++ [t]) ((),yI l t):=by
  rcases Nat.eq_zero_or_pos l.length with h0|hpos
  ·have:l = []:=List.length_eq_zero_iff.1 h0
   subst this
   exact .out rfl
  ·have hend:Comes Wh.A_ (((),((l.length+1:Nat):Int),(),0,((l.length+1:Nat):Int)),yI l t) ((),yI l t):=by
    have c1:decide (((l.length+1:Nat):Int)<((l.length+1:Nat):Int))=false:=decide_eq_false (by omega)
    exact .out (by simp only[Wh.A_,c1,cond_false])
   have hlast:Comes Wh.A_ (((),(l.length:Int),(),0,((l.length+1:Nat):Int)),l ++ [t]) ((),yI l t):=by
    have q:=Sm l t (xN l t.1 t.2.1) ((l.length+1:Nat):Int) (l.length:Int) (TL l t hs hk) (by
     rcases Nat.eq_zero_or_pos (xN l t.1 t.2.1) with h1|h1
     ·exact .inl h1
     ·right
      have h2:=TM l t.1 t.2.1 (xN l t.1 t.2.1-1) (by omega)
      exact Sy h2) (by omega) (l.length-xN l t.1 t.2.1) (by have:=FV l t.1 t.2.1;omega)
    have hp:=FV l t.1 t.2.1
    rw[show xN l t.1 t.2.1+(l.length-xN l t.1 t.2.1)=l.length by omega,List.take_length,List.drop_length] at q
    have c1:decide ((l.length:Int)<((l.length+1:Nat):Int))=true:=decide_eq_true (by omega)
    refine .again ?_ hend
    simp only[Wh.A_,c1,cond_true,cb q,cv q,mb (show l.length≤4611686018427387904 by omega)]
    rfl
   have hmid:∀d i,1≤i→i+d=l.length→Comes Wh.A_ (((),(i:Int),(),0,((l.length+1:Nat):Int)),l ++ [t]) ((),yI l t):=by
    intro d
    induction d with
    |zero=>intro i h1 h2;have:i=l.length:=by omega
           subst this;exact hlast
    |succ d ih=>
     intro i h1 h2
     refine .again ?_ (ih (i+1) (by omega) (by omega))
     obtain⟨m,rfl⟩:∃m,i=m+1:=⟨i-1,by omega⟩
     have hlt:=K7 hs (i:=m) (j:=m+1) (by omega) (by omega)
     obtain⟨v,hv1,A5⟩:=Oy (l.getD (m+1) z0) (l.getD m z0)
     rw[Sy hlt] at A5
     have w1:IntKind.wrap .i64 (((m+1:Nat):Int)-1)=(m:Int):=wi (by omega) (by omega)
     have c0:decide (((m+1:Nat):Int)>0)=true:=decide_eq_true (by omega)
     have e1:(l ++ [t]).getD (m+1) z0=l.getD (m+1) z0:=by simp[List.getD,List.getElem?_append_left (show m+1<l.length by omega)]
     have e2:(l ++ [t]).getD m z0=l.getD m z0:=by simp[List.getD,List.getElem?_append_left (show m<l.length by omega)]
     have q:Comes Wh.Bz ((((m+1:Nat):Int),(),(),0,((l.length+1:Nat):Int),((m+1:Nat):Int)),l ++ [t]) (((),(),0,((l.length+1:Nat):Int),((m+1:Nat):Int)),l ++ [t]):=by
      refine .out ?_
      unfold z0 at e1 e2 hv1
      simp only[Wh.Bz,c0,w1,Int.toNat_natCast,e1,e2,hv1,Wh.LC _ _ hv1,A5,hlen,g0,gl (show m<l.length+1 by omega),gl (show m+1<l.length+1 by omega),nQ,Bool.or_true,iy,Bool.and_self,cond_true,cond_false]
     have c1:decide (((m+1:Nat):Int)<((l.length+1:Nat):Int))=true:=decide_eq_true (by omega)
     simp only[Wh.A_,c1,cond_true,cb q,cv q,mb (show m+1≤4611686018427387904 by omega)]
   exact hmid (l.length-1) 1 (Nat.le_refl _) (by omega)
 have hins:Wh.q0 (l ++ [t],0,((l.length+1:Nat):Int),())=some ((),yI l t,()):=by
  have w:IntKind.wrap .i64 ((0:Int)+1)=1:=by decide
  simp only[Wh.q0,w,cb hout,cv hout,cond_true]
 have w2:IntKind.wrap .i64 (((l.length+1:Nat):Int)-0)=((l.length+1:Nat):Int):=wi (by omega) (by omega)
 have c12:decide (((l.length+1:Nat):Int)≤12)=true:=decide_eq_true (by omega)
 have hp:∀lim,Wh.q1 (l ++ [t],0,((l.length+1:Nat):Int),lim,())=some ((),yI l t,()):=by
  intro lim
  have q:Comes Wh.F3 (((),((l.length+1:Nat):Int),0,(),true,true,lim),l ++ [t]) ((),yI l t):=by
   refine .out ?_
   simp only[Wh.F3,w2,c12,hins,Wh.q0_v _ _ hins,nQ,iy,cond_true]
  simp only[Wh.q1,cb q,cv q,cond_true]
 have w3:IntKind.wrap .u64 ((l.length+1:Nat):Int)=((l.length+1:Nat):Int):=by simp[IntKind.wrap,IntKind.signed,IntKind.bits];omega
 have hb:Wh.bits_Len ((l.length+1:Nat):Int)=some ((bitLen (l.length+1):Int),()):=by
  have d1:decide (((l.length+1:Nat):Int)≤18446744073709551615)=true:=decide_eq_true (by omega)
  simp only[Wh.bits_Len,g0,d1,Bool.and_self,cond_true,Int.toNat_natCast]
 simp only[Wh.q4,hlen,w3,hb,hp,Wh.q1_v _ _ (hp _),nQ,iy,Bool.and_self,cond_true]
structure yG (c:Ct):Prop where
 ed:0≤c.1∧c.1≤99999
 len:c.2.1.length≤8
 ok:∀t∈c.2.1,zA t.1 t.2.1 t.2.2.2.1=true
 eds:∀t∈c.2.1,1≤t.2.2.1∧t.2.2.1≤c.1
 srt:c.2.1.Pairwise lt2
 dis:c.2.1.Pairwise (fun a b=>a.2.2.1≠b.2.2.1)
 byt:∀h:Int,mw c.2.1 h≤500
def zb (c:Ct) (h:Int) (n t:List UInt8):Ct×Int:=
 bif !zA h n t then(c,1) else match zE c.2.1 h n with
  |some _=>(c,2)
  |none=>if 8≤c.2.1.length∨99999≤c.1∨500<mw c.2.1 h+t.length then(c,4) else((c.1+1,yI c.2.1 (h,n,c.1+1,t,()),()),0)
def BV (c:Ct) (h:Int) (n:List UInt8):Ct×Int:=
 match zE c.2.1 h n with
 |none=>(c,3)
 |some i=>((c.1,c.2.1.take i++c.2.1.drop (i+1),()),0)
end Pl
open Go Go.Ab Go.Lib
namespace Pl
theorem Hj {h:Int} {n t:List UInt8} (hp:zA h n t=true):(0≤h∧h≤1)∧zN n=true∧1≤t.length∧t.length≤300:=by
 unfold zA at hp
 rw[Bool.and_eq_true,Bool.and_eq_true] at hp
 exact⟨of_decide_eq_true hp.1.1,hp.1.2,of_decide_eq_true hp.2⟩
theorem Rz (c:Ct) (I:yG c):Wh.Dj c=some (true,()):=by
 obtain⟨ce,l,u⟩:=c
 have hed:0≤ce∧ce≤99999:=I.ed
 have hlen:l.length≤8:=I.len
 have hok:∀t∈l,zA t.1 t.2.1 t.2.2.2.1=true:=I.ok
 have heds:∀t∈l,1≤t.2.2.1∧t.2.2.1≤ce:=I.eds
 have hsrt:l.Pairwise lt2:=I.srt
 have fG:l.Pairwise (fun a b=>a.2.2.1≠b.2.2.1):=I.dis
 have KL:∀h:Int,mw l h≤500:=I.byt
 have hmem (i:Nat) (hi:i<l.length):l.getD i z0∈l:=by rw[getD_eq _ _ _ hi];exact List.getElem_mem hi
 have c0:=B_ ce 0 99999
 rw[decide_eq_true hed] at c0
 have c1:decide ((l.length:Int)>8)=false:=decide_eq_false (by omega)
 have q0:=xR (r:=Wh.Cn) (fun i=>(((),(i:Int)),(ce,l,u))) (n:=l.length) (y:=.inr ((),(ce,l,u))) (fun i hi=>by
  have hmm:=hmem i hi
  have hp:=hok _ hmm
  have hn:=Er _ (Hj hp).2.1
  have a1:=KP (l.getD i z0) (by omega)
  rw[hp] at a1
  have a2:=B_ (l.getD i z0).2.2.1 1 ce
  rw[decide_eq_true (heds _ hmm)] at a2
  have qi:=xR (r:=Wh.Dk) (fun k=>(((k:Int),(),(),(i:Int)),l.getD i z0,(ce,l,u))) (n:=i) (y:=.inr (((),(i:Int)),(ce,l,u))) (fun k hk=>by
   have hd:=K7 fG hk hi
   have d1:((l.getD k ((0:Int),[],(0:Int),[],())).2.2.1==(l.getD i z0).2.2.1)=false:=beq_eq_false_iff_ne.2 hd
   have d2:decide ((k:Int)<(l.length:Int))=true:=gl (by omega)
   simp only[Wh.Dk,gl hk,g0,Int.toNat_natCast,d1,d2,iy,Bool.and_self,cond_true,cond_false,mb (show k≤4611686018427387904 by omega)]) (by
   have d1:decide ((i:Int)<(i:Int))=false:=decide_eq_false (by omega)
   simp only[Wh.Dk,d1,cond_false]) 0 (Nat.zero_le _)
  have Bg:Comes Wh.Dk ((0,(),(),(i:Int)),l.getD i z0,(ce,l,u)) _:=qi
  unfold z0 at a1 a2 Bg
  have wi1:=mb (show i≤4611686018427387904 by omega)
  rcases Nat.eq_zero_or_pos i with h0|h0
  ·subst h0
   have d3:decide (((0:Nat):Int)>0)=false:=rfl
   simp only[Wh.Cn,gl hi,g0,Int.toNat_natCast,a1,Wh.Dt _ _ a1,a2,Wh.zc _ _ a2,d3,nQ,Bool.not_true,Bool.not_false,Bool.false_and,Bool.true_or,Bool.or_true,iy,Bool.and_self,cond_true,cond_false,cb Bg,cv Bg,sumC,wi1]
  ·obtain⟨m,rfl⟩:∃m,i=m+1:=⟨i-1,by omega⟩
   have hl:=K7 hsrt (i:=m) (j:=m+1) (by omega) hi
   have a3:=NW (l.getD m z0) (l.getD (m+1) z0).1 (l.getD (m+1) z0).2.1
   rw[show yw _ _ _=true from hl] at a3
   unfold z0 at a3
   have w1:IntKind.wrap .i64 (((m+1:Nat):Int)-1)=(m:Int):=wi (by omega) (by omega)
   have d3:decide (((m+1:Nat):Int)>0)=true:=decide_eq_true (by omega)
   simp only[Wh.Cn,gl hi,gl (show m<l.length by omega),w1,g0,Int.toNat_natCast,a1,Wh.Dt _ _ a1,a2,Wh.zc _ _ a2,a3,Wh.Lm _ _ a3,d3,nQ,Bool.not_true,Bool.not_false,Bool.or_true,iy,Bool.and_self,cond_true,cond_false,cb Bg,cv Bg,sumC,wi1]) (by
  have d1:decide ((l.length:Int)<(l.length:Int))=false:=decide_eq_false (by omega)
  simp only[Wh.Cn,d1,cond_false]) 0 (Nat.zero_le _)
 have q0':Comes Wh.Cn (((),0),(ce,l,u)) _:=q0
 have b0:=QW l 0 (by have:=KL 0;omega) (by omega)
 have b1:=QW l 1 (by have:=KL 1;omega) (by omega)
 have e0:decide ((mw l 0:Int)>500)=false:=decide_eq_false (by have:=KL 0;omega)
 have e1:decide ((mw l 1:Int)>500)=false:=decide_eq_false (by have:=KL 1;omega)
 have q2:Comes Wh.EO ((0,()),(ce,l,u)) (.inr ((),())):=by
  refine .again (x':=((1,()),(ce,l,u))) ?_ (.again (x':=((2,()),(ce,l,u))) ?_ (.out rfl))
  ·simp only[Wh.EO,b0,Wh.Le _ _ b0,e0,nQ,iy,cond_true,cond_false];rfl
  ·simp only[Wh.EO,b1,Wh.Le _ _ b1,e1,nQ,iy,cond_true,cond_false];rfl
 simp only[Wh.Dj,c0,Wh.zc _ _ c0,c1,nQ,iy,Bool.not_true,cond_true,cond_false,cb q0',cv q0',sumC,cb q2,cv q2]
theorem copy_eq (c:Ct) (h:c.2.1.length≤99999):Wh.Bb c=some (c,()):=by
 have d:decide (0+c.2.1.length≤dh)=true:=decide_eq_true (by unfold dh;omega)
 simp only[Wh.Bb,d,iy,cond_true,List.nil_append]
theorem Ky (c:Ct) (h:c.2.1.length≤99999):Wh.BN c=some (c,()):=by
 have d:decide (0+c.2.1.length≤dh)=true:=decide_eq_true (by unfold dh;omega)
 simp only[Wh.BN,d,iy,cond_true,List.nil_append]
theorem NA {l:List It} {h:Int} {n:List UInt8} {i:Nat} (e:zE l h n=some i):i<l.length:=(AP.1 e).1
theorem NB:decide (AO none<0)=true:=rfl
theorem ab3 (c:Ct) (I:yG c) (h:Int) (n:List UInt8):Wh.q90 (c,h,n)=some (BV c h n,()):=by
 have hl:=I.len
 have a:=Rz c I
 have b:=Vy c h n (by omega)
 unfold BV
 cases e:zE c.2.1 h n with
 |none=>
  rw[e] at b
  have d:=copy_eq c (by omega)
  simp only[Wh.q90,a,Wh.F0 _ _ a,b,Wh.Hv _ _ b,NB,d,Wh.FY _ _ d,nQ,iy,cond_true,cond_false,Bool.not_true]
 |some i=>
  rw[e] at b
  have hi:=NA e
  have w1:IntKind.wrap .i64 ((i:Int)+1)=((i+1:Nat):Int):=wi (by omega) (by omega)
  have t0:List.take (Int.toNat ((i:Int)-0)) (List.drop (Int.toNat 0) c.2.1)=c.2.1.take i:=by simp
  have t1:List.take (Int.toNat ((c.2.1.length:Int)-((i+1:Nat):Int))) (List.drop (i+1) c.2.1)=c.2.1.drop (i+1):=by
   rw[List.take_of_length_le];rw[List.length_drop];omega
  have d1:decide ((c.2.1.take i).length+(c.2.1.drop (i+1)).length≤dh)=true:=decide_eq_true (by rw[List.length_take,List.length_drop];unfold dh;omega)
  have d2:decide (((i+1:Nat):Int)≤(c.2.1.length:Int))=true:=decide_eq_true (by omega)
  have d3:decide ((c.2.1.length:Int)≤(c.2.1.length:Int))=true:=decide_eq_true (by omega)
  have d4:decide ((i:Int)≤(c.2.1.length:Int))=true:=decide_eq_true (by omega)
  have d5:decide (0+(c.2.1.take i).length≤dh)=true:=decide_eq_true (by rw[List.length_take];unfold dh;omega)
  have f:Wh.EI (c,(i:Int))=some ((c.1,c.2.1.take i++c.2.1.drop (i+1),()),()):=by
   simp only[Wh.EI,w1,t0,t1,Int.toNat_natCast,List.nil_append,d1,d2,d3,d4,d5,g0,iy,Bool.and_self,cond_true]
  have b':Wh.Bd (c,h,n)=some ((i:Int),()):=b
  have e1:decide ((i:Int)<0)=false:=decide_eq_false (by omega)
  simp only[Wh.q90,a,Wh.F0 _ _ a,b',Wh.Hv _ _ b',e1,f,Wh.Ue _ _ f,nQ,iy,cond_true,cond_false,Bool.not_true]
theorem V6 (l:List It) (i:Nat) (hi:i<l.length) (hl:l.length≤99999):Wh.E7 (l,(i:Int),((i+1:Nat):Int))=some (l.take i++l.drop (i+1),()):=by
 have le (x y:Nat) (h:x≤y):decide ((x:Int)≤(y:Int))=true:=decide_eq_true (by omega)
 have t1:List.take (Int.toNat ((l.length:Int)-((i+1:Nat):Int))) (List.drop (i+1) l)=l.drop (i+1):=by
  rw[List.take_of_length_le];rw[List.length_drop];omega
 have ne:((i:Int)==((i+1:Nat):Int))=false:=beq_eq_false_iff_ne.2 (by omega)
 have t0:Int.toNat ((i:Int)-0)=i:=by omega
 have ld:(l.drop (i+1)).length=l.length-(i+1):=by simp
 have d1:decide (Int.toNat 0+i+(l.length-(i+1))≤l.length)=true:=decide_eq_true (by simp;omega)
 have s9:i+(l.length-(i+1))=l.length-1:=by omega
 have lp:(List.take (Int.toNat 0+i) l++(l.drop (i+1)++List.drop (Int.toNat 0+i+(l.length-(i+1))) l)).length=l.length:=by
  simp only[Int.toNat_zero,Nat.zero_add,List.length_append,List.length_take,List.length_drop];omega
 have d2:decide (((Int.toNat 0:Nat):Int)+(l.length:Int)≤(l.length:Int))=true:=decide_eq_true (by simp)
 simp only[Wh.E7,t0,t1,ne,ld,d1,s9,lp,d2,g0,le i (i+1) (by omega),le (i+1) l.length (by omega),le l.length l.length (Nat.le_refl _),le i l.length (by omega),le (l.length-1) l.length (by omega),Int.toNat_natCast,iy,Bool.and_self,cond_true,cond_false]
 congr 2
 rw[List.take_append_of_le_length (by rw[List.length_take,lp];simp),List.take_take]
 have e1:min (l.length-1) (Int.toNat 0+(l.length-1))=l.length-1:=by simp
 rw[e1]
 have e2:(List.take (Int.toNat 0+i) l++l.drop (i+1)).length=l.length-1:=by
  simp only[Int.toNat_zero,Nat.zero_add,List.length_append,List.length_take,List.length_drop];omega
 rw[←List.append_assoc,List.take_append_of_le_length (by omega),List.take_of_length_le (by omega)]
 simp
theorem Xe (c:Ct) (h:Int) (n:List UInt8) (hl:c.2.1.length≤99999):Wh.q48 (c,h,n)=some (BV c h n,()):=by
 have a:=Ky c (by omega)
 have b:=Sa c h n (by omega)
 unfold BV
 cases e:zE c.2.1 h n with
 |none=>
  rw[e] at b
  simp only[Wh.q48,a,Wh.DE _ _ a,b,Wh.Hw _ _ b,NB,nQ,iy,cond_true]
 |some i=>
  rw[e] at b
  have hi:=NA e
  have b':Wh.Be (c,h,n)=some ((i:Int),()):=b
  have e1:decide ((i:Int)<0)=false:=decide_eq_false (by omega)
  have w1:IntKind.wrap .i64 ((i:Int)+1)=((i+1:Nat):Int):=wi (by omega) (by omega)
  have f:=V6 c.2.1 i hi (by omega)
  have d5:decide (0+(c.2.1.take i++c.2.1.drop (i+1)).length≤dh)=true:=decide_eq_true (by rw[List.length_append,List.length_take,List.length_drop];unfold dh;omega)
  simp only[Wh.q48,a,Wh.DE _ _ a,b',Wh.Hw _ _ b',e1,w1,f,Wh.q9_v _ _ f,d5,List.nil_append,nQ,iy,Bool.and_self,cond_true,cond_false]
theorem VE (c:Ct) (I:yG c) (h:Int) (n t:List UInt8) (hn:n.length≤9999999) (ht:t.length≤9999999):Wh.BD (c,h,n,t)=some (zb c h n t,()):=by
 have hl:=I.len
 have hb:=I.byt h
 have hed:=I.ed
 have a:=Rz c I
 have a2:=KP (h,n,0,t,()) hn
 have d:=copy_eq c (by omega)
 unfold zb
 simp only at a2
 cases hp:zA h n t with
 |false=>
  rw[hp] at a2
  simp only[Wh.BD,a,Wh.F0 _ _ a,a2,Wh.Dt _ _ a2,d,Wh.FY _ _ d,nQ,iy,cond_true,cond_false,Bool.not_true,Bool.not_false]
 |true=>
  rw[hp] at a2
  have b:=Vy c h n (by omega)
  cases e:zE c.2.1 h n with
  |some i=>
   rw[e] at b
   have b':Wh.Bd (c,h,n)=some ((i:Int),()):=b
   have e1:decide ((i:Int)≥0)=true:=decide_eq_true (by omega)
   simp only[Wh.BD,a,Wh.F0 _ _ a,a2,Wh.Dt _ _ a2,b',Wh.Hv _ _ b',e1,d,Wh.FY _ _ d,nQ,iy,cond_true,cond_false,Bool.not_true]
  |none=>
   rw[e] at b
   have b':Wh.Bd (c,h,n)=some (-1,()):=b
   have e1:decide ((-1:Int)≥0)=false:=rfl
   have f:=QW c.2.1 h (by omega) (by omega)
   have w1:IntKind.wrap .i64 ((mw c.2.1 h:Int)+(t.length:Int))=((mw c.2.1 h+t.length:Nat):Int):=wi (by omega) (by omega)
   have cc:(bif bif decide ((c.2.1.length:Int)≥8) then true else decide (c.1≥99999) then true else decide (((mw c.2.1 h+t.length:Nat):Int)>500))=decide (8≤c.2.1.length∨99999≤c.1∨500<mw c.2.1 h+t.length):=by
    by_cases h1:(c.2.1.length:Int)≥8
    ·rw[decide_eq_true h1,decide_eq_true (p:=8≤c.2.1.length∨99999≤c.1∨500<mw c.2.1 h+t.length) (by omega)];rfl
    ·rw[decide_eq_false h1]
     by_cases h2:c.1≥99999
     ·rw[decide_eq_true h2,decide_eq_true (p:=8≤c.2.1.length∨99999≤c.1∨500<mw c.2.1 h+t.length) (by omega)];rfl
     ·rw[decide_eq_false h2]
      simp only[cond_false]
      congr 1;simp only[eq_iff_iff];omega
   simp only[Wh.BD,a,Wh.F0 _ _ a,a2,Wh.Dt _ _ a2,b',Wh.Hv _ _ b',e1,f,Wh.Le _ _ f,w1,cc,d,Wh.FY _ _ d,nQ,Bool.or_true,iy,cond_true,cond_false,Bool.not_true]
   by_cases hc:8≤c.2.1.length∨99999≤c.1∨500<mw c.2.1 h+t.length
   ·rw[decide_eq_true hc,if_pos hc];rfl
   ·rw[decide_eq_false hc,if_neg hc]
    obtain⟨ce,l,u⟩:=c
    simp only at hed hl hc
    have hx:=Fz (r:=Wh.Cq) (fun i=>(((i:Int),(),(),()),(((0:Int),(),()),(ce,l,u),(h,n,(0:Int),t,()),[]))) (n:=l.length) (p:=fun i=> !yw (l.getD i z0) h n) (yt:=fun i=>(((),(i:Int),(),()),(((0:Int),(),()),(ce,l,u),(h,n,(0:Int),t,()),[]))) (yn:=(((),(l.length:Int),(),()),(((0:Int),(),()),(ce,l,u),(h,n,(0:Int),t,()),[]))) (fun i hi hp=>by
      have q:=NW (l.getD i z0) h n
      have hp':yw (l.getD i z0) h n=true:=by simpa using hp
      rw[hp'] at q
      unfold z0 at q
      simp only[Wh.Cq,gl hi,g0,Int.toNat_natCast,q,Wh.Lm _ _ q,nQ,Bool.or_true,iy,Bool.and_self,cond_true,mb (show i≤4611686018427387904 by omega)]) (fun i hi hp=>by
      have q:=NW (l.getD i z0) h n
      have hp':yw (l.getD i z0) h n=false:=by simpa using hp
      rw[hp'] at q
      unfold z0 at q
      simp only[Wh.Cq,gl hi,g0,Int.toNat_natCast,q,Wh.Lm _ _ q,nQ,Bool.or_true,iy,Bool.and_self,cond_true,cond_false]) (by
      have d1:decide ((l.length:Int)<(l.length:Int))=false:=decide_eq_false (by omega)
      simp only[Wh.Cq,d1,Bool.not_false,Bool.true_or,iy,Bool.and_self,cond_true,cond_false])
    have hx':Comes Wh.Cq ((0,(),(),()),(((0:Int),(),()),(ce,l,u),(h,n,(0:Int),t,()),[])) (((),(xN l h n:Int),(),()),(((0:Int),(),()),(ce,l,u),(h,n,(0:Int),t,()),[])):=by
     have:(match first l.length (fun i=> !yw (l.getD i z0) h n) with | some i=>(((),(i:Int),(),()),(((0:Int),(),()),(ce,l,u),(h,n,(0:Int),t,()),([]:List It)))|none=>(((),(l.length:Int),(),()),(((0:Int),(),()),(ce,l,u),(h,n,(0:Int),t,()),[])))=(((),(xN l h n:Int),(),()),(((0:Int),(),()),(ce,l,u),(h,n,(0:Int),t,()),[])):=by
      unfold xN;cases first l.length (fun i=> !yw (l.getD i z0) h n)<;>rfl
     rw[←this];exact hx
    have hpl:=FV l h n
    have w2:IntKind.wrap .i64 (ce+1)=ce+1:=wrap64 (by omega) (by omega)
    have t0:List.take (Int.toNat ((xN l h n:Int)-0)) (List.drop (Int.toNat 0) l)=l.take (xN l h n):=by simp
    have t1:List.take (Int.toNat ((l.length:Int)-(xN l h n:Int))) (List.drop (xN l h n) l)=l.drop (xN l h n):=by
     rw[List.take_of_length_le];rw[List.length_drop];omega
    have d1 (k:Nat) (hk:k≤100):decide (k≤dh)=true:=decide_eq_true (by unfold dh;omega)
    have d2:decide ((xN l h n:Int)≤(l.length:Int))=true:=decide_eq_true (by omega)
    have d3:decide ((l.length:Int)≤(l.length:Int))=true:=decide_eq_true (by omega)
    have hf:Wh.EW ((ce,l,u),h,n,0,t,())=some ((ce+1,yI l (h,n,ce+1,t,()),()),()):=by
     simp only[Wh.EW,cb hx',cv hx',cond_true,w2,t0,t1,Int.toNat_natCast,List.nil_append,g0,d2,d3]
     rw[d1 _ (by simp only[List.length_append,List.length_take,List.length_drop,List.length_cons,List.length_nil];omega),d1 _ (by simp only[List.length_take];omega),d1 _ (by simp only[List.length_take];omega)]
     simp only[iy,Bool.and_self,cond_true,yI,List.append_assoc]
     rfl
    simp only[hf,Wh.UC _ _ hf,cond_true,cond_false]
theorem Si (c:Ct) (I:yG c) (h:Int) (n t:List UInt8) (hn:n.length≤9999999) (ht:t.length≤9999999):Wh.BP (c,h,n,t)=some (zb c h n t,()):=by
 have hl:=I.len
 have hb:=I.byt h
 have hed:=I.ed
 have a:=Ky c (by omega)
 have a2:=pub_eq h n t hn
 unfold zb
 cases hp:zA h n t with
 |false=>
  rw[hp] at a2
  simp only[Wh.BP,a,Wh.DE _ _ a,a2,Wh.Ly _ _ a2,nQ,iy,cond_true,Bool.not_false]
 |true=>
  rw[hp] at a2
  have b:=Sa c h n (by omega)
  cases e:zE c.2.1 h n with
  |some i=>
   rw[e] at b
   have b':Wh.Be (c,h,n)=some ((i:Int),()):=b
   have e1:decide ((i:Int)≥0)=true:=decide_eq_true (by omega)
   simp only[Wh.BP,a,Wh.DE _ _ a,a2,Wh.Ly _ _ a2,b',Wh.Hw _ _ b',e1,nQ,iy,cond_true,cond_false,Bool.not_true]
  |none=>
   rw[e] at b
   have b':Wh.Be (c,h,n)=some (-1,()):=b
   have e1:decide ((-1:Int)≥0)=false:=rfl
   have f:=W6 c h (by omega) (by omega)
   have w1:IntKind.wrap .i64 ((mw c.2.1 h:Int)+(t.length:Int))=((mw c.2.1 h+t.length:Nat):Int):=wi (by omega) (by omega)
   have cc:(bif bif(c.2.1.length:Int)==8 then true else c.1==99999 then true else decide (((mw c.2.1 h+t.length:Nat):Int)>500))=decide (8≤c.2.1.length∨99999≤c.1∨500<mw c.2.1 h+t.length):=by
    by_cases h1:(c.2.1.length:Int)=8
    ·rw[beq_iff_eq.2 h1,decide_eq_true (p:=8≤c.2.1.length∨99999≤c.1∨500<mw c.2.1 h+t.length) (by omega)];rfl
    ·rw[beq_eq_false_iff_ne.2 h1]
     by_cases h2:c.1=99999
     ·rw[beq_iff_eq.2 h2,decide_eq_true (p:=8≤c.2.1.length∨99999≤c.1∨500<mw c.2.1 h+t.length) (by omega)];rfl
     ·rw[beq_eq_false_iff_ne.2 h2]
      simp only[cond_false]
      congr 1;simp only[eq_iff_iff];omega
   simp only[Wh.BP,a,Wh.DE _ _ a,a2,Wh.Ly _ _ a2,b',Wh.Hw _ _ b',e1,f,Wh.q31_v _ _ f,w1,cc,nQ,Bool.or_true,iy,cond_true,cond_false,Bool.not_true]
   by_cases hc:8≤c.2.1.length∨99999≤c.1∨500<mw c.2.1 h+t.length
   ·rw[decide_eq_true hc,if_pos hc];rfl
   ·rw[decide_eq_false hc,if_neg hc]
    obtain⟨ce,l,u⟩:=c
    simp only at hed hl hc e
    have w2:IntKind.wrap .i64 (ce+1)=ce+1:=wrap64 (by omega) (by omega)
    have d1:decide (l.length+1≤dh)=true:=decide_eq_true (by unfold dh;omega)
    have s:=abS l (h,n,ce+1,t,()) I.srt e hl
    have hil:(yI l (h,n,ce+1,t,())).length=l.length+1:=by
     have:=FV l h n
     simp only[yI,List.length_append,List.length_cons,List.length_take,List.length_drop];omega
    have k:=Ky (ce+1,yI l (h,n,ce+1,t,()),u) (by simp only[hil];omega)
    simp only[w2,d1,s,Wh.q4_v _ _ s,k,Wh.DE _ _ k,cond_true,cond_false]
end Pl
open Go Go.Ab Go.Lib
namespace Pl
theorem Sn {l:List It} {t x:It} (h:x∈yI l t):x=t∨x∈l:=by
 unfold yI at h
 rcases List.mem_append.1 h with h|h
 ·exact .inr (List.mem_of_mem_take h)
 ·rcases List.mem_cons.1 h with h|h
  ·exact .inl h
  ·exact .inr (List.mem_of_mem_drop h)
theorem Xj (l:List It) (t:It):(yI l t).length=l.length+1:=by
 have:=FV l t.1 t.2.1
 simp only[yI,List.length_append,List.length_cons,List.length_take,List.length_drop];omega
theorem Xi (l:List It) (t:It) (h:Int):mw (yI l t) h=mw l h+if t.1=h then t.2.2.2.1.length else 0:=by
 have e:mw l h=mw (l.take (xN l t.1 t.2.1)) h+mw (l.drop (xN l t.1 t.2.1)) h:=by rw[←Fy,List.take_append_drop]
 have e2:mw (t::l.drop (xN l t.1 t.2.1)) h=(if t.1=h then t.2.2.2.1.length else 0)+mw (l.drop (xN l t.1 t.2.1)) h:=by simp[mw]
 rw[yI,Fy,e2,e];omega
theorem Yk {l:List It} {k:Nat} {x:It} (hk:k≤l.length) (h:x∈l.take k):∃i,i<k∧l.getD i z0=x:=by
 obtain⟨i,hi,rfl⟩:=List.getElem_of_mem h
 rw[List.length_take] at hi
 exact⟨i,by omega,by rw[getD_eq _ _ _ (by omega),List.getElem_take]⟩
theorem Yj {l:List It} {k:Nat} {x:It} (h:x∈l.drop k):∃i,k≤i∧i<l.length∧l.getD i z0=x:=by
 obtain⟨i,hi,rfl⟩:=List.getElem_of_mem h
 rw[List.length_drop] at hi
 exact⟨k+i,by omega,by omega,by rw[getD_eq _ _ _ (by omega),List.getElem_drop]⟩
theorem So {R:It→It→Prop} {l:List It} {t:It} (h:l.Pairwise R) (h1:∀x∈l.take (xN l t.1 t.2.1),R x t) (h2:∀x∈l.drop (xN l t.1 t.2.1),R t x):(yI l t).Pairwise R:=by
 unfold yI
 rw[List.pairwise_append]
 have hs:(l.take (xN l t.1 t.2.1)++l.drop (xN l t.1 t.2.1)).Pairwise R:=by rw[List.take_append_drop];exact h
 rw[List.pairwise_append] at hs
 refine⟨hs.1,List.pairwise_cons.2 ⟨h2,hs.2.1⟩,?_⟩
 intro a ha b hb
 rcases List.mem_cons.1 hb with rfl|hb
 ·exact h1 a ha
 ·exact hs.2.2 a ha b hb
theorem TN (c:Ct) (I:yG c) (h:Int) (n t:List UInt8):yG (zb c h n t).1:=by
 unfold zb
 cases hp:zA h n t with
 |false=>exact I
 |true=>
  simp only[Bool.not_true,cond_false]
  cases e:zE c.2.1 h n with
  |some i=>exact I
  |none=>
   simp only
   split
   ·exact I
   ·rename_i hc
    obtain⟨ce,l,u⟩:=c
    have hed:0≤ce∧ce≤99999:=I.ed
    have hlen:l.length≤8:=I.len
    simp only at hc e ⊢
    refine⟨⟨by simp only;omega,by simp only;omega⟩,?_,?_,?_,?_,?_,?_⟩
    ·simp only[Xj];omega
    ·intro x hx
     rcases Sn hx with rfl|hx
     ·exact hp
     ·exact I.ok x hx
    ·intro x hx
     rcases Sn hx with rfl|hx
     ·simp only;omega
     ·have:=I.eds x hx;simp only at this ⊢;omega
    ·refine So I.srt ?_ ?_
     ·intro x hx
      obtain⟨i,hi,rfl⟩:=Yk (FV _ _ _) hx
      exact TM l h n i hi
     ·intro x hx
      obtain⟨i,h1,h2,rfl⟩:=Yj hx
      exact TL l (h,n,ce+1,t,()) I.srt e i h1 h2
    ·refine So I.dis ?_ ?_
     ·intro x hx
      have:=I.eds x (List.mem_of_mem_take hx);simp only at this ⊢;omega
     ·intro x hx
      have:=I.eds x (List.mem_of_mem_drop hx);simp only at this ⊢;omega
    ·intro g
     have hb:=I.byt g
     simp only at hb
     simp only[Xi]
     by_cases hg:h=g
     ·subst hg;rw[if_pos rfl];omega
     ·rw[if_neg hg];omega
theorem aci (c:Ct) (I:yG c) (h:Int) (n:List UInt8):yG (BV c h n).1:=by
 unfold BV
 cases e:zE c.2.1 h n with
 |none=>exact I
 |some i=>
  obtain⟨ce,l,u⟩:=c
  simp only at e ⊢
  have hlen:l.length≤8:=I.len
  have hsub:(l.take i++l.drop (i+1)).Sublist l:=by
   have e1:l.take i++l.drop i=l:=List.take_append_drop ..
   have:(l.take i++l.drop (i+1)).Sublist (l.take i++l.drop i):=List.Sublist.append_left (by rw[←List.drop_drop];exact List.drop_sublist _ _) _
   rw[e1] at this;exact this
  refine⟨I.ed,?_,fun x hx=>I.ok x (hsub.subset hx),fun x hx=>I.eds x (hsub.subset hx),I.srt.sublist hsub,I.dis.sublist hsub,?_⟩
  ·have:=hsub.length_le;simp only;omega
  ·intro g
   have:=I.byt g
   simp only at this ⊢
   have e1:mw l g=mw (l.take i) g+mw (l.drop i) g:=by rw[←Fy,List.take_append_drop]
   have e2:mw (l.drop i) g=mw (l.drop i) g:=rfl
   have e3:mw (l.drop (i+1)) g≤mw (l.drop i) g:=by
    have hi:=NA e
    rw[List.drop_eq_getElem_cons hi,mw,mw,List.map_cons,List.sum_cons]
    exact Nat.le_add_left _ _
   rw[Fy];omega
theorem Kw:yG (0,[],()):=by
 refine⟨⟨by simp,by simp⟩,by simp,by simp,by simp,.nil,.nil,by simp[mw]⟩
def zf (h:Int) (n t:List UInt8):Bool:=decide (0≤h∧h≤1)&&zN n&&decide (t.length≤300)
def xO (h:Int) (n t:List UInt8):List UInt8:=if zf h n t=true then decDigits h.toNat++32::(n++58::t) else []
theorem DR {h:Int} {n t:List UInt8} (hp:zf h n t=true):(0≤h∧h≤1)∧zN n=true∧t.length≤300:=by
 unfold zf at hp
 rw[Bool.and_eq_true,Bool.and_eq_true] at hp
 exact⟨of_decide_eq_true hp.1.1,hp.1.2,of_decide_eq_true hp.2⟩
theorem QX (h:Int) (n t:List UInt8) (hn:n.length≤9999999) (ht:t.length≤9999999):Wh.CD (h,n,t)=some (xO h n t,()):=by
 have body (hr:zf h n t=true):Wh.BJ h=some (decDigits h.toNat,())∧(∀k,k≤1000→decide (k≤dh)=true)∧(decDigits h.toNat).length≤7∧n.length≤6∧t.length≤300:=by
  obtain⟨h1,h2,h3⟩:=DR hr
  have:=NT h.toNat (by omega)
  rw[show((h.toNat:Nat):Int)=h by omega] at this
  exact⟨this,fun k hk=>decide_eq_true (by unfold dh;omega),zi _ (by omega),(Er _ h2).2,h3⟩
 have fin (hr:zf h n t=true):(bif iy [decide (List.length ((Wh.Bc h).1 ++ [(32:UInt8)]++n ++ [(58:UInt8)])+List.length t≤dh),decide (List.length ((Wh.Bc h).1 ++ [(32:UInt8)]++n)+(1:Nat)≤dh),decide (List.length ((Wh.Bc h).1 ++ [(32:UInt8)])+List.length n≤dh),decide (List.length (Wh.Bc h).1+(1:Nat)≤dh),nQ (Wh.BJ h)] then some ((Wh.Bc h).1 ++ [(32:UInt8)]++n ++ [(58:UInt8)]++t,()) else none)=some (xO h n t,()):=by
  obtain⟨e,d,l1,l2,l3⟩:=body hr
  rw[Wh.Lu _ _ e,e]
  simp only
  rw[d _ (by simp only[List.length_append,List.length_singleton];omega),d _ (by simp only[List.length_append,List.length_singleton];omega),d _ (by simp only[List.length_append,List.length_singleton];omega),d _ (by omega)]
  simp[iy,nQ,xO,hr]
 by_cases ht0:t = []
 ·have c1:(t==([]:List UInt8))=true:=beq_iff_eq.2 ht0
  have a:=KP (h,n,0,[(120:UInt8)],()) hn
  have hr:zA h n [120]=zf h n t:=by subst ht0;rfl
  simp only[hr] at a
  simp only[Wh.CD,c1,cond_true,a,Wh.Dt _ _ a,nQ,iy]
  cases hx:zf h n t with
  |false=>simp[xO,hx]
  |true=>exact fin hx
 ·have c1:(t==([]:List UInt8))=false:=beq_eq_false_iff_ne.2 ht0
  have a:=KP (h,n,0,t,()) hn
  have hr:zA h n t=zf h n t:=by
   have:1≤t.length:=by cases t;exact absurd rfl ht0;simp
   unfold zA zf
   congr 2;simp only[eq_iff_iff];omega
  simp only[hr] at a
  simp only[Wh.CD,c1,cond_false,a,Wh.Dt _ _ a,nQ,iy,cond_true]
  cases hx:zf h n t with
  |false=>simp[xO,hx]
  |true=>exact fin hx
theorem NS (h:Int) (n t:List UInt8) (hn:n.length≤9999999) (ht:t.length≤9999999):Wh.q29 (h,n,t)=some (xO h n t,()):=by
 have a:=Fl h 0 1
 have a':Wh.AE h=some (decide (0≤h∧h≤1),()):=by simp only[Wh.AE,a,Wh.zo _ _ a,nQ,iy,cond_true]
 have b:=Sg n hn
 have hc:(bif bif !decide (0≤h∧h≤1) then true else !zN n then true else decide ((t.length:Int)>300)) = !zf h n t:=by
  unfold zf
  cases decide (0≤h∧h≤1)
  ·rfl
  ·cases zN n
   ·rfl
   ·simp only[Bool.not_true,cond_false,Bool.and_self,Bool.true_and]
    by_cases h3:t.length≤300
    ·rw[decide_eq_true h3,decide_eq_false (by omega)];rfl
    ·rw[decide_eq_false h3,decide_eq_true (by omega)];rfl
 simp only[Wh.q29,a',Wh.Lp _ _ a',b,Wh.OK _ _ b,hc,nQ,Bool.or_true,iy,Bool.and_self,cond_true]
 cases hx:zf h n t with
 |false=>simp[xO,hx]
 |true=>
  obtain⟨h1,h2,h3⟩:=DR hx
  have e:=KO h.toNat (by omega)
  rw[show((h.toNat:Nat):Int)=h by omega] at e
  have d (k:Nat) (hk:k≤1000):decide (k≤dh)=true:=decide_eq_true (by unfold dh;omega)
  have l1:=zi h.toNat (by omega)
  have l2:=(Er _ h2).2
  simp only[Bool.not_true,cond_false]
  rw[Wh.xL _ _ e,e]
  simp only
  rw[d _ (by simp only[List.length_append,List.length_singleton];omega),d _ (by simp only[List.length_append,List.length_singleton];omega),d _ (by simp only[List.length_append,List.length_singleton];omega),d _ (by omega)]
  simp[xO,hx]
theorem Vs {h:Int} {n t s:List UInt8} (hs:xO h n t=s) (hne:s ≠ []):zf h n t=true∧s=decDigits h.toNat++32::(n++58::t):=by
 unfold xO at hs
 split at hs
 ·rename_i hr;exact⟨hr,hs.symm⟩
 ·exact absurd hs.symm hne
def D3 (s:List UInt8) (p:Int×List UInt8×List UInt8):Prop:=zf p.1 p.2.1 p.2.2=true∧s=decDigits p.1.toNat++32::(p.2.1++58::p.2.2)
theorem LU {h:Int} {n t:List UInt8} (hr:zf h n t=true):∀x∈decDigits h.toNat++32::n,x≠58:=by
 intro x hx
 rcases List.mem_append.1 hx with hx|hx
 ·have:=rm _ x hx
  intro e;subst e
  unfold eg at this
  have h58:(58:UInt8).toNat=58:=rfl
  omega
 ·rcases List.mem_cons.1 hx with rfl|hx
  ·decide
  ·exact TA n (DR hr).2.1 58 (by decide) x hx
theorem Xk {s:List UInt8} {p q:Int×List UInt8×List UInt8} (h:D3 s p) (h':D3 s q):p=q:=by
 obtain⟨h1,n1,t1⟩:=p
 obtain⟨h2,n2,t2⟩:=q
 have e:=h.2.symm.trans h'.2
 have a1:(decDigits h1.toNat++32::n1)++58::t1=(decDigits h2.toNat++32::n2)++58::t2:=by simpa using e
 obtain⟨e1,e2⟩:=pI (LU h.1) (LU h'.1) a1
 obtain⟨e3,e4⟩:=pI (ny _) (ny _) e1
 have e5:=uD e3
 have r1:=(DR h.1).1
 have r2:=(DR h'.1).1
 simp only at r1 r2
 have:h1=h2:=by omega
 simp only at e4
 rw[this,e2,e4]
open Classical in
noncomputable def Br (s:List UInt8):Option (Int×List UInt8×List UInt8):=if h:∃p,D3 s p then some (Classical.choose h) else none
theorem TJ {s:List UInt8} {p:Int×List UInt8×List UInt8} (h:Br s=some p):D3 s p:=by
 unfold Br at h
 split at h
 ·rename_i hex;cases h;exact Classical.choose_spec hex
 ·cases h
theorem OB {s:List UInt8} {p:Int×List UInt8×List UInt8} (h:D3 s p):Br s=some p:=by
 have hex:∃p,D3 s p:=⟨p,h⟩
 unfold Br
 rw[dif_pos hex]
 exact congrArg some (Xk (Classical.choose_spec hex) h)
noncomputable def zT (c:Ct) (s:List UInt8):Ct×Bool:=match Br s with
 |none=>((0,[],()),false)
 |some (h,n,t)=>if t = [] then((BV c h n).1,(BV c h n).2==0) else((zb c h n t).1,(zb c h n t).2==0)
theorem NH (s) (k:Nat) (hk:k≤s.length) (hs:s.length≤9999999) (from_:Int) (ls:List (List UInt8)) (y):∀d i,i+d=k→(∀j,i≤j→j<k→s.getD j 0≠32)→Comes Wh.zC (((k:Int),from_,s,(),32),ls) y→Comes Wh.zC (((i:Int),from_,s,(),32),ls) y
 |0,i,h1,_,h3=>by have:i=k:=by omega
                  rw[this];exact h3
 |d+1,i,h1,h2,h3=>by
  refine .again ?_ (NH s k hk hs from_ ls y d (i+1) (by omega) (fun j hj=>h2 j (by omega)) h3)
  have c1:(((s.getD i 0).toNat:Int)==32)=false:=beq_eq_false_iff_ne.2 (by
   intro e
   exact h2 i (Nat.le_refl _) (by omega) (UInt8.toNat_inj.1 (by have:(32:UInt8).toNat=32:=rfl;omega)))
  simp only[Wh.zC,gl (show i<s.length by omega),g0,Int.toNat_natCast,c1,iy,Bool.and_self,cond_true,cond_false,mb (show i≤4611686018427387904 by omega)]
theorem V5 (p q:List UInt8) (hp:∀x∈p,x≠32) (hq:∀x∈q,x≠32) (hl:(p++32::q).length≤9999999):Wh.Ci (p++32::q,32)=some ([p,q],()):=by
 have hlen:(p++32::q).length=p.length+1+q.length:=by simp;omega
 have gp (j:Nat) (hj:j<p.length):(p++32::q).getD j 0≠32:=by
  simp only[List.getD,List.getElem?_append_left hj,List.getElem?_eq_getElem hj,Option.getD_some]
  exact hp _ (List.getElem_mem hj)
 have gm:(p++32::q).getD p.length 0=32:=by rw[List.getD,List.getElem?_append_right (Nat.le_refl _),Nat.sub_self];rfl
 have gq (j:Nat) (h1:p.length+1≤j) (h2:j<p.length+1+q.length):(p++32::q).getD j 0≠32:=by
  obtain⟨m,rfl⟩:∃m,j=p.length+1+m:=⟨j-(p.length+1),by omega⟩
  have e:p.length+1+m-p.length=m+1:=by omega
  rw[List.getD,List.getElem?_append_right (by omega),e,List.getElem?_cons_succ]
  rw[List.getElem?_eq_getElem (by omega),Option.getD_some]
  exact hq _ (List.getElem_mem _)
 have hend:Comes Wh.zC ((((p.length+1+q.length:Nat):Int),((p.length+1:Nat):Int),p++32::q,(),32),[p]) ((((p.length+1:Nat):Int),p++32::q,()),[p]):=by
  refine .out ?_
  have c1:decide (((p.length+1+q.length:Nat):Int)<((p.length+1+q.length:Nat):Int))=false:=decide_eq_false (by omega)
  simp only[Wh.zC,hlen,c1,cond_false]
 have h2:=NH (p++32::q) (p.length+1+q.length) (by omega) (by omega) ((p.length+1:Nat):Int) [p] _ q.length (p.length+1) (by omega) (fun j h1 h2=>gq j h1 h2) hend
 have h1:Comes Wh.zC (((p.length:Int),0,p++32::q,(),32),[]) ((((p.length+1:Nat):Int),p++32::q,()),[p]):=by
  refine .again ?_ h2
  have c1:(((32:UInt8).toNat:Int)==32)=true:=rfl
  have t0:List.take (Int.toNat ((p.length:Int)-0)) (List.drop (Int.toNat 0) (p++32::q))=p:=by simp
  have d1:decide ((p.length:Int)≤((p.length+1+q.length:Nat):Int))=true:=decide_eq_true (by omega)
  have d2:decide (([]:List (List UInt8)).length+1≤dh)=true:=rfl
  have d3:decide ((0:Int)≤0)=true:=rfl
  simp only[Wh.zC,hlen,gl (show p.length<p.length+1+q.length by omega),g0,Int.toNat_natCast,gm,c1,t0,d1,d2,d3,iy,Bool.and_self,cond_true,mb (show p.length≤4611686018427387904 by omega),List.nil_append]
 have h0:Comes Wh.zC ((0,0,p++32::q,(),32),[]) _:=NH (p++32::q) p.length (by omega) (by omega) 0 [] _ p.length 0 (by omega) (fun j _ h=>gp j h) h1
 have t1:List.take (Int.toNat (((p.length+1+q.length:Nat):Int)-((p.length+1:Nat):Int))) (List.drop (p.length+1) (p++32::q))=q:=by
  have:List.drop (p.length+1) (p++32::q)=q:=by rw[←List.drop_drop];simp
  rw[this,List.take_of_length_le (by omega)]
 have d1:decide (((p.length+1:Nat):Int)≤((p.length+1+q.length:Nat):Int))=true:=decide_eq_true (by omega)
 have d2:decide (((p.length+1+q.length:Nat):Int)≤((p.length+1+q.length:Nat):Int))=true:=decide_eq_true (by omega)
 have d3:decide ([p].length+1≤dh)=true:=rfl
 simp only[Wh.Ci,cb h0,cv h0,cond_true,hlen,Int.toNat_natCast,t1,g0,d1,d2,d3,iy,Bool.and_self]
 rfl
theorem V4 (s:List UInt8) (hs:s.length≤9999999):∃l,Wh.Ci (s,32)=some (l,())∧∀x∈l,x.length≤s.length:=by
 have main:∀d i (from_:Nat) (ls:List (List UInt8)),i+d=s.length→from_≤i→ls.length≤i→(∀x∈ls,x.length≤s.length) →
   ∃(f:Nat) (l:List (List UInt8)),f≤s.length∧l.length≤s.length∧(∀x∈l,x.length≤s.length)∧Comes Wh.zC (((i:Int),(from_:Int),s,(),32),ls) (((f:Int),s,()),l):=by
  intro d
  induction d with
  |zero=>
   intro i from_ ls h1 h2 h3 h4
   have:i=s.length:=by omega
   subst this
   have c1:decide ((s.length:Int)<(s.length:Int))=false:=decide_eq_false (by omega)
   exact⟨from_,ls,h2,h3,h4,.out (by simp only[Wh.zC,c1,cond_false])⟩
  |succ d ih=>
   intro i from_ ls h1 h2 h3 h4
   by_cases hc:((s.getD i 0).toNat:Int)=32
   ·have hx:(List.take (Int.toNat ((i:Int)-(from_:Int))) (List.drop from_ s)).length≤s.length:=by simp;omega
    obtain⟨f,l,a1,a2,a3,a4⟩:=ih (i+1) (i+1) (ls ++ [List.take (Int.toNat ((i:Int)-(from_:Int))) (List.drop from_ s)]) (by omega) (Nat.le_refl _) (by simp;omega) (by
     intro x hx'
     rcases List.mem_append.1 hx' with hx'|hx'
     ·exact h4 x hx'
     ·rw[List.mem_singleton.1 hx'];exact hx)
    refine⟨f,l,a1,a2,a3,.again ?_ a4⟩
    have c1:(((s.getD i 0).toNat:Int)==32)=true:=beq_iff_eq.2 hc
    have d1:decide ((from_:Int)≤(i:Int))=true:=decide_eq_true (by omega)
    have d2:decide ((i:Int)≤(s.length:Int))=true:=decide_eq_true (by omega)
    have d3:decide (ls.length+1≤dh)=true:=decide_eq_true (by unfold dh;omega)
    simp only[Wh.zC,gl (show i<s.length by omega),g0,Int.toNat_natCast,c1,d1,d2,d3,iy,Bool.and_self,cond_true,mb (show i≤4611686018427387904 by omega)]
   ·obtain⟨f,l,a1,a2,a3,a4⟩:=ih (i+1) from_ ls (by omega) (by omega) (by omega) h4
    refine⟨f,l,a1,a2,a3,.again ?_ a4⟩
    have c1:(((s.getD i 0).toNat:Int)==32)=false:=beq_eq_false_iff_ne.2 hc
    simp only[Wh.zC,gl (show i<s.length by omega),g0,Int.toNat_natCast,c1,iy,Bool.and_self,cond_true,cond_false,mb (show i≤4611686018427387904 by omega)]
 obtain⟨f,l,a1,a2,a3,a4⟩:=main s.length 0 0 [] (by omega) (Nat.le_refl _) (Nat.zero_le _) (by simp)
 have a4':Comes Wh.zC ((0,0,s,(),32),[]) _:=a4
 refine⟨l ++ [List.take (Int.toNat ((s.length:Int)-(f:Int))) (List.drop f s)],?_,?_⟩
 ·have d1:decide ((f:Int)≤(s.length:Int))=true:=decide_eq_true (by omega)
  have d2:decide ((s.length:Int)≤(s.length:Int))=true:=decide_eq_true (by omega)
  have d3:decide (l.length+1≤dh)=true:=decide_eq_true (by unfold dh;omega)
  simp only[Wh.Ci,cb a4',cv a4',cond_true,Int.toNat_natCast,g0,d1,d2,d3,iy,Bool.and_self]
 ·intro x hx
  rcases List.mem_append.1 hx with hx|hx
  ·exact a3 x hx
  ·rw[List.mem_singleton.1 hx];simp
end Pl
open Go Go.Ab Go.Lib
namespace Pl
theorem Ny {c:Ct} {s:List UInt8} (h:Br s=none):zT c s=((0,[],()),false):=by unfold zT;rw[h]
theorem Ko {c:Ct} {s:List UInt8} {h:Int} {n t:List UInt8} (hp:Br s=some (h,n,t)):zT c s=if t = [] then((BV c h n).1,(BV c h n).2==0) else((zb c h n t).1,(zb c h n t).2==0):=by unfold zT;rw[hp]
theorem Sw (c:Ct) (I:yG c) (s:List UInt8) (hs:s.length≤9999999):Wh.BI (c,s)=some (zT c s,()):=by
 have le (x y:Nat) (h:x≤y):decide ((x:Int)≤(y:Int))=true:=decide_eq_true (by omega)
 have g0' (k:Nat):decide ((k:Int)<0)=false:=decide_eq_false (by omega)
 cases hp:Br s with
 |some p=>
  obtain⟨h,n,t⟩:=p
  obtain⟨hr,hsh⟩:=TJ hp
  simp only at hr hsh
  obtain⟨hh,hn,ht⟩:=DR hr
  have gh:=Er n hn
  have hdl:=zi h.toNat (by omega)
  have FE:s=(decDigits h.toNat++32::n)++58::t:=by rw[hsh];simp
  have hd:s.drop 0=(decDigits h.toNat++32::n)++58::t:=FE
  have f1:Wh.y2 (s,0,58)=some (((0+(decDigits h.toNat++32::n).length:Nat):Int),()):=FH s _ t 0 58 (by omega) hd (LU hr)
  rw[Nat.zero_add] at f1
  have hlen:s.length=(decDigits h.toNat++32::n).length+1+t.length:=by rw[FE];simp;omega
  have t1:List.take (Int.toNat (((decDigits h.toNat++32::n).length:Int)-0)) (List.drop (Int.toNat 0) s)=decDigits h.toNat++32::n:=by
   rw[show Int.toNat (((decDigits h.toNat++32::n).length:Int)-0)=(decDigits h.toNat++32::n).length by omega,show Int.toNat 0=0 from rfl,hd,List.take_left'];rfl
  have cu:=V5 (decDigits h.toNat) n (ny _) (TA n hn 32 (by decide)) (by simp;omega)
  have w1:=mb (i:=(decDigits h.toNat++32::n).length) (by omega)
  have t2:List.take (Int.toNat ((s.length:Int)-(((decDigits h.toNat++32::n).length+1:Nat):Int))) (List.drop ((decDigits h.toNat++32::n).length+1) s)=t:=by
   have:=FA s 0 ((decDigits h.toNat++32::n) ++ [58]) t (by rw[List.drop_zero,FE];simp)
   rw[Nat.zero_add,List.length_append,List.length_singleton] at this
   rw[this,List.take_of_length_le (by omega)]
  have nu:=FG (decDigits h.toNat) (by omega)
  rw[if_pos (G0 (by omega)),ru,show((h.toNat:Nat):Int)=h by omega] at nu
  have re:=QX h n t (by omega) (by omega)
  have rs:xO h n t=s:=by rw[xO,if_pos hr,hsh]
  rw[rs] at re
  have q0: [decDigits h.toNat,n].getD (Int.toNat 0) []=decDigits h.toNat:=rfl
  have q1: [decDigits h.toNat,n].getD (Int.toNat 1) []=n:=rfl
  have c1:(((([decDigits h.toNat,n]:List (List UInt8)).length:Nat):Int) != 2)=false:=rfl
  have c2:(s==s)=true:=beq_self_eq_true _
  have tk:=ab3 c I h n
  have pu:=VE c I h n t (by omega) (by omega)
  rw[Ko hp]
  have k1:decide ((0:Int)<((([decDigits h.toNat,n]:List (List UInt8)).length:Nat):Int))=true:=rfl
  have k2:decide ((1:Int)<((([decDigits h.toNat,n]:List (List UInt8)).length:Nat):Int))=true:=rfl
  have k3:decide ((0:Int)≤0)=true:=rfl
  have k4:decide ((0:Int)≤1)=true:=rfl
  simp only[Wh.BI,f1,Wh.BH _ _ f1,g0',t1,cu,Wh.O9 _ _ cu,w1,t2,Int.toNat_natCast,q0,q1,nu,Wh.EU _ _ nu,re,Wh.LF _ _ re,c1,c2,tk,Wh.q90_v _ _ tk,pu,Wh.OY _ _ pu,nQ,g0,k1,k2,k3,k4,
   le (decDigits h.toNat++32::n).length s.length (by omega),le ((decDigits h.toNat++32::n).length+1) s.length (by omega),le s.length s.length (Nat.le_refl _),Bool.or_true,Bool.not_true,Bool.not_false,iy,Bool.and_self,cond_true,cond_false]
  by_cases ht0:t = []
  ·rw[beq_iff_eq.2 ht0,if_pos ht0];rfl
  ·rw[beq_eq_false_iff_ne.2 ht0,if_neg ht0];rfl
 |none=>
  rw[Ny hp]
  rcases Ff 58 s with h1|⟨p,t,hsh,hp58⟩
  ·have f1:Wh.y2 (s,0,58)=some (-1,()):=NU s 0 58 (by omega) (by omega) h1
   have c1:decide ((-1:Int)<0)=true:=rfl
   simp only[Wh.BI,f1,Wh.BH _ _ f1,c1,nQ,iy,cond_true]
  ·have hd:s.drop 0=p++58::t:=hsh
   have f1:Wh.y2 (s,0,58)=some (((0+p.length:Nat):Int),()):=FH s _ t 0 58 (by omega) hd hp58
   rw[Nat.zero_add] at f1
   have hlen:s.length=p.length+1+t.length:=by rw[hsh];simp;omega
   have t1:List.take (Int.toNat ((p.length:Int)-0)) (List.drop (Int.toNat 0) s)=p:=by
    rw[show Int.toNat ((p.length:Int)-0)=p.length by omega,show Int.toNat 0=0 from rfl,hd,List.take_left'];rfl
   obtain⟨F,cu,hF⟩:=V4 p (by omega)
   have w1:=mb (i:=p.length) (by omega)
   have t2:List.take (Int.toNat ((s.length:Int)-((p.length+1:Nat):Int))) (List.drop (p.length+1) s)=t:=by
    have:=FA s 0 (p ++ [58]) t (by rw[List.drop_zero,hsh];simp)
    rw[Nat.zero_add,List.length_append,List.length_singleton] at this
    rw[this,List.take_of_length_le (by omega)]
   simp only[Wh.BI,f1,Wh.BH _ _ f1,g0',t1,cu,Wh.O9 _ _ cu,w1,t2,Int.toNat_natCast,nQ,g0,
    le p.length s.length (by omega),le (p.length+1) s.length (by omega),le s.length s.length (Nat.le_refl _),iy,Bool.and_self,cond_true,cond_false]
   cases h2:((F.length:Int) != 2) with
   |true=>simp only[Bool.not_true,Bool.not_false,Bool.true_or,Bool.and_self,cond_true]
   |false=>
    have hF2:F.length=2:=by
     have:=bne_eq_false_iff_eq.1 h2;omega
    obtain⟨a,b,rfl⟩:∃a b,F = [a,b]:=by
     match F,hF2 with
     | [a,b],_=>exact⟨a,b,rfl⟩
    have ha:=hF a (by simp)
    have hb:=hF b (by simp)
    have q0: [a,b].getD (Int.toNat 0) []=a:=rfl
    have q1: [a,b].getD (Int.toNat 1) []=b:=rfl
    have nu:=FG a (by omega)
    have re:=QX (if isNum a then(er a:Int) else -1) b t (by omega) (by omega)
    have k1:decide ((0:Int)<((([a,b]:List (List UInt8)).length:Nat):Int))=true:=rfl
    have k2:decide ((1:Int)<((([a,b]:List (List UInt8)).length:Nat):Int))=true:=rfl
    have k3:decide ((0:Int)≤0)=true:=rfl
    have k4:decide ((0:Int)≤1)=true:=rfl
    have hne:(xO (if isNum a then(er a:Int) else -1) b t==s)=false:=by
     rw[beq_eq_false_iff_ne]
     intro e
     obtain⟨r1,r2⟩:=Vs e (by rw[hsh];simp)
     rw[OB (p:=(_,b,t)) ⟨r1,r2⟩] at hp
     cases hp
    simp only[q0,q1,nu,Wh.EU _ _ nu,re,Wh.LF _ _ re,hne,k1,k2,k3,k4,Bool.not_false,Bool.or_true,Bool.and_self,cond_true,cond_false]
theorem W5 (c:Ct) (I:yG c) (s:List UInt8) (hs:s.length≤9999999):Wh.q30 (c,s)=some (zT c s,()):=by
 have hl:=I.len
 have e1:Wh.strings_Cut (s,[(58:UInt8)])=some (cut s [58],()):=by
  simp only[Wh.strings_Cut,decide_eq_true (show s.length<4294967281 by omega),cond_true]
 cases hp:Br s with
 |some p=>
  obtain⟨h,n,t⟩:=p
  obtain⟨hr,hsh⟩:=TJ hp
  simp only at hr hsh
  obtain⟨hh,hn,ht⟩:=DR hr
  have gh:=Er n hn
  have hdl:=zi h.toNat (by omega)
  have FE:s=(decDigits h.toNat++32::n)++58::t:=by rw[hsh];simp
  have q1:=CW 58 (decDigits h.toNat++32::n) t (LU hr)
  rw[←FE] at q1
  rw[q1] at e1
  have q2:=CW 32 (decDigits h.toNat) n (ny _)
  have e2:Wh.strings_Cut (decDigits h.toNat++32::n,[(32:UInt8)])=some ((decDigits h.toNat,n,true),()):=by
   simp only[Wh.strings_Cut,decide_eq_true (show(decDigits h.toNat++32::n).length<4294967281 by simp;omega),cond_true,q2]
  have e3:Wh.rV (decDigits h.toNat)=some ((h,true),()):=by
   simp only[Wh.rV,decide_eq_true (show(decDigits h.toNat).length≤281474976710656 by omega),cond_true,if_pos (G0 (show h.toNat≤999999 by omega)),ru]
   rw[show((h.toNat:Nat):Int)=h by omega]
  have re:=NS h n t (by omega) (by omega)
  have rs:xO h n t=s:=by rw[xO,if_pos hr,hsh]
  rw[rs] at re
  have c1:(s==([]:List UInt8))=false:=beq_eq_false_iff_ne.2 (by rw[FE];simp)
  have c2:(s==s)=true:=beq_self_eq_true _
  have tk:=Xe c h n (by omega)
  have pu:=Si c I h n t (by omega) (by omega)
  rw[Ko hp]
  simp only[Wh.q30,e1,Wh.xM _ _ e1,e2,Wh.xM _ _ e2,e3,Wh.xK _ _ e3,c1,c2,re,Wh.LB _ _ re,tk,Wh.q48_v _ _ tk,pu,Wh.Qy _ _ pu,nQ,Bool.or_true,Bool.not_true,Bool.not_false,iy,cond_true,cond_false]
  by_cases ht0:t = []
  ·rw[beq_iff_eq.2 ht0,if_pos ht0];rfl
  ·rw[beq_eq_false_iff_ne.2 ht0,if_neg ht0];rfl
 |none=>
  rw[Ny hp]
  have bI:(cut s [58]).1.length≤s.length∧(cut s [58]).2.1.length≤s.length:=by
   rcases Ff 58 s with h|⟨p,q,h,hp⟩
   ·rw[KD _ _ h];simp
   ·rw[h,CW _ _ _ hp];simp;omega
  generalize eK:cut s [58]=c1 at bI e1
  have e2:Wh.strings_Cut (c1.1,[(32:UInt8)])=some (cut c1.1 [32],()):=by
   simp only[Wh.strings_Cut,decide_eq_true (show c1.1.length<4294967281 by omega),cond_true]
  have hcl2:(cut c1.1 [32]).1.length≤c1.1.length∧(cut c1.1 [32]).2.1.length≤c1.1.length:=by
   rcases Ff 32 c1.1 with h|⟨p,q,h,hp⟩
   ·rw[KD _ _ h];simp
   ·rw[h,CW _ _ _ hp];simp;omega
  generalize fU:cut c1.1 [32]=c2 at hcl2 e2
  obtain⟨v,e3⟩:∃v,Wh.rV c2.1=some (v,()):=by
   simp only[Wh.rV,decide_eq_true (show c2.1.length≤281474976710656 by omega),cond_true]
   exact⟨_,rfl⟩
  have re:=NS v.1 c2.2.1 c1.2.1 (by omega) (by omega)
  simp only[Wh.q30,e1,Wh.xM _ _ e1,e2,Wh.xM _ _ e2,e3,Wh.xK _ _ e3,re,Wh.LB _ _ re,nQ,Bool.or_true,iy,cond_true]
  have hv7:(bif s==([]:List UInt8) then true else !xO v.1 c2.2.1 c1.2.1==s)=true:=by
   by_cases hs0:s = []
   ·rw[beq_iff_eq.2 hs0];rfl
   ·rw[beq_eq_false_iff_ne.2 hs0,cond_false]
    have hne:(xO v.1 c2.2.1 c1.2.1==s)=false:=by
     rw[beq_eq_false_iff_ne]
     intro e
     obtain⟨r1,r2⟩:=Vs e hs0
     rw[OB (p:=(v.1,c2.2.1,c1.2.1)) ⟨r1,r2⟩] at hp
     cases hp
    rw[hne];rfl
  rw[hv7,cond_true]
theorem Nx (c:Ct) (I:yG c) (s:List UInt8) (h:(zT c s).2=true):yG (zT c s).1:=by
 cases hp:Br s with
 |none=>rw[Ny hp] at h;cases h
 |some p=>
  obtain⟨g,n,t⟩:=p
  rw[Ko hp]
  split
  ·exact aci c I g n
  ·exact TN c I g n t
noncomputable def Ai:Ct→List (List UInt8)→Option Ct
 |c,[]=>some c
 |c,r::l=>if(zT c r).2=true then Ai (zT c r).1 l else none
theorem Ry:∀(l:List (List UInt8)) (c c':Ct),yG c→Ai c l=some c'→yG c'
 | [],c,c',I,h=>by rw[Ai] at h;cases h;exact I
 |r::l,c,c',I,h=>by
  rw[Ai] at h
  split at h
  ·rename_i hb;exact Ry l _ c' (Nx c I r hb) h
  ·cases h
noncomputable def zu (l:List (List UInt8)):Ct×Bool:=match Ai (0,[],()) l with
 |some c=>(c,true)
 |none=>((0,[],()),false)
theorem VB (l:List (List UInt8)) (hl:l.length≤9999999) (hr:∀r∈l,r.length≤9999999):∀d i (c:Ct),i+d=l.length→yG c →
  Comes Wh.Cm (((),(i:Int),(),l),((0:Int),(),()),(c.1,(),c.2.2),[],c.2.1) (match Ai c (l.drop i) with
   |some c'=>.inr (((),()),((0:Int),(),()),(c'.1,(),c'.2.2),[],c'.2.1)
   |none=>.inl (((),false),((0:Int),(),()),[]))
 |0,i,c,h1,I=>by
  have:i=l.length:=by omega
  subst this
  rw[List.drop_length,Ai]
  have c1:decide ((l.length:Int)<(l.length:Int))=false:=decide_eq_false (by omega)
  exact .out (by simp only[Wh.Cm,c1,cond_false])
 |d+1,i,c,h1,I=>by
  have hi:i<l.length:=by omega
  rw[List.drop_eq_getElem_cons hi,Ai]
  have e:=Sw c I l[i] (hr _ (List.getElem_mem hi))
  rw[←getD_eq l i [] hi] at e ⊢
  obtain⟨c1,c2,c3⟩:=c
  cases hb:(zT (c1,c2,c3) (l.getD i [])).2 with
  |true=>
   rw[if_pos rfl]
   refine .again ?_ (VB l hl hr d (i+1) _ (by omega) (Nx _ I _ hb))
   simp only[Wh.Cm,gl hi,g0,Int.toNat_natCast,e,Wh.Lj _ _ e,hb,nQ,iy,Bool.and_self,cond_true,cond_false,Bool.not_true,mb (show i≤4611686018427387904 by omega)]
  |false=>
   rw[if_neg (by simp)]
   exact .out (by simp only[Wh.Cm,gl hi,g0,Int.toNat_natCast,e,Wh.Lj _ _ e,hb,nQ,iy,Bool.and_self,cond_true,Bool.not_false])
theorem abU (l:List (List UInt8)) (hl:l.length≤9999999) (hr:∀r∈l,r.length≤9999999):Wh.Dh l=some (zu l,()):=by
 have h:=VB l hl hr l.length 0 (0,[],()) (by omega) Kw
 have h':Comes Wh.Cm (((),0,(),l),((0:Int),(),()),((0:Int),(),()),[],[]) _:=h
 simp only[Wh.Dh,cb h',cv h',cond_true,List.drop_zero,zu]
 cases Ai (0,[],()) l<;>rfl
theorem Sd (l:List (List UInt8)) (hl:l.length≤9999999) (hr:∀r∈l,r.length≤9999999):∀d i (c:Ct),i+d=l.length→yG c →
  Comes Wh.Ck (((),(i:Int),(),l,(l.length:Int)),((0:Int),(),()),(c.1,(),c.2.2),[],c.2.1) (match Ai c (l.drop i) with
   |some c'=>.inr (((),()),((0:Int),(),()),(c'.1,(),c'.2.2),[],c'.2.1)
   |none=>.inl (((),false),((0:Int),(),()),[]))
 |0,i,c,h1,I=>by
  have:i=l.length:=by omega
  subst this
  rw[List.drop_length,Ai]
  have c1:decide ((l.length:Int)<(l.length:Int))=false:=decide_eq_false (by omega)
  exact .out (by simp only[Wh.Ck,c1,cond_false])
 |d+1,i,c,h1,I=>by
  have hi:i<l.length:=by omega
  rw[List.drop_eq_getElem_cons hi,Ai]
  have e:=W5 c I l[i] (hr _ (List.getElem_mem hi))
  rw[←getD_eq l i [] hi] at e ⊢
  obtain⟨c1,c2,c3⟩:=c
  cases hb:(zT (c1,c2,c3) (l.getD i [])).2 with
  |true=>
   rw[if_pos rfl]
   refine .again ?_ (Sd l hl hr d (i+1) _ (by omega) (Nx _ I _ hb))
   simp only[Wh.Ck,gl hi,g0,Int.toNat_natCast,e,Wh.P1 _ _ e,hb,nQ,iy,Bool.and_self,cond_true,cond_false,Bool.not_true,mb (show i≤4611686018427387904 by omega)]
  |false=>
   rw[if_neg (by simp)]
   exact .out (by simp only[Wh.Ck,gl hi,g0,Int.toNat_natCast,e,Wh.P1 _ _ e,hb,nQ,iy,Bool.and_self,cond_true,Bool.not_false])
theorem W7 (l:List (List UInt8)) (hl:l.length≤9999999) (hr:∀r∈l,r.length≤9999999):Wh.EK l=some (zu l,()):=by
 have h:=Sd l hl hr l.length 0 (0,[],()) (by omega) Kw
 have h':Comes Wh.Ck (((),0,(),l,(l.length:Int)),((0:Int),(),()),((0:Int),(),()),[],[]) _:=h
 simp only[Wh.EK,cb h',cv h',cond_true,List.drop_zero,zu]
 cases Ai (0,[],()) l<;>rfl
end Pl
open Go Go.Ab Go.Lib
namespace Pl
abbrev Fr:Type:=Int×Int×Int×Int×Bool×Unit
abbrev Po:Type:=List Fr×Int×Unit
def zF:Fr:=((0:Int),(0:Int),(0:Int),(0:Int),false,())
def nG (n lo hi:Int):Bool:=decide (lo≤n∧n≤hi)
theorem Ao (n lo hi:Int):Wh.xW (n,lo,hi)=some (nG n lo hi,()):=B_ n lo hi
theorem yS (n lo hi:Int):Wh.yc (n,lo,hi)=some (nG n lo hi,()):=Fl n lo hi
theorem R_ (n:Int):Wh.AE n=some (nG n 0 1,()):=by simp only[Wh.AE,yS,Wh.zo _ _ (yS _ _ _),nQ,iy,cond_true]
def okF (f:Fr):Bool:=bif f.2.1==0 then(f.1==0&&(f.2.1==0&&(f.2.2.1==0&&(f.2.2.2.1==0&&(f.2.2.2.2.1==false&&true))))) else nG f.1 0 1&&nG f.2.1 1 99999&&nG f.2.2.1 0 23&&nG f.2.2.2.1 0 99999
theorem Sr (f:Fr):Wh.Dl f=some (okF f,()):=by
 unfold okF
 cases h:(f.2.1==0) with
 |true=>simp only[Wh.Dl,h,cond_true]
 |false=>
  simp only[Wh.Dl,h,cond_false,Ao,Wh.zc _ _ (Ao _ _ _),nQ,Bool.or_true,iy,Bool.and_self,cond_true]
  cases nG f.1 0 1<;>cases nG f.2.1 1 99999<;>cases nG f.2.2.1 0 23<;>cases nG f.2.2.2.1 0 99999<;>rfl
def yO (l:List Fr) (i k:Nat):Bool:=bif bif decide ((l.getD i zF).2.1>0) then(l.getD i zF).2.1==(l.getD k zF).2.1 else false then(l.getD i zF).2.2.1==(l.getD k zF).2.2.1 else false
def Ac (l:List Fr) (i:Nat):Bool:=okF (l.getD i zF)&&jS i (fun k=> !yO l i k)
def r_ (l:List Fr) (h:Int):Nat→Nat
 |0=>0
 |i+1=>r_ l h i+if(bif decide ((l.getD i zF).2.1>0) then(l.getD i zF).1==h else false)=true then 1 else 0
theorem Ow (l:List Fr) (h:Int):∀i,r_ l h i≤i
 |0=>Nat.le_refl _
 |i+1=>by have:=Ow l h i;rw[r_];split<;>omega
def By (p:Po):Bool:=(p.1.length==8&&nG p.2.1 0 7)&&(jS 8 (Ac p.1)&&(decide (r_ p.1 0 8≤5)&&decide (r_ p.1 1 8≤5)))
theorem abX (p:Po) (h:Int) (hl:p.1.length≤9999999):Wh.ER (p,h)=some ((r_ p.1 h p.1.length:Int),()):=by
 obtain⟨l,nx,u⟩:=p
 have hl:l.length≤9999999:=hl
 have q:=xR (r:=Wh.Co) (fun i=>(((i:Int),(r_ l h i:Int),h,()),(l,nx,u))) (n:=l.length) (y:=((r_ l h l.length:Int),())) (fun i hi=>by
  have hb:=Ow l h i
  cases e:(bif decide ((l.getD i zF).2.1>0) then(l.getD i zF).1==h else false) with
  |true=>
   have e2:r_ l h (i+1)=r_ l h i+1:=by rw[r_,if_pos e]
   unfold zF at e
   simp only[Wh.Co,gl hi,g0,Int.toNat_natCast,e,Bool.or_true,iy,Bool.and_self,cond_true,mb (show i≤4611686018427387904 by omega),mb (show r_ l h i≤4611686018427387904 by omega),e2]
  |false=>
   have e2:r_ l h (i+1)=r_ l h i:=by rw[r_,e,if_neg (by simp)];rfl
   unfold zF at e
   simp only[Wh.Co,gl hi,g0,Int.toNat_natCast,e,Bool.or_true,iy,Bool.and_self,cond_true,cond_false,mb (show i≤4611686018427387904 by omega),e2]) (by
  have c1:decide ((l.length:Int)<(l.length:Int))=false:=decide_eq_false (by omega)
  simp only[Wh.Co,c1,cond_false]) 0 (Nat.zero_le _)
 have q':Comes Wh.Co ((0,0,h,()),(l,nx,u)) _:=q
 simp only[Wh.ER,cb q',cv q',cond_true]
theorem W9 (p:Po) (h:Int) (hl:p.1.length≤9999999):Wh.q77 (p,h)=some ((r_ p.1 h p.1.length:Int),()):=by
 obtain⟨l,nx,u⟩:=p
 have hl:l.length≤9999999:=hl
 have q:=xR (r:=Wh.CI) (fun i=>(((i:Int),(r_ l h i:Int),h,l,(l.length:Int)),())) (n:=l.length) (y:=((r_ l h l.length:Int),())) (fun i hi=>by
  have hb:=Ow l h i
  cases e:(bif decide ((l.getD i zF).2.1>0) then(l.getD i zF).1==h else false) with
  |true=>
   have e2:r_ l h (i+1)=r_ l h i+1:=by rw[r_,if_pos e]
   unfold zF at e
   simp only[Wh.CI,gl hi,g0,Int.toNat_natCast,e,iy,Bool.and_self,cond_true,mb (show i≤4611686018427387904 by omega),mb (show r_ l h i≤4611686018427387904 by omega),e2]
  |false=>
   have e2:r_ l h (i+1)=r_ l h i:=by rw[r_,e,if_neg (by simp)];rfl
   unfold zF at e
   simp only[Wh.CI,gl hi,g0,Int.toNat_natCast,e,iy,Bool.and_self,cond_true,cond_false,mb (show i≤4611686018427387904 by omega),e2]) (by
  have c1:decide ((l.length:Int)<(l.length:Int))=false:=decide_eq_false (by omega)
  simp only[Wh.CI,c1,cond_false]) 0 (Nat.zero_le _)
 have q':Comes Wh.CI ((0,0,h,l,(l.length:Int)),()) _:=q
 simp only[Wh.q77,cb q',cv q',cond_true]
theorem acB (p:Po) (hl:p.1.length=8):∃y,Comes Wh.BF ((0,()),p) y∧y=(if(decide (r_ p.1 0 8≤5)&&decide (r_ p.1 1 8≤5))=true then .inr ((),()) else .inl (false,())):=by
 have a (h:Int):=abX p h (by omega)
 rw[hl] at a
 by_cases h0:r_ p.1 0 8≤5
 ·have c0:decide ((r_ p.1 0 8:Int)>5)=false:=decide_eq_false (by omega)
  by_cases h1:r_ p.1 1 8≤5
  ·have c1:decide ((r_ p.1 1 8:Int)>5)=false:=decide_eq_false (by omega)
   refine⟨.inr ((),()),.again (x':=((1,()),p)) ?_ (.again (x':=((2,()),p)) ?_ (.out rfl)),by simp[h0,h1]⟩
   ·simp only[Wh.BF,a,Wh.F1 _ _ (a _),c0,nQ,iy,cond_true,cond_false];rfl
   ·simp only[Wh.BF,a,Wh.F1 _ _ (a _),c1,nQ,iy,cond_true,cond_false];rfl
  ·have c1:decide ((r_ p.1 1 8:Int)>5)=true:=decide_eq_true (by omega)
   refine⟨.inl (false,()),.again (x':=((1,()),p)) ?_ (.out ?_),by simp[h0,h1]⟩
   ·simp only[Wh.BF,a,Wh.F1 _ _ (a _),c0,nQ,iy,cond_true,cond_false];rfl
   ·simp only[Wh.BF,a,Wh.F1 _ _ (a _),c1,nQ,iy,cond_true];rfl
 ·have c0:decide ((r_ p.1 0 8:Int)>5)=true:=decide_eq_true (by omega)
  refine⟨.inl (false,()),.out ?_,by simp[h0]⟩
  simp only[Wh.BF,a,Wh.F1 _ _ (a _),c0,nQ,iy,cond_true];rfl
theorem acA (p:Po) (hl:p.1.length=8):∃y,Comes Wh.BB ((0,()),p) y∧y=(if(decide (r_ p.1 0 8≤5)&&decide (r_ p.1 1 8≤5))=true then .inr ((),()) else .inl (false,())):=by
 have a (h:Int):=W9 p h (by omega)
 rw[hl] at a
 by_cases h0:r_ p.1 0 8≤5
 ·have c0:decide ((r_ p.1 0 8:Int)>5)=false:=decide_eq_false (by omega)
  by_cases h1:r_ p.1 1 8≤5
  ·have c1:decide ((r_ p.1 1 8:Int)>5)=false:=decide_eq_false (by omega)
   refine⟨.inr ((),()),.again (x':=((1,()),p)) ?_ (.again (x':=((2,()),p)) ?_ (.out rfl)),by simp[h0,h1]⟩
   ·simp only[Wh.BB,a,Wh.F7 _ _ (a _),c0,nQ,iy,cond_true,cond_false];rfl
   ·simp only[Wh.BB,a,Wh.F7 _ _ (a _),c1,nQ,iy,cond_true,cond_false];rfl
  ·have c1:decide ((r_ p.1 1 8:Int)>5)=true:=decide_eq_true (by omega)
   refine⟨.inl (false,()),.again (x':=((1,()),p)) ?_ (.out ?_),by simp[h0,h1]⟩
   ·simp only[Wh.BB,a,Wh.F7 _ _ (a _),c0,nQ,iy,cond_true,cond_false];rfl
   ·simp only[Wh.BB,a,Wh.F7 _ _ (a _),c1,nQ,iy,cond_true];rfl
 ·have c0:decide ((r_ p.1 0 8:Int)>5)=true:=decide_eq_true (by omega)
  refine⟨.inl (false,()),.out ?_,by simp[h0]⟩
  simp only[Wh.BB,a,Wh.F7 _ _ (a _),c0,nQ,iy,cond_true];rfl
theorem ab0 (p:Po) (hp:p.1.length≤9999999):Wh.Dd p=some (By p,()):=by
 obtain⟨l,nx,u⟩:=p
 have hlm:l.length≤9999999:=hp
 unfold By
 by_cases hl:l.length=8
 ·have c1:((l.length:Int) != 8)=false:=by rw[hl];rfl
  have c2:(l.length==8)=true:=by rw[hl];rfl
  simp only[Wh.Dd,c1,c2,Ao,Wh.zc _ _ (Ao _ _ _),cond_false,nQ,Bool.or_true,iy,cond_true,Bool.true_and]
  cases hn:nG nx 0 7 with
  |false=>rfl
  |true=>
   simp only[Bool.not_true,cond_false,Bool.true_and]
   have q:=zV (r:=Wh.BE) (fun i=>(((),(i:Int)),(l,nx,u))) (n:=8) (p:=Ac l) (yf:=.inl (false,())) (yt:=.inr ((),(l,nx,u))) (fun i hi _ hr=>by
     have hi8:i<l.length:=by omega
     unfold Ac at hr
     rw[Bool.and_eq_true] at hr
     have a:=Sr (l.getD i zF)
     rw[hr.1] at a
     have qi:=zV (r:=Wh.As) (fun k=>(((k:Int),(),(i:Int)),(l,nx,u))) (n:=i) (p:=fun k=> !yO l i k) (yf:=.inl (false,())) (yt:=.inr (((),(i:Int)),(l,nx,u))) (fun k hk _ ht=>by
       have ht':yO l i k=false:=by simpa using ht
       unfold yO zF at ht'
       simp only[Wh.As,gl hk,gl hi8,gl (show k<l.length by omega),g0,Int.toNat_natCast,ht',Bool.or_true,iy,Bool.and_self,cond_true,cond_false,mb (show k≤4611686018427387904 by omega)]) (fun k hk _ ht=>by
       have ht':yO l i k=true:=by simpa using ht
       unfold yO zF at ht'
       simp only[Wh.As,gl hk,gl hi8,gl (show k<l.length by omega),g0,Int.toNat_natCast,ht',Bool.or_true,iy,Bool.and_self,cond_true]) (by
       have d1:decide ((i:Int)<(i:Int))=false:=decide_eq_false (by omega)
       simp only[Wh.As,d1,cond_false])
     rw[if_pos hr.2] at qi
     have Bg:Comes Wh.As ((0,(),(i:Int)),(l,nx,u)) _:=qi
     unfold zF at a
     simp only[Wh.BE,gl hi8,g0,Int.toNat_natCast,a,Wh.Lt _ _ a,nQ,iy,Bool.and_self,cond_true,Bool.not_true,cond_false,cb Bg,cv Bg,sumC,mb (show i≤4611686018427387904 by omega)]) (fun i hi _ hr=>by
     have hi8:i<l.length:=by omega
     unfold Ac at hr
     have a:=Sr (l.getD i zF)
     cases hok:okF (l.getD i zF) with
     |false=>
      rw[hok] at a
      unfold zF at a
      simp only[Wh.BE,gl hi8,g0,Int.toNat_natCast,a,Wh.Lt _ _ a,nQ,iy,Bool.and_self,cond_true,Bool.not_false]
     |true=>
      rw[hok] at a
      rw[hok,Bool.true_and] at hr
      have qi:=zV (r:=Wh.As) (fun k=>(((k:Int),(),(i:Int)),(l,nx,u))) (n:=i) (p:=fun k=> !yO l i k) (yf:=.inl (false,())) (yt:=.inr (((),(i:Int)),(l,nx,u))) (fun k hk _ ht=>by
       have ht':yO l i k=false:=by simpa using ht
       unfold yO zF at ht'
       simp only[Wh.As,gl hk,gl hi8,gl (show k<l.length by omega),g0,Int.toNat_natCast,ht',Bool.or_true,iy,Bool.and_self,cond_true,cond_false,mb (show k≤4611686018427387904 by omega)]) (fun k hk _ ht=>by
       have ht':yO l i k=true:=by simpa using ht
       unfold yO zF at ht'
       simp only[Wh.As,gl hk,gl hi8,gl (show k<l.length by omega),g0,Int.toNat_natCast,ht',Bool.or_true,iy,Bool.and_self,cond_true]) (by
       have d1:decide ((i:Int)<(i:Int))=false:=decide_eq_false (by omega)
       simp only[Wh.As,d1,cond_false])
      rw[if_neg (by rw[hr];simp)] at qi
      have Bg:Comes Wh.As ((0,(),(i:Int)),(l,nx,u)) _:=qi
      unfold zF at a
      simp only[Wh.BE,gl hi8,g0,Int.toNat_natCast,a,Wh.Lt _ _ a,nQ,iy,Bool.and_self,cond_true,Bool.not_true,cond_false,cb Bg,cv Bg,sumC]) (by
     have d1:decide (((8:Nat):Int)<(l.length:Int))=false:=decide_eq_false (by omega)
     simp only[Wh.BE,d1,cond_false])
   have q':Comes Wh.BE (((),0),(l,nx,u)) _:=q
   simp only[cb q',cv q',cond_true]
   cases hr:jS 8 (Ac l) with
   |false=>simp[sumC]
   |true=>
    obtain⟨y,hy,ey⟩:=acB (l,nx,u) hl
    simp only[if_true,sumC,cb hy,cv hy,cond_true,Bool.true_and]
    rw[ey]
    cases (decide (r_ l 0 8≤5)&&decide (r_ l 1 8≤5))<;>rfl
 ·have c1:((l.length:Int) != 8)=true:=bne_iff_ne.2 (by omega)
  have c2:(l.length==8)=false:=beq_eq_false_iff_ne.2 hl
  simp only[Wh.Dd,c1,c2,cond_true,Bool.not_true,Bool.not_false,Bool.true_or,iy,Bool.false_and]
theorem find_eq (p:Po) (ed bl:Int) (hl:p.1.length≤9999999):Wh.q32 (p,ed,bl)=some (AO (first p.1.length (fun i=>bif(p.1.getD i zF).2.1==ed then(p.1.getD i zF).2.2.1==bl else false)),()):=by
 obtain⟨l,nx,u⟩:=p
 have hl:l.length≤9999999:=hl
 have q:=Fz (r:=Wh.CA) (fun i=>(((i:Int),bl,ed,l,(l.length:Int)),())) (n:=l.length) (p:=fun i=>bif(l.getD i zF).2.1==ed then(l.getD i zF).2.2.1==bl else false) (yt:=fun i=>.inl ((i:Int),())) (yn:=.inr ((),())) (fun i hi hp=>by
   have hp':(bif(l.getD i zF).2.1==ed then(l.getD i zF).2.2.1==bl else false)=false:=hp
   unfold zF at hp'
   simp only[Wh.CA,gl hi,g0,Int.toNat_natCast,hp',iy,Bool.and_self,cond_true,cond_false,mb (show i≤4611686018427387904 by omega)]) (fun i hi hp=>by
   have hp':(bif(l.getD i zF).2.1==ed then(l.getD i zF).2.2.1==bl else false)=true:=hp
   unfold zF at hp'
   simp only[Wh.CA,gl hi,g0,Int.toNat_natCast,hp',iy,Bool.and_self,cond_true]) (by
   have d1:decide ((l.length:Int)<(l.length:Int))=false:=decide_eq_false (by omega)
   simp only[Wh.CA,d1,cond_false])
 have q':Comes Wh.CA ((0,bl,ed,l,(l.length:Int)),()) _:=q
 simp only[Wh.q32,cb q',cv q',cond_true]
 cases first l.length (fun i=>bif(l.getD i zF).2.1==ed then(l.getD i zF).2.2.1==bl else false)<;>rfl
theorem Wi (l:List Fr) (i:Nat) (hi:i<l.length) (hpos:(l.getD i zF).2.1>0) :
  ((AO (first l.length (fun k=>bif(l.getD k zF).2.1==(l.getD i zF).2.1 then(l.getD k zF).2.2.1==(l.getD i zF).2.2.1 else false))) != (i:Int)) = !jS i (fun k=> !yO l i k):=by
 have tw (k:Nat):yO l i k=(bif(l.getD k zF).2.1==(l.getD i zF).2.1 then(l.getD k zF).2.2.1==(l.getD i zF).2.2.1 else false):=by
  unfold yO
  rw[decide_eq_true hpos,cond_true]
  by_cases h1:(l.getD i zF).2.1=(l.getD k zF).2.1
  ·rw[beq_iff_eq.2 h1,beq_iff_eq.2 h1.symm,cond_true,cond_true]
   by_cases h2:(l.getD i zF).2.2.1=(l.getD k zF).2.2.1
   ·rw[beq_iff_eq.2 h2,beq_iff_eq.2 h2.symm]
   ·rw[beq_eq_false_iff_ne.2 h2,beq_eq_false_iff_ne.2 (Ne.symm h2)]
  ·rw[beq_eq_false_iff_ne.2 h1,beq_eq_false_iff_ne.2 (Ne.symm h1)];rfl
 rw[Wj (q:=fun k=>yO l i k) (fun k _=>(tw k).symm)]
 have self:yO l i i=true:=by rw[tw];simp
 cases ha:jS i (fun k=> !yO l i k) with
 |true=>
  have:=oL.1 ha
  rw[AP.2 ⟨hi,self,fun j hj=>by simpa using this j hj⟩]
  simp[AO]
 |false=>
  cases hf:first l.length (fun k=>yO l i k) with
  |none=>rfl
  |some k=>
   obtain⟨h1,h2,h3⟩:=AP.1 hf
   have:k≠i:=by
    rintro rfl
    have:jS k (fun j=> !yO l k j)=true:=oL.2 fun j hj=>by rw[h3 j hj];rfl
    rw[this] at ha;cases ha
   simp only[AO,Bool.not_false]
   exact bne_iff_ne.2 (by omega)
theorem Xb (p:Po) (hp:p.1.length≤9999999):Wh.Dc p=some (By p,()):=by
 obtain⟨l,nx,u⟩:=p
 have hlm:l.length≤9999999:=hp
 unfold By
 by_cases hl:l.length=8
 ·have c1:((l.length:Int) != 8)=false:=by rw[hl];rfl
  have c2:(l.length==8)=true:=by rw[hl];rfl
  simp only[Wh.Dc,c1,c2,yS,Wh.zo _ _ (yS _ _ _),cond_false,nQ,Bool.or_true,iy,cond_true,Bool.true_and]
  cases hn:nG nx 0 7 with
  |false=>rfl
  |true=>
   simp only[Bool.not_true,cond_false,Bool.true_and]
   have hrow:∀i,i<l.length→Wh.BA (((i:Int),(),l,(l.length:Int)),(l,nx,u))=if Ac l i=true then some (.inl ((((i+1:Nat):Int),(),l,(l.length:Int)),(l,nx,u))) else some (.inr (.inl (false,()))):=by
    intro i hi
    have w:=mb (show i≤4611686018427387904 by omega)
    have fd:=find_eq (l,nx,u) (l.getD i zF).2.1 (l.getD i zF).2.2.1 hlm
    simp only at fd
    cases hz:((l.getD i zF).2.1==0) with
    |true=>
     have hr:Ac l i=(((l.getD i zF).1==0&&((l.getD i zF).2.1==0&&((l.getD i zF).2.2.1==0&&((l.getD i zF).2.2.2.1==0&&((l.getD i zF).2.2.2.2.1==false&&true)))))):=by
      unfold Ac okF
      rw[hz,cond_true]
      have:jS i (fun k=> !yO l i k)=true:=oL.2 fun k _=>by
       have h0:(l.getD i zF).2.1=0:=eq_of_beq hz
       have d:decide ((l.getD i zF).2.1>0)=false:=decide_eq_false (by omega)
       unfold yO
       rw[d];rfl
      rw[this,Bool.and_true]
     rw[hr]
     unfold zF at hz ⊢
     simp only[Wh.BA,gl hi,g0,Int.toNat_natCast,hz,iy,Bool.and_self,cond_true,w]
     cases ((l.getD i ((0:Int),(0:Int),(0:Int),(0:Int),false,())).1==0&&(true&&((l.getD i ((0:Int),(0:Int),(0:Int),(0:Int),false,())).2.2.1==0&&((l.getD i ((0:Int),(0:Int),(0:Int),(0:Int),false,())).2.2.2.1==0&&((l.getD i ((0:Int),(0:Int),(0:Int),(0:Int),false,())).2.2.2.2.1==false&&true)))))<;>rfl
    |false=>
     have hr:Ac l i=((nG (l.getD i zF).1 0 1&&nG (l.getD i zF).2.1 1 99999&&nG (l.getD i zF).2.2.1 0 23&&nG (l.getD i zF).2.2.2.1 0 99999)&&jS i (fun k=> !yO l i k)):=by
      unfold Ac okF
      rw[hz,cond_false]
     have h47:(bif bif bif bif !nG (l.getD i zF).1 0 1 then true else !nG (l.getD i zF).2.1 1 99999 then true else !nG (l.getD i zF).2.2.1 0 23 then true else !nG (l.getD i zF).2.2.2.1 0 99999 then true else(AO (first l.length (fun k=>bif(l.getD k zF).2.1==(l.getD i zF).2.1 then(l.getD k zF).2.2.1==(l.getD i zF).2.2.1 else false))) != (i:Int)) = !Ac l i:=by
      rw[hr]
      cases h1:nG (l.getD i zF).2.1 1 99999 with
      |false=>cases nG (l.getD i zF).1 0 1<;>rfl
      |true=>
       have:(l.getD i zF).2.1>0:=by unfold nG at h1;have:=of_decide_eq_true h1;omega
       rw[Wi l i hi this]
       cases nG (l.getD i zF).1 0 1<;>cases nG (l.getD i zF).2.2.1 0 23<;>cases nG (l.getD i zF).2.2.2.1 0 99999<;>cases jS i (fun k=> !yO l i k)<;>rfl
     unfold zF at hz fd h47
     simp only[Wh.BA,gl hi,g0,Int.toNat_natCast,hz,R_,Wh.Lp _ _ (R_ _),yS,Wh.zo _ _ (yS _ _ _),fd,Wh.q32_v _ _ fd,h47,nQ,Bool.or_true,iy,Bool.and_self,cond_true,cond_false,w]
     cases Ac l i<;>rfl
   have q:=zV (r:=Wh.BA) (fun i=>(((i:Int),(),l,(l.length:Int)),(l,nx,u))) (n:=8) (p:=Ac l) (yf:=.inl (false,())) (yt:=.inr ((),(l,nx,u))) (fun i hi _ hr=>by
     rw[hrow i (by omega),if_pos hr]) (fun i hi _ hr=>by
     rw[hrow i (by omega),if_neg (by rw[hr];simp)]) (by
     have d1:decide (((8:Nat):Int)<(l.length:Int))=false:=decide_eq_false (by omega)
     simp only[Wh.BA,d1,cond_false])
   have q':Comes Wh.BA ((0,(),l,(l.length:Int)),(l,nx,u)) _:=q
   simp only[cb q',cv q',cond_true]
   cases hr:jS 8 (Ac l) with
   |false=>simp[sumC]
   |true=>
    obtain⟨y,hy,ey⟩:=acA (l,nx,u) hl
    simp only[if_true,sumC,cb hy,cv hy,cond_true,Bool.true_and]
    rw[ey]
    cases (decide (r_ l 0 8≤5)&&decide (r_ l 1 8≤5))<;>rfl
 ·have c1:((l.length:Int) != 8)=true:=bne_iff_ne.2 (by omega)
  have c2:(l.length==8)=false:=beq_eq_false_iff_ne.2 hl
  simp only[Wh.Dc,c1,c2,cond_true,Bool.not_true,Bool.not_false,Bool.true_or,iy,Bool.false_and]
end Pl
