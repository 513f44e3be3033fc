import Derived.Test.YtfeoanopdlpabaaGreatDoorX9
open Go Go.Ab
namespace Pl
theorem acq (w:an.D):Wh.Gv (w,w)=some (true,()):=by simp[Wh.Gv]
theorem Ww (a:List an.D)(h:a.length≤4611686018427387904):Wh.q94 (a,a)=some (true,()):=by
 have hl:Comes Wh.Hg (((0:Int),a,a),()) (.inr ((),())):=by
  refine yd (st:=fun i=>(((i:Int),a,a),())) (n:=a.length) ?_ ?_ 0 (Nat.zero_le _)
  ·intro i hi
   have h2:=gT (i:=i) (by omega)
   have h4:=acq (a[i])
   simp[Wh.Hg,Wh.ZA _ _ h4,iy,h2,hi,h4,nQ]
  ·simp[Wh.Hg]
 simp[Wh.q94,cb hl,cv hl]
theorem akh (a:an.D):Wh.Ie a=some (a,()):=rfl
theorem abN (a:List an.D)(h:a.length≤1048576):Wh.EK a=some (a,()):=by
 have hl:Comes Wh.EL (((0:Int),a,()),List.replicate a.length ((0:Int),([]:List UInt8),(0:Int),([]:List UInt8),())) ((),a):=by
  have:=yd (r:=Wh.EL) (st:=fun i=>(((i:Int),a,()),iB a ((0:Int),([]:List UInt8),(0:Int),([]:List UInt8),()) i)) (n:=a.length) (y:=((),a)) ?_ ?_ 0 (Nat.zero_le _)
  ·rw[Dc] at this;exact this
  ·intro i hi
   have hi':decide ((i:Int)<(a.length:Int))=true:=by simpa using hi
   have h0:decide ((0:Int)≤(i:Int))=true:=by simp
   have he:=akh (List.getD a i ((0:Int),([]:List UInt8),(0:Int),([]:List UInt8),()))
   have hs:(iB a ((0:Int),([]:List UInt8),(0:Int),([]:List UInt8),()) i).set i (List.getD a i ((0:Int),([]:List UInt8),(0:Int),([]:List UInt8),()))=iB a ((0:Int),([]:List UInt8),(0:Int),([]:List UInt8),()) (i+1):=Db a _ _ i hi
   simp only[Wh.EL,hi',h0,Int.toNat_natCast,Da a ((0:Int),([]:List UInt8),(0:Int),([]:List UInt8),()) i (by omega),he,Wh.ZG _ _ he,hs,gT (i:=i) (by omega),iy,nQ,cond_true,Bool.and_self]
  ·have hi':decide (((a.length:Nat):Int)<(a.length:Int))=false:=by simp
   simp only[Wh.EL,hi',cond_false,C_]
 have b0:decide ((0:Int)≤(a.length:Int))=true:=by simp
 have b1:decide ((a.length:Int)≤(dh:Int))=true:=decide_eq_true (by unfold dh;omega)
 simp only[Wh.EK,Int.toNat_natCast,cb hl,cv hl,b0,b1,Int.le_refl,decide_true,iy,cond_true,Bool.and_self]
theorem ajX (a:an.D)(n:Int):∃v,Wh.Gy (a,n)=some (v,()):=by
 simp only[Wh.Gy]
 repeat' (first|exact⟨_,rfl⟩|refine Ra _ ?_ ?_)
theorem abI (a:List an.D)(n:Int)(h:a.length≤1048576):∃v,Wh.q97 (a,n)=some (v,()):=by
 have hl:∀d k:Nat,k+d=a.length→∀m:Int,∃y,Comes Wh.Fx (((k:Int),m,a),()) y:=by
  intro d
  induction d with
  |zero=>
   intro k hk m
   have hk':decide ((k:Int)<(a.length:Int))=false:=by simp;omega
   exact⟨_,.out (by simp only[Wh.Fx,hk',cond_false];rfl)⟩
  |succ d ih=>
   intro k hk m
   have hk':decide ((k:Int)<(a.length:Int))=true:=by simp;omega
   have h0:decide ((0:Int)≤(k:Int))=true:=by simp
   have w:=gT (i:=k) (by omega)
   obtain⟨v,hv⟩:=ajX (List.getD a k ((0:Int),([]:List UInt8),(0:Int),([]:List UInt8),())) m
   cases hd:decide (v<0) with
   |true=>exact⟨_,.out (by simp only[Wh.Fx,hk',h0,Int.toNat_natCast,hv,Wh.SV _ _ hv,hd,iy,nQ,cond_true,Bool.and_self];rfl)⟩
   |false=>
    obtain⟨y,hy⟩:=ih (k+1) (by omega) v
    exact⟨y,.again (by simp only[Wh.Fx,hk',h0,w,Int.toNat_natCast,hv,Wh.SV _ _ hv,hd,iy,nQ,cond_true,cond_false,Bool.and_self]) hy⟩
 simp only[Wh.q97]
 cases decide (IntKind.wrap .i64 (n-(a.length:Int))<0) with
 |true=>exact⟨_,rfl⟩
 |false=>
  obtain⟨y,hy⟩:=hl a.length 0 (by omega) (IntKind.wrap .i64 (n-(a.length:Int)))
  have e1:=cb hy
  have e2:=cv hy Wh.Ve
  rw[show(((0:Nat):Int))=0 from rfl] at e1 e2
  simp only[e1,e2,cond_true,cond_false]
  cases y with
  |inl y=>exact⟨_,rfl⟩
  |inr y=>exact⟨_,rfl⟩
theorem aco (w:ng.D):Wh.q93 (w,w)=some (true,()):=by simp[Wh.q93]
theorem acn (a:List ng.D)(h:a.length≤4611686018427387904):Wh.q58 (a,a)=some (true,()):=by
 have hl:Comes Wh.G8 (((0:Int),a,a),()) (.inr ((),())):=by
  refine yd (st:=fun i=>(((i:Int),a,a),())) (n:=a.length) ?_ ?_ 0 (Nat.zero_le _)
  ·intro i hi
   have h2:=gT (i:=i) (by omega)
   have h4:=aco (a[i])
   simp[Wh.G8,Wh.q93_v _ _ h4,iy,h2,hi,h4,nQ]
  ·simp[Wh.G8]
 simp[Wh.q58,cb hl,cv hl]
theorem akg (a:ng.D):Wh.q99 a=some (a,()):=rfl
theorem akf (a:List ng.D)(h:a.length≤1048576):Wh.q71 a=some (a,()):=by
 have hl:Comes Wh.Fq (((0:Int),a,()),List.replicate a.length ((0:Int),(0:Int),(0:Int),(0:Int),false,())) ((),a):=by
  have:=yd (r:=Wh.Fq) (st:=fun i=>(((i:Int),a,()),iB a ((0:Int),(0:Int),(0:Int),(0:Int),false,()) i)) (n:=a.length) (y:=((),a)) ?_ ?_ 0 (Nat.zero_le _)
  ·rw[Dc] at this;exact this
  ·intro i hi
   have hi':decide ((i:Int)<(a.length:Int))=true:=by simpa using hi
   have h0:decide ((0:Int)≤(i:Int))=true:=by simp
   have he:=akg (List.getD a i ((0:Int),(0:Int),(0:Int),(0:Int),false,()))
   have hs:(iB a ((0:Int),(0:Int),(0:Int),(0:Int),false,()) i).set i (List.getD a i ((0:Int),(0:Int),(0:Int),(0:Int),false,()))=iB a ((0:Int),(0:Int),(0:Int),(0:Int),false,()) (i+1):=Db a _ _ i hi
   simp only[Wh.Fq,hi',h0,Int.toNat_natCast,Da a ((0:Int),(0:Int),(0:Int),(0:Int),false,()) i (by omega),he,Wh.q99_v _ _ he,hs,gT (i:=i) (by omega),iy,nQ,cond_true,Bool.and_self]
  ·have hi':decide (((a.length:Nat):Int)<(a.length:Int))=false:=by simp
   simp only[Wh.Fq,hi',cond_false,C_]
 have b0:decide ((0:Int)≤(a.length:Int))=true:=by simp
 have b1:decide ((a.length:Int)≤(dh:Int))=true:=decide_eq_true (by unfold dh;omega)
 simp only[Wh.q71,Int.toNat_natCast,cb hl,cv hl,b0,b1,Int.le_refl,decide_true,iy,cond_true,Bool.and_self]
theorem ajV (a:List ng.D)(n:Int):∃v,Wh.q64 (a,n)=some (v,()):=by
 simp only[Wh.q64]
 cases decide (IntKind.wrap .i64 (n-(a.length:Int))<0)<;>exact⟨_,rfl⟩
theorem acg (w:nI.D):Wh.q56 (w,w)=some (true,()):=by simp[Wh.q56]
theorem acf (a:List nI.D)(h:a.length≤4611686018427387904):Wh.q30 (a,a)=some (true,()):=by
 have hl:Comes Wh.G2 (((0:Int),a,a),()) (.inr ((),())):=by
  refine yd (st:=fun i=>(((i:Int),a,a),())) (n:=a.length) ?_ ?_ 0 (Nat.zero_le _)
  ·intro i hi
   have h2:=gT (i:=i) (by omega)
   have h4:=acg (a[i])
   simp[Wh.G2,Wh.q56_v _ _ h4,iy,h2,hi,h4,nQ]
  ·simp[Wh.G2]
 simp[Wh.q30,cb hl,cv hl]
theorem aj_ (a:nI.D):Wh.q69 a=some (a,()):=rfl
theorem aj9 (a:List nI.D)(h:a.length≤1048576):Wh.q38 a=some (a,()):=by
 have hl:Comes Wh.Fh (((0:Int),a,()),List.replicate a.length ((0:Int),(0:Int),(0:Int),(0:Int),())) ((),a):=by
  have:=yd (r:=Wh.Fh) (st:=fun i=>(((i:Int),a,()),iB a ((0:Int),(0:Int),(0:Int),(0:Int),()) i)) (n:=a.length) (y:=((),a)) ?_ ?_ 0 (Nat.zero_le _)
  ·rw[Dc] at this;exact this
  ·intro i hi
   have hi':decide ((i:Int)<(a.length:Int))=true:=by simpa using hi
   have h0:decide ((0:Int)≤(i:Int))=true:=by simp
   have he:=aj_ (List.getD a i ((0:Int),(0:Int),(0:Int),(0:Int),()))
   have hs:(iB a ((0:Int),(0:Int),(0:Int),(0:Int),()) i).set i (List.getD a i ((0:Int),(0:Int),(0:Int),(0:Int),()))=iB a ((0:Int),(0:Int),(0:Int),(0:Int),()) (i+1):=Db a _ _ i hi
   simp only[Wh.Fh,hi',h0,Int.toNat_natCast,Da a ((0:Int),(0:Int),(0:Int),(0:Int),()) i (by omega),he,Wh.q69_v _ _ he,hs,gT (i:=i) (by omega),iy,nQ,cond_true,Bool.and_self]
  ·have hi':decide (((a.length:Nat):Int)<(a.length:Int))=false:=by simp
   simp only[Wh.Fh,hi',cond_false,C_]
 have b0:decide ((0:Int)≤(a.length:Int))=true:=by simp
 have b1:decide ((a.length:Int)≤(dh:Int))=true:=decide_eq_true (by unfold dh;omega)
 simp only[Wh.q38,Int.toNat_natCast,cb hl,cv hl,b0,b1,Int.le_refl,decide_true,iy,cond_true,Bool.and_self]
theorem ajQ (a:List nI.D)(n:Int):∃v,Wh.q34 (a,n)=some (v,()):=by
 simp only[Wh.q34]
 cases decide (IntKind.wrap .i64 (n-(a.length:Int))<0)<;>exact⟨_,rfl⟩
theorem acy (w:r5.D):Wh.q95 (w,w)=some (true,()):=by simp[Wh.q95]
theorem acw (a:List r5.D)(h:a.length≤4611686018427387904):Wh.q60 (a,a)=some (true,()):=by
 have hl:Comes Wh.G9 (((0:Int),a,a),()) (.inr ((),())):=by
  refine yd (st:=fun i=>(((i:Int),a,a),())) (n:=a.length) ?_ ?_ 0 (Nat.zero_le _)
  ·intro i hi
   have h2:=gT (i:=i) (by omega)
   have h4:=acy (a[i])
   simp[Wh.G9,Wh.q95_v _ _ h4,iy,h2,hi,h4,nQ]
  ·simp[Wh.G9]
 simp[Wh.q60,cb hl,cv hl]
theorem akn (a:r5.D):Wh.Ic a=some (a,()):=rfl
theorem akm (a:List r5.D)(h:a.length≤1048576):Wh.q73 a=some (a,()):=by
 have hl:Comes Wh.Fs (((0:Int),a,()),List.replicate a.length ((0:Int),(0:Int),(0:Int),(0:Int),(0:Int),(0:Int),())) ((),a):=by
  have:=yd (r:=Wh.Fs) (st:=fun i=>(((i:Int),a,()),iB a ((0:Int),(0:Int),(0:Int),(0:Int),(0:Int),(0:Int),()) i)) (n:=a.length) (y:=((),a)) ?_ ?_ 0 (Nat.zero_le _)
  ·rw[Dc] at this;exact this
  ·intro i hi
   have hi':decide ((i:Int)<(a.length:Int))=true:=by simpa using hi
   have h0:decide ((0:Int)≤(i:Int))=true:=by simp
   have he:=akn (List.getD a i ((0:Int),(0:Int),(0:Int),(0:Int),(0:Int),(0:Int),()))
   have hs:(iB a ((0:Int),(0:Int),(0:Int),(0:Int),(0:Int),(0:Int),()) i).set i (List.getD a i ((0:Int),(0:Int),(0:Int),(0:Int),(0:Int),(0:Int),()))=iB a ((0:Int),(0:Int),(0:Int),(0:Int),(0:Int),(0:Int),()) (i+1):=Db a _ _ i hi
   simp only[Wh.Fs,hi',h0,Int.toNat_natCast,Da a ((0:Int),(0:Int),(0:Int),(0:Int),(0:Int),(0:Int),()) i (by omega),he,Wh.Y_ _ _ he,hs,gT (i:=i) (by omega),iy,nQ,cond_true,Bool.and_self]
  ·have hi':decide (((a.length:Nat):Int)<(a.length:Int))=false:=by simp
   simp only[Wh.Fs,hi',cond_false,C_]
 have b0:decide ((0:Int)≤(a.length:Int))=true:=by simp
 have b1:decide ((a.length:Int)≤(dh:Int))=true:=decide_eq_true (by unfold dh;omega)
 simp only[Wh.q73,Int.toNat_natCast,cb hl,cv hl,b0,b1,Int.le_refl,decide_true,iy,cond_true,Bool.and_self]
theorem aj1 (a:List r5.D)(n:Int):∃v,Wh.q66 (a,n)=some (v,()):=by
 simp only[Wh.q66]
 cases decide (IntKind.wrap .i64 (n-(a.length:Int))<0)<;>exact⟨_,rfl⟩
def Nb (c:fk.D):Prop:=c.2.1.length≤1048576
def Nc (p:n4.D):Prop:=p.1.length≤1048576
structure FR (s:nC.D):Prop where
 log:s.2.2.1.length≤1048576
 cat:Nb s.2.2.2.1
 items:∀x∈s.2.2.2.1.2.1,x.2.1.length≤1048576∧x.2.2.2.1.length≤1048576
 NU:Nc s.2.2.2.2.1
 bks:s.2.2.2.2.2.1.length≤1048576
 CV:s.2.2.2.2.2.2.1.length≤1048576
theorem ach (c:fk.D)(h:Nb c):Wh.GJ (c,c)=some (true,()):=by
 have e:=Ww c.2.1 (by unfold Nb at h;omega)
 simp[Wh.GJ,e,Wh.Vc _ _ e,iy,nQ]
theorem acv (c:n4.D)(h:Nc c):Wh.Gx (c,c)=some (true,()):=by
 have e:=acn c.1 (by unfold Nc at h;omega)
 simp[Wh.Gx,e,Wh.q58_v _ _ e,iy,nQ]
theorem acz (s:nC.D)(h:FR s):Wh.q61 (s,s)=some (true,()):=by
 have e1:=ach _ h.cat
 have e2:=acv _ h.NU
 have e3:=acf s.2.2.2.2.2.1 (by have:=h.bks;omega)
 have e4:=acw s.2.2.2.2.2.2.1 (by have:=h.CV;omega)
 simp[Wh.q61,e1,e2,e3,e4,Wh.Z4 _ _ e1,Wh.ZB _ _ e2,Wh.q30_v _ _ e3,Wh.q60_v _ _ e4,iy,nQ]
theorem aka (c:fk.D)(h:Nb c):Wh.GO c=some (c,()):=by
 have e:=abN c.2.1 h
 simp only[Wh.GO,e,Wh.Sn _ _ e,iy,nQ,cond_true]
theorem akl (c:n4.D)(h:Nc c):Wh.GC c=some (c,()):=by
 have e:=akf c.1 h
 simp only[Wh.GC,e,Wh.q71_v _ _ e,iy,nQ,cond_true]
theorem ako (s:nC.D)(h:FR s):Wh.q74 s=some (s,()):=by
 have e1:=aka _ h.cat
 have e2:=akl _ h.NU
 have e3:=aj9 s.2.2.2.2.2.1 h.bks
 have e4:=akm s.2.2.2.2.2.2.1 h.CV
 simp only[Wh.q74,e1,e2,e3,e4,Wh.Z8 _ _ e1,Wh.ZI _ _ e2,Wh.q38_v _ _ e3,Wh.q73_v _ _ e4,iy,nQ,cond_true]
theorem aj2 (s:nC.D)(n:Int)(h:FR s):∃v,Wh.q67 (s,n)=some (v,()):=by
 have c1:∀n,∃v,Wh.GM (s.2.2.2.1,n)=some (v,()):=by
  intro n
  obtain⟨v,hv⟩:=abI s.2.2.2.1.2.1 n h.cat
  simp only[Wh.GM,hv,Wh.Vf _ _ hv,iy,nQ,cond_true]
  cases decide (v<0)<;>exact⟨_,rfl⟩
 have c2:∀n,∃v,Wh.GA (s.2.2.2.2.1,n)=some (v,()):=by
  intro n
  obtain⟨v,hv⟩:=ajV s.2.2.2.2.1.1 n
  simp only[Wh.GA,hv,Wh.q64_v _ _ hv,iy,nQ,cond_true]
  cases decide (v<0)<;>exact⟨_,rfl⟩
 obtain⟨v1,h1⟩:=c1 (IntKind.wrap .i64 (n-(s.2.2.1.length:Int)))
 obtain⟨v2,h2⟩:=c2 v1
 obtain⟨v3,h3⟩:=ajQ s.2.2.2.2.2.1 v2
 obtain⟨v4,h4⟩:=aj1 s.2.2.2.2.2.2.1 v3
 simp only[Wh.q67,h1,h2,h3,h4,Wh.Z6 _ _ h1,Wh.ZD _ _ h2,Wh.q34_v _ _ h3,Wh.q66_v _ _ h4,iy,nQ,cond_true]
 repeat' (first|exact⟨_,rfl⟩|refine Ra _ ?_ ?_)
theorem ajp (s:nC.D)(h:fR nC s≤1048576):FR s:=by
 have e:fR nC s=1+(1+((s.2.2.1.length+1)+((1+(((s.2.2.2.1.2.1.map (fR an)).sum+1)+0))+((((s.2.2.2.2.1.1.map (fR ng)).sum+1)+(1+0))+(((s.2.2.2.2.2.1.map (fR nI)).sum+1)+(((s.2.2.2.2.2.2.1.map (fR r5)).sum+1)+0)))))):=rfl
 rw[e] at h
 have i0:∀x:an.D,fR an x=1+((x.2.1.length+1)+(1+((x.2.2.2.1.length+1)+0))):=fun _=>rfl
 have l1:=vH (fR an) (fun x=>by rw[i0];omega) s.2.2.2.1.2.1
 have l2:=vH (fR ng) (fun x=>by show 1≤1+(1+(1+(1+(1+0))));omega) s.2.2.2.2.1.1
 have l3:=vH (fR nI) (fun x=>by show 1≤1+(1+(1+(1+0)));omega) s.2.2.2.2.2.1
 have l4:=vH (fR r5) (fun x=>by show 1≤1+(1+(1+(1+(1+(1+0)))));omega) s.2.2.2.2.2.2.1
 refine⟨by omega,by show _≤_;omega,fun x hx=>?_,by show _≤_;omega,by omega,by omega⟩
 have:=xg (fR an) _ x hx
 rw[i0] at this
 exact⟨by omega,by omega⟩
end Pl
open Go Go.Ab Go.Lib
namespace Pl
instance itDec:DecidableEq It:=inferInstanceAs (DecidableEq (Int×List UInt8×Int×List UInt8×Unit))
instance ctDec:DecidableEq Ct:=fun a b=>if h1:a.1=b.1 then if h2:a.2.1=b.2.1 then .isTrue (by obtain⟨_,_,_⟩:=a;obtain⟨_,_,_⟩:=b;simp_all) else .isFalse (fun e=>h2 (by rw[e])) else .isFalse (fun e=>h1 (by rw[e]))
theorem EB (a b:It):(a.1==b.1&&(a.2.1==b.2.1&&(a.2.2.1==b.2.2.1&&(a.2.2.2.1==b.2.2.2.1&&true))))=decide (a=b):=by
 obtain⟨a1,a2,a3,a4,a5⟩:=a
 obtain⟨b1,b2,b3,b4,b5⟩:=b
 rw[Bool.eq_iff_iff]
 simp
theorem XI (a b:List It)(h:a.length=b.length):jS a.length (fun i=>decide (a.getD i z0=b.getD i z0))=decide (a=b):=by
 rw[Bool.eq_iff_iff,oL,decide_eq_true_iff]
 constructor
 ·intro hh
  refine List.ext_getElem h fun i h1 h2=>?_
  have:=of_decide_eq_true (hh i h1)
  rwa[getD_eq _ _ _ h1,getD_eq _ _ _ h2] at this
 ·rintro rfl i _;exact decide_eq_true rfl
theorem ct_eq (a b:Ct)(hl:a.2.1.length=b.2.1.length):(decide (a.1=b.1)&&decide (a.2.1=b.2.1))=decide (a=b):=by
 obtain⟨a1,a2,a3⟩:=a
 obtain⟨b1,b2,b3⟩:=b
 rw[Bool.eq_iff_iff]
 simp
theorem ajw (a b:Ct)(hl:a.2.1.length≤9999999):Wh.Dt (a,b)=some (decide (a=b),()):=by
 by_cases h1:a.1=b.1
 ·by_cases h2:a.2.1.length=b.2.1.length
  ·have c1:(a.1 != b.1)=false:=by simp[h1]
   have c2:((a.2.1.length:Int) != (b.2.1.length:Int))=false:=by simp[h2]
   have q:=xT (r:=Wh.Du) (fun i=>(((i:Int),(),()),b,a)) (n:=a.2.1.length) (p:=fun i=>decide (a.2.1.getD i z0=b.2.1.getD i z0)) (yf:=.inl (false,())) (yt:=.inr ((),())) (fun i hi _ hp=>by
     have hp':=(EB (a.2.1.getD i z0) (b.2.1.getD i z0)).trans hp
     unfold z0 at hp'
     simp only[Wh.Du,gl hi,gl (show i<b.2.1.length by omega),g0,Int.toNat_natCast,hp',iy,Bool.and_self,Bool.not_true,cond_true,cond_false,gT (show i≤4611686018427387904 by omega)]) (fun i hi _ hp=>by
     have hp':=(EB (a.2.1.getD i z0) (b.2.1.getD i z0)).trans hp
     unfold z0 at hp'
     simp only[Wh.Du,gl hi,gl (show i<b.2.1.length by omega),g0,Int.toNat_natCast,hp',iy,Bool.and_self,Bool.not_false,cond_true]) (by
     have d1:decide ((a.2.1.length:Int)<(a.2.1.length:Int))=false:=decide_eq_false (by omega)
     simp only[Wh.Du,d1,cond_false])
   rw[XI _ _ h2] at q
   have q':Comes Wh.Du ((0,(),()),b,a) _:=q
   simp only[Wh.Dt,c1,c2,cond_false,cb q',cv q',cond_true]
   rw[←ct_eq a b h2,decide_eq_true h1,Bool.true_and]
   cases decide (a.2.1=b.2.1)<;>rfl
  ·have c1:(a.1 != b.1)=false:=by simp[h1]
   have c2:((a.2.1.length:Int) != (b.2.1.length:Int))=true:=bne_iff_ne.2 (by omega)
   simp only[Wh.Dt,c1,c2,cond_false,cond_true]
   rw[decide_eq_false (by rintro rfl;exact h2 rfl)]
 ·have c1:(a.1 != b.1)=true:=bne_iff_ne.2 h1
  simp only[Wh.Dt,c1,cond_true]
  rw[decide_eq_false (by rintro rfl;exact h1 rfl)]
theorem adO (a b:Ct)(hl:a.2.1.length≤9999999):Wh.q92 (a,b)=some (decide (a=b),()):=by
 have he:Wh.q12 (a.2.1,b.2.1)=some (decide (a.2.1=b.2.1),()):=by
  by_cases h2:a.2.1.length=b.2.1.length
  ·have c2:((a.2.1.length:Int) != (b.2.1.length:Int))=false:=by simp[h2]
   have q:=xT (r:=Wh.DA) (fun i=>(((i:Int),b.2.1,a.2.1,(a.2.1.length:Int)),())) (n:=a.2.1.length) (p:=fun i=>decide (a.2.1.getD i z0=b.2.1.getD i z0)) (yf:=.inl (false,())) (yt:=.inr ((),())) (fun i hi _ hp=>by
     have hp':=(EB (a.2.1.getD i z0) (b.2.1.getD i z0)).trans hp
     unfold z0 at hp'
     simp only[Wh.DA,gl hi,gl (show i<b.2.1.length by omega),g0,Int.toNat_natCast,hp',iy,Bool.and_self,Bool.not_true,cond_true,cond_false,gT (show i≤4611686018427387904 by omega)]) (fun i hi _ hp=>by
     have hp':=(EB (a.2.1.getD i z0) (b.2.1.getD i z0)).trans hp
     unfold z0 at hp'
     simp only[Wh.DA,gl hi,gl (show i<b.2.1.length by omega),g0,Int.toNat_natCast,hp',iy,Bool.and_self,Bool.not_false,cond_true]) (by
     have d1:decide ((a.2.1.length:Int)<(a.2.1.length:Int))=false:=decide_eq_false (by omega)
     simp only[Wh.DA,d1,cond_false])
   rw[XI _ _ h2] at q
   have q':Comes Wh.DA ((0,b.2.1,a.2.1,(a.2.1.length:Int)),()) _:=q
   simp only[Wh.q12,c2,cond_false,cb q',cv q',cond_true]
   cases decide (a.2.1=b.2.1)<;>rfl
  ·have c2:((a.2.1.length:Int) != (b.2.1.length:Int))=true:=bne_iff_ne.2 (by omega)
   simp only[Wh.q12,c2,cond_true]
   rw[decide_eq_false (fun e=>h2 (by rw[e]))]
 have hd:(bif a.1==b.1 then decide (a.2.1=b.2.1) else false)=decide (a=b):=by
  obtain⟨a1,a2,a3⟩:=a
  obtain⟨b1,b2,b3⟩:=b
  by_cases h1:a1=b1
  ·simp[h1]
  ·simp[h1]
 simp only[Wh.q92,he,Wh.q12_v _ _ he,nQ,Bool.or_true,iy,cond_true,hd]
def Az (l:List It)(e:Int):Option Nat:=first l.length fun i=>(l.getD i z0).2.2.1==e
def edI (l:List It):Option Nat→It
 |some i=>l.getD i z0
 |none=>z0
theorem aby (c:Ct)(e:Int)(hl:c.2.1.length≤9999999):Wh.q44 (c,e)=some ((edI c.2.1 (Az c.2.1 e),(Az c.2.1 e).isSome),()):=by
 obtain⟨ce,l,u⟩:=c
 have hl:l.length≤9999999:=hl
 have q:=C9 (r:=Wh.D0) (fun i=>(((),(i:Int),(),e),((0:Int),([]:List UInt8),(0:Int),([]:List UInt8),()),(ce,l,u))) (n:=l.length) (p:=fun i=>(l.getD i z0).2.2.1==e) (yt:=fun i=>.inl (((),true),l.getD i z0)) (yn:=.inr ((),(0:Int),[],(0:Int),[],())) (fun i hi hp=>by
   have hp':((l.getD i z0).2.2.1==e)=false:=hp
   unfold z0 at hp'
   simp only[Wh.D0,gl hi,g0,Int.toNat_natCast,hp',iy,Bool.and_self,cond_true,cond_false,gT (show i≤4611686018427387904 by omega)]) (fun i hi hp=>by
   have hp':((l.getD i z0).2.2.1==e)=true:=hp
   unfold z0 at hp' ⊢
   simp only[Wh.D0,gl hi,g0,Int.toNat_natCast,hp',iy,Bool.and_self,cond_true]) (by
   have d1:decide ((l.length:Int)<(l.length:Int))=false:=decide_eq_false (by omega)
   simp only[Wh.D0,d1,cond_false])
 have q':Comes Wh.D0 (((),0,(),e),((0:Int),([]:List UInt8),(0:Int),([]:List UInt8),()),(ce,l,u)) _:=q
 simp only[Wh.q44,cb q',cv q',cond_true,Az]
 cases first l.length (fun i=>(l.getD i z0).2.2.1==e)<;>rfl
theorem Xi (c:Ct)(e:Int)(hl:c.2.1.length≤9999999):Wh.DH (c,e)=some (Bw (Az c.2.1 e),()):=by
 obtain⟨ce,l,u⟩:=c
 have hl:l.length≤9999999:=hl
 have f (x:It):Wh.Im (x,e)=some ((x.2.2.1==e),()):=rfl
 have q:=C9 (r:=Wh.DX) (fun i=>(((i:Int),l,(e,()),(l.length:Int)),())) (n:=l.length) (p:=fun i=>(l.getD i z0).2.2.1==e) (yt:=fun i=>.inl ((i:Int),())) (yn:=.inr ((),())) (fun i hi hp=>by
   have hp':((l.getD i z0).2.2.1==e)=false:=hp
   unfold z0 at hp'
   simp only[Wh.DX,gl hi,g0,Int.toNat_natCast,f,Wh.q8_v _ _ (f _),hp',nQ,iy,Bool.and_self,cond_true,cond_false,gT (show i≤4611686018427387904 by omega)]) (fun i hi hp=>by
   have hp':((l.getD i z0).2.2.1==e)=true:=hp
   unfold z0 at hp'
   simp only[Wh.DX,gl hi,g0,Int.toNat_natCast,f,Wh.q8_v _ _ (f _),hp',nQ,iy,Bool.and_self,cond_true]) (by
   have d1:decide ((l.length:Int)<(l.length:Int))=false:=decide_eq_false (by omega)
   simp only[Wh.DX,d1,cond_false])
 have q':Comes Wh.DX ((0,l,(e,()),(l.length:Int)),()) _:=q
 have h:Wh.q2 (l,e,())=some (Bw (Az l e),()):=by
  simp only[Wh.q2,cb q',cv q',cond_true,Az]
  cases first l.length (fun i=>(l.getD i z0).2.2.1==e)<;>rfl
 simp only[Wh.DH,h,Wh.q2_v _ _ h,nQ,iy,cond_true]
theorem Wt:Wh.AI=Wh.z_:=rfl
theorem Wu:Wh.zi=Wh.y8:=rfl
def AN (a b:Int):Int:=IntKind.wrap .i64 (Int.tdiv (IntKind.wrap .i64 (IntKind.wrap .i64 (a+b)-1)) b)
theorem count_eq (a b:Int)(x y:List Int)(u:Unit)(h:b≠0):Wh.z_ (a,b,x,y,u)=some (AN a b,()):=by
 have c:(b != 0)=true:=bne_iff_ne.2 h
 simp only[Wh.z_,c,iy,cond_true];rfl
theorem ab5 (a b:Nat)(ha:a≤100000)(hb:1≤b)(bZ:b≤1000):AN a b=(((a+b-1) / b:Nat):Int):=by
 have w1:IntKind.wrap .i64 ((a:Int)+(b:Int))=((a+b:Nat):Int):=wi (by omega) (by omega)
 have w2:IntKind.wrap .i64 (((a+b:Nat):Int)-1)=((a+b-1:Nat):Int):=wi (by omega) (by omega)
 have w3:Int.tdiv ((a+b-1:Nat):Int) (b:Int)=(((a+b-1) / b:Nat):Int):=by rw[Int.tdiv_eq_ediv_of_nonneg (by omega)];rfl
 have hle:(a+b-1) / b≤a+b-1:=Nat.div_le_self _ _
 rw[AN,w1,w2,w3];exact wi rfl (by omega)
theorem adA (L:Nat)(hL:L≤300):∀d s:Nat,s+d=13→1≤s→∃s':Nat,1≤s'∧s'≤13∧Comes Wh.DN (((),()),((L:Int),(s:Int),(),(),()),((0:Int),(0:Int),(),(),()),[],[],[],[]) (((),()),((0:Int),(0:Int),(),(),()),((L:Int),(s':Int),(),(),()),[],[],[],[]):=by
 intro d
 induction d with
 |zero=>
  intro s h1 h2
  have:s=13:=by omega
  subst this
  refine⟨13,by omega,by omega,.out ?_⟩
  have a:=count_eq (L:Int) ((13:Nat):Int) [] [] () (by omega)
  rw[ab5 L 13 (by omega) (by omega) (by omega)] at a
  have c1:decide ((((L+13-1) / 13:Nat):Int)>24)=false:=decide_eq_false (by omega)
  simp only[Wh.DN,a,Wh.CD _ _ a,c1,nQ,iy,cond_true,cond_false]
 |succ d ih=>
  intro s h1 h2
  have a:=count_eq (L:Int) (s:Int) [] [] () (by omega)
  cases hc:decide (AN (L:Int) (s:Int)>24) with
  |true=>
   obtain⟨s',g1,g2,g3⟩:=ih (s+1) (by omega) (by omega)
   refine⟨s',g1,g2,.again ?_ g3⟩
   simp only[Wh.DN,a,Wh.CD _ _ a,hc,nQ,iy,cond_true,gT (show s≤4611686018427387904 by omega)]
  |false=>
   refine⟨s,by omega,by omega,.out ?_⟩
   simp only[Wh.DN,a,Wh.CD _ _ a,hc,nQ,iy,cond_true,cond_false]
theorem Y3 (L:Nat)(h1:1≤L)(hL:L≤300):∃P:r_.D,P.2.1≠0∧Wh.Fc (L:Int)=some (P,())∧Wh.q87 (L:Int)=some (P,()):=by
 obtain⟨s,g1,g2,g3⟩:=adA L hL 5 8 (by omega) (by omega)
 have g3':Comes Wh.DN (((),()),((L:Int),(8:Int),(),(),()),((0:Int),(0:Int),(),(),()),[],[],[],[]) _:=g3
 have g4:Comes Wh.J4 (((),()),((L:Int),(8:Int),(),(),()),((0:Int),(0:Int),(),(),()),[],[],[],[]) _:=g3
 have a:=count_eq (L:Int) (s:Int) [] [] () (by omega)
 have wi1:wh (L:Int) 1 300=true:=decide_eq_true (by omega)
 cases hk:decide (IntKind.wrap .i64 (Int.tdiv (IntKind.wrap .i64 (AN (L:Int) (s:Int)+3)) 4)<AN (L:Int) (s:Int)) with
 |true=>
  refine⟨((L:Int),(s:Int),[IntKind.wrap .i64 (Int.tdiv (IntKind.wrap .i64 (AN (L:Int) (s:Int)+3)) 4),AN (L:Int) (s:Int)],[(2:Int),(3:Int)],()),by simp only;omega,?_,?_⟩
  ·simp only[Wh.Fc,cb g3',cv g3',cond_true,a,Wh.CD _ _ a,hk,nQ,iy]
  ·simp only[Wh.q87,zk,Wh.zL _ _ (zk _ _ _),wi1,cb g4,cv g4,cond_true,cond_false,Bool.not_true,Wt,Wu,a,Wh.CD _ _ a,hk,nQ,iy]
 |false=>
  refine⟨((L:Int),(s:Int),[AN (L:Int) (s:Int)],[(1:Int)],()),by simp only;omega,?_,?_⟩
  ·simp only[Wh.Fc,cb g3',cv g3',cond_true,a,Wh.CD _ _ a,hk,nQ,iy,cond_false]
  ·simp only[Wh.q87,zk,Wh.zL _ _ (zk _ _ _),wi1,cb g4,cv g4,cond_true,cond_false,Bool.not_true,Wt,Wu,a,Wh.CD _ _ a,hk,nQ,iy]
noncomputable def Jy (L:Int):Int:=AN (Wh.JR L).1.1 (Wh.JR L).1.2.1
noncomputable def Dd (c:Ct) (f:Fr):Bool:=bif decide (f.2.2.2.1>0) then true else bif decide (f.2.1>0) then(match Az c.2.1 f.2.1 with
 |none=>true
 |some k=>bif(c.2.1.getD k z0).1 != f.1 then true else decide (f.2.2.1≥Jy ((c.2.1.getD k z0).2.2.2.1.length:Int))) else false
theorem Rj {l:List It}{e:Int}{i:Nat}(h:Az l e=some i):i<l.length:=(By.1 h).1
theorem abz (s:nC.D)(I:yx s.2.2.2.1)(i:Nat)(hi:i<s.2.2.2.2.1.1.length)(hl:s.2.2.2.2.1.1.length≤9999999) :
  Wh.Bk (((i:Int),()),s)=if Dd s.2.2.2.1 (s.2.2.2.2.1.1.getD i zF)=true then some (.inr (.inl (false,()))) else some (.inl ((((i+1:Nat):Int),()),s)):=by
 have bI:s.2.2.2.1.2.1.length≤8:=I.len
 have ed:=aby s.2.2.2.1 (s.2.2.2.2.1.1.getD i zF).2.1 (by omega)
 have w:=gT (show i≤4611686018427387904 by omega)
 unfold Dd
 cases hw:decide ((s.2.2.2.2.1.1.getD i zF).2.2.2.1>0) with
 |true=>
  unfold zF at ed hw ⊢
  simp only[Wh.Bk,gl hi,g0,Int.toNat_natCast,ed,Wh.Fk _ _ ed,hw,nQ,Bool.not_true,Bool.and_false,Bool.not_false,Bool.true_or,Bool.or_true,iy,Bool.and_self,cond_true,if_true]
 |false=>
  cases he:decide ((s.2.2.2.2.1.1.getD i zF).2.1>0) with
  |false=>
   unfold zF at ed hw he ⊢
   simp only[Wh.Bk,gl hi,g0,Int.toNat_natCast,ed,Wh.Fk _ _ ed,hw,he,nQ,Bool.not_true,Bool.and_false,Bool.false_and,Bool.not_false,Bool.true_or,Bool.or_true,iy,Bool.and_self,cond_true,cond_false,w]
   rfl
  |true=>
   cases hk:Az s.2.2.2.1.2.1 (s.2.2.2.2.1.1.getD i zF).2.1 with
   |none=>
    rw[hk] at ed
    unfold zF at ed hw he ⊢
    simp only[Wh.Bk,gl hi,g0,Int.toNat_natCast,ed,Wh.Fk _ _ ed,hw,he,edI,Option.isSome,nQ,Bool.not_true,Bool.not_false,Bool.true_or,Bool.or_true,Bool.and_true,iy,Bool.and_self,cond_true,cond_false,if_true]
   |some k=>
    rw[hk] at ed
    have jf:=Rj hk
    have hp:=Sj (I.ok (s.2.2.2.1.2.1.getD k z0) (by rw[getD_eq _ _ _ jf];exact List.getElem_mem jf))
    obtain⟨P,hP,f1,_⟩:=Y3 _ hp.2.2.1 hp.2.2.2
    have f3 (x y:List Int) (u:Unit):=count_eq P.1 P.2.1 x y u hP
    have f4 (x y:List Int) (u:Unit):=Wh.CD _ _ (f3 x y u)
    cases hh:((s.2.2.2.1.2.1.getD k z0).1 != (s.2.2.2.2.1.1.getD i zF).1) with
    |true=>
     unfold zF at ed hw he hh ⊢
     simp only[Wh.Bk,gl hi,g0,Int.toNat_natCast,ed,Wh.Fk _ _ ed,hw,he,hh,edI,Option.isSome,nQ,Bool.not_true,Bool.not_false,Bool.true_or,Bool.or_true,Bool.and_true,iy,Bool.and_self,cond_true,cond_false,if_true]
    |false=>
     have hc:Jy ((s.2.2.2.1.2.1.getD k z0).2.2.2.1.length:Int)=AN P.1 P.2.1:=by rw[Jy,Wh.Ok _ _ f1]
     unfold zF at ed hw he hh ⊢
     simp only[hc,Wh.Bk,gl hi,g0,Int.toNat_natCast,ed,Wh.Fk _ _ ed,hw,he,hh,f1,Wh.Ok _ _ f1,f3,f4,edI,Option.isSome,nQ,Bool.not_true,Bool.not_false,Bool.or_true,iy,Bool.and_self,cond_true,cond_false,w]
     cases decide ((s.2.2.2.2.1.1.getD i ((0:Int),(0:Int),(0:Int),(0:Int),false,())).2.2.1≥AN P.1 P.2.1)<;>rfl
theorem Xj (c:Ct)(I:yx c)(l:List Fr)(i:Nat)(hi:i<l.length)(hl:l.length≤9999999)(hok:okF (l.getD i zF)=true) :
  Wh.Bj (((i:Int),(),l,(l.length:Int)),c)=if Dd c (l.getD i zF)=true then some (.inr (.inl (false,()))) else some (.inl ((((i+1:Nat):Int),(),l,(l.length:Int)),c)):=by
 have bI:c.2.1.length≤8:=I.len
 have ed:=Xi c (l.getD i zF).2.1 (by omega)
 have w:=gT (show i≤4611686018427387904 by omega)
 unfold Dd
 cases hz:((l.getD i zF).2.1==0) with
 |true=>
  have h0:(l.getD i zF).2.1=0:=eq_of_beq hz
  have hw:decide ((l.getD i zF).2.2.2.1>0)=false:=by
   unfold okF at hok
   rw[hz,cond_true] at hok
   simp only[Bool.and_eq_true,beq_iff_eq] at hok
   exact decide_eq_false (by omega)
  have he:decide ((l.getD i zF).2.1>0)=false:=decide_eq_false (by omega)
  rw[hw,he]
  unfold zF at hz ⊢
  simp only[Wh.Bj,gl hi,g0,Int.toNat_natCast,hz,iy,Bool.and_self,cond_true,cond_false,w]
  rfl
 |false=>
  have he:decide ((l.getD i zF).2.1>0)=true:=by
   unfold okF at hok
   rw[hz,cond_false] at hok
   simp only[Bool.and_eq_true,wh,decide_eq_true_iff] at hok
   exact decide_eq_true (by omega)
  rw[he]
  cases hw:decide ((l.getD i zF).2.2.2.1>0) with
  |true=>
   unfold zF at ed hz hw ⊢
   simp only[Wh.Bj,gl hi,g0,Int.toNat_natCast,hz,ed,Wh.GQ _ _ ed,hw,nQ,Bool.not_true,Bool.not_false,Bool.true_or,iy,Bool.and_self,cond_true,cond_false,if_true]
  |false=>
   cases hk:Az c.2.1 (l.getD i zF).2.1 with
   |none=>
    rw[hk] at ed
    unfold zF at ed hz hw ⊢
    simp only[Wh.Bj,gl hi,g0,Int.toNat_natCast,hz,ed,Wh.GQ _ _ ed,hw,Q9,nQ,Bool.not_true,Bool.not_false,Bool.true_or,iy,Bool.and_self,cond_true,cond_false,if_true]
   |some k=>
    rw[hk] at ed
    have jf:=Rj hk
    have hp:=Sj (I.ok (c.2.1.getD k z0) (by rw[getD_eq _ _ _ jf];exact List.getElem_mem jf))
    obtain⟨P,hP,f0,f1⟩:=Y3 _ hp.2.2.1 hp.2.2.2
    have f3 (x y:List Int) (u:Unit):Wh.AI (P.1,P.2.1,x,y,u)=_:=count_eq P.1 P.2.1 x y u hP
    have f4 (x y:List Int) (u:Unit):=Wh.q20_v _ _ (f3 x y u)
    have ed':Wh.DH (c,(l.getD i zF).2.1)=some ((k:Int),()):=ed
    have e1:decide ((k:Int)<0)=false:=decide_eq_false (by omega)
    cases hh:((c.2.1.getD k z0).1 != (l.getD i zF).1) with
    |true=>
     unfold zF at ed' hz hw hh ⊢
     unfold z0 at hh ⊢
     simp only[Wh.Bj,gl hi,gl jf,g0,Int.toNat_natCast,hz,ed',Wh.GQ _ _ ed',hw,hh,e1,nQ,Bool.not_true,Bool.not_false,Bool.true_or,Bool.or_true,iy,Bool.and_self,cond_true,cond_false,if_true]
    |false=>
     have hc:Jy ((c.2.1.getD k z0).2.2.2.1.length:Int)=AN P.1 P.2.1:=by rw[Jy,Wh.Ok _ _ f0]
     unfold zF at ed' hz hw hh ⊢
     have hh2:=hh
     unfold z0 at hh2 f1
     simp only[hc,hh2,Wh.Bj,gl hi,gl jf,g0,Int.toNat_natCast,hz,ed',Wh.GQ _ _ ed',hw,hh,e1,f1,Wh.q87_v _ _ f1,f3,f4,nQ,Bool.not_true,Bool.not_false,Bool.or_true,iy,Bool.and_self,cond_true,cond_false,w]
     cases decide ((l.getD i ((0:Int),(0:Int),(0:Int),(0:Int),false,())).2.2.1≥AN P.1 P.2.1)<;>rfl
abbrev Bu:Type:=Int×Int×Int×Int×Unit
def FX (b:Bu):Bool:=wh b.2.1 0 99999&&wh b.1 0 b.2.1&&wh b.2.2.1 0 99999&&wh b.2.2.2.1 0 99999
theorem abt (b:Bu):Wh.q76 b=some (FX b,()):=by
 unfold FX
 simp only[Wh.q76,Ao,Wh.zp _ _ (Ao _ _ _),nQ,Bool.or_true,iy,Bool.and_self,cond_true]
 cases wh b.2.1 0 99999<;>cases wh b.1 0 b.2.1<;>cases wh b.2.2.1 0 99999<;>cases wh b.2.2.2.1 0 99999<;>rfl
theorem Xd (b:Bu):Wh.q46 b=some (FX b,()):=by
 unfold FX
 simp only[Wh.q46,zk,Wh.zL _ _ (zk _ _ _),nQ,Bool.or_true,iy,Bool.and_self,cond_true]
 cases wh b.2.1 0 99999<;>cases wh b.1 0 b.2.1<;>cases wh b.2.2.1 0 99999<;>cases wh b.2.2.2.1 0 99999<;>rfl
def zB:Bu:=((0:Int),(0:Int),(0:Int),(0:Int),())
def C8 (now:Int)(b:Bu):Bool:=bif bif bif !FX b then true else b.2.1 != 40 then true else b.2.2.1 != 8 then true else decide (b.2.2.2.1>now)
theorem abr (s:nC.D)(i:Nat)(hi:i<s.2.2.2.2.2.1.length)(hl:s.2.2.2.2.2.1.length≤9999999) :
  Wh.D5 (((i:Int),()),s)=if C8 s.2.1 (s.2.2.2.2.2.1.getD i zB)=true then some (.inr (.inl (false,()))) else some (.inl ((((i+1:Nat):Int),()),s)):=by
 have w:=gT (show i≤4611686018427387904 by omega)
 unfold C8 zB
 simp only[Wh.D5,gl hi,g0,Int.toNat_natCast,abt,Wh.q76_v _ _ (abt _),nQ,iy,Bool.and_self,cond_true,w]
 generalize (bif bif bif !FX _ then true else _ then true else _ then true else _)=b
 cases b<;>rfl
theorem Xc (s:nC.D)(l:List Bu)(i:Nat)(hi:i<l.length)(hl:l.length≤9999999) :
  Wh.D3 (((i:Int),(),l,(l.length:Int)),s)=if C8 s.2.1 (l.getD i zB)=true then some (.inr (.inl (false,()))) else some (.inl ((((i+1:Nat):Int),(),l,(l.length:Int)),s)):=by
 have w:=gT (show i≤4611686018427387904 by omega)
 unfold C8 zB
 simp only[Wh.D3,gl hi,g0,Int.toNat_natCast,Xd,Wh.q46_v _ _ (Xd _),nQ,iy,Bool.and_self,cond_true,w]
 generalize (bif bif bif !FX _ then true else _ then true else _ then true else _)=b
 cases b<;>rfl
end Pl
open Go Go.Ab Go.Lib
namespace Pl
abbrev Sv:Type:=Int×Int×Int×Int×Int×Int×Unit
def zS:Sv:=((0:Int),(0:Int),(0:Int),(0:Int),(0:Int),(0:Int),())
def Jz (l:List Sv)(i:Nat)(c:Int):Bool:=match i with
 |0=>false
 |m+1=>decide ((l.getD m zS).1≥c)
def Ja (c:Ct)(s:Sv):Bool:=bif(Az c.2.1 s.2.2.1).isSome then(edI c.2.1 (Az c.2.1 s.2.2.1)).1 != Int.tmod s.1 2 else false
def Ci (c:Ct)(now:Int)(l:List Sv)(i:Nat):Bool:=
 ((((((!wh (l.getD i zS).1 0 3 || Jz l i (l.getD i zS).1) || !wh (l.getD i zS).2.1 1 99999) || !wh (l.getD i zS).2.2.1 1 c.1) || !wh (l.getD i zS).2.2.2.1 0 9999) || !wh (l.getD i zS).2.2.2.2.1 0 3) || !wh (l.getD i zS).2.2.2.2.2.1 0 now) || Ja c (l.getD i zS)
theorem Ng (a b:Bool):(bif a then true else b)=(a || b):=by cases a<;>rfl
theorem abE (s:nC.D)(hc:s.2.2.2.1.2.1.length≤9999999)(i:Nat)(hi:i<s.2.2.2.2.2.2.1.length)(hl:s.2.2.2.2.2.2.1.length≤9999999) :
  Wh.CQ (((i:Int),()),s)=if Ci s.2.2.2.1 s.2.1 s.2.2.2.2.2.2.1 i=true then some (.inr (.inl (false,()))) else some (.inl ((((i+1:Nat):Int),()),s)):=by
 have w:=gT (show i≤4611686018427387904 by omega)
 have ed:=aby s.2.2.2.1 (s.2.2.2.2.2.2.1.getD i zS).2.2.1 hc
 have hh (x:Int):Wh.q80 x=some (Int.tmod x 2,()):=rfl
 have fin (A B:Bool) (X Y:Option ((((Int)×(Unit))×((nC.D)))⊕((((Bool))×(Unit))⊕((Unit)×(Unit))))):(bif A then X else bif B then X else Y)=if(A || B)=true then X else Y:=by cases A<;>cases B<;>rfl
 rcases Nat.eq_zero_or_pos i with h0|h0
 ·subst h0
  have d1:decide (((0:Nat):Int)>0)=false:=rfl
  unfold Ci Ja Jz
  unfold zS at ed ⊢
  simp only[Wh.CQ,gl hi,g0,Int.toNat_natCast,Ao,Wh.zp _ _ (Ao _ _ _),ed,Wh.Fk _ _ ed,hh,Wh.UW _ _ (hh _),d1,Ng,nQ,Bool.or_true,Bool.false_and,Bool.not_false,Bool.true_or,Bool.or_false,iy,Bool.and_self,cond_true,cond_false,w]
  exact fin _ _ _ _
 ·obtain⟨m,rfl⟩:∃m,i=m+1:=⟨i-1,by omega⟩
  have d1:decide (((m+1:Nat):Int)>0)=true:=decide_eq_true (by omega)
  have w1:IntKind.wrap .i64 (((m+1:Nat):Int)-1)=(m:Int):=wi (by omega) (by omega)
  unfold Ci Ja Jz
  unfold zS at ed ⊢
  simp only[Wh.CQ,gl hi,gl (show m<s.2.2.2.2.2.2.1.length by omega),g0,Int.toNat_natCast,w1,Ao,Wh.zp _ _ (Ao _ _ _),ed,Wh.Fk _ _ ed,hh,Wh.UW _ _ (hh _),d1,Ng,nQ,Bool.or_true,iy,Bool.and_self,cond_true,w]
  exact fin _ _ _ _
theorem HL (n:Int):Wh.Cd n=some (wh n 0 3,()):=by simp only[Wh.Cd,zk,Wh.zL _ _ (zk _ _ _),nQ,iy,cond_true]
theorem Xo (s:nC.D)(hc:s.2.2.2.1.2.1.length≤9999999)(i:Nat)(hi:i<s.2.2.2.2.2.2.1.length)(hl:s.2.2.2.2.2.2.1.length≤9999999) :
  Wh.CR (((i:Int),(),s.2.2.2.2.2.2.1,(s.2.2.2.2.2.2.1.length:Int)),s)=if Ci s.2.2.2.1 s.2.1 s.2.2.2.2.2.2.1 i=true then some (.inr (.inl (false,()))) else some (.inl ((((i+1:Nat):Int),(),s.2.2.2.2.2.2.1,(s.2.2.2.2.2.2.1.length:Int)),s)):=by
 have w:=gT (show i≤4611686018427387904 by omega)
 have ed:=Xi s.2.2.2.1 (s.2.2.2.2.2.2.1.getD i zS).2.2.1 hc
 have hh (x:Int):Wh.q90 x=some (Int.tmod x 2,()):=rfl
 have he:∃v,Bw (Az s.2.2.2.1.2.1 (s.2.2.2.2.2.2.1.getD i zS).2.2.1)=v∧decide (v≥0)=(Az s.2.2.2.1.2.1 (s.2.2.2.2.2.2.1.getD i zS).2.2.1).isSome∧(!decide (v≥0) || decide (0≤v))=true∧(!decide (v≥0) || decide (v<(s.2.2.2.1.2.1.length:Int)))=true ∧
   (bif decide (v≥0) then(s.2.2.2.1.2.1.getD (Int.toNat v) z0).1 != Int.tmod (s.2.2.2.2.2.2.1.getD i zS).1 2 else false)=Ja s.2.2.2.1 (s.2.2.2.2.2.2.1.getD i zS):=by
  unfold Ja
  cases e:Az s.2.2.2.1.2.1 (s.2.2.2.2.2.2.1.getD i zS).2.2.1 with
  |none=>exact⟨-1,rfl,rfl,rfl,rfl,rfl⟩
  |some k=>
   have:=Rj e
   have d:decide ((k:Int)≥0)=true:=decide_eq_true (by omega)
   refine⟨(k:Int),rfl,d,by rw[g0,Bool.or_true],by rw[gl this,Bool.or_true],?_⟩
   rw[d];rfl
 obtain⟨v,hv,_,BX,hv3,hv4⟩:=he
 rw[hv] at ed
 have fin (A B C D:Bool) (X Y:Option ((((Int)×(Unit)×(List (r5.D))×(Int))×((nC.D)))⊕((((Bool))×(Unit))⊕((Unit)×(Unit))))) (h:(A || (B || C))=D):(bif A then X else bif B then X else bif C then X else Y)=if D=true then X else Y:=by subst h;cases A<;>cases B<;>cases C<;>rfl
 have bool8 (a b c d e f g h:Bool):((((b || !a) || !c) || !d) || (h || ((!e || !f) || !g)))=(((((((!a || b) || !c) || !d) || !e) || !f) || !g) || h):=by
  cases a<;>cases b<;>cases c<;>cases d<;>cases e<;>cases f<;>cases g<;>cases h<;>rfl
 have bool7 (a c d e f g h:Bool):(((!a || !c) || !d) || (h || ((!e || !f) || !g)))=((((((!a || !c) || !d) || !e) || !f) || !g) || h):=by
  cases a<;>cases c<;>cases d<;>cases e<;>cases f<;>cases g<;>cases h<;>rfl
 rcases Nat.eq_zero_or_pos i with h0|h0
 ·subst h0
  have d1:decide (((0:Nat):Int)>0)=false:=rfl
  unfold Ci Jz
  unfold z0 at hv4
  unfold zS at ed hv4 ⊢
  simp only[Wh.CR,gl hi,g0,Int.toNat_natCast,HL,Wh.JZ _ _ (HL _),zk,Wh.zL _ _ (zk _ _ _),ed,Wh.GQ _ _ ed,hh,Wh.U_ _ _ (hh _),BX,hv3,hv4,d1,nQ,Bool.or_true,Bool.not_false,Bool.true_or,Bool.or_false,iy,Bool.and_self,cond_true,cond_false,w]
  refine fin _ _ _ _ _ _ ?_
  simp only[Ng]
  exact bool7 _ _ _ _ _ _ _
 ·obtain⟨m,rfl⟩:∃m,i=m+1:=⟨i-1,by omega⟩
  have d1:decide (((m+1:Nat):Int)>0)=true:=decide_eq_true (by omega)
  have w1:IntKind.wrap .i64 (((m+1:Nat):Int)-1)=(m:Int):=wi (by omega) (by omega)
  unfold Ci Jz
  unfold z0 at hv4
  unfold zS at ed hv4 ⊢
  simp only[Wh.CR,gl hi,gl (show m<s.2.2.2.2.2.2.1.length by omega),g0,Int.toNat_natCast,w1,HL,Wh.JZ _ _ (HL _),zk,Wh.zL _ _ (zk _ _ _),ed,Wh.GQ _ _ ed,hh,Wh.U_ _ _ (hh _),BX,hv3,hv4,d1,nQ,Bool.or_true,iy,Bool.and_self,cond_true,w]
  refine fin _ _ _ _ _ _ ?_
  simp only[Ng]
  exact bool8 _ _ _ _ _ _ _ _
noncomputable def x7 (s:nC.D):List (List UInt8)×Nat:=BY hash s.2.2.1
noncomputable def I9 (s:nC.D):Bool:=(s.2.2.2.1.2.1.length==0&&s.2.2.2.1.1==0&&s.2.2.2.2.1.1.length==0&&s.2.2.2.2.1.2.1==0&&s.2.2.2.2.2.1.length==0&&s.2.2.2.2.2.2.1.length==0)
noncomputable def Je (s:nC.D):Bool:=jS s.2.2.2.2.1.1.length (fun i=> !Dd s.2.2.2.1 (s.2.2.2.2.1.1.getD i zF))
noncomputable def Rb (s:nC.D):Bool:=jS s.2.2.2.2.2.1.length (fun i=> !C8 s.2.1 (s.2.2.2.2.2.1.getD i zB))
noncomputable def Kd (s:nC.D):Bool:=jS s.2.2.2.2.2.2.1.length (fun i=> !Ci s.2.2.2.1 s.2.1 s.2.2.2.2.2.2.1 i)
noncomputable def upV (s:nC.D):Bool:=(x7 s).2==s.2.2.1.length&&(decide ((zm (x7 s).1).1=s.2.2.2.1)&&(Cz s.2.2.2.2.1&&(s.2.2.2.2.2.1.length==2&&(Kd s&&(Je s&&Rb s)))))
noncomputable def okV (s:nC.D):Bool:=wh s.2.1 0 99999&&(decide (s.2.2.1.length≤9000)&&((zm (x7 s).1).2&&(bif s.1 then upV s else I9 s)))
theorem Nk {l:List (List UInt8)}(h:(zm l).2=true):yx (zm l).1:=by
 unfold zm at h ⊢
 cases e:AM (0,[],()) l with
 |none=>rw[e] at h;cases h
 |some c=>exact Wm l _ c Nj e
theorem ajo (s:nC.D)(hc:s.2.2.2.1.2.1.length≤9999999)(hl:s.2.2.2.2.2.2.1.length≤9999999):Wh.q43 s=some (Kd s,()):=by
 have q:=xT (r:=Wh.CQ) (fun i=>(((i:Int),()),s)) (n:=s.2.2.2.2.2.2.1.length) (p:=fun i=> !Ci s.2.2.2.1 s.2.1 s.2.2.2.2.2.2.1 i) (yf:=.inl (false,())) (yt:=.inr ((),())) (fun i hi _ hp=>by
   rw[abE s hc i hi hl,if_neg (by simpa using hp)]) (fun i hi _ hp=>by
   rw[abE s hc i hi hl,if_pos (by simpa using hp)]) (by
   have d1:decide ((s.2.2.2.2.2.2.1.length:Int)<(s.2.2.2.2.2.2.1.length:Int))=false:=decide_eq_false (by omega)
   simp only[Wh.CQ,d1,cond_false])
 have q':Comes Wh.CQ ((0,()),s) _:=q
 simp only[Wh.q43,cb q',cv q',cond_true]
 unfold Kd
 cases jS s.2.2.2.2.2.2.1.length (fun i=> !Ci s.2.2.2.1 s.2.1 s.2.2.2.2.2.2.1 i)<;>rfl
theorem OK (s:nC.D)(h:s.2.2.1.length≤9999999):(x7 s).1.length≤9999999∧∀r∈(x7 s).1,r.length≤9999999:=by
 obtain⟨h1,h2,h3⟩:=vQ hash BA (s.2.2.1.length+1) s.2.2.1 0
 refine⟨?_,fun r hr=>?_⟩
 ·change (eE hash (s.2.2.1.length+1) s.2.2.1 0).1.length≤9999999;omega
 ·have:=h3 r hr;omega
theorem ajt (s:nC.D)(S:FR s):Wh.q78 s=some (okV s,()):=by
 have A8:=S.log
 have hbk:=S.bks
 have hsv:=S.CV
 have hfr:s.2.2.2.2.1.1.length≤1048576:=S.NU
 have hct:s.2.2.2.1.2.1.length≤1048576:=S.cat
 have a:=XB s.2.2.1 (by omega)
 obtain⟨r1,r2⟩:=OK s (by omega)
 have b:=abv (x7 s).1 r1 r2
 unfold okV
 change Wh.B7 s.2.2.1=some (((x7 s).1,((x7 s).2:Int)),()) at a
 have hle:decide ((s.2.2.1.length:Int)>9000) = !decide (s.2.2.1.length≤9000):=by
  by_cases h:s.2.2.1.length≤9000
  ·rw[decide_eq_true h,decide_eq_false (by omega)];rfl
  ·rw[decide_eq_false h,decide_eq_true (by omega)];rfl
 have Cv (x y:Nat):((x:Int)==(y:Int))=(x==y):=by rw[Bool.eq_iff_iff,beq_iff_eq,beq_iff_eq];omega
 have R7 (x:Nat):((x:Int)==0)=(x==0):=Cv x 0
 have R8 (x:Nat):((x:Int) != 2) = !(x==2):=by rw[←Cv x 2];rfl
 simp only[Wh.q78,Ao,Wh.zp _ _ (Ao _ _ _),hle,nQ,iy,cond_true]
 cases wh s.2.1 0 99999 with
 |false=>rfl
 |true=>
 cases decide (s.2.2.1.length≤9000) with
 |false=>rfl
 |true=>
 simp only[Bool.not_true,cond_false,Bool.true_and]
 cases cS:s.1 with
 |false=>
  have sy:Wh.Gj s=some ((zm (x7 s).1).2,()):=by
   simp only[Wh.Gj,a,Wh.N6 _ _ a,b,Wh.Od _ _ b,nQ,iy,cond_true]
  simp only[Bool.not_false,cond_true,cond_false,sy,Wh.Zj _ _ sy,Bool.or_true,R7,I9]
  congr 2
  cases (zm (x7 s).1).2<;>cases (s.2.2.2.1.2.1.length==0)<;>cases (s.2.2.2.1.1==0)<;>cases (s.2.2.2.2.1.1.length==0)<;>cases (s.2.2.2.2.1.2.1==0)<;>cases (s.2.2.2.2.2.1.length==0)<;>cases (s.2.2.2.2.2.2.1.length==0)<;>rfl
 |true=>
  have sm:=ajw (zm (x7 s).1).1 s.2.2.2.1
  have po:=aju s.2.2.2.2.1 (by omega)
  have sv:=ajo s (by omega) (by omega)
  have e1:(((x7 s).2:Int) != (s.2.2.1.length:Int)) = !((x7 s).2==s.2.2.1.length):=by rw[←Cv];rfl
  simp only[Bool.not_true,cond_false,cond_true,a,Wh.N6 _ _ a,b,Wh.Od _ _ b,po,Wh.ZP _ _ po,sv,Wh.q43_v _ _ sv,Bool.or_true,e1,R8]
  unfold upV
  cases hcat:(zm (x7 s).1).2 with
  |false=>simp only[Bool.not_false,cond_true,Bool.not_true,Bool.true_or,Bool.and_self,Bool.false_and]
  |true=>
  cases hrd:((x7 s).2==s.2.2.1.length) with
  |false=>simp only[Bool.not_false,cond_true,cond_false,Bool.not_true,Bool.true_or,Bool.and_self,Bool.false_and,Bool.and_false]
  |true=>
  have I:=Nk hcat
  have hI:=I.len
  have sm':=sm (by omega)
  simp only[sm',Wh.Zi _ _ sm',Bool.not_true,Bool.not_false,cond_false,cond_true,Bool.or_true,Bool.true_and,Bool.and_self]
  by_cases hsame:(zm (x7 s).1).1=s.2.2.2.1
  ·rw[decide_eq_true hsame]
   rw[hsame] at I
   cases hpo:Cz s.2.2.2.2.1 with
   |false=>rfl
   |true=>
   cases bZ:(s.2.2.2.2.2.1.length==2) with
   |false=>rfl
   |true=>
   cases hsr:Kd s with
   |false=>rfl
   |true=>
    simp only[Bool.not_true,cond_false,Bool.true_and]
    have q:=xT (r:=Wh.Bk) (fun i=>(((i:Int),()),s)) (n:=s.2.2.2.2.1.1.length) (p:=fun i=> !Dd s.2.2.2.1 (s.2.2.2.2.1.1.getD i zF)) (yf:=.inl (false,())) (yt:=.inr ((),s)) (fun i hi _ hp=>by
      rw[abz s I i hi (by omega),if_neg (by simpa using hp)]) (fun i hi _ hp=>by
      rw[abz s I i hi (by omega),if_pos (by simpa using hp)]) (by
      have d1:decide ((s.2.2.2.2.1.1.length:Int)<(s.2.2.2.2.1.1.length:Int))=false:=decide_eq_false (by omega)
      simp only[Wh.Bk,d1,cond_false])
    have q':Comes Wh.Bk ((0,()),s) _:=q
    have q2:=xT (r:=Wh.D5) (fun i=>(((i:Int),()),s)) (n:=s.2.2.2.2.2.1.length) (p:=fun i=> !C8 s.2.1 (s.2.2.2.2.2.1.getD i zB)) (yf:=.inl (false,())) (yt:=.inr ((),())) (fun i hi _ hp=>by
      rw[abr s i hi (by omega),if_neg (by simpa using hp)]) (fun i hi _ hp=>by
      rw[abr s i hi (by omega),if_pos (by simpa using hp)]) (by
      have d1:decide ((s.2.2.2.2.2.1.length:Int)<(s.2.2.2.2.2.1.length:Int))=false:=decide_eq_false (by omega)
      simp only[Wh.D5,d1,cond_false])
    have DS:Comes Wh.D5 ((0,()),s) _:=q2
    simp only[cb q',cv q',cond_true]
    unfold Je Rb
    cases hf:jS s.2.2.2.2.1.1.length (fun i=> !Dd s.2.2.2.1 (s.2.2.2.2.1.1.getD i zF)) with
    |false=>simp[sumC]
    |true=>
     simp only[if_true,sumC,cb DS,cv DS,cond_true,Bool.true_and]
     cases hb:jS s.2.2.2.2.2.1.length (fun i=> !C8 s.2.1 (s.2.2.2.2.2.1.getD i zB))<;>rfl
  ·rw[decide_eq_false hsame];rfl
theorem acE (s:nC.D)(I:yx s.2.2.2.1)(hp:s.2.2.2.2.1.1.length≤9999999):Wh.q54 (s.2.2.2.2.1,s.2.2.2.1)=some (Cz s.2.2.2.2.1&&Je s,()):=by
 have a:=adM s.2.2.2.2.1 hp
 cases hv:Cz s.2.2.2.2.1 with
 |false=>
  rw[hv] at a
  simp only[Wh.q54,a,Wh.SP _ _ a,nQ,iy,cond_true,Bool.not_false,Bool.false_and]
 |true=>
  have hok:∀i,i<s.2.2.2.2.1.1.length→okF (s.2.2.2.2.1.1.getD i zF)=true:=by
   unfold Cz at hv
   simp only[Bool.and_eq_true,beq_iff_eq] at hv
   intro i hi
   have:=oL.1 hv.2.1 i (by omega)
   unfold AJ at this
   rw[Bool.and_eq_true] at this
   exact this.1
  rw[hv] at a
  have q:=xT (r:=Wh.Bj) (fun i=>(((i:Int),(),s.2.2.2.2.1.1,(s.2.2.2.2.1.1.length:Int)),s.2.2.2.1)) (n:=s.2.2.2.2.1.1.length) (p:=fun i=> !Dd s.2.2.2.1 (s.2.2.2.2.1.1.getD i zF)) (yf:=.inl (false,())) (yt:=.inr ((),())) (fun i hi _ hp=>by
    rw[Xj s.2.2.2.1 I _ i hi (by omega) (hok i hi),if_neg (by simpa using hp)]) (fun i hi _ hp=>by
    rw[Xj s.2.2.2.1 I _ i hi (by omega) (hok i hi),if_pos (by simpa using hp)]) (by
    have d1:decide ((s.2.2.2.2.1.1.length:Int)<(s.2.2.2.2.1.1.length:Int))=false:=decide_eq_false (by omega)
    simp only[Wh.Bj,d1,cond_false])
  have q':Comes Wh.Bj ((0,(),s.2.2.2.2.1.1,(s.2.2.2.2.1.1.length:Int)),s.2.2.2.1) _:=q
  simp only[Wh.q54,a,Wh.SP _ _ a,nQ,iy,cond_true,cond_false,Bool.not_true,Bool.true_and,cb q',cv q']
  unfold Je
  cases jS s.2.2.2.2.1.1.length (fun i=> !Dd s.2.2.2.1 (s.2.2.2.2.1.1.getD i zF))<;>rfl
theorem adL (s:nC.D)(S:FR s):Wh.q50 s=some (okV s,()):=by
 have A8:=S.log
 have hbk:=S.bks
 have hsv:=S.CV
 have hfr:s.2.2.2.2.1.1.length≤1048576:=S.NU
 have hct:s.2.2.2.1.2.1.length≤1048576:=S.cat
 have a:=V9 s.2.2.1 (by omega)
 obtain⟨r1,r2⟩:=OK s (by omega)
 have b:=Xf (x7 s).1 r1 r2
 unfold okV
 change Wh.CS s.2.2.1=some (((x7 s).1,((x7 s).2:Int)),()) at a
 have hle:decide ((s.2.2.1.length:Int)>9000) = !decide (s.2.2.1.length≤9000):=by
  by_cases h:s.2.2.1.length≤9000
  ·rw[decide_eq_true h,decide_eq_false (by omega)];rfl
  ·rw[decide_eq_false h,decide_eq_true (by omega)];rfl
 have Cv (x y:Nat):((x:Int)==(y:Int))=(x==y):=by rw[Bool.eq_iff_iff,beq_iff_eq,beq_iff_eq];omega
 have R7 (x:Nat):((x:Int)==0)=(x==0):=Cv x 0
 have R8 (x:Nat):((x:Int) != 2) = !(x==2):=by rw[←Cv x 2];rfl
 simp only[Wh.q50,zk,Wh.zL _ _ (zk _ _ _),hle,nQ,iy,cond_true]
 cases wh s.2.1 0 99999 with
 |false=>rfl
 |true=>
 cases decide (s.2.2.1.length≤9000) with
 |false=>rfl
 |true=>
 simp only[Bool.not_true,cond_false,Bool.true_and,a,Wh.U2 _ _ a,b,Wh.Tp _ _ b,cond_true]
 cases hcat:(zm (x7 s).1).2 with
 |false=>rfl
 |true=>
 simp only[Bool.not_true,cond_false,Bool.true_and]
 cases cS:s.1 with
 |false=>
  simp only[Bool.not_false,cond_true,cond_false,R7,I9]
  congr 2
  cases (s.2.2.2.1.2.1.length==0)<;>cases (s.2.2.2.1.1==0)<;>cases (s.2.2.2.2.1.1.length==0)<;>cases (s.2.2.2.2.1.2.1==0)<;>cases (s.2.2.2.2.2.1.length==0)<;>cases (s.2.2.2.2.2.2.1.length==0)<;>rfl
 |true=>
  have I:=Nk hcat
  have hI:=I.len
  have sm:=adO (zm (x7 s).1).1 s.2.2.2.1 (by omega)
  have e1:(((x7 s).2:Int) != (s.2.2.1.length:Int)) = !((x7 s).2==s.2.2.1.length):=by rw[←Cv];rfl
  simp only[Bool.not_true,cond_false,cond_true,sm,Wh.q92_v _ _ sm,Bool.or_true,e1,R8]
  unfold upV
  cases hrd:((x7 s).2==s.2.2.1.length) with
  |false=>simp only[Bool.not_false,cond_true,Bool.not_true,Bool.true_or,Bool.and_self,Bool.false_and]
  |true=>
  by_cases hsame:(zm (x7 s).1).1=s.2.2.2.1
  ·rw[decide_eq_true hsame]
   rw[hsame] at I
   have fi:=acE s I (by omega)
   simp only[fi,Wh.q54_v _ _ fi,Bool.not_true,cond_false,Bool.or_true,Bool.and_self,cond_true,Bool.true_and]
   cases hpo:Cz s.2.2.2.2.1 with
   |false=>rfl
   |true=>
   cases hfi:Je s with
   |false=>simp only[Bool.and_false,Bool.not_false,cond_true,Bool.false_and]
   |true=>
   cases bZ:(s.2.2.2.2.2.1.length==2) with
   |false=>rfl
   |true=>
    simp only[Bool.not_true,cond_false,Bool.true_and,Bool.and_self]
    have q:=xT (r:=Wh.D3) (fun i=>(((i:Int),(),s.2.2.2.2.2.1,(s.2.2.2.2.2.1.length:Int)),s)) (n:=s.2.2.2.2.2.1.length) (p:=fun i=> !C8 s.2.1 (s.2.2.2.2.2.1.getD i zB)) (yf:=.inl (false,())) (yt:=.inr ((),s)) (fun i hi _ hp=>by
      rw[Xc s _ i hi (by omega),if_neg (by simpa using hp)]) (fun i hi _ hp=>by
      rw[Xc s _ i hi (by omega),if_pos (by simpa using hp)]) (by
      have d1:decide ((s.2.2.2.2.2.1.length:Int)<(s.2.2.2.2.2.1.length:Int))=false:=decide_eq_false (by omega)
      simp only[Wh.D3,d1,cond_false])
    have q':Comes Wh.D3 ((0,(),s.2.2.2.2.2.1,(s.2.2.2.2.2.1.length:Int)),s) _:=q
    have q2:=xT (r:=Wh.CR) (fun i=>(((i:Int),(),s.2.2.2.2.2.2.1,(s.2.2.2.2.2.2.1.length:Int)),s)) (n:=s.2.2.2.2.2.2.1.length) (p:=fun i=> !Ci s.2.2.2.1 s.2.1 s.2.2.2.2.2.2.1 i) (yf:=.inl (false,())) (yt:=.inr ((),())) (fun i hi _ hp=>by
      rw[Xo s (by omega) i hi (by omega),if_neg (by simpa using hp)]) (fun i hi _ hp=>by
      rw[Xo s (by omega) i hi (by omega),if_pos (by simpa using hp)]) (by
      have d1:decide ((s.2.2.2.2.2.2.1.length:Int)<(s.2.2.2.2.2.2.1.length:Int))=false:=decide_eq_false (by omega)
      simp only[Wh.CR,d1,cond_false])
    have DS:Comes Wh.CR ((0,(),s.2.2.2.2.2.2.1,(s.2.2.2.2.2.2.1.length:Int)),s) _:=q2
    simp only[cb q',cv q',cond_true]
    unfold Rb Kd
    cases hf:jS s.2.2.2.2.2.1.length (fun i=> !C8 s.2.1 (s.2.2.2.2.2.1.getD i zB)) with
    |false=>simp[sumC]
    |true=>
     simp only[if_true,sumC,cb DS,cv DS,cond_true,Bool.and_true]
     cases hb:jS s.2.2.2.2.2.2.1.length (fun i=> !Ci s.2.2.2.1 s.2.1 s.2.2.2.2.2.2.1 i)<;>rfl
  ·rw[decide_eq_false hsame];rfl
end Pl
open Go Go.Ab
namespace Pc
theorem wrap64 {n:Int}(h1: -9223372036854775808≤n)(h2:n≤9223372036854775807):IntKind.wrap .i64 n=n:=by
 simp[IntKind.wrap,IntKind.signed,IntKind.bits]
 omega
theorem yd {X Y:Type}{r:X→Option (X⊕Y)}(st:Nat→X){n:Nat}{y:Y}(hs:∀i,i<n→r (st i)=some (.inl (st (i+1))))(he:r (st n)=some (.inr y)):∀k,k≤n→Comes r (st k) y:=by
 intro k hk
 have:∀d k,k+d=n→Comes r (st k) y:=by
  intro d
  induction d with
  |zero=>intro k hk;have:k=n:=by omega
         subst this;exact .out he
  |succ d ih=>intro k hk;exact .again (hs k (by omega)) (ih (k+1) (by omega))
 exact this (n-k) k (by omega)
theorem cb {X Y:Type}{r:X→Option (X⊕Y)}{x:X}{y:Y}(h:Comes r x y):lF r x=true:=(h.is (y0:=y)).1
theorem cv {X Y:Type}{r:X→Option (X⊕Y)}{x:X}{y:Y}(h:Comes r x y)(y0:Y):kG r y0 x=y:=h.is.2
theorem getD_eq {α:Type}(l:List α)(i:Nat)(z:α)(h:i<l.length):l.getD i z=l[i]:=by simp[h]
theorem Rk (a:List Int)(h:a.length≤4611686018427387904):Wh.Dx (a,a)=some (true,()):=by
 have hl:Comes Wh.Gu (((0:Int),a,a),()) (.inr ((),())):=by
  refine yd (st:=fun i=>(((i:Int),a,a),())) (n:=a.length) ?_ ?_ 0 (Nat.zero_le _)
  ·intro i hi
   have h1:decide ((i:Int)<(a.length:Int))=true:=by simpa using hi
   have h2:IntKind.wrap .i64 ((i:Int)+1)=((i+1:Nat):Int):=by rw[wrap64]<;>omega
   have h3:decide ((0:Int)≤(i:Int))=true:=by simp
   simp[Wh.Gu,iy,h2,hi]
  ·simp[Wh.Gu]
 simp[Wh.Dx,cb hl,cv hl]
theorem acu (a:r_.D)(h1:a.2.2.1.length≤4611686018427387904)(h2:a.2.2.2.1.length≤4611686018427387904):Wh.Gw (a,a)=some (true,()):=by
 simp[Wh.Gw,Wh.Gt,bx,Rk _ h1,Rk _ h2,iy,nQ]
theorem acm (a:nW.D)(h1:a.1.length≤4611686018427387904):Wh.GZ (a,a)=some (true,()):=by
 simp[Wh.GZ,Wh.Gt,bx,Rk _ h1,iy,nQ]
theorem ack (a:List nW.D)(h:a.length≤4611686018427387904)(hr:∀x∈a,x.1.length≤4611686018427387904):Wh.GK (a,a)=some (true,()):=by
 have hl:Comes Wh.GL (((0:Int),a,a),()) (.inr ((),())):=by
  refine yd (st:=fun i=>(((i:Int),a,a),())) (n:=a.length) ?_ ?_ 0 (Nat.zero_le _)
  ·intro i hi
   have h2:IntKind.wrap .i64 ((i:Int)+1)=((i+1:Nat):Int):=by rw[wrap64]<;>omega
   have h4:=acm (a[i]) (hr _ (by simp))
   simp[Wh.GL,Wh.Ol,bx,iy,h2,hi,h4,nQ]
  ·simp[Wh.GL]
 simp[Wh.GK,cb hl,cv hl]
theorem acA (a:mb.D)(h:a.2.2.1.length≤4611686018427387904)(hr:∀x∈a.2.2.1,x.1.length≤4611686018427387904):Wh.q62 (a,a)=some (true,()):=by
 simp[Wh.q62,Wh.Oc,bx,ack _ h hr,iy,nQ]
def SmPlan (a:r_.D):Prop:=a.2.2.1.length≤4611686018427387904∧a.2.2.2.1.length≤4611686018427387904
def Cm (a:mb.D):Prop:=a.2.2.1.length≤4611686018427387904∧∀x∈a.2.2.1,x.1.length≤4611686018427387904
def C4 (a:xO.D):Prop:=SmPlan a.1∧Cm a.2.1
def abS (a:nc.D):Prop:=C4 a.2.2.2.2.2.1
theorem acp (a:xO.D)(h:C4 a):Wh.q32 (a,a)=some (true,()):=by
 simp[Wh.q32,Wh.N0,bx,Wh.Ox,bx,acu _ h.1.1 h.1.2,acA _ h.2.1 h.2.2,iy,nQ]
theorem acj (a:nc.D)(h:abS a):Wh.q57 (a,a)=some (true,()):=by
 simp[Wh.q57,Wh.Oo,bx,acp _ h,iy,nQ]
end Pc
open Go Go.Ab
namespace Pc
theorem x8 (n lo hi:Int):Wh.xe (n,lo,hi)=some (decide (lo≤n∧n≤hi),()):=by
 by_cases h:lo≤n<;>simp[Wh.xe,h]
theorem yc (n lo hi:Int):Wh.xR (n,lo,hi)=some (decide (lo≤n∧n≤hi),()):=by
 by_cases h:lo≤n<;>simp[Wh.xR,h]
theorem Wo (n:Int):Wh.Cd n=some (decide (0≤n∧n≤3),()):=by
 simp[Wh.Cd,Wh.n_,bx,yc,iy,nQ]
def jS:Nat→(Nat→Bool)→Bool
 |0,_=>true
 |n+1,p=>jS n p&&p n
theorem oL {p:Nat→Bool}:∀{n:Nat},jS n p=true↔∀i,i<n→p i=true
 |0=>by simp[jS]
 |n+1=>by
  rw[jS,Bool.and_eq_true,oL]
  constructor
  ·rintro⟨h1,h2⟩ i hi
   by_cases e:i=n
   ·subst e;exact h2
   ·exact h1 i (by omega)
  ·intro h
   exact⟨fun i hi=>h i (by omega),h n (by omega)⟩
theorem Nd {p q:Nat→Bool}:∀{n:Nat},(∀i,i<n→p i=q i)→jS n p=jS n q
 |0,_=>rfl
 |n+1,h=>by rw[jS,jS,Nd fun i hi=>h i (by omega),h n (by omega)]
theorem xT {X Y:Type}{r:X→Option (X⊕Y)}(st:Nat→X){n:Nat}{p:Nat→Bool}{yf yt:Y}(hs:∀i,i<n→(∀j,j<i→p j=true)→p i=true→r (st i)=some (.inl (st (i+1))))
  (hf:∀i,i<n→(∀j,j<i→p j=true)→p i=false→r (st i)=some (.inr yf)) (he:r (st n)=some (.inr yt)):Comes r (st 0) (if jS n p=true then yt else yf):=by
 have main:∀d k,k+d=n→(∀j,j<k→p j=true)→Comes r (st k) (if jS n p=true then yt else yf):=by
  intro d
  induction d with
  |zero=>
   intro k hk hp
   have:k=n:=by omega
   subst this
   rw[if_pos (oL.2 hp)]
   exact .out he
  |succ d ih=>
   intro k hk hp
   cases hpk:p k with
   |true=>
    refine .again (hs k (by omega) hp hpk) (ih (k+1) (by omega) fun j hj=>?_)
    by_cases e:j=k
    ·subst e;exact hpk
    ·exact hp j (by omega)
   |false=>
    have:¬jS n p=true:=by
     intro h
     have:=oL.1 h k (by omega)
     rw[hpk] at this;cases this
    rw[if_neg this]
    exact .out (hf k (by omega) hp hpk)
 exact main n 0 (by omega) (fun j hj=>by omega)
theorem gT {i:Nat}(h:i≤4611686018427387904):IntKind.wrap .i64 ((i:Int)+1)=((i+1:Nat):Int):=by rw[wrap64]<;>omega
theorem Cl {i:Nat}(h:i≤4611686018427387904):IntKind.wrap .i64 ((i:Int)-1)=(i:Int)-1:=by rw[wrap64]<;>omega
theorem Kp:IntKind.wrap .i64 1=1:=by decide
end Pc
open Go Go.Ab
namespace Pc
def Dk (t:List UInt8)(i:Nat):Bool:=decide (97≤(t.getD i 0).toNat)&&decide ((t.getD i 0).toNat≤122)
def Dj (t:List UInt8):Bool:=jS t.length (Dk t)&&decide (1≤t.length∧t.length≤6)
theorem ajC (t:List UInt8)(h:t.length≤4611686018427387904):Wh.B6 t=some (Dj t,()):=by
 have hl:Comes Wh.A3 (((0:Int),t),()) (if jS t.length (Dk t)=true then .inr (t,()) else .inl (false,())):=by
  refine xT (fun i=>(((i:Int),t),())) ?_ ?_ ?_
  ·intro i hi _ hp
   have e0:t.getD i 0=t[i]:=by simp[hi]
   simp only[Dk,Bool.and_eq_true,decide_eq_true_eq,e0] at hp
   have h1:¬(((t[i].toNat:Nat):Int)<97):=by omega
   have h2:¬(122<((t[i].toNat:Nat):Int)):=by omega
   have h3:=gT (i:=i) (by omega)
   simp[Wh.A3,hi,iy,h1,h2,h3]
  ·intro i hi _ hp
   have e0:t.getD i 0=t[i]:=by simp[hi]
   simp only[Dk,Bool.and_eq_false_iff,decide_eq_false_iff_not,e0] at hp
   by_cases h1:((t[i].toNat:Nat):Int)<97
   ·simp[Wh.A3,hi,iy,h1]
   ·have h2:122<((t[i].toNat:Nat):Int):=by omega
    simp[Wh.A3,hi,iy,h1,h2]
  ·simp[Wh.A3]
 have e:decide ((1:Int)≤(t.length:Int)∧(t.length:Int)≤6)=decide (1≤t.length∧t.length≤6):=by congr 1;exact propext ⟨fun h=>by omega,fun h=>by omega⟩
 cases hp:jS t.length (Dk t) with
 |true=>
  rw[hp,if_pos rfl] at hl
  simp only[Wh.B6,cb hl,cv hl,Dj,hp,Wh.nS,bx,x8,iy,nQ,cond_true,Bool.true_and]
  exact congrArg (fun b=>some (b,())) e
 |false=>
  rw[hp,if_neg (by simp)] at hl
  simp[Wh.B6,cb hl,cv hl,Dj,hp]
theorem adU (t:List UInt8)(h:t.length≤4611686018427387904):Wh.BH t=some (Dj t,()):=by
 have hl:Comes Wh.A1 (((0:Int),t,(t.length:Int)),()) (if jS t.length (Dk t)=true then .inr (t,()) else .inl (false,())):=by
  refine xT (fun i=>(((i:Int),t,(t.length:Int)),())) ?_ ?_ ?_
  ·intro i hi _ hp
   have e0:t.getD i 0=t[i]:=by simp[hi]
   simp only[Dk,Bool.and_eq_true,decide_eq_true_eq,e0] at hp
   have h1:¬(((t[i].toNat:Nat):Int)<97):=by omega
   have h2:¬(122<((t[i].toNat:Nat):Int)):=by omega
   have h3:=gT (i:=i) (by omega)
   simp[Wh.A1,hi,iy,h1,h2,h3]
  ·intro i hi _ hp
   have e0:t.getD i 0=t[i]:=by simp[hi]
   simp only[Dk,Bool.and_eq_false_iff,decide_eq_false_iff_not,e0] at hp
   by_cases h1:((t[i].toNat:Nat):Int)<97
   ·simp[Wh.A1,hi,iy,h1]
   ·have h2:122<((t[i].toNat:Nat):Int):=by omega
    simp[Wh.A1,hi,iy,h1,h2]
  ·simp[Wh.A1]
 have e:decide ((1:Int)≤(t.length:Int)∧(t.length:Int)≤6)=decide (1≤t.length∧t.length≤6):=by congr 1;exact propext ⟨fun h=>by omega,fun h=>by omega⟩
 cases hp:jS t.length (Dk t) with
 |true=>
  rw[hp,if_pos rfl] at hl
  simp only[Wh.BH,cb hl,cv hl,Dj,hp,Wh.n_,bx,yc,iy,nQ,cond_true,Bool.true_and]
  exact congrArg (fun b=>some (b,())) e
 |false=>
  rw[hp,if_neg (by simp)] at hl
  simp[Wh.BH,cb hl,cv hl,Dj,hp]
def BP (row:List Int)(count:Int)(i:Nat):Bool:=decide (0≤row.getD i 0∧row.getD i 0≤count-1)&&(decide (i=0) || decide (row.getD (i-1) 0<row.getD i 0))
def zN (row:List Int)(count:Int):Bool:=jS row.length (BP row count)&&decide (0≤count∧count≤24)
theorem ajG (row:List Int)(count:Int)(h:row.length≤4611686018427387904)(hc: -9223372036854775807≤count)(aJ:count≤9223372036854775807):Wh.E6 (row,count)=some (zN row count,()):=by
 have hl:Comes Wh.CN (((0:Int),row,count),()) (if jS row.length (BP row count)=true then .inr (count,()) else .inl (false,())):=by
  refine xT (fun i=>(((i:Int),row,count),())) ?_ ?_ ?_
  ·intro i hi _ hp
   have e0:row.getD i 0=row[i]:=by simp[hi]
   simp only[BP,Bool.and_eq_true,Bool.or_eq_true,decide_eq_true_eq,e0] at hp
   have h3:=gT (i:=i) (by omega)
   have h4:IntKind.wrap .i64 (count-1)=count-1:=by rw[wrap64]<;>omega
   have h5:=Cl (i:=i) (by omega)
   obtain⟨hp1,hp2⟩:=hp
   by_cases hz:i=0
   ·subst hz
    simp[Wh.CN,hi,iy,h4,Kp,Wh.nS,bx,x8,nQ,hp1]
   ·have h6:(0:Int)<i:=by omega
    have h7:row.getD (i-1) 0<row[i]:=hp2.resolve_left hz
    have h8:((i:Int)-1).toNat=i-1:=by omega
    have h9:¬row[i]≤row[i-1]:=by
     have:row.getD (i-1) 0=row[i-1]:=by simp[show i-1<row.length by omega]
     omega
    have h10:i-1<row.length:=by omega
    have h11:(0:Int)≤(i:Int)-1:=by omega
    have h12:(i:Int)-1<row.length:=by omega
    have z6:(1:Int)≤i:=by omega
    simp[Wh.CN,hi,iy,h3,h4,h5,h8,h9,h10,h12,z6,Wh.nS,bx,x8,nQ,hp1,show 0<i by omega]
  ·intro i hi _ hp
   have e0:row.getD i 0=row[i]:=by simp[hi]
   simp only[BP,Bool.and_eq_false_iff,Bool.or_eq_false_iff,decide_eq_false_iff_not,e0] at hp
   have h4:IntKind.wrap .i64 (count-1)=count-1:=by rw[wrap64]<;>omega
   have h5:=Cl (i:=i) (by omega)
   by_cases hp1:0≤row[i]∧row[i]≤count-1
   ·have hp2:=hp.resolve_left (fun h=>h hp1)
    have h6:(0:Int)<i:=by omega
    have h8:((i:Int)-1).toNat=i-1:=by omega
    have h9:row[i]≤row[i-1]:=by
     have:row.getD (i-1) 0=row[i-1]:=by simp[show i-1<row.length by omega]
     omega
    have h10:i-1<row.length:=by omega
    have h11:(0:Int)≤(i:Int)-1:=by omega
    have h12:(i:Int)-1<row.length:=by omega
    have z6:(1:Int)≤i:=by omega
    simp[Wh.CN,hi,iy,h4,h5,h8,h9,h10,h12,z6,Wh.nS,bx,x8,nQ,hp1,show 0<i by omega]
   ·simp[Wh.CN,hi,iy,h4,Wh.nS,bx,x8,nQ,hp1]
  ·simp[Wh.CN]
 cases hp:jS row.length (BP row count) with
 |true=>
  rw[hp,if_pos rfl] at hl
  simp[Wh.E6,cb hl,cv hl,zN,hp,Wh.nS,bx,x8,iy,nQ]
 |false=>
  rw[hp,if_neg (by simp)] at hl
  simp[Wh.E6,cb hl,cv hl,zN,hp]
theorem adX (row:List Int)(count:Int)(h:row.length≤4611686018427387904)(hc: -9223372036854775807≤count)(aJ:count≤9223372036854775807):Wh.EZ (row,count)=some (zN row count,()):=by
 have hl:Comes Wh.CL (((0:Int),row,count,row,(row.length:Int)),()) (if jS row.length (BP row count)=true then .inr (count,()) else .inl (false,())):=by
  refine xT (fun i=>(((i:Int),row,count,row,(row.length:Int)),())) ?_ ?_ ?_
  ·intro i hi _ hp
   have e0:row.getD i 0=row[i]:=by simp[hi]
   simp only[BP,Bool.and_eq_true,Bool.or_eq_true,decide_eq_true_eq,e0] at hp
   have h3:=gT (i:=i) (by omega)
   have h4:IntKind.wrap .i64 (count-1)=count-1:=by rw[wrap64]<;>omega
   have h5:=Cl (i:=i) (by omega)
   obtain⟨hp1,hp2⟩:=hp
   by_cases hz:i=0
   ·subst hz
    simp[Wh.CL,hi,iy,h4,Kp,Wh.n_,bx,yc,nQ,hp1]
   ·have h6:(0:Int)<i:=by omega
    have h7:row.getD (i-1) 0<row[i]:=hp2.resolve_left hz
    have h8:((i:Int)-1).toNat=i-1:=by omega
    have h9:¬row[i]≤row[i-1]:=by
     have:row.getD (i-1) 0=row[i-1]:=by simp[show i-1<row.length by omega]
     omega
    have h10:i-1<row.length:=by omega
    have h11:(0:Int)≤(i:Int)-1:=by omega
    have h12:(i:Int)-1<row.length:=by omega
    have z6:(1:Int)≤i:=by omega
    simp[Wh.CL,hi,iy,h3,h4,h5,h8,h9,h10,h12,z6,Wh.n_,bx,yc,nQ,hp1,show 0<i by omega]
  ·intro i hi _ hp
   have e0:row.getD i 0=row[i]:=by simp[hi]
   simp only[BP,Bool.and_eq_false_iff,Bool.or_eq_false_iff,decide_eq_false_iff_not,e0] at hp
   have h4:IntKind.wrap .i64 (count-1)=count-1:=by rw[wrap64]<;>omega
   have h5:=Cl (i:=i) (by omega)
   by_cases hp1:0≤row[i]∧row[i]≤count-1
   ·have hp2:=hp.resolve_left (fun h=>h hp1)
    have h6:(0:Int)<i:=by omega
    have h8:((i:Int)-1).toNat=i-1:=by omega
    have h9:row[i]≤row[i-1]:=by
     have:row.getD (i-1) 0=row[i-1]:=by simp[show i-1<row.length by omega]
     omega
    have h10:i-1<row.length:=by omega
    have h11:(0:Int)≤(i:Int)-1:=by omega
    have h12:(i:Int)-1<row.length:=by omega
    have z6:(1:Int)≤i:=by omega
    simp[Wh.CL,hi,iy,h4,h5,h8,h9,h10,h12,z6,Wh.n_,bx,yc,nQ,hp1,show 0<i by omega]
   ·simp[Wh.CL,hi,iy,h4,Wh.n_,bx,yc,nQ,hp1]
  ·simp[Wh.CL]
 cases hp:jS row.length (BP row count) with
 |true=>
  rw[hp,if_pos rfl] at hl
  simp[Wh.EZ,cb hl,cv hl,zN,hp,Wh.n_,bx,yc,iy,nQ]
 |false=>
  rw[hp,if_neg (by simp)] at hl
  simp[Wh.EZ,cb hl,cv hl,zN,hp]
end Pc
open Go Go.Ab
namespace Pc
def cnt (p:r_.D):Int:=(p.1+p.2.1-1).tdiv p.2.1
theorem Nl (p:r_.D)(h1:1≤p.1∧p.1≤300)(h2:1≤p.2.1∧p.2.1≤16):1≤cnt p∧cnt p≤400:=by
 unfold cnt
 rw[Int.tdiv_eq_ediv_of_nonneg (by omega)]
 constructor
 ·exact(Int.le_ediv_iff_mul_le (by omega)).2 (by omega)
 ·have:(p.1+p.2.1-1) / p.2.1≤(p.1+p.2.1-1):=Int.ediv_le_self _ (by omega)
  omega
theorem ON (p:r_.D)(h1:1≤p.1∧p.1≤300)(h2:1≤p.2.1∧p.2.1≤16):Wh.z_ p=some (cnt p,()):=by
 have hb:=Nl p h1 h2
 have e1:IntKind.wrap .i64 (p.1+p.2.1)=p.1+p.2.1:=by rw[wrap64]<;>omega
 have e2:IntKind.wrap .i64 (p.1+p.2.1-1)=p.1+p.2.1-1:=by rw[wrap64]<;>omega
 have e3:IntKind.wrap .i64 ((p.1+p.2.1-1).tdiv p.2.1)=(p.1+p.2.1-1).tdiv p.2.1:=by unfold cnt at hb;rw[wrap64]<;>omega
 have hz:(p.2.1 != 0)=true:=by simp;omega
 simp[Wh.z_,e1,e2,e3,iy,cnt,hz]
theorem Rv (p:r_.D)(h1:1≤p.1∧p.1≤300)(h2:1≤p.2.1∧p.2.1≤16):Wh.AI p=some (cnt p,()):=by
 have hb:=Nl p h1 h2
 have e1:IntKind.wrap .i64 (p.1+p.2.1)=p.1+p.2.1:=by rw[wrap64]<;>omega
 have e2:IntKind.wrap .i64 (p.1+p.2.1-1)=p.1+p.2.1-1:=by rw[wrap64]<;>omega
 have e3:IntKind.wrap .i64 ((p.1+p.2.1-1).tdiv p.2.1)=(p.1+p.2.1-1).tdiv p.2.1:=by unfold cnt at hb;rw[wrap64]<;>omega
 have hz:(p.2.1 != 0)=true:=by simp;omega
 simp[Wh.AI,e1,e2,e3,iy,cnt,hz]
def Dn (p:r_.D)(i:Nat):Bool:=
 decide (1≤p.2.2.1.getD i 0∧p.2.2.1.getD i 0≤cnt p)&&(decide (i=0) || decide (p.2.2.1.getD (i-1) 0<p.2.2.1.getD i 0))&&decide (1≤p.2.2.2.1.getD i 0∧p.2.2.2.1.getD i 0≤99)
def zA (p:r_.D):Bool:=decide (1≤p.1∧p.1≤300)&&decide (1≤p.2.1∧p.2.1≤16)&&decide (cnt p≤24)&&decide (1≤p.2.2.1.length∧p.2.2.1.length≤3)&&decide (p.2.2.2.1.length=p.2.2.1.length)
def y7 (p:r_.D):Bool:=zA p&&jS p.2.2.1.length (Dn p)&&decide (p.2.2.1.getD (p.2.2.1.length-1) 0=cnt p)
theorem ajF (p:r_.D)(h:zA p=true):Comes Wh.BJ (((0:Int),()),p) (if jS p.2.2.1.length (Dn p)=true then .inr ((),p) else .inl (false,())):=by
 simp only[zA,Bool.and_eq_true,decide_eq_true_eq] at h
 obtain⟨⟨⟨⟨a1,a2⟩,a3⟩,a4⟩,a5⟩:=h
 have hc:=ON p a1 a2
 refine xT (fun i=>(((i:Int),()),p)) ?_ ?_ ?_
 ·intro i hi _ hp
  have hi2:i<p.2.2.2.1.length:=by omega
  have e0:p.2.2.1.getD i 0=p.2.2.1[i]:=by simp[hi]
  have e1:p.2.2.2.1.getD i 0=p.2.2.2.1[i]:=by simp[hi2]
  simp only[Dn,Bool.and_eq_true,Bool.or_eq_true,decide_eq_true_eq,e0,e1] at hp
  obtain⟨⟨hp1,hp2⟩,A9⟩:=hp
  have h3:=gT (i:=i) (by omega)
  have h5:=Cl (i:=i) (by omega)
  by_cases hz:i=0
  ·subst hz
   simp[Wh.BJ,hi,hi2,iy,Kp,Wh.nS,bx,Wh.y8,bx,hc,x8,nQ,hp1,A9]
  ·have h6:(0:Int)<i:=by omega
   have h8:((i:Int)-1).toNat=i-1:=by omega
   have h10:i-1<p.2.2.1.length:=by omega
   have h9:¬p.2.2.1[i]≤p.2.2.1[i-1]:=by
    have:p.2.2.1.getD (i-1) 0=p.2.2.1[i-1]:=by simp[h10]
    have:=hp2.resolve_left hz
    omega
   have h11:(0:Int)≤(i:Int)-1:=by omega
   have h12:(i:Int)-1<p.2.2.1.length:=by omega
   have z6:(1:Int)≤i:=by omega
   simp[Wh.BJ,hi,hi2,iy,h3,h5,h8,h9,h10,h12,z6,Wh.nS,bx,Wh.y8,bx,hc,x8,nQ,hp1,A9,show 0<i by omega]
 ·intro i hi _ hp
  have hi2:i<p.2.2.2.1.length:=by omega
  have e0:p.2.2.1.getD i 0=p.2.2.1[i]:=by simp[hi]
  have e1:p.2.2.2.1.getD i 0=p.2.2.2.1[i]:=by simp[hi2]
  simp only[Dn,Bool.and_eq_false_iff,Bool.or_eq_false_iff,decide_eq_false_iff_not,e0,e1] at hp
  have h5:=Cl (i:=i) (by omega)
  by_cases hp1:1≤p.2.2.1[i]∧p.2.2.1[i]≤cnt p
  ·by_cases hz:i=0
   ·subst hz
    have A9:¬((1:Int)≤p.2.2.2.1[0]∧p.2.2.2.1[0]≤(99:Int)):=by
     rcases hp with(hp|hp)|hp
     ·exact absurd hp1 hp
     ·exact absurd rfl hp.1
     ·exact hp
    simp[Wh.BJ,hi,hi2,iy,Wh.nS,bx,Wh.y8,bx,hc,x8,nQ,hp1,A9]
   ·have h6:(0:Int)<i:=by omega
    have h8:((i:Int)-1).toNat=i-1:=by omega
    have h10:i-1<p.2.2.1.length:=by omega
    have e2:p.2.2.1.getD (i-1) 0=p.2.2.1[i-1]:=by simp[h10]
    rw[e2] at hp
    have h11:(0:Int)≤(i:Int)-1:=by omega
    have h12:(i:Int)-1<p.2.2.1.length:=by omega
    have z6:(1:Int)≤i:=by omega
    by_cases h9:p.2.2.1[i]≤p.2.2.1[i-1]
    ·simp[Wh.BJ,hi,iy,h5,h8,h9,h10,h12,z6,Wh.nS,bx,Wh.y8,bx,hc,x8,nQ,hp1,show 0<i by omega]
    ·have A9:¬(1≤p.2.2.2.1[i]∧p.2.2.2.1[i]≤99):=by
      rcases hp with(hp|hp)|hp
      ·exact absurd hp1 hp
      ·exact absurd hp.2 (by omega)
      ·exact hp
     simp[Wh.BJ,hi,hi2,iy,h5,h8,h9,h10,h12,z6,Wh.nS,bx,Wh.y8,bx,hc,x8,nQ,hp1,A9,show 0<i by omega]
  ·simp[Wh.BJ,hi,iy,Wh.nS,bx,Wh.y8,bx,hc,x8,nQ,hp1]
 ·simp[Wh.BJ]
theorem ajE (p:r_.D):Wh.Bg p=some (y7 p,()):=by
 by_cases a1:1≤p.1∧p.1≤300
 case neg=>simp[Wh.Bg,Wh.nS,bx,x8,iy,nQ,a1,y7,zA]
 by_cases a2:1≤p.2.1∧p.2.1≤16
 case neg=>simp[Wh.Bg,Wh.nS,bx,x8,iy,nQ,a1,a2,y7,zA]
 have hc:=ON p a1 a2
 have hb:=Nl p a1 a2
 by_cases a3:cnt p≤24
 case neg=>simp[Wh.Bg,Wh.nS,bx,Wh.y8,bx,hc,x8,iy,nQ,a1,a2,a3,y7,zA]
 by_cases a4:1≤p.2.2.1.length∧p.2.2.1.length≤3
 case neg=>
  have zZ:¬((1:Int)≤(p.2.2.1.length:Int)∧(p.2.2.1.length:Int)≤3):=by omega
  simp only[Wh.Bg,Wh.nS,bx,Wh.y8,bx,hc,x8,iy,nQ,a1,a2,a3,a4,zZ,hb.1,y7,zA,and_self,decide_true,decide_false,Bool.not_true,Bool.not_false,cond_true,cond_false,Bool.false_and,Bool.and_false,Bool.or_true,Bool.and_self]
 by_cases a5:p.2.2.2.1.length=p.2.2.1.length
 case neg=>
  have zZ:((1:Int)≤(p.2.2.1.length:Int)∧(p.2.2.1.length:Int)≤3):=by omega
  have Cn:((p.2.2.2.1.length:Int) != (p.2.2.1.length:Int))=true:=by simp;omega
  simp only[Wh.Bg,Wh.nS,bx,Wh.y8,bx,hc,x8,iy,nQ,a1,a2,a3,a4,zZ,a5,Cn,hb.1,y7,zA,and_self,decide_true,decide_false,Bool.not_true,Bool.not_false,cond_true,cond_false,Bool.false_and,Bool.and_false,Bool.or_true,Bool.and_self]
 have hA:zA p=true:=by simp only[zA,a1,a2,a3,a4,a5,and_self,decide_true,Bool.and_self]
 have hl:=ajF p hA
 have zZ:((1:Int)≤(p.2.2.1.length:Int)∧(p.2.2.1.length:Int)≤3):=by omega
 have Cn:((p.2.2.2.1.length:Int) != (p.2.2.1.length:Int))=false:=by simp;omega
 have w1:IntKind.wrap .i64 ((p.2.2.1.length:Int)-1)=(p.2.2.1.length:Int)-1:=Cl (by omega)
 have w2:((p.2.2.1.length:Int)-1).toNat=p.2.2.1.length-1:=by omega
 have w3:(0:Int)≤(p.2.2.1.length:Int)-1:=by omega
 have w4:(p.2.2.1.length:Int)-1<(p.2.2.1.length:Int):=by omega
 cases hp:jS p.2.2.1.length (Dn p) with
 |true=>
  rw[hp,if_pos rfl] at hl
  simp only[Wh.Bg,cb hl,cv hl,Wh.nS,bx,Wh.y8,bx,hc,x8,iy,nQ,a1,a2,a3,zZ,Cn,hb.1,y7,hA,hp,and_self,decide_true,Bool.not_true,Bool.not_false,cond_true,cond_false,Bool.true_and,Bool.or_true,Bool.and_self]
  dsimp only[sumC]
  simp only[hc,w1,w2,w3,w4,decide_true,Bool.and_self,cond_true]
  rfl
 |false=>
  rw[hp,if_neg (by simp)] at hl
  simp only[Wh.Bg,cb hl,cv hl,Wh.nS,bx,Wh.y8,bx,hc,x8,iy,nQ,a1,a2,a3,zZ,Cn,hb.1,y7,hA,hp,and_self,decide_true,Bool.not_true,Bool.not_false,cond_true,cond_false,Bool.false_and,Bool.and_false,Bool.or_true,Bool.and_self]
theorem adW (p:r_.D)(h:zA p=true):Comes Wh.BI (((0:Int),(),p.2.2.1,(p.2.2.1.length:Int)),p) (if jS p.2.2.1.length (Dn p)=true then .inr ((),()) else .inl (false,())):=by
 simp only[zA,Bool.and_eq_true,decide_eq_true_eq] at h
 obtain⟨⟨⟨⟨a1,a2⟩,a3⟩,a4⟩,a5⟩:=h
 have hc:=Rv p a1 a2
 refine xT (fun i=>(((i:Int),(),p.2.2.1,(p.2.2.1.length:Int)),p)) ?_ ?_ ?_
 ·intro i hi _ hp
  have hi2:i<p.2.2.2.1.length:=by omega
  have e0:p.2.2.1.getD i 0=p.2.2.1[i]:=by simp[hi]
  have e1:p.2.2.2.1.getD i 0=p.2.2.2.1[i]:=by simp[hi2]
  simp only[Dn,Bool.and_eq_true,Bool.or_eq_true,decide_eq_true_eq,e0,e1] at hp
  obtain⟨⟨hp1,hp2⟩,A9⟩:=hp
  have h3:=gT (i:=i) (by omega)
  have h5:=Cl (i:=i) (by omega)
  by_cases hz:i=0
  ·subst hz
   simp[Wh.BI,hi,hi2,iy,Kp,Wh.n_,bx,Wh.zi,bx,hc,yc,nQ,hp1,A9]
  ·have h6:(0:Int)<i:=by omega
   have h8:((i:Int)-1).toNat=i-1:=by omega
   have h10:i-1<p.2.2.1.length:=by omega
   have h9:¬p.2.2.1[i]≤p.2.2.1[i-1]:=by
    have:p.2.2.1.getD (i-1) 0=p.2.2.1[i-1]:=by simp[h10]
    have:=hp2.resolve_left hz
    omega
   have h11:(0:Int)≤(i:Int)-1:=by omega
   have h12:(i:Int)-1<p.2.2.1.length:=by omega
   have z6:(1:Int)≤i:=by omega
   simp[Wh.BI,hi,hi2,iy,h3,h5,h8,h9,h10,h12,z6,Wh.n_,bx,Wh.zi,bx,hc,yc,nQ,hp1,A9,show 0<i by omega]
 ·intro i hi _ hp
  have hi2:i<p.2.2.2.1.length:=by omega
  have e0:p.2.2.1.getD i 0=p.2.2.1[i]:=by simp[hi]
  have e1:p.2.2.2.1.getD i 0=p.2.2.2.1[i]:=by simp[hi2]
  simp only[Dn,Bool.and_eq_false_iff,Bool.or_eq_false_iff,decide_eq_false_iff_not,e0,e1] at hp
  have h5:=Cl (i:=i) (by omega)
  by_cases hp1:1≤p.2.2.1[i]∧p.2.2.1[i]≤cnt p
  ·by_cases hz:i=0
   ·subst hz
    have A9:¬((1:Int)≤p.2.2.2.1[0]∧p.2.2.2.1[0]≤(99:Int)):=by
     rcases hp with(hp|hp)|hp
     ·exact absurd hp1 hp
     ·exact absurd rfl hp.1
     ·exact hp
    simp[Wh.BI,hi,hi2,iy,Wh.n_,bx,Wh.zi,bx,hc,yc,nQ,hp1,A9]
   ·have h6:(0:Int)<i:=by omega
    have h8:((i:Int)-1).toNat=i-1:=by omega
    have h10:i-1<p.2.2.1.length:=by omega
    have e2:p.2.2.1.getD (i-1) 0=p.2.2.1[i-1]:=by simp[h10]
    rw[e2] at hp
    have h11:(0:Int)≤(i:Int)-1:=by omega
    have h12:(i:Int)-1<p.2.2.1.length:=by omega
    have z6:(1:Int)≤i:=by omega
    by_cases h9:p.2.2.1[i]≤p.2.2.1[i-1]
    ·simp[Wh.BI,hi,iy,h5,h8,h9,h10,h12,z6,Wh.n_,bx,Wh.zi,bx,hc,yc,nQ,hp1,show 0<i by omega]
    ·have A9:¬(1≤p.2.2.2.1[i]∧p.2.2.2.1[i]≤99):=by
      rcases hp with(hp|hp)|hp
      ·exact absurd hp1 hp
      ·exact absurd hp.2 (by omega)
      ·exact hp
     simp[Wh.BI,hi,hi2,iy,h5,h8,h9,h10,h12,z6,Wh.n_,bx,Wh.zi,bx,hc,yc,nQ,hp1,A9,show 0<i by omega]
  ·simp[Wh.BI,hi,iy,Wh.n_,bx,Wh.zi,bx,hc,yc,nQ,hp1]
 ·simp[Wh.BI]
theorem adV (p:r_.D):Wh.A2 p=some (y7 p,()):=by
 by_cases a1:1≤p.1∧p.1≤300
 case neg=>simp[Wh.A2,Wh.n_,bx,yc,iy,nQ,a1,y7,zA]
 by_cases a2:1≤p.2.1∧p.2.1≤16
 case neg=>simp[Wh.A2,Wh.n_,bx,yc,iy,nQ,a1,a2,y7,zA]
 have hc:=Rv p a1 a2
 have hb:=Nl p a1 a2
 by_cases a3:cnt p≤24
 case neg=>
  have a3':cnt p>24:=by omega
  simp[Wh.A2,Wh.n_,bx,Wh.zi,bx,hc,yc,iy,nQ,a1,a2,a3,a3',y7,zA]
 have a3':¬cnt p>24:=by omega
 by_cases a4:1≤p.2.2.1.length∧p.2.2.1.length≤3
 case neg=>
  have zZ:¬((1:Int)≤(p.2.2.1.length:Int)∧(p.2.2.1.length:Int)≤3):=by omega
  simp only[Wh.A2,Wh.n_,bx,Wh.zi,bx,hc,yc,iy,nQ,a1,a2,a3,a3',a4,zZ,y7,zA,and_self,decide_true,decide_false,Bool.not_true,Bool.not_false,cond_true,cond_false,Bool.false_and,Bool.and_false,Bool.true_or,Bool.or_true,Bool.and_self]
 by_cases a5:p.2.2.2.1.length=p.2.2.1.length
 case neg=>
  have zZ:((1:Int)≤(p.2.2.1.length:Int)∧(p.2.2.1.length:Int)≤3):=by omega
  have Cn:((p.2.2.2.1.length:Int) != (p.2.2.1.length:Int))=true:=by simp;omega
  simp only[Wh.A2,Wh.n_,bx,Wh.zi,bx,hc,yc,iy,nQ,a1,a2,a3,a3',a4,zZ,a5,Cn,y7,zA,and_self,decide_true,decide_false,Bool.not_true,Bool.not_false,cond_true,cond_false,Bool.false_and,Bool.and_false,Bool.true_or,Bool.or_true,Bool.and_self]
 have hA:zA p=true:=by simp only[zA,a1,a2,a3,a4,a5,and_self,decide_true,Bool.and_self]
 have hl:=adW p hA
 have zZ:((1:Int)≤(p.2.2.1.length:Int)∧(p.2.2.1.length:Int)≤3):=by omega
 have Cn:((p.2.2.2.1.length:Int) != (p.2.2.1.length:Int))=false:=by simp;omega
 have w1:IntKind.wrap .i64 ((p.2.2.1.length:Int)-1)=(p.2.2.1.length:Int)-1:=Cl (by omega)
 have w2:((p.2.2.1.length:Int)-1).toNat=p.2.2.1.length-1:=by omega
 have w3:(0:Int)≤(p.2.2.1.length:Int)-1:=by omega
 have w4:(p.2.2.1.length:Int)-1<(p.2.2.1.length:Int):=by omega
 by_cases a6:p.2.2.1.getD (p.2.2.1.length-1) 0=cnt p
 case neg=>
  have a6':(p.2.2.1.getD (p.2.2.1.length-1) 0 != cnt p)=true:=by simpa using a6
  simp only[Wh.A2,Wh.n_,bx,Wh.zi,bx,hc,yc,iy,nQ,a1,a2,a3',zZ,Cn,a6,a6',y7,hA,w1,w2,w3,w4,and_self,decide_true,decide_false,Bool.not_true,Bool.not_false,cond_true,cond_false,Bool.true_and,Bool.and_false,Bool.or_true,Bool.and_self]
 have a6':(p.2.2.1.getD (p.2.2.1.length-1) 0 != cnt p)=false:=by simpa using a6
 have a7:decide (p.2.2.1.getD (p.2.2.1.length-1) 0=cnt p)=true:=by simpa using a6
 cases hp:jS p.2.2.1.length (Dn p) with
 |true=>
  rw[hp,if_pos rfl] at hl
  simp only[Wh.A2,cb hl,cv hl,Wh.n_,bx,Wh.zi,bx,hc,yc,iy,nQ,a1,a2,a3',zZ,Cn,a6',a7,y7,hA,hp,w1,w2,w3,w4,and_self,decide_true,decide_false,Bool.not_true,Bool.not_false,cond_true,cond_false,Bool.or_true,Bool.and_self]
 |false=>
  rw[hp,if_neg (by simp)] at hl
  simp only[Wh.A2,cb hl,cv hl,Wh.n_,bx,Wh.zi,bx,hc,yc,iy,nQ,a1,a2,a3',zZ,Cn,a6',a7,y7,hA,hp,w1,w2,w3,w4,and_self,decide_true,decide_false,Bool.not_true,Bool.not_false,cond_true,cond_false,Bool.false_and,Bool.and_false,Bool.or_true,Bool.and_self]
end Pc
open Go Go.Ab
namespace Pc
def yp (l:List Int):Nat:=l.foldl (fun m x=>m |||2 ^ x.toNat) 0
theorem YR (l:List Int)(x:Int):yp (l ++ [x])=yp l |||2 ^ x.toNat:=by simp[yp,List.foldl_append]
theorem aez (l:List Int)(j:Nat):∀m:Nat,(l.foldl (fun m x=>m |||2 ^ x.toNat) m).testBit j=(m.testBit j || l.any fun x=>decide (x.toNat=j)):=by
 induction l with
 |nil=>simp
 |cons x l ih=>
  intro m
  rw[List.foldl_cons,ih]
  simp[Nat.testBit_or,Nat.testBit_two_pow,Bool.or_assoc]
theorem NO (l:List Int)(j:Nat):(yp l).testBit j=l.any fun x=>decide (x.toNat=j):=by
 rw[yp,aez];simp
theorem mk_lt (l:List Int)(h:∀x∈l,x<24):∀m:Nat,m<2 ^ 24→l.foldl (fun m x=>m |||2 ^ x.toNat) m<2 ^ 24:=by
 induction l with
 |nil=>intro m hm;exact hm
 |cons x l ih=>
  intro m hm
  rw[List.foldl_cons]
  refine ih (fun y hy=>h y (List.mem_cons_of_mem _ hy)) _ (Nat.or_lt_two_pow hm ?_)
  exact Nat.pow_lt_pow_right (by decide) (by have:=h x List.mem_cons_self;omega)
theorem NN (l:List Int)(h:∀x∈l,x<24):yp l<2 ^ 24:=mk_lt l h 0 (by decide)
theorem NQ {a:Nat}(ha:a<2 ^ 24):(BitVec.ofInt 32 (a:Int)).toNat=a:=by
 rw[BitVec.ofInt_natCast,BitVec.toNat_ofNat];omega
theorem wrap32 {n:Nat}(h:n<2 ^ 24):IntKind.wrap .u32 (n:Int)=(n:Int):=by
 simp[IntKind.wrap,IntKind.bits,IntKind.signed];omega
theorem or32 {a b:Nat}(ha:a<2 ^ 24)(hb:b<2 ^ 24):nj .or .u32 (a:Int) (b:Int)=((a |||b:Nat):Int):=by
 show IntKind.wrap .u32 (((BitVec.ofInt 32 (a:Int) |||BitVec.ofInt 32 (b:Int)).toNat:Nat):Int)=_
 rw[BitVec.toNat_or,NQ ha,NQ hb,wrap32 (Nat.or_lt_two_pow ha hb)]
theorem and32 {a b:Nat}(ha:a<2 ^ 24)(hb:b<2 ^ 24):nj .and .u32 (a:Int) (b:Int)=((a &&& b:Nat):Int):=by
 show IntKind.wrap .u32 (((BitVec.ofInt 32 (a:Int) &&& BitVec.ofInt 32 (b:Int)).toNat:Nat):Int)=_
 rw[BitVec.toNat_and,NQ ha,NQ hb,wrap32 (Nat.and_lt_two_pow _ hb)]
theorem shl32 {n:Int}(h:0≤n)(h':n<24):IntKind.wrap .u32 ((1:Int)*(2:Int) ^ Min.min (Int.toNat n) (IntKind.bits .u32))=((2 ^ n.toNat:Nat):Int):=by
 obtain⟨k,rfl⟩:∃k:Nat,n=k:=⟨n.toNat,by omega⟩
 have hk:k<24:=by omega
 have hm:min k 32=k:=by omega
 have h2:2 ^ k<2 ^ 24:=Nat.pow_lt_pow_right (by decide) hk
 have e:(1:Int)*(2:Int) ^ Min.min (Int.toNat k) (IntKind.bits .u32)=((2 ^ k:Nat):Int):=by
  simp[IntKind.bits,hm]
 rw[e,wrap32 h2];simp
theorem pow24 {n:Int}(h':n<24):2 ^ n.toNat<2 ^ 24:=Nat.pow_lt_pow_right (by decide) (by omega)
theorem ad3 (row:List Int)(hl:row.length≤4611686018427387904)(h:∀x∈row,0≤x∧x<24):Wh.GX row=some ((yp row:Int),()):=by
 have hc:Comes Wh.GY (((0:Int),(0:Int),row,(row.length:Int)),()) ((yp row:Int),()):=by
  refine yd (st:=fun i=>(((i:Int),(yp (row.take i):Int),row,(row.length:Int)),())) (n:=row.length) ?_ ?_ 0 (Nat.zero_le _)
  ·intro i hi
   have h0:=h row[i] (by simp)
   have h3:=gT (i:=i) (by omega)
   have e:yp (row.take (i+1))=yp (row.take i) |||2 ^ (row[i]).toNat:=by rw[List.take_succ_eq_append_getElem hi,YR]
   have h4:=shl32 h0.1 h0.2
   have h5:=or32 (NN (row.take i) fun x hx=>(h x (List.mem_of_mem_take hx)).2) (pow24 h0.2)
   simp only[Wh.GY,getD_eq _ _ _ hi,Int.toNat_natCast,h3,h4,h5,e,iy,Int.ofNat_lt,hi,h0.1,decide_true,cond_true,Int.natCast_nonneg,Bool.and_self]
  ·simp[Wh.GY]
 simp[Wh.GX,cb hc,cv hc]
end Pc
open Go Go.Ab
namespace Pc
theorem abQ {i:Nat}(h:i≤4611686018427387904)(h0:0<i):IntKind.wrap .i64 ((i:Int)-1)=((i-1:Nat):Int):=by rw[wrap64]<;>omega
def mw (s:mb.D)(i:Nat):nW.D:=s.2.2.1.getD i ([],[],())
def th (s:mb.D)(i:Nat):Int:=(mw s i).1.getD 0 0
def x4 (s:mb.D)(i:Nat):Bool:=
 zN (mw s i).1 s.1&&decide ((mw s i).1.length≠0)&&decide (((mw s i).2.1.length:Int)=s.2.1)&&(decide (i=0) || decide (th s (i-1)<th s i))
theorem No (s:mb.D)(i:Nat)(h:i<s.2.2.1.length):mw s i∈s.2.2.1:=by
 rw[mw,getD_eq _ _ _ h];simp
theorem ajI (s:mb.D)(hs:Cm s)(h1:1≤s.1∧s.1≤24):Comes Wh.D6 (((0:Int),()),s) (if jS s.2.2.1.length (x4 s)=true then .inr ((),s) else .inl (false,())):=by
 have zM:∀i,i<s.2.2.1.length→(∀j,j<i→x4 s j=true)→Wh.D6 (((i:Int),()),s)=bif x4 s i then some (.inl ((((i+1:Nat):Int),()),s)) else some (.inr (.inl (false,()))):=by
  intro i hi hp
  have hm:=No s i hi
  have hr:=ajG (mw s i).1 s.1 (hs.2 _ hm) (by omega) (by omega)
  have hr':Wh.JO ((mw s i).1,s.1)=(zN (mw s i).1 s.1,()):=by simp only[Wh.JO,bx,hr]
  have eA:List.getD s.2.2.1 i ([],[],())=mw s i:=rfl
  have hi':decide ((i:Int)<(s.2.2.1.length:Int))=true:=by simpa using hi
  have h0:decide ((0:Int)≤(i:Int))=true:=by simp
  have w:=gT (i:=i) (by have:=hs.1;omega)
  have d1:(((mw s i).1.length:Int)==0) = !decide ((mw s i).1.length≠0):=by
   by_cases e:(mw s i).1.length=0<;>simp[e]
  have d2:(((mw s i).2.1.length:Int) != s.2.1) = !decide (((mw s i).2.1.length:Int)=s.2.1):=rfl
  have d3:decide ((0:Int)<((mw s i).1.length:Int))=decide ((mw s i).1.length≠0):=by
   by_cases e:(mw s i).1.length=0<;>simp[e];omega
  rcases Nat.eq_zero_or_pos i with hz|hz
  ·subst hz
   have g0:decide (((0:Nat):Int)>0)=false:=by decide
   cases hA:zN (mw s 0).1 s.1<;>cases hB:decide ((mw s 0).1.length≠0)<;>cases hC:decide (((mw s 0).2.1.length:Int)=s.2.1)<;>
    simp only[Wh.D6,hi',h0,Int.toNat_natCast,eA,hr',hr,d1,d2,d3,g0,hA,hB,hC,w,x4,iy,nQ,cond_true,cond_false,Bool.not_true,Bool.not_false,Bool.and_true,Bool.and_false,Bool.true_or,Bool.or_true,Bool.and_self,decide_true]
  ·have g0:decide ((i:Int)>0)=true:=by simpa using hz
   have gz:decide (i=0)=false:=by simp;omega
   have w2:=abQ (i:=i) (by have:=hs.1;omega) hz
   have eB:List.getD s.2.2.1 (i-1) ([],[],())=mw s (i-1):=rfl
   have hq:=hp (i-1) (by omega)
   simp only[x4,Bool.and_eq_true,decide_eq_true_eq] at hq
   have q1:decide ((0:Int)<((mw s (i-1)).1.length:Int))=true:=by have:=hq.1.1.2;simp;omega
   have q2:decide (((i-1:Nat):Int)<(s.2.2.1.length:Int))=true:=by simp;omega
   have q3:decide ((0:Int)≤((i-1:Nat):Int))=true:=by simp
   have f1:List.getD (mw s i).1 0 0=th s i:=rfl
   have f2:List.getD (mw s (i-1)).1 0 0=th s (i-1):=rfl
   have d4:decide (th s (i-1)≥th s i) = !decide (th s (i-1)<th s i):=by
    by_cases e:th s (i-1)<th s i
    ·have:¬th s i≤th s (i-1):=by omega
     simp[e,this]
    ·have:th s i≤th s (i-1):=by omega
     simp[e,this]
   cases hA:zN (mw s i).1 s.1<;>cases hB:decide ((mw s i).1.length≠0)<;>cases hC:decide (((mw s i).2.1.length:Int)=s.2.1)<;>cases hD:decide (th s (i-1)<th s i)<;>
    simp only[Wh.D6,hi',h0,Int.toNat_natCast,Int.toNat_zero,eA,eB,f1,f2,hr',hr,d1,d2,d3,d4,g0,gz,hA,hB,hC,hD,w,w2,q1,q2,q3,x4,iy,nQ,cond_true,cond_false,Bool.not_true,Bool.not_false,Bool.and_true,Bool.and_false,Bool.or_true,Bool.or_false,Bool.and_self,decide_true,Int.le_refl]
 refine xT (fun i=>(((i:Int),()),s)) ?_ ?_ ?_
 ·intro i hi hp h
  rw[zM i hi hp,h];rfl
 ·intro i hi hp h
  rw[zM i hi hp,h];rfl
 ·simp[Wh.D6]
end Pc
open Go Go.Ab
namespace Pc
def Cp (row:List Int)(n:Int):Bool:= !jS row.length fun j=> !(row.getD j 0==n)
theorem W6 (row:List Int)(n:Int):Cp row n=true↔∃j,j<row.length∧row.getD j 0=n:=by
 unfold Cp
 cases h:jS row.length fun j=> !(row.getD j 0==n) with
 |true=>
  rw[oL] at h
  simp only[Bool.not_true,Bool.false_eq_true,false_iff,not_exists,not_and]
  intro j hj e
  have:=h j hj
  simp only[e,beq_self_eq_true,Bool.not_true,Bool.false_eq_true] at this
 |false=>
  simp only[Bool.not_false,true_iff]
  by_cases e:∃j,j<row.length∧row.getD j 0=n
  ·exact e
  ·exfalso
   have:jS row.length (fun j=> !(row.getD j 0==n))=true:=by
    rw[oL];intro j hj
    simp only[Bool.not_eq_true',beq_eq_false_iff_ne,ne_eq]
    intro e2;exact e ⟨j,hj,e2⟩
   rw[h] at this;cases this
theorem ajL (row:List Int)(n:Int)(h:row.length≤4611686018427387904):Wh.Fa (row,n)=some (Cp row n,()):=by
 have hl:Comes Wh.Fb (((0:Int),n,row),()) (if(jS row.length fun j=> !(row.getD j 0==n))=true then .inr ((),()) else .inl (true,())):=by
  refine xT (fun i=>(((i:Int),n,row),())) ?_ ?_ ?_
  ·intro i hi _ hp
   have hi':decide ((i:Int)<(row.length:Int))=true:=by simpa using hi
   have h0:decide ((0:Int)≤(i:Int))=true:=by simp
   have hp':(row.getD i 0==n)=false:=by simpa using hp
   simp only[Wh.Fb,hi',h0,Int.toNat_natCast,hp',gT (i:=i) (by omega),iy,cond_true,cond_false,Bool.and_self]
  ·intro i hi _ hp
   have hi':decide ((i:Int)<(row.length:Int))=true:=by simpa using hi
   have h0:decide ((0:Int)≤(i:Int))=true:=by simp
   have hp':(row.getD i 0==n)=true:=by simpa using hp
   simp only[Wh.Fb,hi',h0,Int.toNat_natCast,hp',iy,cond_true,Bool.and_self]
  ·simp[Wh.Fb]
 cases hp:(jS row.length fun j=> !(row.getD j 0==n)) with
 |true=>
  rw[hp,if_pos rfl] at hl
  simp only[Wh.Fa,cb hl,cv hl,Cp,hp,cond_true,Bool.not_true]
 |false=>
  rw[hp,if_neg (by simp)] at hl
  simp only[Wh.Fa,cb hl,cv hl,Cp,hp,cond_true,Bool.not_false]
def HM (s:mb.D)(i k:Nat):Bool:=decide (k=i) || !Cp (mw s k).1 (th s i)
def cross (s:mb.D):Bool:=jS s.2.2.1.length fun i=>jS s.2.2.1.length (HM s i)
theorem abH (s:mb.D)(hs:Cm s)(i:Nat)(hi:i<s.2.2.1.length)(hne:(mw s i).1.length≠0) :
  Comes Wh.Fu (((0:Int),(i:Int),()),s) (if jS s.2.2.1.length (HM s i)=true then .inr (((),(i:Int)),s) else .inl (false,())):=by
 have zM:∀k,k<s.2.2.1.length→Wh.Fu (((k:Int),(i:Int),()),s)=bif HM s i k then some (.inl ((((k+1:Nat):Int),(i:Int),()),s)) else some (.inr (.inl (false,()))):=by
  intro k hk
  have hr:=ajL (mw s k).1 (th s i) (hs.2 _ (No s k hk))
  have hr':Wh.JQ ((mw s k).1,th s i)=(Cp (mw s k).1 (th s i),()):=by simp only[Wh.JQ,bx,hr]
  have eA:List.getD s.2.2.1 i ([],[],())=mw s i:=rfl
  have eB:List.getD s.2.2.1 k ([],[],())=mw s k:=rfl
  have f1:List.getD (mw s i).1 0 0=th s i:=rfl
  have hi':decide ((i:Int)<(s.2.2.1.length:Int))=true:=by simpa using hi
  have hk':decide ((k:Int)<(s.2.2.1.length:Int))=true:=by simpa using hk
  have h0:decide ((0:Int)≤(i:Int))=true:=by simp
  have h1:decide ((0:Int)≤(k:Int))=true:=by simp
  have h2:decide ((0:Int)<((mw s i).1.length:Int))=true:=by simp;omega
  have w:=gT (i:=k) (by have:=hs.1;omega)
  have d1:((k:Int) != (i:Int)) = !decide (k=i):=by
   by_cases e:k=i
   ·subst e;simp
   ·have:(k:Int)≠i:=by omega
    simp[e,this]
  cases hA:decide (k=i)<;>cases hB:Cp (mw s k).1 (th s i)<;>
   simp only[Wh.Fu,hi',hk',h0,h1,h2,Int.toNat_natCast,Int.toNat_zero,eA,eB,f1,hr,hr',d1,hA,hB,w,HM,iy,nQ,cond_true,cond_false,Bool.not_true,Bool.not_false,Bool.or_true,Bool.or_false,Bool.and_self,Bool.or_self,decide_true,Int.le_refl]
 refine xT (fun k=>(((k:Int),(i:Int),()),s)) ?_ ?_ ?_
 ·intro k hk _ h
  rw[zM k hk,h];rfl
 ·intro k hk _ h
  rw[zM k hk,h];rfl
 ·simp[Wh.Fu]
theorem ajJ (s:mb.D)(hs:Cm s)(hne:∀i,i<s.2.2.1.length→(mw s i).1.length≠0) :
  Comes Wh.Ft (((0:Int),()),s) (if cross s=true then .inr ((),()) else .inl (false,())):=by
 refine xT (fun i=>(((i:Int),()),s)) ?_ ?_ ?_
 ·intro i hi _ h
  have hl:=abH s hs i hi (hne i hi)
  rw[h,if_pos rfl] at hl
  have hi':decide ((i:Int)<(s.2.2.1.length:Int))=true:=by simpa using hi
  simp only[Wh.Ft,hi',cb hl,cv hl,cond_true]
  dsimp only[sumC]
  rw[gT (i:=i) (by have:=hs.1;omega)]
 ·intro i hi _ h
  have hl:=abH s hs i hi (hne i hi)
  rw[h,if_neg (by simp)] at hl
  have hi':decide ((i:Int)<(s.2.2.1.length:Int))=true:=by simpa using hi
  simp only[Wh.Ft,hi',cb hl,cv hl,cond_true]
 ·simp[Wh.Ft]
def zO (s:mb.D):Bool:=decide (1≤s.1∧s.1≤24)&&decide (1≤s.2.1∧s.2.1≤16)&&jS s.2.2.1.length (x4 s)&&cross s
theorem Rl {s:mb.D}(h:jS s.2.2.1.length (x4 s)=true)(i:Nat)(hi:i<s.2.2.1.length):(mw s i).1.length≠0:=by
 have:=oL.1 h i hi
 simp only[x4,Bool.and_eq_true,decide_eq_true_eq] at this
 exact this.1.1.2
theorem ajH (s:mb.D)(hs:Cm s):Wh.Ce s=some (zO s,()):=by
 by_cases a1:1≤s.1∧s.1≤24
 case neg=>simp[Wh.Ce,Wh.nS,bx,x8,iy,nQ,a1,zO]
 by_cases a2:1≤s.2.1∧s.2.1≤16
 case neg=>simp[Wh.Ce,Wh.nS,bx,x8,iy,nQ,a1,a2,zO]
 have hl:=ajI s hs a1
 cases h1:jS s.2.2.1.length (x4 s) with
 |false=>
  rw[h1,if_neg (by simp)] at hl
  simp[Wh.Ce,Wh.nS,bx,x8,iy,nQ,a1,a2,zO,cb hl,cv hl,h1]
 |true=>
  rw[h1,if_pos rfl] at hl
  have hl2:=ajJ s hs (Rl h1)
  cases h2:cross s with
  |false=>
   rw[h2,if_neg (by simp)] at hl2
   simp[Wh.Ce,Wh.nS,bx,x8,iy,nQ,a1,a2,zO,cb hl,cv hl,h1,h2]
   dsimp only[sumC]
   simp only[cb hl2,cv hl2,cond_true]
  |true=>
   rw[h2,if_pos rfl] at hl2
   simp[Wh.Ce,Wh.nS,bx,x8,iy,nQ,a1,a2,zO,cb hl,cv hl,h1,h2]
   dsimp only[sumC]
   simp only[cb hl2,cv hl2,cond_true]
end Pc
open Go Go.Ab
namespace Pc
theorem Vj {row:List Int}{count:Int}(h:zN row count=true)(x:Int)(hx:x∈row):0≤x∧x<24:=by
 simp only[zN,Bool.and_eq_true,decide_eq_true_eq] at h
 obtain⟨i,hi,e⟩:=List.mem_iff_getElem.1 hx
 have:=oL.1 h.1 i hi
 simp only[BP,Bool.and_eq_true,decide_eq_true_eq,getD_eq _ _ _ hi,e] at this
 omega
def yW (s:mb.D)(i:Nat):List Int:=(List.range i).map (th s)
theorem adG (s:mb.D)(i:Nat):yW s (i+1)=yW s i ++ [th s i]:=by simp[yW,List.range_succ]
theorem Nw {s:mb.D}{i:Nat}(h:x4 s i=true):0≤th s i∧th s i<24:=by
 simp only[x4,Bool.and_eq_true,decide_eq_true_eq] at h
 have hp:0<(mw s i).1.length:=by have:=h.1.1.2;omega
 refine Vj h.1.1.1 _ ?_
 rw[th,getD_eq _ _ _ hp];simp
theorem W_ {s:mb.D}{i:Nat}(h:∀j,j<i→x4 s j=true):∀x∈yW s i,x<24:=by
 intro x hx
 simp only[yW,List.mem_map,List.mem_range] at hx
 obtain⟨j,hj,rfl⟩:=hx
 exact(Nw (h j hj)).2
theorem adZ (s:mb.D)(hs:Cm s)(h1:1≤s.1∧s.1≤24) :
  Comes Wh.Cc (((0:Int),(0:Int),(),s.2.2.1,(s.2.2.1.length:Int)),s) (if jS s.2.2.1.length (x4 s)=true then .inr ((((yp (yW s s.2.2.1.length):Nat):Int),()),s) else .inl (false,())):=by
 have zM:∀i,i<s.2.2.1.length→(∀j,j<i→x4 s j=true)→Wh.Cc (((i:Int),((yp (yW s i):Nat):Int),(),s.2.2.1,(s.2.2.1.length:Int)),s)=bif x4 s i then some (.inl ((((i+1:Nat):Int),((yp (yW s (i+1)):Nat):Int),(),s.2.2.1,(s.2.2.1.length:Int)),s)) else some (.inr (.inl (false,()))):=by
  intro i hi hp
  have hm:=No s i hi
  have hr:=adX (mw s i).1 s.1 (hs.2 _ hm) (by omega) (by omega)
  have hr':Wh.JL ((mw s i).1,s.1)=(zN (mw s i).1 s.1,()):=by simp only[Wh.JL,bx,hr]
  have eA:List.getD s.2.2.1 i ([],[],())=mw s i:=rfl
  have hi':decide ((i:Int)<(s.2.2.1.length:Int))=true:=by simpa using hi
  have h0:decide ((0:Int)≤(i:Int))=true:=by simp
  have w:=gT (i:=i) (by have:=hs.1;omega)
  have d1:(((mw s i).1.length:Int)==0) = !decide ((mw s i).1.length≠0):=by
   by_cases e:(mw s i).1.length=0<;>simp[e]
  have d2:(((mw s i).2.1.length:Int) != s.2.1) = !decide (((mw s i).2.1.length:Int)=s.2.1):=rfl
  have d3:decide ((0:Int)<((mw s i).1.length:Int))=decide ((mw s i).1.length≠0):=by
   by_cases e:(mw s i).1.length=0<;>simp[e];omega
  have f1:List.getD (mw s i).1 0 0=th s i:=rfl
  have mk:x4 s i=true→nj .or .u32 ((yp (yW s i):Nat):Int) (IntKind.wrap .u32 ((1:Int)*(2:Int) ^ Min.min (Int.toNat (th s i)) (IntKind.bits .u32)))=((yp (yW s (i+1)):Nat):Int):=by
   intro h
   have:=Nw h
   rw[shl32 this.1 this.2,or32 (NN _ (W_ hp)) (pow24 this.2),adG,YR]
  have mk0:x4 s i=true→decide (0≤th s i)=true:=fun h=>decide_eq_true (Nw h).1
  rcases Nat.eq_zero_or_pos i with hz|hz
  ·subst hz
   have g0:decide (((0:Nat):Int)>0)=false:=by decide
   cases hA:zN (mw s 0).1 s.1<;>cases hB:decide ((mw s 0).1.length≠0)<;>cases hC:decide (((mw s 0).2.1.length:Int)=s.2.1)
   case true.true.true=>
    have hE:x4 s 0=true:=by simp only[x4,hA,hB,hC,decide_true,Bool.true_or,Bool.and_self]
    simp only[Wh.Cc,hi',h0,Int.toNat_natCast,Int.toNat_zero,eA,f1,hr',hr,d1,d2,d3,g0,hA,hB,hC,w,mk hE,mk0 hE,hE,iy,nQ,cond_true,cond_false,Bool.not_true,Bool.not_false,Bool.and_true,Bool.true_or,Bool.or_true,Bool.and_self]
   all_goals
    simp only[Wh.Cc,hi',h0,Int.toNat_natCast,eA,hr',hr,d1,d2,d3,g0,hA,hB,hC,w,x4,iy,nQ,cond_true,cond_false,Bool.not_true,Bool.not_false,Bool.and_true,Bool.and_false,Bool.true_or,Bool.or_true,Bool.and_self,decide_true]
  ·have g0:decide ((i:Int)>0)=true:=by simpa using hz
   have gz:decide (i=0)=false:=by simp;omega
   have w2:=abQ (i:=i) (by have:=hs.1;omega) hz
   have eB:List.getD s.2.2.1 (i-1) ([],[],())=mw s (i-1):=rfl
   have hq:=hp (i-1) (by omega)
   simp only[x4,Bool.and_eq_true,decide_eq_true_eq] at hq
   have q1:decide ((0:Int)<((mw s (i-1)).1.length:Int))=true:=by have:=hq.1.1.2;simp;omega
   have q2:decide (((i-1:Nat):Int)<(s.2.2.1.length:Int))=true:=by simp;omega
   have q3:decide ((0:Int)≤((i-1:Nat):Int))=true:=by simp
   have f2:List.getD (mw s (i-1)).1 0 0=th s (i-1):=rfl
   have d4:decide (th s (i-1)≥th s i) = !decide (th s (i-1)<th s i):=by
    by_cases e:th s (i-1)<th s i
    ·have:¬th s i≤th s (i-1):=by omega
     simp[e,this]
    ·have:th s i≤th s (i-1):=by omega
     simp[e,this]
   cases hA:zN (mw s i).1 s.1<;>cases hB:decide ((mw s i).1.length≠0)<;>cases hC:decide (((mw s i).2.1.length:Int)=s.2.1)<;>cases hD:decide (th s (i-1)<th s i)
   case true.true.true.true=>
    have hE:x4 s i=true:=by simp only[x4,hA,hB,hC,hD,Bool.or_true,Bool.and_self]
    simp only[Wh.Cc,hi',h0,Int.toNat_natCast,Int.toNat_zero,eA,eB,f1,f2,hr',hr,d1,d2,d3,d4,g0,hA,hB,hC,hD,w,w2,q1,q2,q3,mk hE,mk0 hE,hE,iy,nQ,cond_true,cond_false,Bool.not_true,Bool.not_false,Bool.or_true,Bool.and_self,decide_true,Int.le_refl]
   all_goals
    simp only[Wh.Cc,hi',h0,Int.toNat_natCast,Int.toNat_zero,eA,eB,f1,f2,hr',hr,d1,d2,d3,d4,g0,gz,hA,hB,hC,hD,w,w2,q1,q2,q3,x4,iy,nQ,cond_true,cond_false,Bool.not_true,Bool.not_false,Bool.and_true,Bool.and_false,Bool.or_true,Bool.or_false,Bool.and_self,decide_true,Int.le_refl]
 have e0:((yp (yW s 0):Nat):Int)=0:=rfl
 refine e0▸xT (fun i=>(((i:Int),((yp (yW s i):Nat):Int),(),s.2.2.1,(s.2.2.1.length:Int)),s)) ?_ ?_ ?_
 ·intro i hi hp h
  rw[zM i hi hp,h];rfl
 ·intro i hi hp h
  rw[zM i hi hp,h];rfl
 ·simp[Wh.Cc]
def Ag (s:mb.D)(k:Nat):List Int:=(mw s k).1.drop 1
def B4 (s:mb.D)(k:Nat):Bool:=decide (yp (Ag s k) &&& yp (yW s s.2.2.1.length)=0)
theorem ad0 (s:mb.D)(hs:Cm s)(ha:jS s.2.2.1.length (x4 s)=true) :
  Comes Wh.Fl (((0:Int),((yp (yW s s.2.2.1.length):Nat):Int),s.2.2.1,(s.2.2.1.length:Int)),()) (if jS s.2.2.1.length (B4 s)=true then .inr ((),()) else .inl (false,())):=by
 have zM:∀k,k<s.2.2.1.length→Wh.Fl (((k:Int),((yp (yW s s.2.2.1.length):Nat):Int),s.2.2.1,(s.2.2.1.length:Int)),())=bif B4 s k then some (.inl ((((k+1:Nat):Int),((yp (yW s s.2.2.1.length):Nat):Int),s.2.2.1,(s.2.2.1.length:Int)),())) else some (.inr (.inl (false,()))):=by
  intro k hk
  have hm:=No s k hk
  have hl:=hs.2 _ hm
  have hq:=oL.1 ha k hk
  simp only[x4,Bool.and_eq_true,decide_eq_true_eq] at hq
  have hne:=hq.1.1.2
  have hmem:∀x∈Ag s k,0≤x∧x<24:=fun x hx=>Vj hq.1.1.1 x (List.mem_of_mem_drop hx)
  have hr:=ad3 (Ag s k) (by rw[Ag,List.length_drop];omega) hmem
  have hr':Wh.JT (Ag s k)=(((yp (Ag s k):Nat):Int),()):=by simp only[Wh.JT,bx,hr]
  have eA:List.getD s.2.2.1 k ([],[],())=mw s k:=rfl
  have et:List.take (Int.toNat (((mw s k).1.length:Int)-1)) (List.drop (Int.toNat 1) (mw s k).1)=Ag s k:=by
   rw[Ag]
   exact List.take_of_length_le (by simp)
  have hk':decide ((k:Int)<(s.2.2.1.length:Int))=true:=by simpa using hk
  have h0:decide ((0:Int)≤(k:Int))=true:=by simp
  have h1:decide ((1:Int)≤((mw s k).1.length:Int))=true:=by simp;omega
  have w:=gT (i:=k) (by have:=hs.1;omega)
  have ea:=and32 (NN _ fun x hx=>(hmem x hx).2) (NN _ (W_ (oL.1 ha)))
  have en:(((yp (Ag s k) &&& yp (yW s s.2.2.1.length):Nat):Int) != 0) = !B4 s k:=by
   unfold B4
   by_cases e:yp (Ag s k) &&& yp (yW s s.2.2.1.length)=0
   ·rw[e];rfl
   ·rw[decide_eq_false e,Bool.not_false,bne_iff_ne];omega
  cases hc:B4 s k<;>
   simp only[Wh.Fl,hk',h0,h1,Int.toNat_natCast,eA,et,hr,hr',ea,en,hc,w,iy,nQ,cond_true,cond_false,Bool.not_true,Bool.not_false,Bool.and_self,decide_true,Int.le_refl]
 refine xT (fun k=>(((k:Int),((yp (yW s s.2.2.1.length):Nat):Int),s.2.2.1,(s.2.2.1.length:Int)),())) ?_ ?_ ?_
 ·intro k hk _ h
  rw[zM k hk,h];rfl
 ·intro k hk _ h
  rw[zM k hk,h];rfl
 ·simp[Wh.Fl]
end Pc
open Go Go.Ab
namespace Pc
theorem asc {f:Nat→Int}{n:Nat}(h:∀i,0<i→i<n→f (i-1)<f i):∀j i,i<j→j<n→f i<f j:=by
 intro j
 induction j with
 |zero=>intro i hi;omega
 |succ j ih=>
  intro i hi hj
  have h1:f j<f (j+1):=h (j+1) (by omega) hj
  by_cases e:i=j
  ·subst e;exact h1
  ·have:=ih i (by omega) (by omega)
   omega
theorem ajn {row:List Int}{count:Int}(h:zN row count=true)(m:Nat)(hm:0<m)(hl:m<row.length):row.getD 0 0<row.getD m 0:=by
 simp only[zN,Bool.and_eq_true] at h
 refine asc (f:=fun i=>row.getD i 0) (n:=row.length) ?_ m 0 hm hl
 intro i h0 hi
 have:=oL.1 h.1 i hi
 simp only[BP,Bool.and_eq_true,Bool.or_eq_true,decide_eq_true_eq] at this
 exact this.2.resolve_left (by omega)
theorem Nx {s:mb.D}(h:jS s.2.2.1.length (x4 s)=true):∀j i,i<j→j<s.2.2.1.length→th s i<th s j:=by
 refine asc ?_
 intro i h0 hi
 have:=oL.1 h i hi
 simp only[x4,Bool.and_eq_true,Bool.or_eq_true,decide_eq_true_eq] at this
 exact this.2.resolve_left (by omega)
theorem Vk {s:mb.D}(h:jS s.2.2.1.length (x4 s)=true){k:Nat}(hk:k<s.2.2.1.length):zN (mw s k).1 s.1=true:=by
 have:=oL.1 h k hk
 simp only[x4,Bool.and_eq_true] at this
 exact this.1.1.1
theorem R6 {s:mb.D}{k:Nat}{x:Int}:x∈Ag s k↔∃m,0<m∧m<(mw s k).1.length∧(mw s k).1.getD m 0=x:=by
 rw[Ag,List.mem_iff_getElem]
 constructor
 ·rintro⟨i,hi,e⟩
  rw[List.length_drop] at hi
  refine⟨i+1,by omega,by omega,?_⟩
  rw[getD_eq _ _ _ (by omega:i+1<(mw s k).1.length)]
  rw[List.getElem_drop] at e
  simpa[Nat.add_comm] using e
 ·rintro⟨m,h0,hm,e⟩
  refine⟨m-1,by rw[List.length_drop];omega,?_⟩
  rw[List.getElem_drop]
  rw[getD_eq _ _ _ hm] at e
  have:1+(m-1)=m:=by omega
  simp only[this]
  exact e
theorem YQ {s:mb.D}{n:Nat}{x:Int}:x∈yW s n↔∃i,i<n∧th s i=x:=by simp[yW]
theorem R5 {s:mb.D}(ha:jS s.2.2.1.length (x4 s)=true){k:Nat}(hk:k<s.2.2.1.length) :
  B4 s k=true↔∀i,i<s.2.2.1.length→th s i∉Ag s k:=by
 have hr:=Vk ha hk
 unfold B4
 rw[decide_eq_true_eq]
 constructor
 ·intro h i hi hm
  have h1:(yp (Ag s k)).testBit (th s i).toNat=true:=by
   rw[NO,List.any_eq_true];exact⟨_,hm,by simp⟩
  have h2:(yp (yW s s.2.2.1.length)).testBit (th s i).toNat=true:=by
   rw[NO,List.any_eq_true];exact⟨_,YQ.2 ⟨i,hi,rfl⟩,by simp⟩
  have:(yp (Ag s k) &&& yp (yW s s.2.2.1.length)).testBit (th s i).toNat=true:=by rw[Nat.testBit_and,h1,h2];rfl
  rw[h,Nat.zero_testBit] at this;cases this
 ·intro h
  apply Nat.eq_of_testBit_eq
  intro j
  rw[Nat.testBit_and,Nat.zero_testBit,NO,NO,Bool.and_eq_false_iff]
  cases h1:(Ag s k).any fun x=>decide (x.toNat=j) with
  |false=>exact .inl rfl
  |true=>
   refine .inr ?_
   cases h2:(yW s s.2.2.1.length).any fun x=>decide (x.toNat=j) with
   |false=>rfl
   |true=>
    exfalso
    obtain⟨x,hx,ex⟩:=List.any_eq_true.1 h1
    obtain⟨y,hy,ey⟩:=List.any_eq_true.1 h2
    simp only[decide_eq_true_eq] at ex ey
    obtain⟨i,hi,rfl⟩:=YQ.1 hy
    have b1:=Nw (oL.1 ha i hi)
    have b2:=Vj hr x (List.mem_of_mem_drop hx)
    have:x=th s i:=by omega
    subst this
    exact h i hi hx
theorem Wv {s:mb.D}(ha:jS s.2.2.1.length (x4 s)=true):jS s.2.2.1.length (B4 s)=cross s:=by
 have hne:=Rl ha
 have key:jS s.2.2.1.length (B4 s)=true↔cross s=true:=by
  rw[oL,cross,oL]
  constructor
  ·intro h i hi
   rw[oL]
   intro k hk
   simp only[HM,Bool.or_eq_true,decide_eq_true_eq]
   by_cases e:k=i
   ·exact .inl e
   ·refine .inr ?_
    cases hh:Cp (mw s k).1 (th s i) with
    |false=>rfl
    |true=>
     exfalso
     obtain⟨j,hj,ej⟩:=(W6 _ _).1 hh
     rcases Nat.eq_zero_or_pos j with hz|hz
     ·subst hz
      have e2:th s k=th s i:=ej
      rcases Nat.lt_or_gt_of_ne e with hlt|hlt
      ·have:=Nx ha i k hlt hi;omega
      ·have:=Nx ha k i hlt hk;omega
     ·exact(R5 ha hk).1 (h k hk) i hi (R6.2 ⟨j,hz,hj,ej⟩)
  ·intro h k hk
   rw[R5 ha hk]
   intro i hi hm
   obtain⟨m,h0,hml,e⟩:=R6.1 hm
   have:=oL.1 (h i hi) k hk
   simp only[HM,Bool.or_eq_true,decide_eq_true_eq] at this
   rcases this with hki|hn
   ·subst hki
    have:=ajn (Vk ha hk) m h0 hml
    rw[e] at this
    unfold th at this
    omega
   ·have:Cp (mw s k).1 (th s i)=true:=(W6 _ _).2 ⟨m,hml,e⟩
    rw[this] at hn;cases hn
 cases h1:jS s.2.2.1.length (B4 s)<;>cases h2:cross s
 ·rfl
 ·rw[key.2 h2] at h1;cases h1
 ·rw[key.1 h1] at h2;cases h2
 ·rfl
theorem adY (s:mb.D)(hs:Cm s):Wh.Cb s=some (zO s,()):=by
 by_cases a1:1≤s.1∧s.1≤24
 case neg=>simp[Wh.Cb,Wh.n_,bx,yc,iy,nQ,a1,zO]
 by_cases a2:1≤s.2.1∧s.2.1≤16
 case neg=>simp[Wh.Cb,Wh.n_,bx,yc,iy,nQ,a1,a2,zO]
 have hl:=adZ s hs a1
 cases h1:jS s.2.2.1.length (x4 s) with
 |false=>
  rw[h1,if_neg (by simp)] at hl
  simp[Wh.Cb,Wh.n_,bx,yc,iy,nQ,a1,a2,zO,cb hl,cv hl,h1]
 |true=>
  rw[h1,if_pos rfl] at hl
  have hl2:=ad0 s hs h1
  rw[Wv h1] at hl2
  cases h2:cross s with
  |false=>
   rw[h2,if_neg (by simp)] at hl2
   simp[Wh.Cb,Wh.n_,bx,yc,iy,nQ,a1,a2,zO,cb hl,cv hl,h1,h2]
   dsimp only[sumC]
   simp only[cb hl2,cv hl2,cond_true]
  |true=>
   rw[h2,if_pos rfl] at hl2
   simp[Wh.Cb,Wh.n_,bx,yc,iy,nQ,a1,a2,zO,cb hl,cv hl,h1,h2]
   dsimp only[sumC]
   simp only[cb hl2,cv hl2,cond_true]
end Pc
open Go Go.Ab
namespace Pc
def scan (p:Nat→Bool):Nat→Nat→Nat
 |0,k=>k
 |d+1,k=>if p k=true then scan p d (k+1) else k
theorem OM (p:Nat→Bool):∀d k,k≤scan p d k∧scan p d k≤k+d∧(∀j,k≤j→j<scan p d k→p j=true)∧(scan p d k<k+d→p (scan p d k)=false)
 |0,k=>⟨Nat.le_refl _,Nat.le_refl _,fun j h1 h2=>by simp only[scan] at h2;omega,fun h=>by simp only[scan] at h;omega⟩
 |d+1,k=>by
  unfold scan
  by_cases h:p k=true
  ·rw[if_pos h]
   obtain⟨a,b,c,e⟩:=OM p d (k+1)
   refine⟨by omega,by omega,fun j h1 h2=>?_,fun hh=>e (by omega)⟩
   by_cases ej:j=k
   ·subst ej;exact h
   ·exact c j (by omega) h2
  ·rw[if_neg h]
   refine⟨Nat.le_refl _,by omega,fun j h1 h2=>by omega,fun _=>by simpa using h⟩
theorem C9 {X Y:Type}{r:X→Option (X⊕Y)}(st:Nat→X){n:Nat}(p:Nat→Bool)(yf:Nat→Y)(hs:∀i,i<n→p i=true→r (st i)=some (.inl (st (i+1))))
  (hf:∀i,i<n→p i=false→r (st i)=some (.inr (yf i))) (he:r (st n)=some (.inr (yf n))):Comes r (st 0) (yf (scan p n 0)):=by
 have main:∀d k,k+d=n→Comes r (st k) (yf (scan p d k)):=by
  intro d
  induction d with
  |zero=>intro k hk;have:k=n:=by omega
         subst this;exact .out he
  |succ d ih=>
   intro k hk
   unfold scan
   cases hp:p k with
   |true=>rw[if_pos rfl];exact .again (hs k (by omega) hp) (ih (k+1) (by omega))
   |false=>rw[if_neg (by simp)];exact .out (hf k (by omega) hp)
 exact main n 0 (by omega)
def Cr (s:mb.D)(n:Int)(i:Nat):Bool:=decide ((mw s i).1.length=1)&&decide (th s i=n)
def zI (s:mb.D)(n:Int):Nat:=scan (fun i=> !Cr s n i) s.2.2.1.length 0
def BW (s:mb.D)(n:Int):List UInt8×Bool:=if zI s n<s.2.2.1.length then((mw s (zI s n)).2.1,true) else([],false)
theorem adC {s:mb.D}{n:Int}(h:zI s n<s.2.2.1.length):Cr s n (zI s n)=true:=by
 have:=(OM (fun i=> !Cr s n i) s.2.2.1.length 0).2.2.2 (by rw[Nat.zero_add];exact h)
 simpa[zI] using this
theorem adD {s:mb.D}{n:Int}{i:Nat}(_hi:i<s.2.2.1.length)(h:Cr s n i=true):zI s n≤i:=by
 rcases Nat.lt_or_ge i (zI s n) with hl|hl
 ·have:=(OM (fun i=> !Cr s n i) s.2.2.1.length 0).2.2.1 i (Nat.zero_le _) hl
  simp[h] at this
 ·exact hl
theorem len1 (l:List Int):((l.length:Int)==1)=decide (l.length=1):=by
 by_cases e:l.length=1
 ·rw[e];rfl
 ·have:¬(l.length:Int)=1:=by omega
  rw[decide_eq_false e];simpa using this
theorem Xs (s:mb.D)(hs:Cm s)(n:Int):Wh.q21 (s,n)=some (BW s n,()):=by
 have zM:∀i,i<s.2.2.1.length→Wh.Ff (((i:Int),n,s.2.2.1,(s.2.2.1.length:Int)),())=bif !Cr s n i then some (.inl ((((i+1:Nat):Int),n,s.2.2.1,(s.2.2.1.length:Int)),())) else some (.inr (.inl (((mw s i).2.1,true),()))):=by
  intro i hi
  have eA:List.getD s.2.2.1 i ([],[],())=mw s i:=rfl
  have f1:List.getD (mw s i).1 0 0=th s i:=rfl
  have hi':decide ((i:Int)<(s.2.2.1.length:Int))=true:=by simpa using hi
  have h0:decide ((0:Int)≤(i:Int))=true:=by simp
  have w:=gT (i:=i) (by have:=hs.1;omega)
  have d1:=len1 (mw s i).1
  have d2:(th s i==n)=decide (th s i=n):=rfl
  have d3:(!decide ((mw s i).1.length=1) || decide ((0:Int)<((mw s i).1.length:Int)))=true:=by
   by_cases e:(mw s i).1.length=1
   ·simp[e]
   ·simp[e]
  cases hA:decide ((mw s i).1.length=1)<;>cases hB:decide (th s i=n)<;>simp only[hA,Bool.not_true,Bool.not_false,Bool.true_or,Bool.false_or] at d3<;>
   simp only[Wh.Ff,hi',h0,Int.toNat_natCast,Int.toNat_zero,eA,f1,d1,d2,hA,hB,d3,w,Cr,iy,cond_true,cond_false,Bool.not_true,Bool.not_false,Bool.and_true,Bool.and_false,Bool.true_or,Bool.or_true,Bool.and_self,decide_true,Int.le_refl]
 have hl:Comes Wh.Ff (((0:Int),n,s.2.2.1,(s.2.2.1.length:Int)),()) (if zI s n<s.2.2.1.length then .inl (((mw s (zI s n)).2.1,true),()) else .inr ((),())):=by
  refine C9 (fun i=>(((i:Int),n,s.2.2.1,(s.2.2.1.length:Int)),())) (fun i=> !Cr s n i) (fun i=>if i<s.2.2.1.length then(.inl (((mw s i).2.1,true),()):((List UInt8×Bool)×Unit)⊕(Unit×Unit)) else .inr ((),())) ?_ ?_ ?_
  ·intro i hi h
   simp only[zM i hi];rw[h];rfl
  ·intro i hi h
   simp only[zM i hi];rw[h,if_pos hi];rfl
  ·simp[Wh.Ff]
 by_cases h:zI s n<s.2.2.1.length
 ·rw[if_pos h] at hl
  simp only[Wh.q21,cb hl,cv hl,BW,if_pos h,cond_true]
 ·rw[if_neg h] at hl
  simp only[Wh.q21,cb hl,cv hl,BW,if_neg h,cond_true]
def pre (s:mb.D):Nat:=scan (fun n=>(BW s n).2) s.1.toNat 0
theorem ad5 (s:mb.D)(hs:Cm s)(h1:1≤s.1∧s.1≤24):Wh.Hf s=some ((pre s:Int),()):=by
 have hl:Comes Wh.Fy (((0:Int),()),s) ((pre s:Int),()):=by
  refine C9 (fun n=>(((n:Int),()),s)) (n:=s.1.toNat) (fun n=>(BW s n).2) (fun n=>((n:Int),())) ?_ ?_ ?_
  ·intro i hi h
   have hi':decide ((i:Int)<s.1)=true:=by simp;omega
   have w:=gT (i:=i) (by omega)
   simp only[Wh.Fy,hi',Wh.JW,bx,Xs s hs,h,w,iy,nQ,cond_true,cond_false,Bool.not_true]
  ·intro i hi h
   have hi':decide ((i:Int)<s.1)=true:=by simp;omega
   simp only[Wh.Fy,hi',Wh.JW,bx,Xs s hs,h,iy,nQ,cond_true,Bool.not_false]
  ·have hi':decide (((s.1.toNat:Nat):Int)<s.1)=false:=by simp;omega
   simp only[Wh.Fy,hi',cond_false]
 simp only[Wh.Hf,cb hl,cv hl,cond_true]
end Pc
open Go Go.Ab
namespace Pc
theorem Wa {f:Nat→Int}{n:Nat}(h:∀i,0<i→i<n→f (i-1)<f i):∀j,j<n→∀i,i≤j→f i+((j:Int)-i)≤f j:=by
 intro j
 induction j with
 |zero=>intro _ i hi;have:i=0:=by omega
        subst this;omega
 |succ j ih=>
  intro hj i hi
  by_cases e:i=j+1
  ·subst e;omega
  ·have h1:f j<f (j+1):=h (j+1) (by omega) hj
   have:=ih (by omega) i (by omega)
   omega
theorem abp {s:mb.D}(h:zO s=true):(1≤s.1∧s.1≤24)∧(1≤s.2.1∧s.2.1≤16)∧jS s.2.2.1.length (x4 s)=true∧cross s=true:=by
 simp only[zO,Bool.and_eq_true,decide_eq_true_eq] at h
 exact⟨h.1.1.1,h.1.1.2,h.1.2,h.2⟩
theorem W9 {s:mb.D}(ha:jS s.2.2.1.length (x4 s)=true){k m:Nat}(hk:k<s.2.2.1.length)(hm:m<(mw s k).1.length):0≤(mw s k).1.getD m 0∧(mw s k).1.getD m 0≤s.1-1:=by
 have:=Vk ha hk
 simp only[zN,Bool.and_eq_true] at this
 have:=oL.1 this.1 m hm
 simp only[BP,Bool.and_eq_true,decide_eq_true_eq] at this
 exact this.1
theorem adF {s:mb.D}(h:jS s.2.2.1.length (x4 s)=true):∀i,0<i→i<s.2.2.1.length→th s (i-1)<th s i:=
 fun i h0 hi=>Nx h i (i-1) (by omega) hi
theorem acd {s:mb.D}(h:zO s=true):((pre s:Nat):Int)=s.1↔(s.2.2.1.length:Int)=s.1:=by
 obtain⟨h1,_,ha,hx⟩:=abp h
 have hne:=Rl ha
 have hb:∀i,i<s.2.2.1.length→0≤th s i∧th s i≤s.1-1:=fun i hi=>W9 ha hi (by have:=hne i hi;omega)
 have sp:=OM (fun n=>(BW s n).2) s.1.toNat 0
 have sp':pre s≤s.1.toNat∧(∀j,j<pre s→(BW s j).2=true)∧(pre s<s.1.toNat→(BW s (pre s)).2=false):=
  ⟨by have:=sp.2.1;unfold pre;omega,fun j hj=>sp.2.2.1 j (Nat.zero_le _) hj,fun hh=>sp.2.2.2 (by unfold pre at hh;omega)⟩
 have gap:=Wa (adF ha)
 have hle:(s.2.2.1.length:Int)≤s.1:=by
  rcases Nat.eq_zero_or_pos s.2.2.1.length with hz|hz
  ·omega
  ·have a:=gap (s.2.2.1.length-1) (by omega) 0 (Nat.zero_le _)
   have b:=hb (s.2.2.1.length-1) (by omega)
   have c:=hb 0 (by omega)
   omega
 constructor
 ·intro hp
  have hin:∀n:Nat,n<s.1.toNat→zI s n<s.2.2.1.length∧th s (zI s n)=n:=by
   intro n hn
   have:=sp'.2.1 n (by omega)
   unfold BW at this
   by_cases hi:zI s n<s.2.2.1.length
   ·have cE:=adC hi
    simp only[Cr,Bool.and_eq_true,decide_eq_true_eq] at cE
    exact⟨hi,cE.2⟩
   ·rw[if_neg hi] at this;cases this
  have g2:=Wa (f:=fun n=>(zI s n:Int)) (n:=s.1.toNat) (by
   intro i h0 hi
   have a:=hin i hi
   have b:=hin (i-1) (by omega)
   show((zI s ((i-1:Nat):Int):Nat):Int)<((zI s (i:Int):Nat):Int)
   rcases Nat.lt_trichotomy (zI s ((i-1:Nat):Int)) (zI s (i:Int)) with hlt|heq|hgt
   ·omega
   ·rw[heq] at b;omega
   ·have:=Nx ha _ _ hgt b.1;omega)
  have c:=g2 (s.1.toNat-1) (by omega) 0 (Nat.zero_le _)
  have d:=(hin (s.1.toNat-1) (by omega)).1
  omega
 ·intro hl
  have hd:∀i,i<s.2.2.1.length→th s i=i:=by
   intro i hi
   have a:=gap i hi 0 (Nat.zero_le _)
   have b:=gap (s.2.2.1.length-1) (by omega) i (by omega)
   have c:=hb 0 (by omega)
   have d:=hb (s.2.2.1.length-1) (by omega)
   omega
  have hm:jS s.2.2.1.length (B4 s)=true:=by rw[Wv ha];exact hx
  have hone:∀i,i<s.2.2.1.length→(mw s i).1.length=1:=by
   intro i hi
   by_cases e:(mw s i).1.length=1
   ·exact e
   ·exfalso
    have h2:1<(mw s i).1.length:=by have:=hne i hi;omega
    have hr:=W9 ha hi h2
    have ht:(mw s i).1.getD 1 0∈Ag s i:=R6.2 ⟨1,by omega,h2,rfl⟩
    have hlt:((mw s i).1.getD 1 0).toNat<s.2.2.1.length:=by omega
    have:=(R5 ha hi).1 (oL.1 hm i hi) _ hlt
    rw[hd _ hlt] at this
    have e2:((((mw s i).1.getD 1 0).toNat:Nat):Int)=(mw s i).1.getD 1 0:=by omega
    rw[e2] at this
    exact this ht
  have j5:∀n:Nat,n<s.2.2.1.length→(BW s n).2=true:=by
   intro n hn
   have:zI s n≤n:=adD hn (by simp only[Cr,hone n hn,hd n hn,decide_true,Bool.and_self])
   unfold BW
   rw[if_pos (by omega)]
  by_cases hlt:pre s<s.1.toNat
  ·have a:=sp'.2.2 hlt
   rw[j5 (pre s) (by omega)] at a
   cases a
  ·have:=sp'.1
   omega
theorem C7 (a b:Int):(a==b)=decide (a=b):=rfl
def AQ (g:xO.D):Bool:=y7 g.1&&zO g.2.1&&decide (g.2.1.1=cnt g.1)&&decide (g.2.1.2.1=g.1.2.1)
theorem Si {p:r_.D}(h:y7 p=true):(1≤p.1∧p.1≤300)∧(1≤p.2.1∧p.2.1≤16):=by
 simp only[y7,zA,Bool.and_eq_true,decide_eq_true_eq] at h
 exact⟨h.1.1.1.1.1.1,h.1.1.1.1.1.2⟩
theorem abG (g:xO.D)(hg:C4 g):Wh.DK g=some (AQ g,()):=by
 have hP:=ajE g.1
 have hS:=ajH g.2.1 hg.2
 cases h1:y7 g.1 with
 |false=>simp only[Wh.DK,Wh.JH,bx,Wh.J3,bx,hP,hS,h1,AQ,iy,nQ,cond_true,cond_false,Bool.not_false,Bool.false_and,Bool.true_or,Bool.and_self]
 |true=>
  obtain⟨a1,a2⟩:=Si h1
  have hc:=ON g.1 a1 a2
  have d1:(g.2.1.1==cnt g.1)=decide (g.2.1.1=cnt g.1):=C7 _ _
  have d2:(g.2.1.2.1==g.1.2.1)=decide (g.2.1.2.1=g.1.2.1):=C7 _ _
  cases h2:zO g.2.1<;>cases h3:decide (g.2.1.1=cnt g.1)<;>
   simp only[Wh.DK,Wh.JH,bx,Wh.J3,bx,Wh.y8,bx,hP,hS,hc,d1,d2,h1,h2,h3,AQ,iy,nQ,cond_true,cond_false,Bool.not_true,Bool.not_false,Bool.true_and,Bool.false_and,Bool.and_true,Bool.and_false,Bool.or_true,Bool.and_self]
theorem adT (g:xO.D)(hg:C4 g):Wh.EY g=some (AQ g,()):=by
 have hP:=adV g.1
 have hS:=adY g.2.1 hg.2
 cases h1:y7 g.1 with
 |false=>simp only[Wh.EY,Wh.JE,bx,Wh.JY,bx,hP,hS,h1,AQ,iy,nQ,cond_true,cond_false,Bool.not_false,Bool.false_and,Bool.true_or,Bool.and_self]
 |true=>
  obtain⟨a1,a2⟩:=Si h1
  have hc:=Rv g.1 a1 a2
  have d1:(g.2.1.1==cnt g.1)=decide (g.2.1.1=cnt g.1):=C7 _ _
  have d2:(g.2.1.2.1==g.1.2.1)=decide (g.2.1.2.1=g.1.2.1):=C7 _ _
  cases h2:zO g.2.1<;>cases h3:decide (g.2.1.1=cnt g.1)<;>
   simp only[Wh.EY,Wh.JE,bx,Wh.JY,bx,Wh.zi,bx,hP,hS,hc,d1,d2,h1,h2,h3,AQ,iy,nQ,cond_true,cond_false,Bool.not_true,Bool.not_false,Bool.true_and,Bool.false_and,Bool.and_true,Bool.and_false,Bool.or_true,Bool.and_self]
theorem W3 {g:xO.D}(h:AQ g=true):y7 g.1=true∧zO g.2.1=true∧g.2.1.1=cnt g.1∧g.2.1.2.1=g.1.2.1:=by
 simp only[AQ,Bool.and_eq_true,decide_eq_true_eq] at h
 exact⟨h.1.1.1,h.1.1.2,h.1.2,h.2⟩
def Bz (g:xO.D):Bool:=AQ g&&decide ((g.2.1.2.2.1.length:Int)=cnt g.1)
theorem ajB (g:xO.D)(hg:C4 g):Wh.CC g=some (Bz g,()):=by
 have hO:=abG g hg
 have hO':=Wh.TL _ _ hO
 rcases Bool.eq_false_or_eq_true (AQ g) with h1|h1
 case inr=>simp only[Wh.CC,hO',hO,h1,Bz,iy,nQ,cond_true,cond_false,Bool.not_false,Bool.false_and,Bool.true_or,Bool.and_self]
 case inl=>
  obtain⟨a1,a2⟩:=Si (W3 h1).1
  have hc:=ON g.1 a1 a2
  have aJ:=Wh.CD _ _ hc
  have d1:((g.2.1.2.2.1.length:Int)==cnt g.1)=decide ((g.2.1.2.2.1.length:Int)=cnt g.1):=C7 _ _
  simp only[Wh.CC,hO',aJ,hO,hc,h1,d1,Bz,iy,nQ,cond_true,Bool.not_true,Bool.true_and,Bool.false_or,Bool.and_self]
theorem ad1 (g:xO.D)(hg:C4 g)(h:AQ g=true):Wh.BG g=some (Bz g,()):=by
 obtain⟨_,hs,e1,e2⟩:=W3 h
 have hp:=ad5 g.2.1 hg.2 (abp hs).1
 have hp':=Wh.q9_v _ _ hp
 have hd:=acd hs
 have:(((pre g.2.1:Nat):Int)==g.2.1.1)=Bz g:=by
  unfold Bz
  rw[h,Bool.true_and,←e1]
  rw[C7]
  by_cases e:((pre g.2.1:Nat):Int)=g.2.1.1
  ·rw[decide_eq_true e,decide_eq_true (hd.1 e)]
  ·rw[decide_eq_false e,decide_eq_false (fun hh=>e (hd.2 hh))]
 simp only[Wh.BG,hp',hp,this,iy,nQ,cond_true]
end Pc
open Go Go.Ab
namespace Pc
def Gf (g:xO.D):Bool:=
 (g.1.1==0)&&(g.1.2.1==0)&&((g.1.2.2.1.length:Int)==0)&&((g.1.2.2.2.1.length:Int)==0)&&(g.2.1.1==0)&&(g.2.1.2.1==0)&&((g.2.1.2.2.1.length:Int)==0)
theorem ad4 (g:xO.D):Wh.GI g=some (Gf g,()):=by
 simp only[Wh.GI,Gf,Bool.cond_false_right]
theorem ajD (c:nc.D):Wh.Gk c=some (Gf c.2.2.2.2.2.1,()):=by
 simp only[Wh.Gk,Gf,Bool.cond_false_right]
 congr 2
 generalize ((c.2.2.2.2.2.1.1.2.2.1.length:Int)==0)=a1
 generalize ((c.2.2.2.2.2.1.1.2.2.2.1.length:Int)==0)=a2
 generalize (c.2.2.2.2.2.1.1.1==0)=a3
 generalize (c.2.2.2.2.2.1.1.2.1==0)=a4
 generalize (c.2.2.2.2.2.1.2.1.1==0)=a5
 generalize (c.2.2.2.2.2.1.2.1.2.1==0)=a6
 generalize ((c.2.2.2.2.2.1.2.1.2.2.1.length:Int)==0)=a7
 cases a1<;>cases a2<;>cases a3<;>cases a4<;>simp
def F0 (c:nc.D):Bool:=
 decide (0≤c.1∧c.1≤3)&&decide (0≤c.2.1∧c.2.1≤99999)&&decide (0≤c.2.2.1∧c.2.2.1≤4)&&decide (0≤c.2.2.2.2.1∧c.2.2.2.2.1≤99999) &&
 (bif c.2.2.2.2.1==0 then Gf c.2.2.2.2.2.1 else AQ c.2.2.2.2.2.1) &&
 (bif c.2.2.1==0 then c.2.2.2.1 == []&&c.2.2.2.2.1==0 else
  !(c.2.1==0)&&Dj c.2.2.2.1 &&
  (bif c.2.2.1==2 then !(c.2.2.2.2.1==0) && !Bz c.2.2.2.2.2.1 else bif c.2.2.1==3 then !(c.2.2.2.2.1==0)&&Bz c.2.2.2.2.2.1 else c.2.2.2.2.1==0 || !Bz c.2.2.2.2.2.1))
theorem ajA (c:nc.D)(hg:C4 c.2.2.2.2.2.1)(hn:c.2.2.2.1.length≤4611686018427387904):Wh.q77 c=some (F0 c,()):=by
 have hL:∀x lo hi,Wh.nS (x,lo,hi)=(decide (lo≤x∧x≤hi),()):=fun x lo hi=>Wh.zp _ _ (x8 x lo hi)
 have hN:=ajD c
 have hN':=Wh.Zk _ _ hN
 have hO:=abG _ hg
 have hO':=Wh.TL _ _ hO
 have hD:=ajB _ hg
 have hD':=Wh.Zc _ _ hD
 have hM:=ajC _ hn
 have hM':=Wh.S4 _ _ hM
 obtain⟨id,a,st,name,n,g,u⟩:=c
 dsimp only at hN hN' hO hO' hD hD' hM hM' ⊢
 simp only[Wh.q77,F0,hL,x8,hN,hN',hO,hO',hD,hD',hM,hM',nQ,Bool.or_true,iy,Bool.and_self,cond_true]
 have e4:(n>0)=(0<n):=rfl
 simp only[e4]
 generalize hb:Bz g=b
 generalize hc:AQ g=gc
 generalize hd:Gf g=gd
 generalize he:Dj name=ge
 cases h1:decide (0≤id∧id≤3)
 case false=>simp only[Bool.not_false,cond_true,Bool.false_and]
 cases h2:decide (0≤a∧a≤99999)
 case false=>simp only[Bool.not_false,Bool.not_true,cond_true,cond_false,Bool.false_and,Bool.and_false]
 cases h3:decide (0≤st∧st≤4)
 case false=>simp only[Bool.not_false,Bool.not_true,cond_true,cond_false,Bool.false_and,Bool.and_false]
 cases h4:decide (0≤n∧n≤99999)
 case false=>simp only[Bool.not_false,Bool.not_true,cond_true,cond_false,Bool.false_and,Bool.and_false]
 have hn0:decide (0<n) = !(n==0):=by
  have:=of_decide_eq_true h4
  rw[C7]
  by_cases e:n=0
  ·subst e;rfl
  ·have:0<n:=by omega
   simp[e,this]
 rw[hn0]
 generalize (n==0)=n0
 generalize (a==0)=a0
 generalize (st==0)=s0
 generalize (st==2)=s2
 generalize (st==3)=s3
 generalize (name == [])=m0
 cases n0<;>cases gd<;>cases gc<;>cases s0<;>simp <;>cases a0<;>simp <;>cases ge<;>simp <;>cases s2<;>simp <;>cases s3<;>simp
theorem adS (c:nc.D)(hg:C4 c.2.2.2.2.2.1)(hn:c.2.2.2.1.length≤4611686018427387904):Wh.q49 c=some (F0 c,()):=by
 have hL:∀x lo hi,Wh.n_ (x,lo,hi)=(decide (lo≤x∧x≤hi),()):=fun x lo hi=>Wh.zL _ _ (yc x lo hi)
 have hK:∀x,Wh.Il x=(decide (0≤x∧x≤3),()):=fun x=>Wh.JZ _ _ (Wo x)
 have hN:=ad4 c.2.2.2.2.2.1
 have hN':=Wh.Z3 _ _ hN
 have hO:=adT _ hg
 have hO':=Wh.ZX _ _ hO
 have hM:=adU _ hn
 have hM':=Wh.NZ _ _ hM
 have hD:=ad1 _ hg
 obtain⟨id,a,st,name,n,g,u⟩:=c
 dsimp only at hN hN' hO hO' hD hM hM' ⊢
 simp only[Wh.q49,F0,hL,hK,yc,Wo,hN,hN',hO,hO',hM,hM',nQ,Bool.or_true,iy,Bool.and_self,cond_true]
 have e4:(n>0)=(0<n):=rfl
 simp only[e4]
 generalize hd:Gf g=gd
 generalize he:Dj name=ge
 cases h1:decide (0≤id∧id≤3)
 case false=>simp only[Bool.not_false,cond_true,Bool.false_and]
 cases h2:decide (0≤a∧a≤99999)
 case false=>simp only[Bool.not_false,Bool.not_true,cond_true,cond_false,Bool.false_and,Bool.and_false]
 cases h4:decide (0≤n∧n≤99999)
 case false=>simp only[Bool.not_false,Bool.not_true,cond_true,cond_false,Bool.false_and,Bool.and_false]
 have hn0:decide (0<n) = !(n==0):=by
  have:=of_decide_eq_true h4
  rw[C7]
  by_cases e:n=0
  ·subst e;rfl
  ·have:0<n:=by omega
   simp[e,this]
 rw[hn0]
 have hst:decide (0≤st∧st≤4)=(st==0 || (st==1 || (st==2 || (st==3 || st==4)))):=by
  simp only[C7,←Bool.decide_or]
  exact decide_eq_decide.2 ⟨fun h=>by omega,fun h=>by omega⟩
 rw[hst]
 have x12:(st==1)=true→(st==2)=false∧(st==3)=false:=by simp;intro e;subst e;decide
 have x42:(st==4)=true→(st==2)=false∧(st==3)=false:=by simp;intro e;subst e;decide
 generalize (n==0)=n0
 generalize (a==0)=a0
 generalize (st==0)=s0
 generalize (st==1)=s1 at *
 generalize (st==2)=s2 at *
 generalize (st==3)=s3 at *
 generalize (st==4)=s4 at *
 generalize (name == [])=m0
 rcases Bool.eq_false_or_eq_true (AQ g) with hc|hc
 ·have hD1:=hD hc
  have hD2:=Wh.q11_v _ _ hD1
  simp only[hD1,hD2,hc,Bool.or_true,cond_true]
  generalize Bz g=b
  cases n0<;>cases gd<;>cases s0<;>simp <;>cases a0<;>simp <;>cases ge<;>simp <;>cases s1<;>simp at x12 ⊢ <;>cases s4<;>simp at x42 ⊢ <;>cases s2<;>simp at x12 x42 ⊢ <;>cases s3<;>simp at x12 x42 ⊢
 ·simp only[hc]
  generalize Bz g=b
  cases n0<;>simp <;>cases gd<;>simp <;>cases s0<;>simp <;>cases a0<;>simp <;>cases ge<;>simp <;>cases s1<;>simp at x12 ⊢ <;>cases s4<;>simp at x42 ⊢ <;>cases s2<;>simp at x12 x42 ⊢ <;>cases s3<;>simp at x12 x42 ⊢
end Pc
open Go Go.Ab
namespace Pc
theorem xg {α:Type}(f:α→Nat):∀(l:List α) (x:α),x∈l→f x≤(l.map f).sum
 |a::l,x,h=>by
  rw[List.map_cons,List.sum_cons]
  rcases List.mem_cons.1 h with rfl|h
  ·omega
  ·have:=xg f l x h;omega
theorem vH {α:Type}(f:α→Nat)(h:∀x,1≤f x):∀l:List α,l.length≤(l.map f).sum
 | []=>by simp
 |a::l=>by
  rw[List.map_cons,List.sum_cons,List.length_cons]
  have:=vH f h l;have:=h a;omega
structure C5 (c:nc.D):Prop where
 name:c.2.2.2.1.length≤1048576
 p3:c.2.2.2.2.2.1.1.2.2.1.length≤1048576
 p4:c.2.2.2.2.2.1.1.2.2.2.1.length≤1048576
 s3:c.2.2.2.2.2.1.2.1.2.2.1.length≤1048576
 row:∀x∈c.2.2.2.2.2.1.2.1.2.2.1,x.1.length≤1048576∧x.2.1.length≤1048576
theorem NB (l:List Int)(n:Nat)(h:(l.map (fR (.int .i64))).sum+1≤n):l.length≤n:=by
 have:=vH (fR (.int .i64)) (fun _=>Nat.le_refl 1) l
 omega
theorem Wx (x:nW.D):fR nW x=((x.1.map (fR (.int .i64))).sum+1)+(x.2.1.length+1+0):=rfl
theorem sml_of (c:nc.D)(h:fR nc c≤1048576):C5 c:=by
 have e:fR nc c=1+(1+(1+((c.2.2.2.1.length+1)+(1+(((1+(1+(((c.2.2.2.2.2.1.1.2.2.1.map (fR (.int .i64))).sum+1)+(((c.2.2.2.2.2.1.1.2.2.2.1.map (fR (.int .i64))).sum+1)+0))))+((1+(1+(((c.2.2.2.2.2.1.2.1.2.2.1.map (fR nW)).sum+1)+0)))+0))+0))))):=rfl
 rw[e] at h
 refine⟨by omega,NB _ _ (by omega),NB _ _ (by omega),?_,?_⟩
 ·have:=vH (fR nW) (fun x=>by rw[Wx];omega) c.2.2.2.2.2.1.2.1.2.2.1
  omega
 ·intro x hx
  have:=xg (fR nW) _ x hx
  rw[Wx] at this
  exact⟨NB _ _ (by omega),by omega⟩
theorem C5.sm {c:nc.D}(h:C5 c):C4 c.2.2.2.2.2.1:=
 ⟨⟨by have:=h.p3;omega,by have:=h.p4;omega⟩,by have:=h.s3;omega,fun x hx=>by have:=(h.row x hx).1;omega⟩
theorem Vq (a:List Int)(n:Int):∃v,Wh.Dy (a,n)=some (v,()):=by
 simp only[Wh.Dy]
 cases decide (IntKind.wrap .i64 (n-(a.length:Int))<0)<;>exact⟨_,rfl⟩
theorem aj0 (a:r_.D)(n:Int):∃v,Wh.Gz (a,n)=some (v,()):=by
 obtain⟨v,hv⟩:=Vq a.2.2.1 n
 obtain⟨w,hw⟩:=Vq a.2.2.2.1 v
 simp only[Wh.Gz,hv,Wh.N1 _ _ hv,hw,Wh.N1 _ _ hw,iy,nQ,cond_true]
 cases decide (v<0)<;>cases decide (w<0)<;>exact⟨_,rfl⟩
theorem ajU (a:nW.D)(n:Int):∃v,Wh.G0 (a,n)=some (v,()):=by
 obtain⟨v,hv⟩:=Vq a.1 n
 simp only[Wh.G0,hv,Wh.N1 _ _ hv,iy,nQ,cond_true]
 cases decide (v<0)<;>cases decide (IntKind.wrap .i64 (v-(a.2.1.length:Int))<0)<;>exact⟨_,rfl⟩
theorem ajT (a:List nW.D)(n:Int)(h:a.length≤1048576):∃v,Wh.GN (a,n)=some (v,()):=by
 have hl:∀d k:Nat,k+d=a.length→∀m:Int,∃y,Comes Wh.E0 (((k:Int),m,a),()) y:=by
  intro d
  induction d with
  |zero=>
   intro k hk m
   have hk':decide ((k:Int)<(a.length:Int))=false:=by simp;omega
   exact⟨_,.out (by simp only[Wh.E0,hk',cond_false];rfl)⟩
  |succ d ih=>
   intro k hk m
   have hk':decide ((k:Int)<(a.length:Int))=true:=by simp;omega
   have h0:decide ((0:Int)≤(k:Int))=true:=by simp
   have w:=gT (i:=k) (by omega)
   obtain⟨v,hv⟩:=ajU (List.getD a k ([],[],())) m
   cases hd:decide (v<0) with
   |true=>exact⟨_,.out (by simp only[Wh.E0,hk',h0,Int.toNat_natCast,hv,Wh.T7 _ _ hv,hd,iy,nQ,cond_true,Bool.and_self];rfl)⟩
   |false=>
    obtain⟨y,hy⟩:=ih (k+1) (by omega) v
    exact⟨y,.again (by simp only[Wh.E0,hk',h0,w,Int.toNat_natCast,hv,Wh.T7 _ _ hv,hd,iy,nQ,cond_true,cond_false,Bool.and_self]) hy⟩
 simp only[Wh.GN]
 cases decide (IntKind.wrap .i64 (n-(a.length:Int))<0) with
 |true=>exact⟨_,rfl⟩
 |false=>
  obtain⟨y,hy⟩:=hl a.length 0 (by omega) (IntKind.wrap .i64 (n-(a.length:Int)))
  have e1:=cb hy
  have e2:=cv hy Wh.TC
  rw[show(((0:Nat):Int))=0 from rfl] at e1 e2
  simp only[e1,e2,cond_true,cond_false]
  cases y with
  |inl y=>exact⟨_,rfl⟩
  |inr y=>exact⟨_,rfl⟩
theorem aj3 (a:mb.D)(n:Int)(h:a.2.2.1.length≤1048576):∃v,Wh.q68 (a,n)=some (v,()):=by
 obtain⟨v,hv⟩:=ajT a.2.2.1 n h
 simp only[Wh.q68,hv,Wh.Z7 _ _ hv,iy,nQ,cond_true]
 cases decide (v<0)<;>exact⟨_,rfl⟩
theorem ajW (a:xO.D)(n:Int)(h:a.2.1.2.2.1.length≤1048576):∃v,Wh.q36 (a,n)=some (v,()):=by
 obtain⟨v,hv⟩:=aj0 a.1 n
 obtain⟨w,hw⟩:=aj3 a.2.1 v h
 simp only[Wh.q36,hv,Wh.ZC _ _ hv,hw,Wh.q68_v _ _ hw,iy,nQ,cond_true]
 cases decide (v<0)<;>cases decide (w<0)<;>exact⟨_,rfl⟩
theorem ajS (c:nc.D)(n:Int)(h:C5 c):∃v,Wh.q63 (c,n)=some (v,()):=by
 obtain⟨v,hv⟩:=ajW c.2.2.2.2.2.1 (IntKind.wrap .i64 (n-(c.2.2.2.1.length:Int))) h.s3
 simp only[Wh.q63,hv,Wh.q36_v _ _ hv,iy,nQ,cond_true]
 cases decide (IntKind.wrap .i64 (n-(c.2.2.2.1.length:Int))<0)<;>cases decide (v<0)<;>exact⟨_,rfl⟩
def iB {α:Type}(a:List α)(z:α)(i:Nat):List α:=a.take i++List.replicate (a.length-i) z
theorem Da {α:Type}(a:List α)(z:α)(i:Nat)(h:i≤a.length):(iB a z i).length=a.length:=by
 rw[iB,List.length_append,List.length_take,List.length_replicate];omega
theorem Dc {α:Type}(a:List α)(z:α):iB a z 0=List.replicate a.length z:=by simp[iB]
theorem C_ {α:Type}(a:List α)(z:α):iB a z a.length=a:=by simp[iB]
theorem Db {α:Type}(a:List α)(z z':α)(i:Nat)(h:i<a.length):(iB a z i).set i (a.getD i z')=iB a z (i+1):=by
 have e1:a.length-i=(a.length-(i+1))+1:=by omega
 have e2:(a.take i).length=i:=by rw[List.length_take];omega
 rw[iB,iB,e1,List.replicate_succ,List.set_append_right _ _ (by omega),e2,Nat.sub_self,List.set_cons_zero,List.take_succ_eq_append_getElem h,List.append_assoc,getD_eq _ _ _ h]
 rfl
theorem Vv (a:List Int)(h:a.length≤1048576):Wh.Dz a=some (a,()):=by
 have hl:Comes Wh.ET (((0:Int),a,()),List.replicate a.length 0) ((),a):=by
  have:=yd (r:=Wh.ET) (st:=fun i=>(((i:Int),a,()),iB a 0 i)) (n:=a.length) (y:=((),a)) ?_ ?_ 0 (Nat.zero_le _)
  ·rw[Dc] at this;exact this
  ·intro i hi
   have hi':decide ((i:Int)<(a.length:Int))=true:=by simpa using hi
   have h0:decide ((0:Int)≤(i:Int))=true:=by simp
   simp only[Wh.ET,hi',h0,Int.toNat_natCast,Da a 0 i (by omega),Db a 0 0 i hi,gT (i:=i) (by omega),iy,cond_true,Bool.and_self]
  ·have hi':decide (((a.length:Nat):Int)<(a.length:Int))=false:=by simp
   simp only[Wh.ET,hi',cond_false,C_]
 have b0:decide ((0:Int)≤(a.length:Int))=true:=by simp
 have b1:decide ((a.length:Int)≤(dh:Int))=true:=decide_eq_true (by unfold dh;omega)
 simp only[Wh.Dz,Int.toNat_natCast,cb hl,cv hl,b0,b1,Int.le_refl,decide_true,iy,cond_true,Bool.and_self]
theorem akk (a:r_.D)(h1:a.2.2.1.length≤1048576)(h2:a.2.2.2.1.length≤1048576):Wh.GB a=some (a,()):=by
 have e1:=Vv _ h1
 have e2:=Vv _ h2
 simp only[Wh.GB,e1,e2,Wh.N2 _ _ e1,Wh.N2 _ _ e2,iy,nQ,cond_true]
theorem ake (a:nW.D)(h1:a.1.length≤1048576):Wh.G1 a=some (a,()):=by
 have e1:=Vv _ h1
 simp only[Wh.G1,e1,Wh.N2 _ _ e1,iy,nQ,cond_true]
theorem akd (a:List nW.D)(h:a.length≤1048576)(hr:∀x∈a,x.1.length≤1048576):Wh.GP a=some (a,()):=by
 have hl:Comes Wh.E3 (((0:Int),a,()),List.replicate a.length ([],[],())) ((),a):=by
  have:=yd (r:=Wh.E3) (st:=fun i=>(((i:Int),a,()),iB a ([],[],()) i)) (n:=a.length) (y:=((),a)) ?_ ?_ 0 (Nat.zero_le _)
  ·rw[Dc] at this;exact this
  ·intro i hi
   have hi':decide ((i:Int)<(a.length:Int))=true:=by simpa using hi
   have h0:decide ((0:Int)≤(i:Int))=true:=by simp
   have he:=ake (List.getD a i ([],[],())) (hr _ (by rw[getD_eq _ _ _ hi];simp))
   have hs:(iB a ([],[],()) i).set i ((List.getD a i ([],[],())).1,(List.getD a i ([],[],())).2)=iB a ([],[],()) (i+1):=Db a ([],[],()) ([],[],()) i hi
   simp only[Wh.E3,hi',h0,Int.toNat_natCast,Da a ([],[],()) i (by omega),he,Wh.aar _ _ he,hs,gT (i:=i) (by omega),iy,nQ,cond_true,Bool.and_self]
  ·have hi':decide (((a.length:Nat):Int)<(a.length:Int))=false:=by simp
   simp only[Wh.E3,hi',cond_false,C_]
 have b0:decide ((0:Int)≤(a.length:Int))=true:=by simp
 have b1:decide ((a.length:Int)≤(dh:Int))=true:=decide_eq_true (by unfold dh;omega)
 simp only[Wh.GP,Int.toNat_natCast,cb hl,cv hl,b0,b1,Int.le_refl,decide_true,iy,cond_true,Bool.and_self]
theorem akp (a:mb.D)(h:a.2.2.1.length≤1048576)(hr:∀x∈a.2.2.1,x.1.length≤1048576):Wh.q75 a=some (a,()):=by
 have e1:=akd _ h hr
 simp only[Wh.q75,e1,Wh.Z_ _ _ e1,iy,nQ,cond_true]
theorem akc (c:nc.D)(h:C5 c):Wh.q70 c=some (c,()):=by
 have e1:=akk c.2.2.2.2.2.1.1 h.p3 h.p4
 have e2:=akp c.2.2.2.2.2.1.2.1 h.s3 fun x hx=>(h.row x hx).1
 have e3:Wh.q40 c.2.2.2.2.2.1=some (c.2.2.2.2.2.1,()):=by
  simp only[Wh.q40,e1,e2,Wh.ZH _ _ e1,Wh.q75_v _ _ e2,iy,nQ,cond_true]
 simp only[Wh.q70,e3,Wh.q40_v _ _ e3,iy,nQ,cond_true]
end Pc
open Go Go.Ab Go.Lib
namespace Pl
theorem acs (w:pg.D):Wh.q59 (w,w)=some (true,()):=by simp[Wh.q59]
theorem acr (a:List pg.D)(h:a.length≤4611686018427387904):Wh.q33 (a,a)=some (true,()):=by
 have hl:Comes Wh.G4 (((0:Int),a,a),()) (.inr ((),())):=by
  refine yd (st:=fun i=>(((i:Int),a,a),())) (n:=a.length) ?_ ?_ 0 (Nat.zero_le _)
  ·intro i hi
   have h2:=gT (i:=i) (by omega)
   have h4:=acs (a[i])
   simp[Wh.G4,Wh.Ow,bx,iy,h2,hi,h4,nQ]
  ·simp[Wh.G4]
 simp[Wh.q33,cb hl,cv hl]
theorem akj (a:pg.D):Wh.q72 a=some (a,()):=rfl
theorem aki (a:List pg.D)(h:a.length≤1048576):Wh.q41 a=some (a,()):=by
 have hl:Comes Wh.Fj (((0:Int),a,()),List.replicate a.length ((0:Int),([]:List UInt8),false,())) ((),a):=by
  have:=yd (r:=Wh.Fj) (st:=fun i=>(((i:Int),a,()),iB a ((0:Int),([]:List UInt8),false,()) i)) (n:=a.length) (y:=((),a)) ?_ ?_ 0 (Nat.zero_le _)
  ·rw[Dc] at this;exact this
  ·intro i hi
   have hi':decide ((i:Int)<(a.length:Int))=true:=by simpa using hi
   have h0:decide ((0:Int)≤(i:Int))=true:=by simp
   have he:=akj (List.getD a i ((0:Int),([]:List UInt8),false,()))
   have hs:(iB a ((0:Int),([]:List UInt8),false,()) i).set i (List.getD a i ((0:Int),([]:List UInt8),false,()))=iB a ((0:Int),([]:List UInt8),false,()) (i+1):=Db a _ _ i hi
   simp only[Wh.Fj,hi',h0,Int.toNat_natCast,Da a ((0:Int),([]:List UInt8),false,()) i (by omega),he,Wh.q72_v _ _ he,hs,gT (i:=i) (by omega),iy,nQ,cond_true,Bool.and_self]
  ·have hi':decide (((a.length:Nat):Int)<(a.length:Int))=false:=by simp
   simp only[Wh.Fj,hi',cond_false,C_]
 have b0:decide ((0:Int)≤(a.length:Int))=true:=by simp
 have b1:decide ((a.length:Int)≤(dh:Int))=true:=decide_eq_true (by unfold dh;omega)
 simp only[Wh.q41,Int.toNat_natCast,cb hl,cv hl,b0,b1,Int.le_refl,decide_true,iy,cond_true,Bool.and_self]
theorem ajZ (a:pg.D)(n:Int):∃v,Wh.q65 (a,n)=some (v,()):=by
 simp only[Wh.q65]
 repeat' (first|exact⟨_,rfl⟩|refine Ra _ ?_ ?_)
theorem ajY (a:List pg.D)(n:Int)(h:a.length≤1048576):∃v,Wh.q37 (a,n)=some (v,()):=by
 have hl:∀d k:Nat,k+d=a.length→∀m:Int,∃y,Comes Wh.Fg (((k:Int),m,a),()) y:=by
  intro d
  induction d with
  |zero=>
   intro k hk m
   have hk':decide ((k:Int)<(a.length:Int))=false:=by simp;omega
   exact⟨_,.out (by simp only[Wh.Fg,hk',cond_false];rfl)⟩
  |succ d ih=>
   intro k hk m
   have hk':decide ((k:Int)<(a.length:Int))=true:=by simp;omega
   have h0:decide ((0:Int)≤(k:Int))=true:=by simp
   have w:=gT (i:=k) (by omega)
   obtain⟨v,hv⟩:=ajZ (List.getD a k ((0:Int),([]:List UInt8),false,())) m
   cases hd:decide (v<0) with
   |true=>exact⟨_,.out (by simp only[Wh.Fg,hk',h0,Int.toNat_natCast,hv,Wh.UM _ _ hv,hd,iy,nQ,cond_true,Bool.and_self];rfl)⟩
   |false=>
    obtain⟨y,hy⟩:=ih (k+1) (by omega) v
    exact⟨y,.again (by simp only[Wh.Fg,hk',h0,w,Int.toNat_natCast,hv,Wh.UM _ _ hv,hd,iy,nQ,cond_true,cond_false,Bool.and_self]) hy⟩
 simp only[Wh.q37]
 cases decide (IntKind.wrap .i64 (n-(a.length:Int))<0) with
 |true=>exact⟨_,rfl⟩
 |false=>
  obtain⟨y,hy⟩:=hl a.length 0 (by omega) (IntKind.wrap .i64 (n-(a.length:Int)))
  have e1:=cb hy
  have e2:=cv hy Wh.Un
  rw[show(((0:Nat):Int))=0 from rfl] at e1 e2
  simp only[e1,e2,cond_true,cond_false]
  cases y with
  |inl y=>exact⟨_,rfl⟩
  |inr y=>exact⟨_,rfl⟩
def zC:nc.D:=((0:Int),(0:Int),(0:Int),([]:List UInt8),(0:Int),(((0:Int),(0:Int),([]:List Int),([]:List Int),()),((0:Int),(0:Int),([]:List nW.D),()),()),())
theorem aci (a:List nc.D)(h:a.length≤1048576)(hr:∀x∈a,Pc.C5 x):Wh.q31 (a,a)=some (true,()):=by
 have hl:Comes Wh.G3 (((0:Int),a,a),()) (.inr ((),())):=by
  refine yd (st:=fun i=>(((i:Int),a,a),())) (n:=a.length) ?_ ?_ 0 (Nat.zero_le _)
  ·intro i hi
   have h2:=gT (i:=i) (by omega)
   have h4:=Pc.acj (a[i]) (hr _ (by simp)).sm
   simp[Wh.G3,Wh.Ov,bx,iy,h2,hi,h4,nQ]
  ·simp[Wh.G3]
 simp[Wh.q31,cb hl,cv hl]
theorem akb (a:List nc.D)(h:a.length≤1048576)(hr:∀x∈a,Pc.C5 x):Wh.q39 a=some (a,()):=by
 have hl:Comes Wh.Fi (((0:Int),a,()),List.replicate a.length zC) ((),a):=by
  have:=yd (r:=Wh.Fi) (st:=fun i=>(((i:Int),a,()),iB a zC i)) (n:=a.length) (y:=((),a)) ?_ ?_ 0 (Nat.zero_le _)
  ·rw[Dc] at this;exact this
  ·intro i hi
   have hi':decide ((i:Int)<(a.length:Int))=true:=by simpa using hi
   have h0:decide ((0:Int)≤(i:Int))=true:=by simp
   have he:=Pc.akc (List.getD a i zC) (hr _ (by rw[getD_eq _ _ _ hi];exact List.getElem_mem hi))
   have hs:(iB a zC i).set i (List.getD a i zC)=iB a zC (i+1):=Db a _ _ i hi
   have hc:=Da a zC i (by omega)
   unfold zC at he hs hc ⊢
   simp only[Wh.Fi,hi',h0,Int.toNat_natCast,hc,he,Wh.q70_v _ _ he,hs,gT (i:=i) (by omega),iy,nQ,cond_true,Bool.and_self]
  ·have hi':decide (((a.length:Nat):Int)<(a.length:Int))=false:=by simp
   simp only[Wh.Fi,hi',cond_false,C_]
 have b0:decide ((0:Int)≤(a.length:Int))=true:=by simp
 have b1:decide ((a.length:Int)≤(dh:Int))=true:=decide_eq_true (by unfold dh;omega)
 unfold zC at hl
 simp only[Wh.q39,Int.toNat_natCast,cb hl,cv hl,b0,b1,Int.le_refl,decide_true,iy,cond_true,Bool.and_self]
theorem ajR (a:List nc.D)(n:Int)(h:a.length≤1048576)(hr:∀x∈a,Pc.C5 x):∃v,Wh.q35 (a,n)=some (v,()):=by
 have hl:∀d k:Nat,k+d=a.length→∀m:Int,∃y,Comes Wh.DY (((k:Int),m,a),()) y:=by
  intro d
  induction d with
  |zero=>
   intro k hk m
   have hk':decide ((k:Int)<(a.length:Int))=false:=by simp;omega
   exact⟨_,.out (by simp only[Wh.DY,hk',cond_false];rfl)⟩
  |succ d ih=>
   intro k hk m
   have hk':decide ((k:Int)<(a.length:Int))=true:=by simp;omega
   have h0:decide ((0:Int)≤(k:Int))=true:=by simp
   have w:=gT (i:=k) (by omega)
   obtain⟨v,hv⟩:=Pc.ajS (List.getD a k zC) m (hr _ (by rw[getD_eq _ _ _ (by omega)];exact List.getElem_mem (by omega)))
   unfold zC at hv
   cases hd:decide (v<0) with
   |true=>exact⟨_,.out (by simp only[Wh.DY,hk',h0,Int.toNat_natCast,hv,Wh.UL _ _ hv,hd,iy,nQ,cond_true,Bool.and_self];rfl)⟩
   |false=>
    obtain⟨y,hy⟩:=ih (k+1) (by omega) v
    exact⟨y,.again (x':=((((k+1:Nat):Int),v,a),())) (by simp only[Wh.DY,hk',h0,Int.toNat_natCast,hv,Wh.UL _ _ hv,hd,iy,nQ,cond_true,cond_false,Bool.and_self,w]) hy⟩
 obtain⟨y,hy⟩:=hl a.length 0 (by omega) (IntKind.wrap .i64 (n-(a.length:Int)))
 have hy':Comes Wh.DY (((0:Int),IntKind.wrap .i64 (n-(a.length:Int)),a),()) y:=hy
 simp only[Wh.q35,cb hy',cv hy',cond_true]
 cases decide (IntKind.wrap .i64 (n-(a.length:Int))<0) with
 |true=>exact⟨_,rfl⟩
 |false=>cases y<;>exact⟨_,rfl⟩
structure zl (w:fT.D):Prop where
 CV:FR w.1
 cls:w.2.1.length≤1048576
 cl:∀x∈w.2.1,Pc.C5 x
 rad:w.2.2.1.length≤1048576
 pk:∀x∈w.2.2.1,x.2.1.length≤1048576
 giv:w.2.2.2.1.length≤1048576
 its:∀x∈w.2.2.2.1,x.2.1.length≤1048576∧x.2.2.2.1.length≤1048576
theorem cl_pos (c:nc.D):1≤fR nc c:=by simp only[fR];omega
theorem pk_pos (c:pg.D):1≤fR pg c:=by simp only[fR];omega
theorem it_pos (c:an.D):1≤fR an c:=by simp only[fR];omega
theorem smW_of (w:fT.D)(h:fR fT w≤1048576):zl w:=by
 have e:fR fT w=fR nC w.1+(((w.2.1.map (fR nc)).sum+1)+(((w.2.2.1.map (fR pg)).sum+1)+(((w.2.2.2.1.map (fR an)).sum+1)+0))):=rfl
 rw[e] at h
 have h1:=vH (fR nc) cl_pos w.2.1
 have h2:=vH (fR pg) pk_pos w.2.2.1
 have h3:=vH (fR an) it_pos w.2.2.2.1
 refine⟨ajp _ (by omega),by omega,fun x hx=>Pc.sml_of x ?_,by omega,fun x hx=>?_,by omega,fun x hx=>?_⟩
 ·have:=xg (fR nc) _ x hx;omega
 ·have:=xg (fR pg) _ x hx
  have e:fR pg x=1+(x.2.1.length+1+(1+0)):=rfl
  omega
 ·have:=xg (fR an) _ x hx
  have e:fR an x=1+(x.2.1.length+1+(1+(x.2.2.2.1.length+1+0))):=rfl
  omega
theorem akq (w:fT.D)(S:zl w):Wh.Dp w=some (w,()):=by
 have a:=ako w.1 S.CV
 have b:=akb w.2.1 S.cls S.cl
 have c:=aki w.2.2.1 S.rad
 have d:=abN w.2.2.2.1 S.giv
 simp only[Wh.Dp,a,Wh.q74_v _ _ a,b,Wh.q39_v _ _ b,c,Wh.q41_v _ _ c,d,Wh.Sn _ _ d,iy,nQ,cond_true]
theorem acB (w:fT.D)(S:zl w):Wh.q96 (w,w)=some (true,()):=by
 have a:=acz w.1 S.CV
 have b:=aci w.2.1 S.cls S.cl
 have c:=acr w.2.2.1 (Nat.le_trans S.rad (by omega))
 have d:=Ww w.2.2.2.1 (Nat.le_trans S.giv (by omega))
 simp only[Wh.q96,a,Wh.q61_v _ _ a,b,Wh.q31_v _ _ b,c,Wh.q33_v _ _ c,d,Wh.Vc _ _ d,iy,nQ,cond_true,cond_false,Bool.not_true]
theorem aj4 (w:fT.D)(n:Int)(S:zl w):∃v,Wh.q98 (w,n)=some (v,()):=by
 obtain⟨a,ha⟩:=aj2 w.1 n S.CV
 obtain⟨b,hb⟩:=ajR w.2.1 a S.cls S.cl
 obtain⟨c,hc⟩:=ajY w.2.2.1 b S.rad
 obtain⟨d,hd⟩:=abI w.2.2.2.1 c S.giv
 simp only[Wh.q98,ha,Wh.q67_v _ _ ha,hb,Wh.q35_v _ _ hb,hc,Wh.q37_v _ _ hc,hd,Wh.Vf _ _ hd,iy,nQ,cond_true]
 cases decide (a<0) with
 |true=>exact⟨_,rfl⟩
 |false=>
 cases decide (b<0) with
 |true=>exact⟨_,rfl⟩
 |false=>
 cases decide (c<0) with
 |true=>exact⟨_,rfl⟩
 |false=>
 cases decide (d<0)<;>exact⟨_,rfl⟩
end Pl
open Go Go.Ab
namespace Pl
section
variable {α:Type} (mk1:α→Int→α) (n1:α→Nat)
def markL:List α→Int→List α
 | [],_=>[]
 |a::l,k=>mk1 a k::markL l (k+n1 a)
def sumN (l:List α):Nat:=(l.map n1).sum
def ks (k:Int)(l:List α)(i:Nat):Int:=k+(sumN n1 (l.take i):Nat)
def part (k:Int)(l:List α)(i:Nat):List α:=markL mk1 n1 (l.take i) k++l.drop i
end
end Pl
open Go Go.Ab
namespace Pl
end Pl
open Go Go.Ab
namespace Pl
end Pl
open Go Go.Ab Go.Lib
namespace Pl
theorem Cv (x y:Nat):((x:Int)==(y:Int))=(x==y):=by rw[Bool.eq_iff_iff,beq_iff_eq,beq_iff_eq];omega
theorem Sa {s:nC.D}(h:okV s=true):yx s.2.2.2.1:=by
 unfold okV at h
 simp only[Bool.and_eq_true] at h
 obtain⟨_,_,hc,h⟩:=h
 cases hu:s.1 with
 |true=>
  rw[hu] at h
  simp only[cond_true,upV,Bool.and_eq_true,decide_eq_true_eq] at h
  rw[←h.2.1]
  exact Nk hc
 |false=>
  rw[hu] at h
  simp only[cond_false,I9,Bool.and_eq_true,beq_iff_eq,List.length_eq_zero_iff] at h
  have e:s.2.2.2.1=((0:Int),[],()):=by
   rw[←h.1.1.1.1.2,←h.1.1.1.1.1]
  rw[e]
  exact Nj
theorem YW {s:nC.D}(h:okV s=true):s.2.2.1.length≤9000:=by
 unfold okV at h
 simp only[Bool.and_eq_true,decide_eq_true_eq] at h
 exact h.2.1
end Pl
open Go Go.Ab Go.Lib
namespace Pl
theorem Bx {α:Type}(b:Bool)(x y:α):(bif b then x else y)=if b=true then x else y:=by cases b<;>rfl
abbrev Wd:Type:=fT.D
def zP:pg.D:=((0:Int),[],false,())
def FZ (w:Wd)(i:Nat):Bool:=bif(bif !Pc.F0 (w.2.1.getD i zC) then true else(w.2.1.getD i zC).1 != (i:Int)) then true else decide ((w.2.1.getD i zC).2.2.2.2.1>(w.2.2.2.1.length:Int))
def Gh (p:pg.D):Bool:=bif decide ((p.2.1.length:Int)>160) then true else bif p.1 != 9 then !wh p.1 0 3 else false
def F1 (g:List It)(i:Nat):Bool:=bif !Ar (g.getD i z0).1 (g.getD i z0).2.1 (g.getD i z0).2.2.2.1 then true else(g.getD i z0).2.2.1 != ((i+1:Nat):Int)
def Iq (g:List It)(t:It):Bool:=decide (g.getD (t.2.2.1-1).toNat z0=t)
def itF (g:List It)(t:It):Bool:=bif decide (t.2.2.1>(g.length:Int)) then true else !Iq g t
def BU (g:List It)(t:It):Bool:=bif decide (t.2.2.1≤(g.length:Int)) then !Iq g t else false
theorem clOk {w:Wd}(S:zl w){i:Nat}(hi:i<w.2.1.length):Wh.q77 (w.2.1.getD i zC)=some (Pc.F0 (w.2.1.getD i zC),())∧Wh.q49 (w.2.1.getD i zC)=some (Pc.F0 (w.2.1.getD i zC),()):=by
 have s:=S.cl _ (show w.2.1.getD i zC∈w.2.1 by rw[getD_eq _ _ _ hi];exact List.getElem_mem hi)
 have h:=s.name
 exact⟨Pc.ajA _ s.sm (by omega),Pc.adS _ s.sm (by omega)⟩
theorem abw (w:Wd)(S:zl w)(i:Nat)(hi:i<w.2.1.length) :
  Wh.Dq (((i:Int),()),w)=if FZ w i=true then some (.inr (.inl (false,()))) else some (.inl ((((i+1:Nat):Int),()),w)):=by
 have hl:=S.cls
 have wr:=gT (show i≤4611686018427387904 by omega)
 obtain⟨a,_⟩:=clOk S hi
 unfold FZ
 unfold zC at a ⊢
 simp only[Wh.Dq,gl hi,g0,Int.toNat_natCast,a,Wh.q77_v _ _ a,nQ,iy,Bool.or_true,Bool.and_self,cond_true,wr]
 exact Bx _ _ _
theorem Xg (w:Wd)(S:zl w)(i:Nat)(hi:i<w.2.1.length) :
  Wh.Ea (((i:Int),(),w.2.1,(w.2.1.length:Int)),w)=if FZ w i=true then some (.inr (.inl (false,()))) else some (.inl ((((i+1:Nat):Int),(),w.2.1,(w.2.1.length:Int)),w)):=by
 have hl:=S.cls
 have wr:=gT (show i≤4611686018427387904 by omega)
 obtain⟨_,a⟩:=clOk S hi
 have fin (A B D:Bool):(bif(bif B then true else !A) then true else D)=(bif(bif !A then true else B) then true else D):=by cases A<;>cases B<;>rfl
 unfold FZ
 unfold zC at a ⊢
 simp only[Wh.Ea,gl hi,g0,Int.toNat_natCast,a,Wh.q49_v _ _ a,nQ,iy,Bool.or_true,Bool.and_self,cond_true,wr,fin]
 exact Bx _ _ _
theorem abC (w:Wd)(S:zl w)(i:Nat)(hi:i<w.2.2.1.length) :
  Wh.Dr (((i:Int),()),w)=if Gh (w.2.2.1.getD i zP)=true then some (.inr (.inl (false,()))) else some (.inl ((((i+1:Nat):Int),()),w)):=by
 have hl:=S.rad
 have wr:=gT (show i≤4611686018427387904 by omega)
 unfold Gh
 unfold zP
 simp only[Wh.Dr,gl hi,g0,Int.toNat_natCast,Ao,Wh.zp _ _ (Ao _ _ _),nQ,iy,Bool.or_true,Bool.and_self,cond_true,wr]
 exact Bx _ _ _
theorem Xm (w:Wd)(S:zl w)(i:Nat)(hi:i<w.2.2.1.length) :
  Wh.Eb (((i:Int),w.2.2.1,(),(w.2.2.1.length:Int)),w)=if Gh (w.2.2.1.getD i zP)=true then some (.inr (.inl (false,()))) else some (.inl ((((i+1:Nat):Int),w.2.2.1,(),(w.2.2.1.length:Int)),w)):=by
 have hl:=S.rad
 have wr:=gT (show i≤4611686018427387904 by omega)
 have fin (A B:Bool):(bif A then true else B)=(bif B then true else A):=by cases A<;>cases B<;>rfl
 unfold Gh
 unfold zP
 simp only[Wh.Eb,gl hi,g0,Int.toNat_natCast,HL,Wh.JZ _ _ (HL _),nQ,iy,Bool.or_true,Bool.and_self,cond_true,wr]
 rw[fin]
 exact Bx _ _ _
theorem abA (w:Wd)(S:zl w)(i:Nat)(hi:i<w.2.2.2.1.length) :
  Wh.D7 (((i:Int),()),w)=if F1 w.2.2.2.1 i=true then some (.inr (.inl (false,()))) else some (.inl ((((i+1:Nat):Int),()),w)):=by
 have hl:=S.giv
 have wr:=gT (show i≤4611686018427387904 by omega)
 have hm:w.2.2.2.1.getD i z0∈w.2.2.2.1:=by rw[getD_eq _ _ _ hi];exact List.getElem_mem hi
 have a:=Jn (w.2.2.2.1.getD i z0) (by have:=(S.its _ hm).1;omega)
 unfold F1
 unfold z0 at a ⊢
 simp only[Wh.D7,gl hi,g0,Int.toNat_natCast,a,Wh.DR _ _ a,nQ,iy,Bool.or_true,Bool.and_self,cond_true,wr]
 exact Bx _ _ _
theorem Xk (w:Wd)(S:zl w)(i:Nat)(hi:i<w.2.2.2.1.length) :
  Wh.Ec (((i:Int),w.2.2.2.1,(),(w.2.2.2.1.length:Int)),w)=if F1 w.2.2.2.1 i=true then some (.inr (.inl (false,()))) else some (.inl ((((i+1:Nat):Int),w.2.2.2.1,(),(w.2.2.2.1.length:Int)),w)):=by
 have hl:=S.giv
 have wr:=gT (show i≤4611686018427387904 by omega)
 have hm:w.2.2.2.1.getD i z0∈w.2.2.2.1:=by rw[getD_eq _ _ _ hi];exact List.getElem_mem hi
 have a:=Y6 (w.2.2.2.1.getD i z0).1 (w.2.2.2.1.getD i z0).2.1 (w.2.2.2.1.getD i z0).2.2.2.1 (by have:=(S.its _ hm).1;omega)
 have fin (A B:Bool):(bif A then true else B)=(bif B then true else A):=by cases A<;>cases B<;>rfl
 unfold F1
 unfold z0 at a ⊢
 simp only[Wh.Ec,gl hi,g0,Int.toNat_natCast,a,Wh.JV _ _ a,nQ,iy,Bool.or_true,Bool.and_self,cond_true,wr]
 rw[fin]
 exact Bx _ _ _
end Pl
open Go Go.Ab Go.Lib
namespace Pl
theorem Jc {c:Ct}(I:yx c){i:Nat}(hi:i<c.2.1.length):∃e:Nat,(c.2.1.getD i z0).2.2.1=(e:Int)∧1≤e∧e≤99999∧(e:Int)≤c.1:=by
 have hm:c.2.1.getD i z0∈c.2.1:=by rw[getD_eq _ _ _ hi];exact List.getElem_mem hi
 have h:=I.eds _ hm
 have h2:=I.ed
 exact⟨(c.2.1.getD i z0).2.2.1.toNat,by omega,by omega,by omega,by omega⟩
theorem edw {e:Nat}(h1:1≤e)(h2:e≤99999):IntKind.wrap .i64 ((e:Int)-1)=((e-1:Nat):Int):=wi (by omega) (by omega)
theorem abB (w:Wd)(_S:zl w)(I:yx w.1.2.2.2.1)(i:Nat)(hi:i<w.1.2.2.2.1.2.1.length) :
  Wh.D8 (((i:Int),()),w)=if itF w.2.2.2.1 (w.1.2.2.2.1.2.1.getD i z0)=true then some (.inr (.inl (false,()))) else some (.inl ((((i+1:Nat):Int),()),w)):=by
 have h8:=I.len
 have wr:=gT (show i≤4611686018427387904 by omega)
 obtain⟨e,he,h1,h2,_⟩:=Jc I hi
 have we:=edw h1 h2
 unfold itF Iq
 have et:((e:Int)-1).toNat=e-1:=by omega
 have c0:decide ((0:Int)≤((e-1:Nat):Int))=true:=decide_eq_true (by omega)
 have c1:((!!decide ((e:Int)>(w.2.2.2.1.length:Int))) || decide (((e-1:Nat):Int)<(w.2.2.2.1.length:Int)))=true:=by
  by_cases h:(e:Int)>(w.2.2.2.1.length:Int)
  ·rw[decide_eq_true h];rfl
  ·rw[decide_eq_true (show((e-1:Nat):Int)<(w.2.2.2.1.length:Int) by omega),Bool.or_true]
 rw[←EB,he,et]
 unfold z0 at he ⊢
 simp only[Wh.D8,gl hi,g0,Int.toNat_natCast,he,we,c0,c1,iy,Bool.or_true,Bool.and_self,cond_true,wr]
 exact Bx _ _ _
theorem dnC {e:Nat}{n:Nat}(h1:1≤e):((!decide ((e:Int)≤(n:Int))) || decide (((e-1:Nat):Int)<(n:Int)))=true:=by
 by_cases h:(e:Int)≤(n:Int)
 ·rw[decide_eq_true (show((e-1:Nat):Int)<(n:Int) by omega),Bool.or_true]
 ·rw[decide_eq_false h];rfl
theorem abx (w:Wd)(c:Ct)(I:yx c)(i:Nat)(hi:i<c.2.1.length) :
  Wh.Dv (((i:Int),(),()),w,(c.1,(),c.2.2),c.2.1)=if BU w.2.2.2.1 (c.2.1.getD i z0)=true then some (.inr (.inl (false,()))) else some (.inl ((((i+1:Nat):Int),(),()),w,(c.1,(),c.2.2),c.2.1)):=by
 have h8:=I.len
 have wr:=gT (show i≤4611686018427387904 by omega)
 obtain⟨e,he,h1,h2,_⟩:=Jc I hi
 have we:=edw h1 h2
 unfold BU Iq
 have et:((e:Int)-1).toNat=e-1:=by omega
 have c0:decide ((0:Int)≤((e-1:Nat):Int))=true:=decide_eq_true (by omega)
 have c1:=dnC (n:=w.2.2.2.1.length) h1
 rw[←EB,he,et]
 unfold z0 at he ⊢
 simp only[Wh.Dv,gl hi,g0,Int.toNat_natCast,he,we,c0,c1,iy,Bool.or_true,Bool.and_self,cond_true,wr]
 exact Bx _ _ _
theorem Xh (w:Wd)(c:Ct)(I:yx c)(i:Nat)(hi:i<c.2.1.length) :
  Wh.Ed (((i:Int),(),(),(c.2.1.length:Int)),w,c.2.1)=if BU w.2.2.2.1 (c.2.1.getD i z0)=true then some (.inr (.inl (false,()))) else some (.inl ((((i+1:Nat):Int),(),(),(c.2.1.length:Int)),w,c.2.1)):=by
 have h8:=I.len
 have wr:=gT (show i≤4611686018427387904 by omega)
 obtain⟨e,he,h1,h2,_⟩:=Jc I hi
 have we:=edw h1 h2
 unfold BU Iq
 have et:((e:Int)-1).toNat=e-1:=by omega
 have c0:decide ((0:Int)≤((e-1:Nat):Int))=true:=decide_eq_true (by omega)
 have c1:=dnC (n:=w.2.2.2.1.length) h1
 rw[←EB,he,et]
 unfold z0 at he ⊢
 simp only[Wh.Ed,gl hi,g0,Int.toNat_natCast,he,we,c0,c1,iy,Bool.or_true,Bool.and_self,cond_true,wr]
 exact Bx _ _ _
theorem Xq (w:Wd)(c:Ct)(I:yx c)(i:Nat)(hi:i<c.2.1.length) :
  Wh.Ee (((i:Int),(),c.2.1,(c.2.1.length:Int)),w)=if BU w.2.2.2.1 (c.2.1.getD i z0)=true then some (.inr (.inl (false,()))) else some (.inl ((((i+1:Nat):Int),(),c.2.1,(c.2.1.length:Int)),w)):=by
 have h8:=I.len
 have wr:=gT (show i≤4611686018427387904 by omega)
 obtain⟨e,he,h1,h2,_⟩:=Jc I hi
 have we:=edw h1 h2
 unfold BU Iq
 have et:((e:Int)-1).toNat=e-1:=by omega
 have c0:decide ((0:Int)≤((e-1:Nat):Int))=true:=decide_eq_true (by omega)
 have c1:=dnC (n:=w.2.2.2.1.length) h1
 rw[←EB,he,et]
 unfold z0 at he ⊢
 simp only[Wh.Ee,gl hi,g0,Int.toNat_natCast,he,we,c0,c1,iy,Bool.or_true,Bool.and_self,cond_true,wr]
 exact Bx _ _ _
noncomputable def I7 (w:Wd):Bool:=jS w.2.1.length fun i=> !FZ w i
def Jx (w:Wd):Bool:=jS w.2.2.1.length fun i=> !Gh (w.2.2.1.getD i zP)
def Jg (w:Wd):Bool:=jS w.2.2.2.1.length fun i=> !F1 w.2.2.2.1 i
def F6 (w:Wd):Bool:=jS w.1.2.2.2.1.2.1.length fun i=> !itF w.2.2.2.1 (w.1.2.2.2.1.2.1.getD i z0)
def Co (w:Wd)(c:Ct):Bool:=jS c.2.1.length fun i=> !BU w.2.2.2.1 (c.2.1.getD i z0)
noncomputable def yl (w:Wd):Ct:=(zm (x7 w.1).1).1
noncomputable def I_ (w:Wd):Bool:=Co w (yl w)&&wh (yl w).1 (w.2.2.2.1.length:Int) ((w.2.2.2.1.length:Int)+1)
noncomputable def Jh (w:Wd):Bool:=Jg w&&(F6 w&&(bif w.1.1 then w.1.2.2.2.1.1==(w.2.2.2.1.length:Int) else I_ w))
noncomputable def Eo (w:Wd):Bool:=(okV w.1&&w.2.1.length==4&&decide (w.2.2.1.length≤60)&&Jh w)&&(I7 w&&Jx w)
theorem BD (n:Nat):decide ((n:Int)<(n:Int))=false:=decide_eq_false (by omega)
theorem wlen {w:Wd}(S:zl w):IntKind.wrap .i64 ((w.2.2.2.1.length:Int)+1)=(w.2.2.2.1.length:Int)+1:=by
 have:=S.giv
 exact(wi (y:=w.2.2.2.1.length+1) (by omega) (by omega)).trans (by omega)
theorem abn {s:nC.D}(ho:okV s=true):yx (zm (x7 s).1).1:=by
 unfold okV at ho
 simp only[Bool.and_eq_true] at ho
 exact Nk ho.2.2.1
theorem ace (w:Wd)(S:zl w)(ho:okV w.1=true):Wh.Gm w=some (I_ w,()):=by
 have I:yx (yl w):=abn ho
 have hl:=YW ho
 have a:=XB w.1.2.2.1 (by omega)
 change Wh.B7 w.1.2.2.1=some (((x7 w.1).1,((x7 w.1).2:Int)),()) at a
 obtain⟨r1,r2⟩:=OK w.1 (by omega)
 have b:=abv (x7 w.1).1 r1 r2
 have wl:=wlen S
 have q:=xT (r:=Wh.Dv) (fun i=>(((i:Int),(),()),w,((yl w).1,(),(yl w).2.2),(yl w).2.1)) (n:=(yl w).2.1.length) (p:=fun i=> !BU w.2.2.2.1 ((yl w).2.1.getD i z0)) (yf:=.inl (false,())) (yt:=.inr (((),()),w,((yl w).1,(),(yl w).2.2),(yl w).2.1)) (fun i hi _ hp=>by
   rw[abx w (yl w) I i hi,if_neg (by simpa using hp)]) (fun i hi _ hp=>by
   rw[abx w (yl w) I i hi,if_pos (by simpa using hp)]) (by simp only[Wh.Dv,BD,cond_false])
 have q':Comes Wh.Dv (((0:Int),(),()),w,((yl w).1,(),(yl w).2.2),(yl w).2.1) (if Co w (yl w)=true then _ else _):=q
 unfold I_
 change Wh.CM (x7 w.1).1=some ((yl w,(zm (x7 w.1).1).2),()) at b
 simp only[Wh.Gm,a,Wh.N6 _ _ a,b,Wh.Od _ _ b,cb q',cv q',nQ,iy,cond_true]
 cases Co w (yl w) with
 |false=>rfl
 |true=>simp only[if_true,sumC,wl,Ao,Wh.zp _ _ (Ao _ _ _),cond_true,Bool.true_and]
theorem adE (w:Wd)(S:zl w)(ho:okV w.1=true):Wh.q81 w=some (Jh w,()):=by
 have I:=Sa ho
 have q:=xT (r:=Wh.D7) (fun i=>(((i:Int),()),w)) (n:=w.2.2.2.1.length) (p:=fun i=> !F1 w.2.2.2.1 i) (yf:=.inl (false,())) (yt:=.inr ((),w)) (fun i hi _ hp=>by
   rw[abA w S i hi,if_neg (by simpa using hp)]) (fun i hi _ hp=>by
   rw[abA w S i hi,if_pos (by simpa using hp)]) (by simp only[Wh.D7,BD,cond_false])
 have q':Comes Wh.D7 (((0:Int),()),w) (if Jg w=true then _ else _):=q
 have r:=xT (r:=Wh.D8) (fun i=>(((i:Int),()),w)) (n:=w.1.2.2.2.1.2.1.length) (p:=fun i=> !itF w.2.2.2.1 (w.1.2.2.2.1.2.1.getD i z0)) (yf:=.inl (false,())) (yt:=.inr ((),w)) (fun i hi _ hp=>by
   rw[abB w S I i hi,if_neg (by simpa using hp)]) (fun i hi _ hp=>by
   rw[abB w S I i hi,if_pos (by simpa using hp)]) (by simp only[Wh.D8,BD,cond_false])
 have r':Comes Wh.D8 (((0:Int),()),w) (if F6 w=true then _ else _):=r
 have d:=ace w S ho
 unfold Jh
 simp only[Wh.q81,cb q',cv q',cond_true]
 cases Jg w with
 |false=>rfl
 |true=>
 simp only[if_true,sumC,cb r',cv r',cond_true]
 cases F6 w with
 |false=>rfl
 |true=>
 simp only[if_true,d,Wh.Zm _ _ d,nQ,iy,cond_true,Bool.true_and]
 cases w.1.1<;>rfl
theorem ajz (w:Wd)(S:zl w):Wh.EO w=some (Eo w,()):=by
 have a:=ajt w.1 S.CV
 have e60:decide ((w.2.2.1.length:Int)>60) = !decide (w.2.2.1.length≤60):=by
  by_cases h:w.2.2.1.length≤60
  ·rw[decide_eq_true h,decide_eq_false (by omega)];rfl
  ·rw[decide_eq_false h,decide_eq_true (by omega)];rfl
 have e4:((w.2.1.length:Int) != 4) = !(w.2.1.length==4):=by rw[←Cv];rfl
 unfold Eo
 cases ho:okV w.1 with
 |false=>
  rw[ho] at a
  simp only[Wh.EO,a,Wh.UR _ _ a,nQ,iy,cond_true,Bool.not_false,Bool.not_true,Bool.true_or,Bool.and_self,Bool.false_and]
 |true=>
 rw[ho] at a
 have g:=adE w S ho
 have q:=xT (r:=Wh.Dq) (fun i=>(((i:Int),()),w)) (n:=w.2.1.length) (p:=fun i=> !FZ w i) (yf:=.inl (false,())) (yt:=.inr ((),w)) (fun i hi _ hp=>by
   rw[abw w S i hi,if_neg (by simpa using hp)]) (fun i hi _ hp=>by
   rw[abw w S i hi,if_pos (by simpa using hp)]) (by simp only[Wh.Dq,BD,cond_false])
 have q':Comes Wh.Dq (((0:Int),()),w) (if I7 w=true then _ else _):=q
 have r:=xT (r:=Wh.Dr) (fun i=>(((i:Int),()),w)) (n:=w.2.2.1.length) (p:=fun i=> !Gh (w.2.2.1.getD i zP)) (yf:=.inl (false,())) (yt:=.inr ((),())) (fun i hi _ hp=>by
   rw[abC w S i hi,if_neg (by simpa using hp)]) (fun i hi _ hp=>by
   rw[abC w S i hi,if_pos (by simpa using hp)]) (by simp only[Wh.Dr,BD,cond_false])
 have r':Comes Wh.Dr (((0:Int),()),w) (if Jx w=true then _ else _):=r
 simp only[Wh.EO,a,Wh.UR _ _ a,g,Wh.q81_v _ _ g,e4,e60,nQ,iy,Bool.or_true,Bool.and_self,cond_true,cond_false,Bool.not_true,Bool.true_and,cb q',cv q']
 cases (w.2.1.length==4) with
 |false=>rfl
 |true=>
 cases decide (w.2.2.1.length≤60) with
 |false=>rfl
 |true=>
 cases Jh w with
 |false=>rfl
 |true=>
 simp only[Bool.not_true,cond_false,Bool.true_and]
 cases I7 w with
 |false=>rfl
 |true=>
 simp only[if_true,sumC,cb r',cv r',cond_true]
 cases Jx w<;>rfl
noncomputable def Vu (w:Wd):Bool:=bif !w.1.1 then wh (yl w).1 (w.2.2.2.1.length:Int) ((w.2.2.2.1.length:Int)+1)&&Co w (yl w) else wh w.1.2.2.2.1.1 (w.2.2.2.1.length:Int) (w.2.2.2.1.length:Int)&&Co w w.1.2.2.2.1
theorem aj5 (w:Wd)(ho:okV w.1=true):Vu w=(F6 w&&(bif w.1.1 then w.1.2.2.2.1.1==(w.2.2.2.1.length:Int) else I_ w)):=by
 have I:=Sa ho
 unfold Vu
 cases hu:w.1.1 with
 |false=>
  have he:w.1.2.2.2.1.2.1.length=0:=by
   unfold okV at ho
   simp only[Bool.and_eq_true] at ho
   have:=ho.2.2.2
   rw[hu] at this
   simp only[cond_false,I9,Bool.and_eq_true,beq_iff_eq] at this
   exact this.1.1.1.1.1
  have hi:F6 w=true:=by
   unfold F6
   rw[he];rfl
  rw[hi]
  simp only[Bool.not_false,cond_true,cond_false,Bool.true_and,I_]
  exact Bool.and_comm _ _
 |true=>
  simp only[Bool.not_true,cond_false,cond_true]
  have hb:wh w.1.2.2.2.1.1 (w.2.2.2.1.length:Int) (w.2.2.2.1.length:Int)=(w.1.2.2.2.1.1==(w.2.2.2.1.length:Int)):=by
   unfold wh
   rw[Bool.eq_iff_iff,decide_eq_true_iff,beq_iff_eq]
   omega
  rw[hb,Bool.and_comm]
  cases hl:w.1.2.2.2.1.1==(w.2.2.2.1.length:Int) with
  |false=>simp only[Bool.and_false]
  |true=>
   have hl':w.1.2.2.2.1.1=(w.2.2.2.1.length:Int):=by simpa using hl
   simp only[Bool.and_true]
   unfold Co F6
   refine Nd fun i hi=>?_
   obtain⟨e,he,_,_,h4⟩:=Jc I hi
   unfold BU itF
   rw[he,decide_eq_true (by omega:(e:Int)≤(w.2.2.2.1.length:Int)),decide_eq_false (by omega:¬(e:Int)>(w.2.2.2.1.length:Int))]
   rfl
theorem adR (w:Wd)(S:zl w):Wh.q89 w=some (Eo w,()):=by
 have a:=adL w.1 S.CV
 have e60:decide ((w.2.2.1.length:Int)>60) = !decide (w.2.2.1.length≤60):=by
  by_cases h:w.2.2.1.length≤60
  ·rw[decide_eq_true h,decide_eq_false (by omega)];rfl
  ·rw[decide_eq_false h,decide_eq_true (by omega)];rfl
 have e4:((w.2.1.length:Int) != 4) = !(w.2.1.length==4):=by rw[←Cv];rfl
 have wl:=wlen S
 have hg:=S.giv
 have wl0:IntKind.wrap .i64 ((w.2.2.2.1.length:Int)+0)=(w.2.2.2.1.length:Int):=wi (by omega) (by omega)
 unfold Eo
 cases ho:okV w.1 with
 |false=>
  rw[ho] at a
  simp only[Wh.q89,a,Wh.Ux _ _ a,nQ,iy,cond_true,Bool.not_false,Bool.false_and]
 |true=>
 rw[ho] at a
 have I:=Sa ho
 have I2:yx (yl w):=abn ho
 have hl:=YW ho
 have c:=V9 w.1.2.2.1 (by omega)
 change Wh.CS w.1.2.2.1=some (((x7 w.1).1,((x7 w.1).2:Int)),()) at c
 obtain⟨r1,r2⟩:=OK w.1 (by omega)
 have d:=Xf (x7 w.1).1 r1 r2
 change Wh.DF (x7 w.1).1=some ((yl w,(zm (x7 w.1).1).2),()) at d
 have q:=xT (r:=Wh.Ea) (fun i=>(((i:Int),(),w.2.1,(w.2.1.length:Int)),w)) (n:=w.2.1.length) (p:=fun i=> !FZ w i) (yf:=.inl (false,())) (yt:=.inr ((),w)) (fun i hi _ hp=>by
   rw[Xg w S i hi,if_neg (by simpa using hp)]) (fun i hi _ hp=>by
   rw[Xg w S i hi,if_pos (by simpa using hp)]) (by simp only[Wh.Ea,BD,cond_false])
 have q':Comes Wh.Ea (((0:Int),(),w.2.1,(w.2.1.length:Int)),w) (if I7 w=true then _ else _):=q
 have r:=xT (r:=Wh.Eb) (fun i=>(((i:Int),w.2.2.1,(),(w.2.2.1.length:Int)),w)) (n:=w.2.2.1.length) (p:=fun i=> !Gh (w.2.2.1.getD i zP)) (yf:=.inl (false,())) (yt:=.inr ((),w)) (fun i hi _ hp=>by
   rw[Xm w S i hi,if_neg (by simpa using hp)]) (fun i hi _ hp=>by
   rw[Xm w S i hi,if_pos (by simpa using hp)]) (by simp only[Wh.Eb,BD,cond_false])
 have r':Comes Wh.Eb (((0:Int),w.2.2.1,(),(w.2.2.1.length:Int)),w) (if Jx w=true then _ else _):=r
 have t:=xT (r:=Wh.Ec) (fun i=>(((i:Int),w.2.2.2.1,(),(w.2.2.2.1.length:Int)),w)) (n:=w.2.2.2.1.length) (p:=fun i=> !F1 w.2.2.2.1 i) (yf:=.inl (false,())) (yt:=.inr ((),w)) (fun i hi _ hp=>by
   rw[Xk w S i hi,if_neg (by simpa using hp)]) (fun i hi _ hp=>by
   rw[Xk w S i hi,if_pos (by simpa using hp)]) (by simp only[Wh.Ec,BD,cond_false])
 have t':Comes Wh.Ec (((0:Int),w.2.2.2.1,(),(w.2.2.2.1.length:Int)),w) (if Jg w=true then _ else _):=t
 have u:=xT (r:=Wh.Ed) (fun i=>(((i:Int),(),(),((yl w).2.1.length:Int)),w,(yl w).2.1)) (n:=(yl w).2.1.length) (p:=fun i=> !BU w.2.2.2.1 ((yl w).2.1.getD i z0)) (yf:=.inl (false,())) (yt:=.inr ((),())) (fun i hi _ hp=>by
   rw[Xh w (yl w) I2 i hi,if_neg (by simpa using hp)]) (fun i hi _ hp=>by
   rw[Xh w (yl w) I2 i hi,if_pos (by simpa using hp)]) (by simp only[Wh.Ed,BD,cond_false])
 have u':Comes Wh.Ed (((0:Int),(),(),((yl w).2.1.length:Int)),w,(yl w).2.1) (if Co w (yl w)=true then _ else _):=u
 have v:=xT (r:=Wh.Ee) (fun i=>(((i:Int),(),w.1.2.2.2.1.2.1,(w.1.2.2.2.1.2.1.length:Int)),w)) (n:=w.1.2.2.2.1.2.1.length) (p:=fun i=> !BU w.2.2.2.1 (w.1.2.2.2.1.2.1.getD i z0)) (yf:=.inl (false,())) (yt:=.inr ((),())) (fun i hi _ hp=>by
   rw[Xq w w.1.2.2.2.1 I i hi,if_neg (by simpa using hp)]) (fun i hi _ hp=>by
   rw[Xq w w.1.2.2.2.1 I i hi,if_pos (by simpa using hp)]) (by simp only[Wh.Ee,BD,cond_false])
 have v':Comes Wh.Ee (((0:Int),(),w.1.2.2.2.1.2.1,(w.1.2.2.2.1.2.1.length:Int)),w) (if Co w w.1.2.2.2.1=true then _ else _):=v
 unfold Jh
 rw[←aj5 w ho]
 unfold Vu
 simp only[Wh.q89,a,Wh.Ux _ _ a,e4,e60,nQ,iy,cond_true,cond_false,Bool.not_true,Bool.true_and,cb q',cv q']
 cases (w.2.1.length==4) with
 |false=>rfl
 |true=>
 cases decide (w.2.2.1.length≤60) with
 |false=>rfl
 |true=>
 simp only[Bool.not_true,cond_false,Bool.true_and]
 cases I7 w with
 |false=>simp only[Bool.false_and,Bool.and_false];rfl
 |true=>
 simp only[if_true,sumC,cb r',cv r',cond_true]
 cases Jx w with
 |false=>simp only[Bool.and_false];rfl
 |true=>
 simp only[if_true,cb t',cv t',cond_true,Bool.and_self,Bool.and_true]
 cases Jg w with
 |false=>rfl
 |true=>
 simp only[if_true,c,Wh.U2 _ _ c,d,Wh.Tp _ _ d,cond_true,wl,wl0,zk,Wh.zL _ _ (zk _ _ _),cb u',cv u',cb v',cv v',Bool.true_and]
 cases w.1.1 with
 |false=>
  simp only[Bool.not_false,cond_true]
  cases wh (yl w).1 (w.2.2.2.1.length:Int) ((w.2.2.2.1.length:Int)+1) with
  |false=>rfl
  |true=>cases Co w (yl w)<;>rfl
 |true=>
  simp only[Bool.not_true,cond_false]
  cases wh w.1.2.2.2.1.1 (w.2.2.2.1.length:Int) (w.2.2.2.1.length:Int) with
  |false=>rfl
  |true=>cases Co w w.1.2.2.2.1<;>rfl
end Pl
open Go Go.Ab Go.Lib
namespace Pl
def Hy (c:nc.D):Bool:=bif c.2.2.1==1 then true else c.2.2.1==2
def FB (w:Wd):Bool:=jS w.2.1.length fun i=> !Hy (w.2.1.getD i zC)
theorem abF (w:Wd)(S:zl w)(i:Nat)(hi:i<w.2.1.length) :
  Wh.DT (((i:Int),()),w)=if Hy (w.2.1.getD i zC)=true then some (.inr (.inl (false,()))) else some (.inl ((((i+1:Nat):Int),()),w)):=by
 have hl:=S.cls
 have wr:=gT (show i≤4611686018427387904 by omega)
 unfold Hy
 unfold zC
 simp only[Wh.DT,gl hi,g0,Int.toNat_natCast,iy,Bool.or_true,Bool.and_self,cond_true,wr]
 exact Bx _ _ _
theorem Xp (w:Wd)(S:zl w)(i:Nat)(hi:i<w.2.1.length) :
  Wh.DM (((i:Int),w.2.1,(w.2.1.length:Int)),())=if Hy (w.2.1.getD i zC)=true then some (.inr (.inl (false,()))) else some (.inl ((((i+1:Nat):Int),w.2.1,(w.2.1.length:Int)),())):=by
 have hl:=S.cls
 have wr:=gT (show i≤4611686018427387904 by omega)
 unfold Hy
 unfold zC
 simp only[Wh.DM,gl hi,g0,Int.toNat_natCast,iy,Bool.and_self,cond_true,wr]
 exact Bx _ _ _
theorem ajx (w:Wd)(S:zl w):Wh.q23 w=some (Eo w&&FB w,()):=by
 have a:=ajz w S
 have q:=xT (r:=Wh.DT) (fun i=>(((i:Int),()),w)) (n:=w.2.1.length) (p:=fun i=> !Hy (w.2.1.getD i zC)) (yf:=.inl (false,())) (yt:=.inr ((),())) (fun i hi _ hp=>by
   rw[abF w S i hi,if_neg (by simpa using hp)]) (fun i hi _ hp=>by
   rw[abF w S i hi,if_pos (by simpa using hp)]) (by simp only[Wh.DT,BD,cond_false])
 have q':Comes Wh.DT (((0:Int),()),w) (if FB w=true then _ else _):=q
 simp only[Wh.q23,a,Wh.Zg _ _ a,cb q',cv q',nQ,iy,cond_true]
 cases Eo w with
 |false=>rfl
 |true=>cases FB w<;>rfl
theorem adP (w:Wd)(S:zl w):Wh.q22 w=some (Eo w&&FB w,()):=by
 have a:=adR w S
 have q:=xT (r:=Wh.DM) (fun i=>(((i:Int),w.2.1,(w.2.1.length:Int)),())) (n:=w.2.1.length) (p:=fun i=> !Hy (w.2.1.getD i zC)) (yf:=.inl (false,())) (yt:=.inr ((),())) (fun i hi _ hp=>by
   rw[Xp w S i hi,if_neg (by simpa using hp)]) (fun i hi _ hp=>by
   rw[Xp w S i hi,if_pos (by simpa using hp)]) (by simp only[Wh.DM,BD,cond_false])
 have q':Comes Wh.DM (((0:Int),w.2.1,(w.2.1.length:Int)),()) (if FB w=true then _ else _):=q
 have b:Wh.q16 w=some (FB w,()):=by
  simp only[Wh.q16,cb q',cv q',cond_true]
  cases FB w<;>rfl
 simp only[Wh.q22,a,Wh.q89_v _ _ a,b,Wh.q16_v _ _ b,nQ,iy,Bool.or_true,Bool.and_self,cond_true]
 cases Eo w<;>rfl
theorem aed (w:Wd)(h:fR fT w≤1048576):Wh.q5 w=some (true,()):=by
 have S:=smW_of w h
 obtain⟨v,hv⟩:=aj4 w 1048576 S
 have e1:=akq w S
 have e2:=acB w S
 have e3:=ajx w S
 have e4:=adP w S
 generalize (Eo w&&FB w)=x at e3 e4
 have c:(x==x)=true:=beq_self_eq_true _
 simp only[Wh.q5,hv,Wh.q98_v _ _ hv,e1,Wh.Za _ _ e1,e2,Wh.q96_v _ _ e2,e3,Wh.q23_v _ _ e3,e4,Wh.q22_v _ _ e4,c,nQ,iy,Bool.and_self,cond_true,cond_false,Bool.not_true]
 cases decide (v<0)<;>rfl
end Pl
