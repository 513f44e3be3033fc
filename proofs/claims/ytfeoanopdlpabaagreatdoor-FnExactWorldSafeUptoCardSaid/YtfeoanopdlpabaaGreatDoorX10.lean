import Derived.Test.YtfeoanopdlpabaaGreatDoorX9
open Go Go.Ab
namespace Pl
theorem adM (w:an.D):Wh.GP (w,w)=some (true,()):=by simp[Wh.GP]
theorem XA (a:List an.D)(h:a.length≤4611686018427387904):Wh.q96 (a,a)=some (true,()):=by
 have hl:Comes Wh.HE (((0:Int),a,a),()) (.inr ((),())):=by
  refine x8 (st:=fun i=>(((i:Int),a,a),())) (n:=a.length) ?_ ?_ 0 (Nat.zero_le _)
  ·intro i hi
   have h2:=lg (i:=i) (by omega)
   have h4:=adM (a[i])
   simp[Wh.HE,Wh.aaP _ _ h4,iy,h2,hi,h4,nQ]
  ·simp[Wh.HE]
 simp[Wh.q96,cb hl,cv hl]
theorem alQ (a:an.D):Wh.IF a=some (a,()):=rfl
theorem ada (a:List an.D)(h:a.length≤1048576):Wh.E5 a=some (a,()):=by
 have hl:Comes Wh.E6 (((0:Int),a,()),List.replicate a.length ((0:Int),([]:List UInt8),(0:Int),([]:List UInt8),())) ((),a):=by
  have:=x8 (r:=Wh.E6) (st:=fun i=>(((i:Int),a,()),iB a ((0:Int),([]:List UInt8),(0:Int),([]:List UInt8),()) i)) (n:=a.length) (y:=((),a)) ?_ ?_ 0 (Nat.zero_le _)
  ·rw[Dp] at this;exact this
  ·intro i hi
   have hi':decide ((i:Int)<(a.length:Int))=true:=by simpa using hi
   have h0:decide ((0:Int)≤(i:Int))=true:=by simp
   have he:=alQ (List.getD a i ((0:Int),([]:List UInt8),(0:Int),([]:List UInt8),()))
   have hs:(iB a ((0:Int),([]:List UInt8),(0:Int),([]:List UInt8),()) i).set i (List.getD a i ((0:Int),([]:List UInt8),(0:Int),([]:List UInt8),()))=iB a ((0:Int),([]:List UInt8),(0:Int),([]:List UInt8),()) (i+1):=Dn a _ _ i hi
   simp only[Wh.E6,hi',h0,Int.toNat_natCast,Dm a ((0:Int),([]:List UInt8),(0:Int),([]:List UInt8),()) i (by omega),he,Wh.aaV _ _ he,hs,lg (i:=i) (by omega),iy,nQ,cond_true,Bool.and_self]
  ·have hi':decide (((a.length:Nat):Int)<(a.length:Int))=false:=by simp
   simp only[Wh.E6,hi',cond_false,Dl]
 have b0:decide ((0:Int)≤(a.length:Int))=true:=by simp
 have b1:decide ((a.length:Int)≤(dh:Int))=true:=decide_eq_true (by unfold dh;omega)
 simp only[Wh.E5,Int.toNat_natCast,cb hl,cv hl,b0,b1,Int.le_refl,decide_true,iy,cond_true,Bool.and_self]
theorem alv (a:an.D)(n:Int):∃v,Wh.GS (a,n)=some (v,()):=by
 simp only[Wh.GS]
 repeat' (first|exact⟨_,rfl⟩|refine RZ _ ?_ ?_)
theorem ac5 (a:List an.D)(n:Int)(h:a.length≤1048576):∃v,Wh.q99 (a,n)=some (v,()):=by
 have hl:∀d k:Nat,k+d=a.length→∀m:Int,∃y,Comes Wh.FU (((k:Int),m,a),()) y:=by
  intro d
  induction d with
  |zero=>
   intro k hk m
   have hk':decide ((k:Int)<(a.length:Int))=false:=by simp;omega
   exact⟨_,.out (by simp only[Wh.FU,hk',cond_false];rfl)⟩
  |succ d ih=>
   intro k hk m
   have hk':decide ((k:Int)<(a.length:Int))=true:=by simp;omega
   have h0:decide ((0:Int)≤(k:Int))=true:=by simp
   have w:=lg (i:=k) (by omega)
   obtain⟨v,hv⟩:=alv (List.getD a k ((0:Int),([]:List UInt8),(0:Int),([]:List UInt8),())) m
   cases hd:decide (v<0) with
   |true=>exact⟨_,.out (by simp only[Wh.FU,hk',h0,Int.toNat_natCast,hv,Wh.TT _ _ hv,hd,iy,nQ,cond_true,Bool.and_self];rfl)⟩
   |false=>
    obtain⟨y,hy⟩:=ih (k+1) (by omega) v
    exact⟨y,.again (by simp only[Wh.FU,hk',h0,w,Int.toNat_natCast,hv,Wh.TT _ _ hv,hd,iy,nQ,cond_true,cond_false,Bool.and_self]) hy⟩
 simp only[Wh.q99]
 cases decide (IntKind.wrap .i64 (n-(a.length:Int))<0) with
 |true=>exact⟨_,rfl⟩
 |false=>
  obtain⟨y,hy⟩:=hl a.length 0 (by omega) (IntKind.wrap .i64 (n-(a.length:Int)))
  have e1:=cb hy
  have e2:=cv hy Wh.Wc
  rw[show(((0:Nat):Int))=0 from rfl] at e1 e2
  simp only[e1,e2,cond_true,cond_false]
  cases y with
  |inl y=>exact⟨_,rfl⟩
  |inr y=>exact⟨_,rfl⟩
theorem adK (w:ng.D):Wh.q95 (w,w)=some (true,()):=by simp[Wh.q95]
theorem adJ (a:List ng.D)(h:a.length≤4611686018427387904):Wh.q58 (a,a)=some (true,()):=by
 have hl:Comes Wh.Hz (((0:Int),a,a),()) (.inr ((),())):=by
  refine x8 (st:=fun i=>(((i:Int),a,a),())) (n:=a.length) ?_ ?_ 0 (Nat.zero_le _)
  ·intro i hi
   have h2:=lg (i:=i) (by omega)
   have h4:=adK (a[i])
   simp[Wh.Hz,Wh.q95_v _ _ h4,iy,h2,hi,h4,nQ]
  ·simp[Wh.Hz]
 simp[Wh.q58,cb hl,cv hl]
theorem alP (a:ng.D):Wh.ID a=some (a,()):=rfl
theorem alO (a:List ng.D)(h:a.length≤1048576):Wh.q71 a=some (a,()):=by
 have hl:Comes Wh.FJ (((0:Int),a,()),List.replicate a.length ((0:Int),(0:Int),(0:Int),(0:Int),false,())) ((),a):=by
  have:=x8 (r:=Wh.FJ) (st:=fun i=>(((i:Int),a,()),iB a ((0:Int),(0:Int),(0:Int),(0:Int),false,()) i)) (n:=a.length) (y:=((),a)) ?_ ?_ 0 (Nat.zero_le _)
  ·rw[Dp] at this;exact this
  ·intro i hi
   have hi':decide ((i:Int)<(a.length:Int))=true:=by simpa using hi
   have h0:decide ((0:Int)≤(i:Int))=true:=by simp
   have he:=alP (List.getD a i ((0:Int),(0:Int),(0:Int),(0:Int),false,()))
   have hs:(iB a ((0:Int),(0:Int),(0:Int),(0:Int),false,()) i).set i (List.getD a i ((0:Int),(0:Int),(0:Int),(0:Int),false,()))=iB a ((0:Int),(0:Int),(0:Int),(0:Int),false,()) (i+1):=Dn a _ _ i hi
   simp only[Wh.FJ,hi',h0,Int.toNat_natCast,Dm a ((0:Int),(0:Int),(0:Int),(0:Int),false,()) i (by omega),he,Wh.aao _ _ he,hs,lg (i:=i) (by omega),iy,nQ,cond_true,Bool.and_self]
  ·have hi':decide (((a.length:Nat):Int)<(a.length:Int))=false:=by simp
   simp only[Wh.FJ,hi',cond_false,Dl]
 have b0:decide ((0:Int)≤(a.length:Int))=true:=by simp
 have b1:decide ((a.length:Int)≤(dh:Int))=true:=decide_eq_true (by unfold dh;omega)
 simp only[Wh.q71,Int.toNat_natCast,cb hl,cv hl,b0,b1,Int.le_refl,decide_true,iy,cond_true,Bool.and_self]
theorem als (a:List ng.D)(n:Int):∃v,Wh.q64 (a,n)=some (v,()):=by
 simp only[Wh.q64]
 cases decide (IntKind.wrap .i64 (n-(a.length:Int))<0)<;>exact⟨_,rfl⟩
theorem adD (w:nI.D):Wh.q56 (w,w)=some (true,()):=by simp[Wh.q56]
theorem adC (a:List nI.D)(h:a.length≤4611686018427387904):Wh.q29 (a,a)=some (true,()):=by
 have hl:Comes Wh.Ht (((0:Int),a,a),()) (.inr ((),())):=by
  refine x8 (st:=fun i=>(((i:Int),a,a),())) (n:=a.length) ?_ ?_ 0 (Nat.zero_le _)
  ·intro i hi
   have h2:=lg (i:=i) (by omega)
   have h4:=adD (a[i])
   simp[Wh.Ht,Wh.q56_v _ _ h4,iy,h2,hi,h4,nQ]
  ·simp[Wh.Ht]
 simp[Wh.q29,cb hl,cv hl]
theorem alI (a:nI.D):Wh.q69 a=some (a,()):=rfl
theorem alH (a:List nI.D)(h:a.length≤1048576):Wh.q37 a=some (a,()):=by
 have hl:Comes Wh.FB (((0:Int),a,()),List.replicate a.length ((0:Int),(0:Int),(0:Int),(0:Int),())) ((),a):=by
  have:=x8 (r:=Wh.FB) (st:=fun i=>(((i:Int),a,()),iB a ((0:Int),(0:Int),(0:Int),(0:Int),()) i)) (n:=a.length) (y:=((),a)) ?_ ?_ 0 (Nat.zero_le _)
  ·rw[Dp] at this;exact this
  ·intro i hi
   have hi':decide ((i:Int)<(a.length:Int))=true:=by simpa using hi
   have h0:decide ((0:Int)≤(i:Int))=true:=by simp
   have he:=alI (List.getD a i ((0:Int),(0:Int),(0:Int),(0:Int),()))
   have hs:(iB a ((0:Int),(0:Int),(0:Int),(0:Int),()) i).set i (List.getD a i ((0:Int),(0:Int),(0:Int),(0:Int),()))=iB a ((0:Int),(0:Int),(0:Int),(0:Int),()) (i+1):=Dn a _ _ i hi
   simp only[Wh.FB,hi',h0,Int.toNat_natCast,Dm a ((0:Int),(0:Int),(0:Int),(0:Int),()) i (by omega),he,Wh.q69_v _ _ he,hs,lg (i:=i) (by omega),iy,nQ,cond_true,Bool.and_self]
  ·have hi':decide (((a.length:Nat):Int)<(a.length:Int))=false:=by simp
   simp only[Wh.FB,hi',cond_false,Dl]
 have b0:decide ((0:Int)≤(a.length:Int))=true:=by simp
 have b1:decide ((a.length:Int)≤(dh:Int))=true:=decide_eq_true (by unfold dh;omega)
 simp only[Wh.q37,Int.toNat_natCast,cb hl,cv hl,b0,b1,Int.le_refl,decide_true,iy,cond_true,Bool.and_self]
theorem aln (a:List nI.D)(n:Int):∃v,Wh.q33 (a,n)=some (v,()):=by
 simp only[Wh.q33]
 cases decide (IntKind.wrap .i64 (n-(a.length:Int))<0)<;>exact⟨_,rfl⟩
theorem adS (w:r_.D):Wh.q97 (w,w)=some (true,()):=by simp[Wh.q97]
theorem adR (a:List r_.D)(h:a.length≤4611686018427387904):Wh.q60 (a,a)=some (true,()):=by
 have hl:Comes Wh.HA (((0:Int),a,a),()) (.inr ((),())):=by
  refine x8 (st:=fun i=>(((i:Int),a,a),())) (n:=a.length) ?_ ?_ 0 (Nat.zero_le _)
  ·intro i hi
   have h2:=lg (i:=i) (by omega)
   have h4:=adS (a[i])
   simp[Wh.HA,Wh.q97_v _ _ h4,iy,h2,hi,h4,nQ]
  ·simp[Wh.HA]
 simp[Wh.q60,cb hl,cv hl]
theorem alW (a:r_.D):Wh.IE a=some (a,()):=rfl
theorem alV (a:List r_.D)(h:a.length≤1048576):Wh.q73 a=some (a,()):=by
 have hl:Comes Wh.FL (((0:Int),a,()),List.replicate a.length ((0:Int),(0:Int),(0:Int),(0:Int),(0:Int),(0:Int),())) ((),a):=by
  have:=x8 (r:=Wh.FL) (st:=fun i=>(((i:Int),a,()),iB a ((0:Int),(0:Int),(0:Int),(0:Int),(0:Int),(0:Int),()) i)) (n:=a.length) (y:=((),a)) ?_ ?_ 0 (Nat.zero_le _)
  ·rw[Dp] at this;exact this
  ·intro i hi
   have hi':decide ((i:Int)<(a.length:Int))=true:=by simpa using hi
   have h0:decide ((0:Int)≤(i:Int))=true:=by simp
   have he:=alW (List.getD a i ((0:Int),(0:Int),(0:Int),(0:Int),(0:Int),(0:Int),()))
   have hs:(iB a ((0:Int),(0:Int),(0:Int),(0:Int),(0:Int),(0:Int),()) i).set i (List.getD a i ((0:Int),(0:Int),(0:Int),(0:Int),(0:Int),(0:Int),()))=iB a ((0:Int),(0:Int),(0:Int),(0:Int),(0:Int),(0:Int),()) (i+1):=Dn a _ _ i hi
   simp only[Wh.FL,hi',h0,Int.toNat_natCast,Dm a ((0:Int),(0:Int),(0:Int),(0:Int),(0:Int),(0:Int),()) i (by omega),he,Wh.aaq _ _ he,hs,lg (i:=i) (by omega),iy,nQ,cond_true,Bool.and_self]
  ·have hi':decide (((a.length:Nat):Int)<(a.length:Int))=false:=by simp
   simp only[Wh.FL,hi',cond_false,Dl]
 have b0:decide ((0:Int)≤(a.length:Int))=true:=by simp
 have b1:decide ((a.length:Int)≤(dh:Int))=true:=decide_eq_true (by unfold dh;omega)
 simp only[Wh.q73,Int.toNat_natCast,cb hl,cv hl,b0,b1,Int.le_refl,decide_true,iy,cond_true,Bool.and_self]
theorem alz (a:List r_.D)(n:Int):∃v,Wh.q66 (a,n)=some (v,()):=by
 simp only[Wh.q66]
 cases decide (IntKind.wrap .i64 (n-(a.length:Int))<0)<;>exact⟨_,rfl⟩
def NM (c:fk.D):Prop:=c.2.1.length≤1048576
def NN (p:n5.D):Prop:=p.1.length≤1048576
structure Gc (s:nC.D):Prop where
 log:s.2.2.1.length≤1048576
 cat:NM s.2.2.2.1
 items:∀x∈s.2.2.2.1.2.1,x.2.1.length≤1048576∧x.2.2.2.1.length≤1048576
 Ov:NN s.2.2.2.2.1
 bks:s.2.2.2.2.2.1.length≤1048576
 C9:s.2.2.2.2.2.2.1.length≤1048576
theorem adE (c:fk.D)(h:NM c):Wh.G4 (c,c)=some (true,()):=by
 have e:=XA c.2.1 (by unfold NM at h;omega)
 simp[Wh.G4,e,Wh.Wa _ _ e,iy,nQ]
theorem adQ (c:n5.D)(h:NN c):Wh.GR (c,c)=some (true,()):=by
 have e:=adJ c.1 (by unfold NN at h;omega)
 simp[Wh.GR,e,Wh.q58_v _ _ e,iy,nQ]
theorem adT (s:nC.D)(h:Gc s):Wh.q61 (s,s)=some (true,()):=by
 have e1:=adE _ h.cat
 have e2:=adQ _ h.Ov
 have e3:=adC s.2.2.2.2.2.1 (by have:=h.bks;omega)
 have e4:=adR s.2.2.2.2.2.2.1 (by have:=h.C9;omega)
 simp[Wh.q61,e1,e2,e3,e4,Wh.abh _ _ e1,Wh.aaQ _ _ e2,Wh.q29_v _ _ e3,Wh.q60_v _ _ e4,iy,nQ]
theorem alJ (c:fk.D)(h:NM c):Wh.G_ c=some (c,()):=by
 have e:=ada c.2.1 h
 simp only[Wh.G_,e,Wh.Tj _ _ e,iy,nQ,cond_true]
theorem alU (c:n5.D)(h:NN c):Wh.GX c=some (c,()):=by
 have e:=alO c.1 h
 simp only[Wh.GX,e,Wh.q71_v _ _ e,iy,nQ,cond_true]
theorem alX (s:nC.D)(h:Gc s):Wh.q74 s=some (s,()):=by
 have e1:=alJ _ h.cat
 have e2:=alU _ h.Ov
 have e3:=alH s.2.2.2.2.2.1 h.bks
 have e4:=alV s.2.2.2.2.2.2.1 h.C9
 simp only[Wh.q74,e1,e2,e3,e4,Wh.abl _ _ e1,Wh.aaX _ _ e2,Wh.q37_v _ _ e3,Wh.q73_v _ _ e4,iy,nQ,cond_true]
theorem alA (s:nC.D)(n:Int)(h:Gc s):∃v,Wh.q67 (s,n)=some (v,()):=by
 have c1:∀n,∃v,Wh.G7 (s.2.2.2.1,n)=some (v,()):=by
  intro n
  obtain⟨v,hv⟩:=ac5 s.2.2.2.1.2.1 n h.cat
  simp only[Wh.G7,hv,Wh.We _ _ hv,iy,nQ,cond_true]
  cases decide (v<0)<;>exact⟨_,rfl⟩
 have c2:∀n,∃v,Wh.GV (s.2.2.2.2.1,n)=some (v,()):=by
  intro n
  obtain⟨v,hv⟩:=als s.2.2.2.2.1.1 n
  simp only[Wh.GV,hv,Wh.q64_v _ _ hv,iy,nQ,cond_true]
  cases decide (v<0)<;>exact⟨_,rfl⟩
 obtain⟨v1,h1⟩:=c1 (IntKind.wrap .i64 (n-(s.2.2.1.length:Int)))
 obtain⟨v2,h2⟩:=c2 v1
 obtain⟨v3,h3⟩:=aln s.2.2.2.2.2.1 v2
 obtain⟨v4,h4⟩:=alz s.2.2.2.2.2.2.1 v3
 simp only[Wh.q67,h1,h2,h3,h4,Wh.abj _ _ h1,Wh.aaT _ _ h2,Wh.q33_v _ _ h3,Wh.q66_v _ _ h4,iy,nQ,cond_true]
 repeat' (first|exact⟨_,rfl⟩|refine RZ _ ?_ ?_)
theorem akU (s:nC.D)(h:fR nC s≤1048576):Gc s:=by
 have e:fR nC s=1+(1+((s.2.2.1.length+1)+((1+(((s.2.2.2.1.2.1.map (fR an)).sum+1)+0))+((((s.2.2.2.2.1.1.map (fR ng)).sum+1)+(1+0))+(((s.2.2.2.2.2.1.map (fR nI)).sum+1)+(((s.2.2.2.2.2.2.1.map (fR r_)).sum+1)+0)))))):=rfl
 rw[e] at h
 have i0:∀x:an.D,fR an x=1+((x.2.1.length+1)+(1+((x.2.2.2.1.length+1)+0))):=fun _=>rfl
 have l1:=vH (fR an) (fun x=>by rw[i0];omega) s.2.2.2.1.2.1
 have l2:=vH (fR ng) (fun x=>by show 1≤1+(1+(1+(1+(1+0))));omega) s.2.2.2.2.1.1
 have l3:=vH (fR nI) (fun x=>by show 1≤1+(1+(1+(1+0)));omega) s.2.2.2.2.2.1
 have l4:=vH (fR r_) (fun x=>by show 1≤1+(1+(1+(1+(1+(1+0)))));omega) s.2.2.2.2.2.2.1
 refine⟨by omega,by show _≤_;omega,fun x hx=>?_,by show _≤_;omega,by omega,by omega⟩
 have:=xg (fR an) _ x hx
 rw[i0] at this
 exact⟨by omega,by omega⟩
end Pl
open Go Go.Ab Go.Lib
namespace Pl
instance itDec:DecidableEq It:=inferInstanceAs (DecidableEq (Int×List UInt8×Int×List UInt8×Unit))
instance ctDec:DecidableEq Ct:=fun a b=>if h1:a.1=b.1 then if h2:a.2.1=b.2.1 then .isTrue (by obtain⟨_,_,_⟩:=a;obtain⟨_,_,_⟩:=b;simp_all) else .isFalse (fun e=>h2 (by rw[e])) else .isFalse (fun e=>h1 (by rw[e]))
theorem ET (a b:It):(a.1==b.1&&(a.2.1==b.2.1&&(a.2.2.1==b.2.2.1&&(a.2.2.2.1==b.2.2.2.1&&true))))=decide (a=b):=by
 obtain⟨a1,a2,a3,a4,a5⟩:=a
 obtain⟨b1,b2,b3,b4,b5⟩:=b
 rw[Bool.eq_iff_iff]
 simp
theorem YS (a b:List It)(h:a.length=b.length):jS a.length (fun i=>decide (a.getD i z0=b.getD i z0))=decide (a=b):=by
 rw[Bool.eq_iff_iff,oL,decide_eq_true_iff]
 constructor
 ·intro hh
  refine List.ext_getElem h fun i h1 h2=>?_
  have:=of_decide_eq_true (hh i h1)
  rwa[getD_eq _ _ _ h1,getD_eq _ _ _ h2] at this
 ·rintro rfl i _;exact decide_eq_true rfl
theorem ct_eq (a b:Ct)(hl:a.2.1.length=b.2.1.length):(decide (a.1=b.1)&&decide (a.2.1=b.2.1))=decide (a=b):=by
 obtain⟨a1,a2,a3⟩:=a
 obtain⟨b1,b2,b3⟩:=b
 rw[Bool.eq_iff_iff]
 simp
theorem ak2 (a b:Ct)(hl:a.2.1.length≤9999999):Wh.DE (a,b)=some (decide (a=b),()):=by
 by_cases h1:a.1=b.1
 ·by_cases h2:a.2.1.length=b.2.1.length
  ·have c1:(a.1 != b.1)=false:=by simp[h1]
   have c2:((a.2.1.length:Int) != (b.2.1.length:Int))=false:=by simp[h2]
   have q:=xW (r:=Wh.DF) (fun i=>(((i:Int),(),()),b,a)) (n:=a.2.1.length) (p:=fun i=>decide (a.2.1.getD i z0=b.2.1.getD i z0)) (yf:=.inl (false,())) (yt:=.inr ((),())) (fun i hi _ hp=>by
     have hp':=(ET (a.2.1.getD i z0) (b.2.1.getD i z0)).trans hp
     unfold z0 at hp'
     simp only[Wh.DF,gl hi,gl (show i<b.2.1.length by omega),g0,Int.toNat_natCast,hp',iy,Bool.and_self,Bool.not_true,cond_true,cond_false,lg (show i≤4611686018427387904 by omega)]) (fun i hi _ hp=>by
     have hp':=(ET (a.2.1.getD i z0) (b.2.1.getD i z0)).trans hp
     unfold z0 at hp'
     simp only[Wh.DF,gl hi,gl (show i<b.2.1.length by omega),g0,Int.toNat_natCast,hp',iy,Bool.and_self,Bool.not_false,cond_true]) (by
     have d1:decide ((a.2.1.length:Int)<(a.2.1.length:Int))=false:=decide_eq_false (by omega)
     simp only[Wh.DF,d1,cond_false])
   rw[YS _ _ h2] at q
   have q':Comes Wh.DF ((0,(),()),b,a) _:=q
   simp only[Wh.DE,c1,c2,cond_false,cb q',cv q',cond_true]
   rw[←ct_eq a b h2,decide_eq_true h1,Bool.true_and]
   cases decide (a.2.1=b.2.1)<;>rfl
  ·have c1:(a.1 != b.1)=false:=by simp[h1]
   have c2:((a.2.1.length:Int) != (b.2.1.length:Int))=true:=bne_iff_ne.2 (by omega)
   simp only[Wh.DE,c1,c2,cond_false,cond_true]
   rw[decide_eq_false (by rintro rfl;exact h2 rfl)]
 ·have c1:(a.1 != b.1)=true:=bne_iff_ne.2 h1
  simp only[Wh.DE,c1,cond_true]
  rw[decide_eq_false (by rintro rfl;exact h1 rfl)]
theorem ae9 (a b:Ct)(hl:a.2.1.length≤9999999):Wh.q94 (a,b)=some (decide (a=b),()):=by
 have he:Wh.q12 (a.2.1,b.2.1)=some (decide (a.2.1=b.2.1),()):=by
  by_cases h2:a.2.1.length=b.2.1.length
  ·have c2:((a.2.1.length:Int) != (b.2.1.length:Int))=false:=by simp[h2]
   have q:=xW (r:=Wh.DK) (fun i=>(((i:Int),b.2.1,a.2.1,(a.2.1.length:Int)),())) (n:=a.2.1.length) (p:=fun i=>decide (a.2.1.getD i z0=b.2.1.getD i z0)) (yf:=.inl (false,())) (yt:=.inr ((),())) (fun i hi _ hp=>by
     have hp':=(ET (a.2.1.getD i z0) (b.2.1.getD i z0)).trans hp
     unfold z0 at hp'
     simp only[Wh.DK,gl hi,gl (show i<b.2.1.length by omega),g0,Int.toNat_natCast,hp',iy,Bool.and_self,Bool.not_true,cond_true,cond_false,lg (show i≤4611686018427387904 by omega)]) (fun i hi _ hp=>by
     have hp':=(ET (a.2.1.getD i z0) (b.2.1.getD i z0)).trans hp
     unfold z0 at hp'
     simp only[Wh.DK,gl hi,gl (show i<b.2.1.length by omega),g0,Int.toNat_natCast,hp',iy,Bool.and_self,Bool.not_false,cond_true]) (by
     have d1:decide ((a.2.1.length:Int)<(a.2.1.length:Int))=false:=decide_eq_false (by omega)
     simp only[Wh.DK,d1,cond_false])
   rw[YS _ _ h2] at q
   have q':Comes Wh.DK ((0,b.2.1,a.2.1,(a.2.1.length:Int)),()) _:=q
   simp only[Wh.q12,c2,cond_false,cb q',cv q',cond_true]
   cases decide (a.2.1=b.2.1)<;>rfl
  ·have c2:((a.2.1.length:Int) != (b.2.1.length:Int))=true:=bne_iff_ne.2 (by omega)
   simp only[Wh.q12,c2,cond_true]
   rw[decide_eq_false (fun e=>h2 (by rw[e]))]
 have hd:(bif a.1==b.1 then decide (a.2.1=b.2.1) else false)=decide (a=b):=by
  obtain⟨a1,a2,a3⟩:=a
  obtain⟨b1,b2,b3⟩:=b
  by_cases h1:a1=b1
  ·simp[h1]
  ·simp[h1]
 simp only[Wh.q94,he,Wh.q12_v _ _ he,nQ,Bool.or_true,iy,cond_true,hd]
def AJ (l:List It)(e:Int):Option Nat:=first l.length fun i=>(l.getD i z0).2.2.1==e
def edI (l:List It):Option Nat→It
 |some i=>l.getD i z0
 |none=>z0
theorem acV (c:Ct)(e:Int)(hl:c.2.1.length≤9999999):Wh.q44 (c,e)=some ((edI c.2.1 (AJ c.2.1 e),(AJ c.2.1 e).isSome),()):=by
 obtain⟨ce,l,u⟩:=c
 have hl:l.length≤9999999:=hl
 have q:=B8 (r:=Wh.Ee) (fun i=>(((),(i:Int),(),e),((0:Int),([]:List UInt8),(0:Int),([]:List UInt8),()),(ce,l,u))) (n:=l.length) (p:=fun i=>(l.getD i z0).2.2.1==e) (yt:=fun i=>.inl (((),true),l.getD i z0)) (yn:=.inr ((),(0:Int),[],(0:Int),[],())) (fun i hi hp=>by
   have hp':((l.getD i z0).2.2.1==e)=false:=hp
   unfold z0 at hp'
   simp only[Wh.Ee,gl hi,g0,Int.toNat_natCast,hp',iy,Bool.and_self,cond_true,cond_false,lg (show i≤4611686018427387904 by omega)]) (fun i hi hp=>by
   have hp':((l.getD i z0).2.2.1==e)=true:=hp
   unfold z0 at hp' ⊢
   simp only[Wh.Ee,gl hi,g0,Int.toNat_natCast,hp',iy,Bool.and_self,cond_true]) (by
   have d1:decide ((l.length:Int)<(l.length:Int))=false:=decide_eq_false (by omega)
   simp only[Wh.Ee,d1,cond_false])
 have q':Comes Wh.Ee (((),0,(),e),((0:Int),([]:List UInt8),(0:Int),([]:List UInt8),()),(ce,l,u)) _:=q
 simp only[Wh.q44,cb q',cv q',cond_true,AJ]
 cases first l.length (fun i=>(l.getD i z0).2.2.1==e)<;>rfl
theorem Yp (c:Ct)(e:Int)(hl:c.2.1.length≤9999999):Wh.DQ (c,e)=some (BI (AJ c.2.1 e),()):=by
 obtain⟨ce,l,u⟩:=c
 have hl:l.length≤9999999:=hl
 have f (x:It):Wh.IP (x,e)=some ((x.2.2.1==e),()):=rfl
 have q:=B8 (r:=Wh.Eb) (fun i=>(((i:Int),l,(e,()),(l.length:Int)),())) (n:=l.length) (p:=fun i=>(l.getD i z0).2.2.1==e) (yt:=fun i=>.inl ((i:Int),())) (yn:=.inr ((),())) (fun i hi hp=>by
   have hp':((l.getD i z0).2.2.1==e)=false:=hp
   unfold z0 at hp'
   simp only[Wh.Eb,gl hi,g0,Int.toNat_natCast,f,Wh.q8_v _ _ (f _),hp',nQ,iy,Bool.and_self,cond_true,cond_false,lg (show i≤4611686018427387904 by omega)]) (fun i hi hp=>by
   have hp':((l.getD i z0).2.2.1==e)=true:=hp
   unfold z0 at hp'
   simp only[Wh.Eb,gl hi,g0,Int.toNat_natCast,f,Wh.q8_v _ _ (f _),hp',nQ,iy,Bool.and_self,cond_true]) (by
   have d1:decide ((l.length:Int)<(l.length:Int))=false:=decide_eq_false (by omega)
   simp only[Wh.Eb,d1,cond_false])
 have q':Comes Wh.Eb ((0,l,(e,()),(l.length:Int)),()) _:=q
 have h:Wh.q2 (l,e,())=some (BI (AJ l e),()):=by
  simp only[Wh.q2,cb q',cv q',cond_true,AJ]
  cases first l.length (fun i=>(l.getD i z0).2.2.1==e)<;>rfl
 simp only[Wh.DQ,h,Wh.q2_v _ _ h,nQ,iy,cond_true]
theorem Xx:Wh.AQ=Wh.Ai:=rfl
theorem Xy:Wh.zq=Wh.zh:=rfl
def AX (a b:Int):Int:=IntKind.wrap .i64 (Int.tdiv (IntKind.wrap .i64 (IntKind.wrap .i64 (a+b)-1)) b)
theorem count_eq (a b:Int)(x y:List Int)(u:Unit)(h:b≠0):Wh.Ai (a,b,x,y,u)=some (AX a b,()):=by
 have c:(b != 0)=true:=bne_iff_ne.2 h
 simp only[Wh.Ai,c,iy,cond_true];rfl
theorem adu (a b:Nat)(ha:a≤100000)(hb:1≤b)(bZ:b≤1000):AX a b=(((a+b-1) / b:Nat):Int):=by
 have w1:IntKind.wrap .i64 ((a:Int)+(b:Int))=((a+b:Nat):Int):=wi (by omega) (by omega)
 have w2:IntKind.wrap .i64 (((a+b:Nat):Int)-1)=((a+b-1:Nat):Int):=wi (by omega) (by omega)
 have w3:Int.tdiv ((a+b-1:Nat):Int) (b:Int)=(((a+b-1) / b:Nat):Int):=by rw[Int.tdiv_eq_ediv_of_nonneg (by omega)];rfl
 have hle:(a+b-1) / b≤a+b-1:=Nat.div_le_self _ _
 rw[AX,w1,w2,w3];exact wi rfl (by omega)
theorem aeU (L:Nat)(hL:L≤300):∀d s:Nat,s+d=13→1≤s→∃s':Nat,1≤s'∧s'≤13∧Comes Wh.D0 (((),()),((L:Int),(s:Int),(),(),()),((0:Int),(0:Int),(),(),()),[],[],[],[]) (((),()),((0:Int),(0:Int),(),(),()),((L:Int),(s':Int),(),(),()),[],[],[],[]):=by
 intro d
 induction d with
 |zero=>
  intro s h1 h2
  have:s=13:=by omega
  subst this
  refine⟨13,by omega,by omega,.out ?_⟩
  have a:=count_eq (L:Int) ((13:Nat):Int) [] [] () (by omega)
  rw[adu L 13 (by omega) (by omega) (by omega)] at a
  have c1:decide ((((L+13-1) / 13:Nat):Int)>24)=false:=decide_eq_false (by omega)
  simp only[Wh.D0,a,Wh.CM _ _ a,c1,nQ,iy,cond_true,cond_false]
 |succ d ih=>
  intro s h1 h2
  have a:=count_eq (L:Int) (s:Int) [] [] () (by omega)
  cases hc:decide (AX (L:Int) (s:Int)>24) with
  |true=>
   obtain⟨s',g1,g2,g3⟩:=ih (s+1) (by omega) (by omega)
   refine⟨s',g1,g2,.again ?_ g3⟩
   simp only[Wh.D0,a,Wh.CM _ _ a,hc,nQ,iy,cond_true,lg (show s≤4611686018427387904 by omega)]
  |false=>
   refine⟨s,by omega,by omega,.out ?_⟩
   simp only[Wh.D0,a,Wh.CM _ _ a,hc,nQ,iy,cond_true,cond_false]
theorem aah (L:Nat)(h1:1≤L)(hL:L≤300):∃P:so.D,P.2.1≠0∧Wh.Fx (L:Int)=some (P,())∧Wh.q89 (L:Int)=some (P,()):=by
 obtain⟨s,g1,g2,g3⟩:=aeU L hL 5 8 (by omega) (by omega)
 have g3':Comes Wh.D0 (((),()),((L:Int),(8:Int),(),(),()),((0:Int),(0:Int),(),(),()),[],[],[],[]) _:=g3
 have g4:Comes Wh.KH (((),()),((L:Int),(8:Int),(),(),()),((0:Int),(0:Int),(),(),()),[],[],[],[]) _:=g3
 have a:=count_eq (L:Int) (s:Int) [] [] () (by omega)
 have wi1:w7 (L:Int) 1 300=true:=decide_eq_true (by omega)
 cases hk:decide (IntKind.wrap .i64 (Int.tdiv (IntKind.wrap .i64 (AX (L:Int) (s:Int)+3)) 4)<AX (L:Int) (s:Int)) with
 |true=>
  refine⟨((L:Int),(s:Int),[IntKind.wrap .i64 (Int.tdiv (IntKind.wrap .i64 (AX (L:Int) (s:Int)+3)) 4),AX (L:Int) (s:Int)],[(2:Int),(3:Int)],()),by simp only;omega,?_,?_⟩
  ·simp only[Wh.Fx,cb g3',cv g3',cond_true,a,Wh.CM _ _ a,hk,nQ,iy]
  ·simp only[Wh.q89,zA,Wh.zX _ _ (zA _ _ _),wi1,cb g4,cv g4,cond_true,cond_false,Bool.not_true,Xx,Xy,a,Wh.CM _ _ a,hk,nQ,iy]
 |false=>
  refine⟨((L:Int),(s:Int),[AX (L:Int) (s:Int)],[(1:Int)],()),by simp only;omega,?_,?_⟩
  ·simp only[Wh.Fx,cb g3',cv g3',cond_true,a,Wh.CM _ _ a,hk,nQ,iy,cond_false]
  ·simp only[Wh.q89,zA,Wh.zX _ _ (zA _ _ _),wi1,cb g4,cv g4,cond_true,cond_false,Bool.not_true,Xx,Xy,a,Wh.CM _ _ a,hk,nQ,iy]
noncomputable def J9 (L:Int):Int:=AX (Wh.Kw L).1.1 (Wh.Kw L).1.2.1
noncomputable def Dq (c:Ct) (f:Fr):Bool:=bif decide (f.2.2.2.1>0) then true else bif decide (f.2.1>0) then(match AJ c.2.1 f.2.1 with
 |none=>true
 |some k=>bif(c.2.1.getD k z0).1 != f.1 then true else decide (f.2.2.1≥J9 ((c.2.1.getD k z0).2.2.2.1.length:Int))) else false
theorem R9 {l:List It}{e:Int}{i:Nat}(h:AJ l e=some i):i<l.length:=(BK.1 h).1
theorem acW (s:nC.D)(I:yC s.2.2.2.1)(i:Nat)(hi:i<s.2.2.2.2.1.1.length)(hl:s.2.2.2.2.1.1.length≤9999999) :
  Wh.Bw (((i:Int),()),s)=if Dq s.2.2.2.1 (s.2.2.2.2.1.1.getD i zF)=true then some (.inr (.inl (false,()))) else some (.inl ((((i+1:Nat):Int),()),s)):=by
 have bI:s.2.2.2.1.2.1.length≤8:=I.len
 have ed:=acV s.2.2.2.1 (s.2.2.2.2.1.1.getD i zF).2.1 (by omega)
 have w:=lg (show i≤4611686018427387904 by omega)
 unfold Dq
 cases hw:decide ((s.2.2.2.2.1.1.getD i zF).2.2.2.1>0) with
 |true=>
  unfold zF at ed hw ⊢
  simp only[Wh.Bw,gl hi,g0,Int.toNat_natCast,ed,Wh.FE _ _ ed,hw,nQ,Bool.not_true,Bool.and_false,Bool.not_false,Bool.true_or,Bool.or_true,iy,Bool.and_self,cond_true,if_true]
 |false=>
  cases he:decide ((s.2.2.2.2.1.1.getD i zF).2.1>0) with
  |false=>
   unfold zF at ed hw he ⊢
   simp only[Wh.Bw,gl hi,g0,Int.toNat_natCast,ed,Wh.FE _ _ ed,hw,he,nQ,Bool.not_true,Bool.and_false,Bool.false_and,Bool.not_false,Bool.true_or,Bool.or_true,iy,Bool.and_self,cond_true,cond_false,w]
   rfl
  |true=>
   cases hk:AJ s.2.2.2.1.2.1 (s.2.2.2.2.1.1.getD i zF).2.1 with
   |none=>
    rw[hk] at ed
    unfold zF at ed hw he ⊢
    simp only[Wh.Bw,gl hi,g0,Int.toNat_natCast,ed,Wh.FE _ _ ed,hw,he,edI,Option.isSome,nQ,Bool.not_true,Bool.not_false,Bool.true_or,Bool.or_true,Bool.and_true,iy,Bool.and_self,cond_true,cond_false,if_true]
   |some k=>
    rw[hk] at ed
    have jf:=R9 hk
    have hp:=Td (I.ok (s.2.2.2.1.2.1.getD k z0) (by rw[getD_eq _ _ _ jf];exact List.getElem_mem jf))
    obtain⟨P,hP,f1,_⟩:=aah _ hp.2.2.1 hp.2.2.2
    have f3 (x y:List Int) (u:Unit):=count_eq P.1 P.2.1 x y u hP
    have f4 (x y:List Int) (u:Unit):=Wh.CM _ _ (f3 x y u)
    cases hh:((s.2.2.2.1.2.1.getD k z0).1 != (s.2.2.2.2.1.1.getD i zF).1) with
    |true=>
     unfold zF at ed hw he hh ⊢
     simp only[Wh.Bw,gl hi,g0,Int.toNat_natCast,ed,Wh.FE _ _ ed,hw,he,hh,edI,Option.isSome,nQ,Bool.not_true,Bool.not_false,Bool.true_or,Bool.or_true,Bool.and_true,iy,Bool.and_self,cond_true,cond_false,if_true]
    |false=>
     have hc:J9 ((s.2.2.2.1.2.1.getD k z0).2.2.2.1.length:Int)=AX P.1 P.2.1:=by rw[J9,Wh.O0 _ _ f1]
     unfold zF at ed hw he hh ⊢
     simp only[hc,Wh.Bw,gl hi,g0,Int.toNat_natCast,ed,Wh.FE _ _ ed,hw,he,hh,f1,Wh.O0 _ _ f1,f3,f4,edI,Option.isSome,nQ,Bool.not_true,Bool.not_false,Bool.or_true,iy,Bool.and_self,cond_true,cond_false,w]
     cases decide ((s.2.2.2.2.1.1.getD i ((0:Int),(0:Int),(0:Int),(0:Int),false,())).2.2.1≥AX P.1 P.2.1)<;>rfl
theorem Yq (c:Ct)(I:yC c)(l:List Fr)(i:Nat)(hi:i<l.length)(hl:l.length≤9999999)(hok:okF (l.getD i zF)=true) :
  Wh.Bt (((i:Int),(),l,(l.length:Int)),c)=if Dq c (l.getD i zF)=true then some (.inr (.inl (false,()))) else some (.inl ((((i+1:Nat):Int),(),l,(l.length:Int)),c)):=by
 have bI:c.2.1.length≤8:=I.len
 have ed:=Yp c (l.getD i zF).2.1 (by omega)
 have w:=lg (show i≤4611686018427387904 by omega)
 unfold Dq
 cases hz:((l.getD i zF).2.1==0) with
 |true=>
  have h0:(l.getD i zF).2.1=0:=eq_of_beq hz
  have hw:decide ((l.getD i zF).2.2.2.1>0)=false:=by
   unfold okF at hok
   rw[hz,cond_true] at hok
   simp only[Bool.and_eq_true,beq_iff_eq] at hok
   exact decide_eq_false (by omega)
  have he:decide ((l.getD i zF).2.1>0)=false:=decide_eq_false (by omega)
  rw[hw,he]
  unfold zF at hz ⊢
  simp only[Wh.Bt,gl hi,g0,Int.toNat_natCast,hz,iy,Bool.and_self,cond_true,cond_false,w]
  rfl
 |false=>
  have he:decide ((l.getD i zF).2.1>0)=true:=by
   unfold okF at hok
   rw[hz,cond_false] at hok
   simp only[Bool.and_eq_true,w7,decide_eq_true_iff] at hok
   exact decide_eq_true (by omega)
  rw[he]
  cases hw:decide ((l.getD i zF).2.2.2.1>0) with
  |true=>
   unfold zF at ed hz hw ⊢
   simp only[Wh.Bt,gl hi,g0,Int.toNat_natCast,hz,ed,Wh.G8 _ _ ed,hw,nQ,Bool.not_true,Bool.not_false,Bool.true_or,iy,Bool.and_self,cond_true,cond_false,if_true]
  |false=>
   cases hk:AJ c.2.1 (l.getD i zF).2.1 with
   |none=>
    rw[hk] at ed
    unfold zF at ed hz hw ⊢
    simp only[Wh.Bt,gl hi,g0,Int.toNat_natCast,hz,ed,Wh.G8 _ _ ed,hw,RX,nQ,Bool.not_true,Bool.not_false,Bool.true_or,iy,Bool.and_self,cond_true,cond_false,if_true]
   |some k=>
    rw[hk] at ed
    have jf:=R9 hk
    have hp:=Td (I.ok (c.2.1.getD k z0) (by rw[getD_eq _ _ _ jf];exact List.getElem_mem jf))
    obtain⟨P,hP,f0,f1⟩:=aah _ hp.2.2.1 hp.2.2.2
    have f3 (x y:List Int) (u:Unit):Wh.AQ (P.1,P.2.1,x,y,u)=_:=count_eq P.1 P.2.1 x y u hP
    have f4 (x y:List Int) (u:Unit):=Wh.q20_v _ _ (f3 x y u)
    have ed':Wh.DQ (c,(l.getD i zF).2.1)=some ((k:Int),()):=ed
    have e1:decide ((k:Int)<0)=false:=decide_eq_false (by omega)
    cases hh:((c.2.1.getD k z0).1 != (l.getD i zF).1) with
    |true=>
     unfold zF at ed' hz hw hh ⊢
     unfold z0 at hh ⊢
     simp only[Wh.Bt,gl hi,gl jf,g0,Int.toNat_natCast,hz,ed',Wh.G8 _ _ ed',hw,hh,e1,nQ,Bool.not_true,Bool.not_false,Bool.true_or,Bool.or_true,iy,Bool.and_self,cond_true,cond_false,if_true]
    |false=>
     have hc:J9 ((c.2.1.getD k z0).2.2.2.1.length:Int)=AX P.1 P.2.1:=by rw[J9,Wh.O0 _ _ f0]
     unfold zF at ed' hz hw hh ⊢
     have hh2:=hh
     unfold z0 at hh2 f1
     simp only[hc,hh2,Wh.Bt,gl hi,gl jf,g0,Int.toNat_natCast,hz,ed',Wh.G8 _ _ ed',hw,hh,e1,f1,Wh.q89_v _ _ f1,f3,f4,nQ,Bool.not_true,Bool.not_false,Bool.or_true,iy,Bool.and_self,cond_true,cond_false,w]
     cases decide ((l.getD i ((0:Int),(0:Int),(0:Int),(0:Int),false,())).2.2.1≥AX P.1 P.2.1)<;>rfl
abbrev Bu:Type:=Int×Int×Int×Int×Unit
def Gg (b:Bu):Bool:=w7 b.2.1 0 99999&&w7 b.1 0 b.2.1&&w7 b.2.2.1 0 99999&&w7 b.2.2.2.1 0 99999
theorem acQ (b:Bu):Wh.q76 b=some (Gg b,()):=by
 unfold Gg
 simp only[Wh.q76,Av,Wh.zI _ _ (Av _ _ _),nQ,Bool.or_true,iy,Bool.and_self,cond_true]
 cases w7 b.2.1 0 99999<;>cases w7 b.1 0 b.2.1<;>cases w7 b.2.2.1 0 99999<;>cases w7 b.2.2.2.1 0 99999<;>rfl
theorem Yk (b:Bu):Wh.q46 b=some (Gg b,()):=by
 unfold Gg
 simp only[Wh.q46,zA,Wh.zX _ _ (zA _ _ _),nQ,Bool.or_true,iy,Bool.and_self,cond_true]
 cases w7 b.2.1 0 99999<;>cases w7 b.1 0 b.2.1<;>cases w7 b.2.2.1 0 99999<;>cases w7 b.2.2.2.1 0 99999<;>rfl
def zB:Bu:=((0:Int),(0:Int),(0:Int),(0:Int),())
def Dk (now:Int)(b:Bu):Bool:=bif bif bif !Gg b then true else b.2.1 != 40 then true else b.2.2.1 != 8 then true else decide (b.2.2.2.1>now)
theorem acP (s:nC.D)(i:Nat)(hi:i<s.2.2.2.2.2.1.length)(hl:s.2.2.2.2.2.1.length≤9999999) :
  Wh.Ei (((i:Int),()),s)=if Dk s.2.1 (s.2.2.2.2.2.1.getD i zB)=true then some (.inr (.inl (false,()))) else some (.inl ((((i+1:Nat):Int),()),s)):=by
 have w:=lg (show i≤4611686018427387904 by omega)
 unfold Dk zB
 simp only[Wh.Ei,gl hi,g0,Int.toNat_natCast,acQ,Wh.q76_v _ _ (acQ _),nQ,iy,Bool.and_self,cond_true,w]
 generalize (bif bif bif !Gg _ then true else _ then true else _ then true else _)=b
 cases b<;>rfl
theorem Yj (s:nC.D)(l:List Bu)(i:Nat)(hi:i<l.length)(hl:l.length≤9999999) :
  Wh.Eg (((i:Int),(),l,(l.length:Int)),s)=if Dk s.2.1 (l.getD i zB)=true then some (.inr (.inl (false,()))) else some (.inl ((((i+1:Nat):Int),(),l,(l.length:Int)),s)):=by
 have w:=lg (show i≤4611686018427387904 by omega)
 unfold Dk zB
 simp only[Wh.Eg,gl hi,g0,Int.toNat_natCast,Yk,Wh.q46_v _ _ (Yk _),nQ,iy,Bool.and_self,cond_true,w]
 generalize (bif bif bif !Gg _ then true else _ then true else _ then true else _)=b
 cases b<;>rfl
end Pl
open Go Go.Ab Go.Lib
namespace Pl
abbrev Sv:Type:=Int×Int×Int×Int×Int×Int×Unit
def zS:Sv:=((0:Int),(0:Int),(0:Int),(0:Int),(0:Int),(0:Int),())
def Ka (l:List Sv)(i:Nat)(c:Int):Bool:=match i with
 |0=>false
 |m+1=>decide ((l.getD m zS).1≥c)
def JK (c:Ct)(s:Sv):Bool:=bif(AJ c.2.1 s.2.2.1).isSome then(edI c.2.1 (AJ c.2.1 s.2.2.1)).1 != Int.tmod s.1 2 else false
def Cu (c:Ct)(now:Int)(l:List Sv)(i:Nat):Bool:=
 ((((((!w7 (l.getD i zS).1 0 3 || Ka l i (l.getD i zS).1) || !w7 (l.getD i zS).2.1 1 99999) || !w7 (l.getD i zS).2.2.1 1 c.1) || !w7 (l.getD i zS).2.2.2.1 0 9999) || !w7 (l.getD i zS).2.2.2.2.1 0 3) || !w7 (l.getD i zS).2.2.2.2.2.1 0 now) || JK c (l.getD i zS)
theorem Ia (a b:Bool):(bif a then true else b)=(a || b):=by cases a<;>rfl
theorem ac2 (s:nC.D)(hc:s.2.2.2.1.2.1.length≤9999999)(i:Nat)(hi:i<s.2.2.2.2.2.2.1.length)(hl:s.2.2.2.2.2.2.1.length≤9999999) :
  Wh.C3 (((i:Int),()),s)=if Cu s.2.2.2.1 s.2.1 s.2.2.2.2.2.2.1 i=true then some (.inr (.inl (false,()))) else some (.inl ((((i+1:Nat):Int),()),s)):=by
 have w:=lg (show i≤4611686018427387904 by omega)
 have ed:=acV s.2.2.2.1 (s.2.2.2.2.2.2.1.getD i zS).2.2.1 hc
 have hh (x:Int):Wh.q80 x=some (Int.tmod x 2,()):=rfl
 have fin (A B:Bool) (X Y:Option ((((Int)×(Unit))×((nC.D)))⊕((((Bool))×(Unit))⊕((Unit)×(Unit))))):(bif A then X else bif B then X else Y)=if(A || B)=true then X else Y:=by cases A<;>cases B<;>rfl
 rcases Nat.eq_zero_or_pos i with h0|h0
 ·subst h0
  have d1:decide (((0:Nat):Int)>0)=false:=rfl
  unfold Cu JK Ka
  unfold zS at ed ⊢
  simp only[Wh.C3,gl hi,g0,Int.toNat_natCast,Av,Wh.zI _ _ (Av _ _ _),ed,Wh.FE _ _ ed,hh,Wh.Pd _ _ (hh _),d1,Ia,nQ,Bool.or_true,Bool.false_and,Bool.not_false,Bool.true_or,Bool.or_false,iy,Bool.and_self,cond_true,cond_false,w]
  exact fin _ _ _ _
 ·obtain⟨m,rfl⟩:∃m,i=m+1:=⟨i-1,by omega⟩
  have d1:decide (((m+1:Nat):Int)>0)=true:=decide_eq_true (by omega)
  have w1:IntKind.wrap .i64 (((m+1:Nat):Int)-1)=(m:Int):=wi (by omega) (by omega)
  unfold Cu JK Ka
  unfold zS at ed ⊢
  simp only[Wh.C3,gl hi,gl (show m<s.2.2.2.2.2.2.1.length by omega),g0,Int.toNat_natCast,w1,Av,Wh.zI _ _ (Av _ _ _),ed,Wh.FE _ _ ed,hh,Wh.Pd _ _ (hh _),d1,Ia,nQ,Bool.or_true,iy,Bool.and_self,cond_true,w]
  exact fin _ _ _ _
theorem Ie (n:Int):Wh.Co n=some (w7 n 0 3,()):=by simp only[Wh.Co,zA,Wh.zX _ _ (zA _ _ _),nQ,iy,cond_true]
theorem Yx (s:nC.D)(hc:s.2.2.2.1.2.1.length≤9999999)(i:Nat)(hi:i<s.2.2.2.2.2.2.1.length)(hl:s.2.2.2.2.2.2.1.length≤9999999) :
  Wh.C4 (((i:Int),(),s.2.2.2.2.2.2.1,(s.2.2.2.2.2.2.1.length:Int)),s)=if Cu s.2.2.2.1 s.2.1 s.2.2.2.2.2.2.1 i=true then some (.inr (.inl (false,()))) else some (.inl ((((i+1:Nat):Int),(),s.2.2.2.2.2.2.1,(s.2.2.2.2.2.2.1.length:Int)),s)):=by
 have w:=lg (show i≤4611686018427387904 by omega)
 have ed:=Yp s.2.2.2.1 (s.2.2.2.2.2.2.1.getD i zS).2.2.1 hc
 have hh (x:Int):Wh.q92 x=some (Int.tmod x 2,()):=rfl
 have he:∃v,BI (AJ s.2.2.2.1.2.1 (s.2.2.2.2.2.2.1.getD i zS).2.2.1)=v∧decide (v≥0)=(AJ s.2.2.2.1.2.1 (s.2.2.2.2.2.2.1.getD i zS).2.2.1).isSome∧(!decide (v≥0) || decide (0≤v))=true∧(!decide (v≥0) || decide (v<(s.2.2.2.1.2.1.length:Int)))=true ∧
   (bif decide (v≥0) then(s.2.2.2.1.2.1.getD (Int.toNat v) z0).1 != Int.tmod (s.2.2.2.2.2.2.1.getD i zS).1 2 else false)=JK s.2.2.2.1 (s.2.2.2.2.2.2.1.getD i zS):=by
  unfold JK
  cases e:AJ s.2.2.2.1.2.1 (s.2.2.2.2.2.2.1.getD i zS).2.2.1 with
  |none=>exact⟨-1,rfl,rfl,rfl,rfl,rfl⟩
  |some k=>
   have:=R9 e
   have d:decide ((k:Int)≥0)=true:=decide_eq_true (by omega)
   refine⟨(k:Int),rfl,d,by rw[g0,Bool.or_true],by rw[gl this,Bool.or_true],?_⟩
   rw[d];rfl
 obtain⟨v,hv,_,Ca,hv3,hv4⟩:=he
 rw[hv] at ed
 have fin (A B C D:Bool) (X Y:Option ((((Int)×(Unit)×(List (r_.D))×(Int))×((nC.D)))⊕((((Bool))×(Unit))⊕((Unit)×(Unit))))) (h:(A || (B || C))=D):(bif A then X else bif B then X else bif C then X else Y)=if D=true then X else Y:=by subst h;cases A<;>cases B<;>cases C<;>rfl
 have bool8 (a b c d e f g h:Bool):((((b || !a) || !c) || !d) || (h || ((!e || !f) || !g)))=(((((((!a || b) || !c) || !d) || !e) || !f) || !g) || h):=by
  cases a<;>cases b<;>cases c<;>cases d<;>cases e<;>cases f<;>cases g<;>cases h<;>rfl
 have bool7 (a c d e f g h:Bool):(((!a || !c) || !d) || (h || ((!e || !f) || !g)))=((((((!a || !c) || !d) || !e) || !f) || !g) || h):=by
  cases a<;>cases c<;>cases d<;>cases e<;>cases f<;>cases g<;>cases h<;>rfl
 rcases Nat.eq_zero_or_pos i with h0|h0
 ·subst h0
  have d1:decide (((0:Nat):Int)>0)=false:=rfl
  unfold Cu Ka
  unfold z0 at hv4
  unfold zS at ed hv4 ⊢
  simp only[Wh.C4,gl hi,g0,Int.toNat_natCast,Ie,Wh.KC _ _ (Ie _),zA,Wh.zX _ _ (zA _ _ _),ed,Wh.G8 _ _ ed,hh,Wh.Pg _ _ (hh _),Ca,hv3,hv4,d1,nQ,Bool.or_true,Bool.not_false,Bool.true_or,Bool.or_false,iy,Bool.and_self,cond_true,cond_false,w]
  refine fin _ _ _ _ _ _ ?_
  simp only[Ia]
  exact bool7 _ _ _ _ _ _ _
 ·obtain⟨m,rfl⟩:∃m,i=m+1:=⟨i-1,by omega⟩
  have d1:decide (((m+1:Nat):Int)>0)=true:=decide_eq_true (by omega)
  have w1:IntKind.wrap .i64 (((m+1:Nat):Int)-1)=(m:Int):=wi (by omega) (by omega)
  unfold Cu Ka
  unfold z0 at hv4
  unfold zS at ed hv4 ⊢
  simp only[Wh.C4,gl hi,gl (show m<s.2.2.2.2.2.2.1.length by omega),g0,Int.toNat_natCast,w1,Ie,Wh.KC _ _ (Ie _),zA,Wh.zX _ _ (zA _ _ _),ed,Wh.G8 _ _ ed,hh,Wh.Pg _ _ (hh _),Ca,hv3,hv4,d1,nQ,Bool.or_true,iy,Bool.and_self,cond_true,w]
  refine fin _ _ _ _ _ _ ?_
  simp only[Ia]
  exact bool8 _ _ _ _ _ _ _ _
noncomputable def x_ (s:nC.D):List (List UInt8)×Nat:=Cb hash s.2.2.1
noncomputable def JI (s:nC.D):Bool:=(s.2.2.2.1.2.1.length==0&&s.2.2.2.1.1==0&&s.2.2.2.2.1.1.length==0&&s.2.2.2.2.1.2.1==0&&s.2.2.2.2.2.1.length==0&&s.2.2.2.2.2.2.1.length==0)
noncomputable def JO (s:nC.D):Bool:=jS s.2.2.2.2.1.1.length (fun i=> !Dq s.2.2.2.1 (s.2.2.2.2.1.1.getD i zF))
noncomputable def R0 (s:nC.D):Bool:=jS s.2.2.2.2.2.1.length (fun i=> !Dk s.2.1 (s.2.2.2.2.2.1.getD i zB))
noncomputable def KQ (s:nC.D):Bool:=jS s.2.2.2.2.2.2.1.length (fun i=> !Cu s.2.2.2.1 s.2.1 s.2.2.2.2.2.2.1 i)
noncomputable def upV (s:nC.D):Bool:=(x_ s).2==s.2.2.1.length&&(decide ((zE (x_ s).1).1=s.2.2.2.1)&&(CI s.2.2.2.2.1&&(s.2.2.2.2.2.1.length==2&&(KQ s&&(JO s&&R0 s)))))
noncomputable def okV (s:nC.D):Bool:=w7 s.2.1 0 99999&&(decide (s.2.2.1.length≤9000)&&((zE (x_ s).1).2&&(bif s.1 then upV s else JI s)))
theorem NT {l:List (List UInt8)}(h:(zE l).2=true):yC (zE l).1:=by
 unfold zE at h ⊢
 cases e:AW (0,[],()) l with
 |none=>rw[e] at h;cases h
 |some c=>exact Xr l _ c NS e
theorem akT (s:nC.D)(hc:s.2.2.2.1.2.1.length≤9999999)(hl:s.2.2.2.2.2.2.1.length≤9999999):Wh.q43 s=some (KQ s,()):=by
 have q:=xW (r:=Wh.C3) (fun i=>(((i:Int),()),s)) (n:=s.2.2.2.2.2.2.1.length) (p:=fun i=> !Cu s.2.2.2.1 s.2.1 s.2.2.2.2.2.2.1 i) (yf:=.inl (false,())) (yt:=.inr ((),())) (fun i hi _ hp=>by
   rw[ac2 s hc i hi hl,if_neg (by simpa using hp)]) (fun i hi _ hp=>by
   rw[ac2 s hc i hi hl,if_pos (by simpa using hp)]) (by
   have d1:decide ((s.2.2.2.2.2.2.1.length:Int)<(s.2.2.2.2.2.2.1.length:Int))=false:=decide_eq_false (by omega)
   simp only[Wh.C3,d1,cond_false])
 have q':Comes Wh.C3 ((0,()),s) _:=q
 simp only[Wh.q43,cb q',cv q',cond_true]
 unfold KQ
 cases jS s.2.2.2.2.2.2.1.length (fun i=> !Cu s.2.2.2.1 s.2.1 s.2.2.2.2.2.2.1 i)<;>rfl
theorem Pw (s:nC.D)(h:s.2.2.1.length≤9999999):(x_ s).1.length≤9999999∧∀r∈(x_ s).1,r.length≤9999999:=by
 obtain⟨h1,h2,h3⟩:=vQ hash BM (s.2.2.1.length+1) s.2.2.1 0
 refine⟨?_,fun r hr=>?_⟩
 ·change (eE hash (s.2.2.1.length+1) s.2.2.1 0).1.length≤9999999;omega
 ·have:=h3 r hr;omega
theorem akY (s:nC.D)(S:Gc s):Wh.q78 s=some (okV s,()):=by
 have Be:=S.log
 have hbk:=S.bks
 have hsv:=S.C9
 have hfr:s.2.2.2.2.1.1.length≤1048576:=S.Ov
 have hct:s.2.2.2.1.2.1.length≤1048576:=S.cat
 have a:=YL s.2.2.1 (by omega)
 obtain⟨r1,r2⟩:=Pw s (by omega)
 have b:=acS (x_ s).1 r1 r2
 unfold okV
 change Wh.Ch s.2.2.1=some (((x_ s).1,((x_ s).2:Int)),()) at a
 have hle:decide ((s.2.2.1.length:Int)>9000) = !decide (s.2.2.1.length≤9000):=by
  by_cases h:s.2.2.1.length≤9000
  ·rw[decide_eq_true h,decide_eq_false (by omega)];rfl
  ·rw[decide_eq_false h,decide_eq_true (by omega)];rfl
 have CF (x y:Nat):((x:Int)==(y:Int))=(x==y):=by rw[Bool.eq_iff_iff,beq_iff_eq,beq_iff_eq];omega
 have S0 (x:Nat):((x:Int)==0)=(x==0):=CF x 0
 have S1 (x:Nat):((x:Int) != 2) = !(x==2):=by rw[←CF x 2];rfl
 simp only[Wh.q78,Av,Wh.zI _ _ (Av _ _ _),hle,nQ,iy,cond_true]
 cases w7 s.2.1 0 99999 with
 |false=>rfl
 |true=>
 cases decide (s.2.2.1.length≤9000) with
 |false=>rfl
 |true=>
 simp only[Bool.not_true,cond_false,Bool.true_and]
 cases cS:s.1 with
 |false=>
  have sy:Wh.GF s=some ((zE (x_ s).1).2,()):=by
   simp only[Wh.GF,a,Wh.OJ _ _ a,b,Wh.OT _ _ b,nQ,iy,cond_true]
  simp only[Bool.not_false,cond_true,cond_false,sy,Wh.aaz _ _ sy,Bool.or_true,S0,JI]
  congr 2
  cases (zE (x_ s).1).2<;>cases (s.2.2.2.1.2.1.length==0)<;>cases (s.2.2.2.1.1==0)<;>cases (s.2.2.2.2.1.1.length==0)<;>cases (s.2.2.2.2.1.2.1==0)<;>cases (s.2.2.2.2.2.1.length==0)<;>cases (s.2.2.2.2.2.2.1.length==0)<;>rfl
 |true=>
  have sm:=ak2 (zE (x_ s).1).1 s.2.2.2.1
  have po:=akZ s.2.2.2.2.1 (by omega)
  have sv:=akT s (by omega) (by omega)
  have e1:(((x_ s).2:Int) != (s.2.2.1.length:Int)) = !((x_ s).2==s.2.2.1.length):=by rw[←CF];rfl
  simp only[Bool.not_true,cond_false,cond_true,a,Wh.OJ _ _ a,b,Wh.OT _ _ b,po,Wh.aa4 _ _ po,sv,Wh.q43_v _ _ sv,Bool.or_true,e1,S1]
  unfold upV
  cases hcat:(zE (x_ s).1).2 with
  |false=>simp only[Bool.not_false,cond_true,Bool.not_true,Bool.true_or,Bool.and_self,Bool.false_and]
  |true=>
  cases hrd:((x_ s).2==s.2.2.1.length) with
  |false=>simp only[Bool.not_false,cond_true,cond_false,Bool.not_true,Bool.true_or,Bool.and_self,Bool.false_and,Bool.and_false]
  |true=>
  have I:=NT hcat
  have hI:=I.len
  have sm':=sm (by omega)
  simp only[sm',Wh.aay _ _ sm',Bool.not_true,Bool.not_false,cond_false,cond_true,Bool.or_true,Bool.true_and,Bool.and_self]
  by_cases hsame:(zE (x_ s).1).1=s.2.2.2.1
  ·rw[decide_eq_true hsame]
   rw[hsame] at I
   cases hpo:CI s.2.2.2.2.1 with
   |false=>rfl
   |true=>
   cases bZ:(s.2.2.2.2.2.1.length==2) with
   |false=>rfl
   |true=>
   cases hsr:KQ s with
   |false=>rfl
   |true=>
    simp only[Bool.not_true,cond_false,Bool.true_and]
    have q:=xW (r:=Wh.Bw) (fun i=>(((i:Int),()),s)) (n:=s.2.2.2.2.1.1.length) (p:=fun i=> !Dq s.2.2.2.1 (s.2.2.2.2.1.1.getD i zF)) (yf:=.inl (false,())) (yt:=.inr ((),s)) (fun i hi _ hp=>by
      rw[acW s I i hi (by omega),if_neg (by simpa using hp)]) (fun i hi _ hp=>by
      rw[acW s I i hi (by omega),if_pos (by simpa using hp)]) (by
      have d1:decide ((s.2.2.2.2.1.1.length:Int)<(s.2.2.2.2.1.1.length:Int))=false:=decide_eq_false (by omega)
      simp only[Wh.Bw,d1,cond_false])
    have q':Comes Wh.Bw ((0,()),s) _:=q
    have q2:=xW (r:=Wh.Ei) (fun i=>(((i:Int),()),s)) (n:=s.2.2.2.2.2.1.length) (p:=fun i=> !Dk s.2.1 (s.2.2.2.2.2.1.getD i zB)) (yf:=.inl (false,())) (yt:=.inr ((),())) (fun i hi _ hp=>by
      rw[acP s i hi (by omega),if_neg (by simpa using hp)]) (fun i hi _ hp=>by
      rw[acP s i hi (by omega),if_pos (by simpa using hp)]) (by
      have d1:decide ((s.2.2.2.2.2.1.length:Int)<(s.2.2.2.2.2.1.length:Int))=false:=decide_eq_false (by omega)
      simp only[Wh.Ei,d1,cond_false])
    have D8:Comes Wh.Ei ((0,()),s) _:=q2
    simp only[cb q',cv q',cond_true]
    unfold JO R0
    cases hf:jS s.2.2.2.2.1.1.length (fun i=> !Dq s.2.2.2.1 (s.2.2.2.2.1.1.getD i zF)) with
    |false=>simp[sumC]
    |true=>
     simp only[if_true,sumC,cb D8,cv D8,cond_true,Bool.true_and]
     cases hb:jS s.2.2.2.2.2.1.length (fun i=> !Dk s.2.1 (s.2.2.2.2.2.1.getD i zB))<;>rfl
  ·rw[decide_eq_false hsame];rfl
theorem adY (s:nC.D)(I:yC s.2.2.2.1)(hp:s.2.2.2.2.1.1.length≤9999999):Wh.q54 (s.2.2.2.2.1,s.2.2.2.1)=some (CI s.2.2.2.2.1&&JO s,()):=by
 have a:=ae6 s.2.2.2.2.1 hp
 cases hv:CI s.2.2.2.2.1 with
 |false=>
  rw[hv] at a
  simp only[Wh.q54,a,Wh.TN _ _ a,nQ,iy,cond_true,Bool.not_false,Bool.false_and]
 |true=>
  have hok:∀i,i<s.2.2.2.2.1.1.length→okF (s.2.2.2.2.1.1.getD i zF)=true:=by
   unfold CI at hv
   simp only[Bool.and_eq_true,beq_iff_eq] at hv
   intro i hi
   have:=oL.1 hv.2.1 i (by omega)
   unfold AR at this
   rw[Bool.and_eq_true] at this
   exact this.1
  rw[hv] at a
  have q:=xW (r:=Wh.Bt) (fun i=>(((i:Int),(),s.2.2.2.2.1.1,(s.2.2.2.2.1.1.length:Int)),s.2.2.2.1)) (n:=s.2.2.2.2.1.1.length) (p:=fun i=> !Dq s.2.2.2.1 (s.2.2.2.2.1.1.getD i zF)) (yf:=.inl (false,())) (yt:=.inr ((),())) (fun i hi _ hp=>by
    rw[Yq s.2.2.2.1 I _ i hi (by omega) (hok i hi),if_neg (by simpa using hp)]) (fun i hi _ hp=>by
    rw[Yq s.2.2.2.1 I _ i hi (by omega) (hok i hi),if_pos (by simpa using hp)]) (by
    have d1:decide ((s.2.2.2.2.1.1.length:Int)<(s.2.2.2.2.1.1.length:Int))=false:=decide_eq_false (by omega)
    simp only[Wh.Bt,d1,cond_false])
  have q':Comes Wh.Bt ((0,(),s.2.2.2.2.1.1,(s.2.2.2.2.1.1.length:Int)),s.2.2.2.1) _:=q
  simp only[Wh.q54,a,Wh.TN _ _ a,nQ,iy,cond_true,cond_false,Bool.not_true,Bool.true_and,cb q',cv q']
  unfold JO
  cases jS s.2.2.2.2.1.1.length (fun i=> !Dq s.2.2.2.1 (s.2.2.2.2.1.1.getD i zF))<;>rfl
theorem ae5 (s:nC.D)(S:Gc s):Wh.q50 s=some (okV s,()):=by
 have Be:=S.log
 have hbk:=S.bks
 have hsv:=S.C9
 have hfr:s.2.2.2.2.1.1.length≤1048576:=S.Ov
 have hct:s.2.2.2.1.2.1.length≤1048576:=S.cat
 have a:=Xf s.2.2.1 (by omega)
 obtain⟨r1,r2⟩:=Pw s (by omega)
 have b:=Ym (x_ s).1 r1 r2
 unfold okV
 change Wh.C5 s.2.2.1=some (((x_ s).1,((x_ s).2:Int)),()) at a
 have hle:decide ((s.2.2.1.length:Int)>9000) = !decide (s.2.2.1.length≤9000):=by
  by_cases h:s.2.2.1.length≤9000
  ·rw[decide_eq_true h,decide_eq_false (by omega)];rfl
  ·rw[decide_eq_false h,decide_eq_true (by omega)];rfl
 have CF (x y:Nat):((x:Int)==(y:Int))=(x==y):=by rw[Bool.eq_iff_iff,beq_iff_eq,beq_iff_eq];omega
 have S0 (x:Nat):((x:Int)==0)=(x==0):=CF x 0
 have S1 (x:Nat):((x:Int) != 2) = !(x==2):=by rw[←CF x 2];rfl
 simp only[Wh.q50,zA,Wh.zX _ _ (zA _ _ _),hle,nQ,iy,cond_true]
 cases w7 s.2.1 0 99999 with
 |false=>rfl
 |true=>
 cases decide (s.2.2.1.length≤9000) with
 |false=>rfl
 |true=>
 simp only[Bool.not_true,cond_false,Bool.true_and,a,Wh.V0 _ _ a,b,Wh.Uq _ _ b,cond_true]
 cases hcat:(zE (x_ s).1).2 with
 |false=>rfl
 |true=>
 simp only[Bool.not_true,cond_false,Bool.true_and]
 cases cS:s.1 with
 |false=>
  simp only[Bool.not_false,cond_true,cond_false,S0,JI]
  congr 2
  cases (s.2.2.2.1.2.1.length==0)<;>cases (s.2.2.2.1.1==0)<;>cases (s.2.2.2.2.1.1.length==0)<;>cases (s.2.2.2.2.1.2.1==0)<;>cases (s.2.2.2.2.2.1.length==0)<;>cases (s.2.2.2.2.2.2.1.length==0)<;>rfl
 |true=>
  have I:=NT hcat
  have hI:=I.len
  have sm:=ae9 (zE (x_ s).1).1 s.2.2.2.1 (by omega)
  have e1:(((x_ s).2:Int) != (s.2.2.1.length:Int)) = !((x_ s).2==s.2.2.1.length):=by rw[←CF];rfl
  simp only[Bool.not_true,cond_false,cond_true,sm,Wh.q94_v _ _ sm,Bool.or_true,e1,S1]
  unfold upV
  cases hrd:((x_ s).2==s.2.2.1.length) with
  |false=>simp only[Bool.not_false,cond_true,Bool.not_true,Bool.true_or,Bool.and_self,Bool.false_and]
  |true=>
  by_cases hsame:(zE (x_ s).1).1=s.2.2.2.1
  ·rw[decide_eq_true hsame]
   rw[hsame] at I
   have fi:=adY s I (by omega)
   simp only[fi,Wh.q54_v _ _ fi,Bool.not_true,cond_false,Bool.or_true,Bool.and_self,cond_true,Bool.true_and]
   cases hpo:CI s.2.2.2.2.1 with
   |false=>rfl
   |true=>
   cases hfi:JO s with
   |false=>simp only[Bool.and_false,Bool.not_false,cond_true,Bool.false_and]
   |true=>
   cases bZ:(s.2.2.2.2.2.1.length==2) with
   |false=>rfl
   |true=>
    simp only[Bool.not_true,cond_false,Bool.true_and,Bool.and_self]
    have q:=xW (r:=Wh.Eg) (fun i=>(((i:Int),(),s.2.2.2.2.2.1,(s.2.2.2.2.2.1.length:Int)),s)) (n:=s.2.2.2.2.2.1.length) (p:=fun i=> !Dk s.2.1 (s.2.2.2.2.2.1.getD i zB)) (yf:=.inl (false,())) (yt:=.inr ((),s)) (fun i hi _ hp=>by
      rw[Yj s _ i hi (by omega),if_neg (by simpa using hp)]) (fun i hi _ hp=>by
      rw[Yj s _ i hi (by omega),if_pos (by simpa using hp)]) (by
      have d1:decide ((s.2.2.2.2.2.1.length:Int)<(s.2.2.2.2.2.1.length:Int))=false:=decide_eq_false (by omega)
      simp only[Wh.Eg,d1,cond_false])
    have q':Comes Wh.Eg ((0,(),s.2.2.2.2.2.1,(s.2.2.2.2.2.1.length:Int)),s) _:=q
    have q2:=xW (r:=Wh.C4) (fun i=>(((i:Int),(),s.2.2.2.2.2.2.1,(s.2.2.2.2.2.2.1.length:Int)),s)) (n:=s.2.2.2.2.2.2.1.length) (p:=fun i=> !Cu s.2.2.2.1 s.2.1 s.2.2.2.2.2.2.1 i) (yf:=.inl (false,())) (yt:=.inr ((),())) (fun i hi _ hp=>by
      rw[Yx s (by omega) i hi (by omega),if_neg (by simpa using hp)]) (fun i hi _ hp=>by
      rw[Yx s (by omega) i hi (by omega),if_pos (by simpa using hp)]) (by
      have d1:decide ((s.2.2.2.2.2.2.1.length:Int)<(s.2.2.2.2.2.2.1.length:Int))=false:=decide_eq_false (by omega)
      simp only[Wh.C4,d1,cond_false])
    have D8:Comes Wh.C4 ((0,(),s.2.2.2.2.2.2.1,(s.2.2.2.2.2.2.1.length:Int)),s) _:=q2
    simp only[cb q',cv q',cond_true]
    unfold R0 KQ
    cases hf:jS s.2.2.2.2.2.1.length (fun i=> !Dk s.2.1 (s.2.2.2.2.2.1.getD i zB)) with
    |false=>simp[sumC]
    |true=>
     simp only[if_true,sumC,cb D8,cv D8,cond_true,Bool.and_true]
     cases hb:jS s.2.2.2.2.2.2.1.length (fun i=> !Cu s.2.2.2.1 s.2.1 s.2.2.2.2.2.2.1 i)<;>rfl
  ·rw[decide_eq_false hsame];rfl
end Pl
open Go Go.Ab
namespace Pc
theorem wrap64 {n:Int}(h1: -9223372036854775808≤n)(h2:n≤9223372036854775807):IntKind.wrap .i64 n=n:=by
 simp[IntKind.wrap,IntKind.signed,IntKind.bits]
 omega
theorem x8 {X Y:Type}{r:X→Option (X⊕Y)}(st:Nat→X){n:Nat}{y:Y}(hs:∀i,i<n→r (st i)=some (.inl (st (i+1))))(he:r (st n)=some (.inr y)):∀k,k≤n→Comes r (st k) y:=by
 intro k hk
 have:∀d k,k+d=n→Comes r (st k) y:=by
  intro d
  induction d with
  |zero=>intro k hk;have:k=n:=by omega
         subst this;exact .out he
  |succ d ih=>intro k hk;exact .again (hs k (by omega)) (ih (k+1) (by omega))
 exact this (n-k) k (by omega)
theorem cb {X Y:Type}{r:X→Option (X⊕Y)}{x:X}{y:Y}(h:Comes r x y):lF r x=true:=(h.is (y0:=y)).1
theorem cv {X Y:Type}{r:X→Option (X⊕Y)}{x:X}{y:Y}(h:Comes r x y)(y0:Y):kG r y0 x=y:=h.is.2
theorem getD_eq {α:Type}(l:List α)(i:Nat)(z:α)(h:i<l.length):l.getD i z=l[i]:=by simp[h]
theorem R_ (a:List Int)(h:a.length≤4611686018427387904):Wh.DI (a,a)=some (true,()):=by
 have hl:Comes Wh.GO (((0:Int),a,a),()) (.inr ((),())):=by
  refine x8 (st:=fun i=>(((i:Int),a,a),())) (n:=a.length) ?_ ?_ 0 (Nat.zero_le _)
  ·intro i hi
   have h1:decide ((i:Int)<(a.length:Int))=true:=by simpa using hi
   have h2:IntKind.wrap .i64 ((i:Int)+1)=((i+1:Nat):Int):=by rw[wrap64]<;>omega
   have h3:decide ((0:Int)≤(i:Int))=true:=by simp
   simp[Wh.GO,iy,h2,hi]
  ·simp[Wh.GO]
 simp[Wh.DI,cb hl,cv hl]
theorem adP (a:so.D)(h1:a.2.2.1.length≤4611686018427387904)(h2:a.2.2.2.1.length≤4611686018427387904):Wh.GQ (a,a)=some (true,()):=by
 simp[Wh.GQ,Wh.GN,bx,R_ _ h1,R_ _ h2,iy,nQ]
theorem adI (a:n4.D)(h1:a.1.length≤4611686018427387904):Wh.Hq (a,a)=some (true,()):=by
 simp[Wh.Hq,Wh.GN,bx,R_ _ h1,iy,nQ]
theorem adH (a:List n4.D)(h:a.length≤4611686018427387904)(hr:∀x∈a,x.1.length≤4611686018427387904):Wh.G5 (a,a)=some (true,()):=by
 have hl:Comes Wh.G6 (((0:Int),a,a),()) (.inr ((),())):=by
  refine x8 (st:=fun i=>(((i:Int),a,a),())) (n:=a.length) ?_ ?_ 0 (Nat.zero_le _)
  ·intro i hi
   have h2:IntKind.wrap .i64 ((i:Int)+1)=((i+1:Nat):Int):=by rw[wrap64]<;>omega
   have h4:=adI (a[i]) (hr _ (by simp))
   simp[Wh.G6,Wh.O1,bx,iy,h2,hi,h4,nQ]
  ·simp[Wh.G6]
 simp[Wh.G5,cb hl,cv hl]
theorem adU (a:fT.D)(h:a.2.2.1.length≤4611686018427387904)(hr:∀x∈a.2.2.1,x.1.length≤4611686018427387904):Wh.q62 (a,a)=some (true,()):=by
 simp[Wh.q62,Wh.OR,bx,adH _ h hr,iy,nQ]
def SmPlan (a:so.D):Prop:=a.2.2.1.length≤4611686018427387904∧a.2.2.2.1.length≤4611686018427387904
def BF (a:fT.D):Prop:=a.2.2.1.length≤4611686018427387904∧∀x∈a.2.2.1,x.1.length≤4611686018427387904
def BE (a:th.D):Prop:=SmPlan a.1∧BF a.2.1
def adh (a:nc.D):Prop:=BE a.2.2.2.2.2.1
theorem adL (a:th.D)(h:BE a):Wh.q31 (a,a)=some (true,()):=by
 simp[Wh.q31,Wh.OB,bx,Wh.Pa,bx,adP _ h.1.1 h.1.2,adU _ h.2.1 h.2.2,iy,nQ]
theorem adG (a:nc.D)(h:adh a):Wh.q57 (a,a)=some (true,()):=by
 simp[Wh.q57,Wh.O4,bx,adL _ h,iy,nQ]
end Pc
open Go Go.Ab
namespace Pc
theorem yc (n lo hi:Int):Wh.xe (n,lo,hi)=some (decide (lo≤n∧n≤hi),()):=by
 by_cases h:lo≤n<;>simp[Wh.xe,h]
theorem ye (n lo hi:Int):Wh.xU (n,lo,hi)=some (decide (lo≤n∧n≤hi),()):=by
 by_cases h:lo≤n<;>simp[Wh.xU,h]
theorem Xt (n:Int):Wh.Co n=some (decide (0≤n∧n≤3),()):=by
 simp[Wh.Co,Wh.pg,bx,ye,iy,nQ]
def jS:Nat→(Nat→Bool)→Bool
 |0,_=>true
 |n+1,p=>jS n p&&p n
theorem oL {p:Nat→Bool}:∀{n:Nat},jS n p=true↔∀i,i<n→p i=true
 |0=>by simp[jS]
 |n+1=>by
  rw[jS,Bool.and_eq_true,oL]
  constructor
  ·rintro⟨h1,h2⟩ i hi
   by_cases e:i=n
   ·subst e;exact h2
   ·exact h1 i (by omega)
  ·intro h
   exact⟨fun i hi=>h i (by omega),h n (by omega)⟩
theorem NO {p q:Nat→Bool}:∀{n:Nat},(∀i,i<n→p i=q i)→jS n p=jS n q
 |0,_=>rfl
 |n+1,h=>by rw[jS,jS,NO fun i hi=>h i (by omega),h n (by omega)]
theorem xW {X Y:Type}{r:X→Option (X⊕Y)}(st:Nat→X){n:Nat}{p:Nat→Bool}{yf yt:Y}(hs:∀i,i<n→(∀j,j<i→p j=true)→p i=true→r (st i)=some (.inl (st (i+1))))
  (hf:∀i,i<n→(∀j,j<i→p j=true)→p i=false→r (st i)=some (.inr yf)) (he:r (st n)=some (.inr yt)):Comes r (st 0) (if jS n p=true then yt else yf):=by
 have main:∀d k,k+d=n→(∀j,j<k→p j=true)→Comes r (st k) (if jS n p=true then yt else yf):=by
  intro d
  induction d with
  |zero=>
   intro k hk hp
   have:k=n:=by omega
   subst this
   rw[if_pos (oL.2 hp)]
   exact .out he
  |succ d ih=>
   intro k hk hp
   cases hpk:p k with
   |true=>
    refine .again (hs k (by omega) hp hpk) (ih (k+1) (by omega) fun j hj=>?_)
    by_cases e:j=k
    ·subst e;exact hpk
    ·exact hp j (by omega)
   |false=>
    have:¬jS n p=true:=by
     intro h
     have:=oL.1 h k (by omega)
     rw[hpk] at this;cases this
    rw[if_neg this]
    exact .out (hf k (by omega) hp hpk)
 exact main n 0 (by omega) (fun j hj=>by omega)
theorem lg {i:Nat}(h:i≤4611686018427387904):IntKind.wrap .i64 ((i:Int)+1)=((i+1:Nat):Int):=by rw[wrap64]<;>omega
theorem Cy {i:Nat}(h:i≤4611686018427387904):IntKind.wrap .i64 ((i:Int)-1)=(i:Int)-1:=by rw[wrap64]<;>omega
theorem K6:IntKind.wrap .i64 1=1:=by decide
end Pc
open Go Go.Ab
namespace Pc
def Dw (t:List UInt8)(i:Nat):Bool:=decide (97≤(t.getD i 0).toNat)&&decide ((t.getD i 0).toNat≤122)
def Dv (t:List UInt8):Bool:=jS t.length (Dw t)&&decide (1≤t.length∧t.length≤6)
theorem ak7 (t:List UInt8)(h:t.length≤4611686018427387904):Wh.Cg t=some (Dv t,()):=by
 have hl:Comes Wh.A8 (((0:Int),t),()) (if jS t.length (Dw t)=true then .inr (t,()) else .inl (false,())):=by
  refine xW (fun i=>(((i:Int),t),())) ?_ ?_ ?_
  ·intro i hi _ hp
   have e0:t.getD i 0=t[i]:=by simp[hi]
   simp only[Dw,Bool.and_eq_true,decide_eq_true_eq,e0] at hp
   have h1:¬(((t[i].toNat:Nat):Int)<97):=by omega
   have h2:¬(122<((t[i].toNat:Nat):Int)):=by omega
   have h3:=lg (i:=i) (by omega)
   simp[Wh.A8,hi,iy,h1,h2,h3]
  ·intro i hi _ hp
   have e0:t.getD i 0=t[i]:=by simp[hi]
   simp only[Dw,Bool.and_eq_false_iff,decide_eq_false_iff_not,e0] at hp
   by_cases h1:((t[i].toNat:Nat):Int)<97
   ·simp[Wh.A8,hi,iy,h1]
   ·have h2:122<((t[i].toNat:Nat):Int):=by omega
    simp[Wh.A8,hi,iy,h1,h2]
  ·simp[Wh.A8]
 have e:decide ((1:Int)≤(t.length:Int)∧(t.length:Int)≤6)=decide (1≤t.length∧t.length≤6):=by congr 1;exact propext ⟨fun h=>by omega,fun h=>by omega⟩
 cases hp:jS t.length (Dw t) with
 |true=>
  rw[hp,if_pos rfl] at hl
  simp only[Wh.Cg,cb hl,cv hl,Dv,hp,Wh.nW,bx,yc,iy,nQ,cond_true,Bool.true_and]
  exact congrArg (fun b=>some (b,())) e
 |false=>
  rw[hp,if_neg (by simp)] at hl
  simp[Wh.Cg,cb hl,cv hl,Dv,hp]
theorem afd (t:List UInt8)(h:t.length≤4611686018427387904):Wh.BT t=some (Dv t,()):=by
 have hl:Comes Wh.A6 (((0:Int),t,(t.length:Int)),()) (if jS t.length (Dw t)=true then .inr (t,()) else .inl (false,())):=by
  refine xW (fun i=>(((i:Int),t,(t.length:Int)),())) ?_ ?_ ?_
  ·intro i hi _ hp
   have e0:t.getD i 0=t[i]:=by simp[hi]
   simp only[Dw,Bool.and_eq_true,decide_eq_true_eq,e0] at hp
   have h1:¬(((t[i].toNat:Nat):Int)<97):=by omega
   have h2:¬(122<((t[i].toNat:Nat):Int)):=by omega
   have h3:=lg (i:=i) (by omega)
   simp[Wh.A6,hi,iy,h1,h2,h3]
  ·intro i hi _ hp
   have e0:t.getD i 0=t[i]:=by simp[hi]
   simp only[Dw,Bool.and_eq_false_iff,decide_eq_false_iff_not,e0] at hp
   by_cases h1:((t[i].toNat:Nat):Int)<97
   ·simp[Wh.A6,hi,iy,h1]
   ·have h2:122<((t[i].toNat:Nat):Int):=by omega
    simp[Wh.A6,hi,iy,h1,h2]
  ·simp[Wh.A6]
 have e:decide ((1:Int)≤(t.length:Int)∧(t.length:Int)≤6)=decide (1≤t.length∧t.length≤6):=by congr 1;exact propext ⟨fun h=>by omega,fun h=>by omega⟩
 cases hp:jS t.length (Dw t) with
 |true=>
  rw[hp,if_pos rfl] at hl
  simp only[Wh.BT,cb hl,cv hl,Dv,hp,Wh.pg,bx,ye,iy,nQ,cond_true,Bool.true_and]
  exact congrArg (fun b=>some (b,())) e
 |false=>
  rw[hp,if_neg (by simp)] at hl
  simp[Wh.BT,cb hl,cv hl,Dv,hp]
def Bz (row:List Int)(count:Int)(i:Nat):Bool:=decide (0≤row.getD i 0∧row.getD i 0≤count-1)&&(decide (i=0) || decide (row.getD (i-1) 0<row.getD i 0))
def zU (row:List Int)(count:Int):Bool:=jS row.length (Bz row count)&&decide (0≤count∧count≤24)
theorem ala (row:List Int)(count:Int)(h:row.length≤4611686018427387904)(hc: -9223372036854775807≤count)(aJ:count≤9223372036854775807):Wh.Fo (row,count)=some (zU row count,()):=by
 have hl:Comes Wh.CX (((0:Int),row,count),()) (if jS row.length (Bz row count)=true then .inr (count,()) else .inl (false,())):=by
  refine xW (fun i=>(((i:Int),row,count),())) ?_ ?_ ?_
  ·intro i hi _ hp
   have e0:row.getD i 0=row[i]:=by simp[hi]
   simp only[Bz,Bool.and_eq_true,Bool.or_eq_true,decide_eq_true_eq,e0] at hp
   have h3:=lg (i:=i) (by omega)
   have h4:IntKind.wrap .i64 (count-1)=count-1:=by rw[wrap64]<;>omega
   have h5:=Cy (i:=i) (by omega)
   obtain⟨hp1,hp2⟩:=hp
   by_cases hz:i=0
   ·subst hz
    simp[Wh.CX,hi,iy,h4,K6,Wh.nW,bx,yc,nQ,hp1]
   ·have h6:(0:Int)<i:=by omega
    have h7:row.getD (i-1) 0<row[i]:=hp2.resolve_left hz
    have h8:((i:Int)-1).toNat=i-1:=by omega
    have h9:¬row[i]≤row[i-1]:=by
     have:row.getD (i-1) 0=row[i-1]:=by simp[show i-1<row.length by omega]
     omega
    have h10:i-1<row.length:=by omega
    have h11:(0:Int)≤(i:Int)-1:=by omega
    have h12:(i:Int)-1<row.length:=by omega
    have Ae:(1:Int)≤i:=by omega
    simp[Wh.CX,hi,iy,h3,h4,h5,h8,h9,h10,h12,Ae,Wh.nW,bx,yc,nQ,hp1,show 0<i by omega]
  ·intro i hi _ hp
   have e0:row.getD i 0=row[i]:=by simp[hi]
   simp only[Bz,Bool.and_eq_false_iff,Bool.or_eq_false_iff,decide_eq_false_iff_not,e0] at hp
   have h4:IntKind.wrap .i64 (count-1)=count-1:=by rw[wrap64]<;>omega
   have h5:=Cy (i:=i) (by omega)
   by_cases hp1:0≤row[i]∧row[i]≤count-1
   ·have hp2:=hp.resolve_left (fun h=>h hp1)
    have h6:(0:Int)<i:=by omega
    have h8:((i:Int)-1).toNat=i-1:=by omega
    have h9:row[i]≤row[i-1]:=by
     have:row.getD (i-1) 0=row[i-1]:=by simp[show i-1<row.length by omega]
     omega
    have h10:i-1<row.length:=by omega
    have h11:(0:Int)≤(i:Int)-1:=by omega
    have h12:(i:Int)-1<row.length:=by omega
    have Ae:(1:Int)≤i:=by omega
    simp[Wh.CX,hi,iy,h4,h5,h8,h9,h10,h12,Ae,Wh.nW,bx,yc,nQ,hp1,show 0<i by omega]
   ·simp[Wh.CX,hi,iy,h4,Wh.nW,bx,yc,nQ,hp1]
  ·simp[Wh.CX]
 cases hp:jS row.length (Bz row count) with
 |true=>
  rw[hp,if_pos rfl] at hl
  simp[Wh.Fo,cb hl,cv hl,zU,hp,Wh.nW,bx,yc,iy,nQ]
 |false=>
  rw[hp,if_neg (by simp)] at hl
  simp[Wh.Fo,cb hl,cv hl,zU,hp]
theorem afg (row:List Int)(count:Int)(h:row.length≤4611686018427387904)(hc: -9223372036854775807≤count)(aJ:count≤9223372036854775807):Wh.Fi (row,count)=some (zU row count,()):=by
 have hl:Comes Wh.CV (((0:Int),row,count,row,(row.length:Int)),()) (if jS row.length (Bz row count)=true then .inr (count,()) else .inl (false,())):=by
  refine xW (fun i=>(((i:Int),row,count,row,(row.length:Int)),())) ?_ ?_ ?_
  ·intro i hi _ hp
   have e0:row.getD i 0=row[i]:=by simp[hi]
   simp only[Bz,Bool.and_eq_true,Bool.or_eq_true,decide_eq_true_eq,e0] at hp
   have h3:=lg (i:=i) (by omega)
   have h4:IntKind.wrap .i64 (count-1)=count-1:=by rw[wrap64]<;>omega
   have h5:=Cy (i:=i) (by omega)
   obtain⟨hp1,hp2⟩:=hp
   by_cases hz:i=0
   ·subst hz
    simp[Wh.CV,hi,iy,h4,K6,Wh.pg,bx,ye,nQ,hp1]
   ·have h6:(0:Int)<i:=by omega
    have h7:row.getD (i-1) 0<row[i]:=hp2.resolve_left hz
    have h8:((i:Int)-1).toNat=i-1:=by omega
    have h9:¬row[i]≤row[i-1]:=by
     have:row.getD (i-1) 0=row[i-1]:=by simp[show i-1<row.length by omega]
     omega
    have h10:i-1<row.length:=by omega
    have h11:(0:Int)≤(i:Int)-1:=by omega
    have h12:(i:Int)-1<row.length:=by omega
    have Ae:(1:Int)≤i:=by omega
    simp[Wh.CV,hi,iy,h3,h4,h5,h8,h9,h10,h12,Ae,Wh.pg,bx,ye,nQ,hp1,show 0<i by omega]
  ·intro i hi _ hp
   have e0:row.getD i 0=row[i]:=by simp[hi]
   simp only[Bz,Bool.and_eq_false_iff,Bool.or_eq_false_iff,decide_eq_false_iff_not,e0] at hp
   have h4:IntKind.wrap .i64 (count-1)=count-1:=by rw[wrap64]<;>omega
   have h5:=Cy (i:=i) (by omega)
   by_cases hp1:0≤row[i]∧row[i]≤count-1
   ·have hp2:=hp.resolve_left (fun h=>h hp1)
    have h6:(0:Int)<i:=by omega
    have h8:((i:Int)-1).toNat=i-1:=by omega
    have h9:row[i]≤row[i-1]:=by
     have:row.getD (i-1) 0=row[i-1]:=by simp[show i-1<row.length by omega]
     omega
    have h10:i-1<row.length:=by omega
    have h11:(0:Int)≤(i:Int)-1:=by omega
    have h12:(i:Int)-1<row.length:=by omega
    have Ae:(1:Int)≤i:=by omega
    simp[Wh.CV,hi,iy,h4,h5,h8,h9,h10,h12,Ae,Wh.pg,bx,ye,nQ,hp1,show 0<i by omega]
   ·simp[Wh.CV,hi,iy,h4,Wh.pg,bx,ye,nQ,hp1]
  ·simp[Wh.CV]
 cases hp:jS row.length (Bz row count) with
 |true=>
  rw[hp,if_pos rfl] at hl
  simp[Wh.Fi,cb hl,cv hl,zU,hp,Wh.pg,bx,ye,iy,nQ]
 |false=>
  rw[hp,if_neg (by simp)] at hl
  simp[Wh.Fi,cb hl,cv hl,zU,hp]
end Pc
open Go Go.Ab
namespace Pc
def cnt (p:so.D):Int:=(p.1+p.2.1-1).tdiv p.2.1
theorem NU (p:so.D)(h1:1≤p.1∧p.1≤300)(h2:1≤p.2.1∧p.2.1≤16):1≤cnt p∧cnt p≤400:=by
 unfold cnt
 rw[Int.tdiv_eq_ediv_of_nonneg (by omega)]
 constructor
 ·exact(Int.le_ediv_iff_mul_le (by omega)).2 (by omega)
 ·have:(p.1+p.2.1-1) / p.2.1≤(p.1+p.2.1-1):=Int.ediv_le_self _ (by omega)
  omega
theorem Pz (p:so.D)(h1:1≤p.1∧p.1≤300)(h2:1≤p.2.1∧p.2.1≤16):Wh.Ai p=some (cnt p,()):=by
 have hb:=NU p h1 h2
 have e1:IntKind.wrap .i64 (p.1+p.2.1)=p.1+p.2.1:=by rw[wrap64]<;>omega
 have e2:IntKind.wrap .i64 (p.1+p.2.1-1)=p.1+p.2.1-1:=by rw[wrap64]<;>omega
 have e3:IntKind.wrap .i64 ((p.1+p.2.1-1).tdiv p.2.1)=(p.1+p.2.1-1).tdiv p.2.1:=by unfold cnt at hb;rw[wrap64]<;>omega
 have hz:(p.2.1 != 0)=true:=by simp;omega
 simp[Wh.Ai,e1,e2,e3,iy,cnt,hz]
theorem So (p:so.D)(h1:1≤p.1∧p.1≤300)(h2:1≤p.2.1∧p.2.1≤16):Wh.AQ p=some (cnt p,()):=by
 have hb:=NU p h1 h2
 have e1:IntKind.wrap .i64 (p.1+p.2.1)=p.1+p.2.1:=by rw[wrap64]<;>omega
 have e2:IntKind.wrap .i64 (p.1+p.2.1-1)=p.1+p.2.1-1:=by rw[wrap64]<;>omega
 have e3:IntKind.wrap .i64 ((p.1+p.2.1-1).tdiv p.2.1)=(p.1+p.2.1-1).tdiv p.2.1:=by unfold cnt at hb;rw[wrap64]<;>omega
 have hz:(p.2.1 != 0)=true:=by simp;omega
 simp[Wh.AQ,e1,e2,e3,iy,cnt,hz]
def DA (p:so.D)(i:Nat):Bool:=
 decide (1≤p.2.2.1.getD i 0∧p.2.2.1.getD i 0≤cnt p)&&(decide (i=0) || decide (p.2.2.1.getD (i-1) 0<p.2.2.1.getD i 0))&&decide (1≤p.2.2.2.1.getD i 0∧p.2.2.2.1.getD i 0≤99)
def zQ (p:so.D):Bool:=decide (1≤p.1∧p.1≤300)&&decide (1≤p.2.1∧p.2.1≤16)&&decide (cnt p≤24)&&decide (1≤p.2.2.1.length∧p.2.2.1.length≤3)&&decide (p.2.2.2.1.length=p.2.2.1.length)
def zg (p:so.D):Bool:=zQ p&&jS p.2.2.1.length (DA p)&&decide (p.2.2.1.getD (p.2.2.1.length-1) 0=cnt p)
theorem ak_ (p:so.D)(h:zQ p=true):Comes Wh.BV (((0:Int),()),p) (if jS p.2.2.1.length (DA p)=true then .inr ((),p) else .inl (false,())):=by
 simp only[zQ,Bool.and_eq_true,decide_eq_true_eq] at h
 obtain⟨⟨⟨⟨a1,a2⟩,a3⟩,a4⟩,a5⟩:=h
 have hc:=Pz p a1 a2
 refine xW (fun i=>(((i:Int),()),p)) ?_ ?_ ?_
 ·intro i hi _ hp
  have hi2:i<p.2.2.2.1.length:=by omega
  have e0:p.2.2.1.getD i 0=p.2.2.1[i]:=by simp[hi]
  have e1:p.2.2.2.1.getD i 0=p.2.2.2.1[i]:=by simp[hi2]
  simp only[DA,Bool.and_eq_true,Bool.or_eq_true,decide_eq_true_eq,e0,e1] at hp
  obtain⟨⟨hp1,hp2⟩,Bf⟩:=hp
  have h3:=lg (i:=i) (by omega)
  have h5:=Cy (i:=i) (by omega)
  by_cases hz:i=0
  ·subst hz
   simp[Wh.BV,hi,hi2,iy,K6,Wh.nW,bx,Wh.zh,bx,hc,yc,nQ,hp1,Bf]
  ·have h6:(0:Int)<i:=by omega
   have h8:((i:Int)-1).toNat=i-1:=by omega
   have h10:i-1<p.2.2.1.length:=by omega
   have h9:¬p.2.2.1[i]≤p.2.2.1[i-1]:=by
    have:p.2.2.1.getD (i-1) 0=p.2.2.1[i-1]:=by simp[h10]
    have:=hp2.resolve_left hz
    omega
   have h11:(0:Int)≤(i:Int)-1:=by omega
   have h12:(i:Int)-1<p.2.2.1.length:=by omega
   have Ae:(1:Int)≤i:=by omega
   simp[Wh.BV,hi,hi2,iy,h3,h5,h8,h9,h10,h12,Ae,Wh.nW,bx,Wh.zh,bx,hc,yc,nQ,hp1,Bf,show 0<i by omega]
 ·intro i hi _ hp
  have hi2:i<p.2.2.2.1.length:=by omega
  have e0:p.2.2.1.getD i 0=p.2.2.1[i]:=by simp[hi]
  have e1:p.2.2.2.1.getD i 0=p.2.2.2.1[i]:=by simp[hi2]
  simp only[DA,Bool.and_eq_false_iff,Bool.or_eq_false_iff,decide_eq_false_iff_not,e0,e1] at hp
  have h5:=Cy (i:=i) (by omega)
  by_cases hp1:1≤p.2.2.1[i]∧p.2.2.1[i]≤cnt p
  ·by_cases hz:i=0
   ·subst hz
    have Bf:¬((1:Int)≤p.2.2.2.1[0]∧p.2.2.2.1[0]≤(99:Int)):=by
     rcases hp with(hp|hp)|hp
     ·exact absurd hp1 hp
     ·exact absurd rfl hp.1
     ·exact hp
    simp[Wh.BV,hi,hi2,iy,Wh.nW,bx,Wh.zh,bx,hc,yc,nQ,hp1,Bf]
   ·have h6:(0:Int)<i:=by omega
    have h8:((i:Int)-1).toNat=i-1:=by omega
    have h10:i-1<p.2.2.1.length:=by omega
    have e2:p.2.2.1.getD (i-1) 0=p.2.2.1[i-1]:=by simp[h10]
    rw[e2] at hp
    have h11:(0:Int)≤(i:Int)-1:=by omega
    have h12:(i:Int)-1<p.2.2.1.length:=by omega
    have Ae:(1:Int)≤i:=by omega
    by_cases h9:p.2.2.1[i]≤p.2.2.1[i-1]
    ·simp[Wh.BV,hi,iy,h5,h8,h9,h10,h12,Ae,Wh.nW,bx,Wh.zh,bx,hc,yc,nQ,hp1,show 0<i by omega]
    ·have Bf:¬(1≤p.2.2.2.1[i]∧p.2.2.2.1[i]≤99):=by
      rcases hp with(hp|hp)|hp
      ·exact absurd hp1 hp
      ·exact absurd hp.2 (by omega)
      ·exact hp
     simp[Wh.BV,hi,hi2,iy,h5,h8,h9,h10,h12,Ae,Wh.nW,bx,Wh.zh,bx,hc,yc,nQ,hp1,Bf,show 0<i by omega]
  ·simp[Wh.BV,hi,iy,Wh.nW,bx,Wh.zh,bx,hc,yc,nQ,hp1]
 ·simp[Wh.BV]
theorem ak9 (p:so.D):Wh.Bp p=some (zg p,()):=by
 by_cases a1:1≤p.1∧p.1≤300
 case neg=>simp[Wh.Bp,Wh.nW,bx,yc,iy,nQ,a1,zg,zQ]
 by_cases a2:1≤p.2.1∧p.2.1≤16
 case neg=>simp[Wh.Bp,Wh.nW,bx,yc,iy,nQ,a1,a2,zg,zQ]
 have hc:=Pz p a1 a2
 have hb:=NU p a1 a2
 by_cases a3:cnt p≤24
 case neg=>simp[Wh.Bp,Wh.nW,bx,Wh.zh,bx,hc,yc,iy,nQ,a1,a2,a3,zg,zQ]
 by_cases a4:1≤p.2.2.1.length∧p.2.2.1.length≤3
 case neg=>
  have Ad:¬((1:Int)≤(p.2.2.1.length:Int)∧(p.2.2.1.length:Int)≤3):=by omega
  simp only[Wh.Bp,Wh.nW,bx,Wh.zh,bx,hc,yc,iy,nQ,a1,a2,a3,a4,Ad,hb.1,zg,zQ,and_self,decide_true,decide_false,Bool.not_true,Bool.not_false,cond_true,cond_false,Bool.false_and,Bool.and_false,Bool.or_true,Bool.and_self]
 by_cases a5:p.2.2.2.1.length=p.2.2.1.length
 case neg=>
  have Ad:((1:Int)≤(p.2.2.1.length:Int)∧(p.2.2.1.length:Int)≤3):=by omega
  have CA:((p.2.2.2.1.length:Int) != (p.2.2.1.length:Int))=true:=by simp;omega
  simp only[Wh.Bp,Wh.nW,bx,Wh.zh,bx,hc,yc,iy,nQ,a1,a2,a3,a4,Ad,a5,CA,hb.1,zg,zQ,and_self,decide_true,decide_false,Bool.not_true,Bool.not_false,cond_true,cond_false,Bool.false_and,Bool.and_false,Bool.or_true,Bool.and_self]
 have hA:zQ p=true:=by simp only[zQ,a1,a2,a3,a4,a5,and_self,decide_true,Bool.and_self]
 have hl:=ak_ p hA
 have Ad:((1:Int)≤(p.2.2.1.length:Int)∧(p.2.2.1.length:Int)≤3):=by omega
 have CA:((p.2.2.2.1.length:Int) != (p.2.2.1.length:Int))=false:=by simp;omega
 have w1:IntKind.wrap .i64 ((p.2.2.1.length:Int)-1)=(p.2.2.1.length:Int)-1:=Cy (by omega)
 have w2:((p.2.2.1.length:Int)-1).toNat=p.2.2.1.length-1:=by omega
 have w3:(0:Int)≤(p.2.2.1.length:Int)-1:=by omega
 have w4:(p.2.2.1.length:Int)-1<(p.2.2.1.length:Int):=by omega
 cases hp:jS p.2.2.1.length (DA p) with
 |true=>
  rw[hp,if_pos rfl] at hl
  simp only[Wh.Bp,cb hl,cv hl,Wh.nW,bx,Wh.zh,bx,hc,yc,iy,nQ,a1,a2,a3,Ad,CA,hb.1,zg,hA,hp,and_self,decide_true,Bool.not_true,Bool.not_false,cond_true,cond_false,Bool.true_and,Bool.or_true,Bool.and_self]
  dsimp only[sumC]
  simp only[hc,w1,w2,w3,w4,decide_true,Bool.and_self,cond_true]
  rfl
 |false=>
  rw[hp,if_neg (by simp)] at hl
  simp only[Wh.Bp,cb hl,cv hl,Wh.nW,bx,Wh.zh,bx,hc,yc,iy,nQ,a1,a2,a3,Ad,CA,hb.1,zg,hA,hp,and_self,decide_true,Bool.not_true,Bool.not_false,cond_true,cond_false,Bool.false_and,Bool.and_false,Bool.or_true,Bool.and_self]
theorem aff (p:so.D)(h:zQ p=true):Comes Wh.BU (((0:Int),(),p.2.2.1,(p.2.2.1.length:Int)),p) (if jS p.2.2.1.length (DA p)=true then .inr ((),()) else .inl (false,())):=by
 simp only[zQ,Bool.and_eq_true,decide_eq_true_eq] at h
 obtain⟨⟨⟨⟨a1,a2⟩,a3⟩,a4⟩,a5⟩:=h
 have hc:=So p a1 a2
 refine xW (fun i=>(((i:Int),(),p.2.2.1,(p.2.2.1.length:Int)),p)) ?_ ?_ ?_
 ·intro i hi _ hp
  have hi2:i<p.2.2.2.1.length:=by omega
  have e0:p.2.2.1.getD i 0=p.2.2.1[i]:=by simp[hi]
  have e1:p.2.2.2.1.getD i 0=p.2.2.2.1[i]:=by simp[hi2]
  simp only[DA,Bool.and_eq_true,Bool.or_eq_true,decide_eq_true_eq,e0,e1] at hp
  obtain⟨⟨hp1,hp2⟩,Bf⟩:=hp
  have h3:=lg (i:=i) (by omega)
  have h5:=Cy (i:=i) (by omega)
  by_cases hz:i=0
  ·subst hz
   simp[Wh.BU,hi,hi2,iy,K6,Wh.pg,bx,Wh.zq,bx,hc,ye,nQ,hp1,Bf]
  ·have h6:(0:Int)<i:=by omega
   have h8:((i:Int)-1).toNat=i-1:=by omega
   have h10:i-1<p.2.2.1.length:=by omega
   have h9:¬p.2.2.1[i]≤p.2.2.1[i-1]:=by
    have:p.2.2.1.getD (i-1) 0=p.2.2.1[i-1]:=by simp[h10]
    have:=hp2.resolve_left hz
    omega
   have h11:(0:Int)≤(i:Int)-1:=by omega
   have h12:(i:Int)-1<p.2.2.1.length:=by omega
   have Ae:(1:Int)≤i:=by omega
   simp[Wh.BU,hi,hi2,iy,h3,h5,h8,h9,h10,h12,Ae,Wh.pg,bx,Wh.zq,bx,hc,ye,nQ,hp1,Bf,show 0<i by omega]
 ·intro i hi _ hp
  have hi2:i<p.2.2.2.1.length:=by omega
  have e0:p.2.2.1.getD i 0=p.2.2.1[i]:=by simp[hi]
  have e1:p.2.2.2.1.getD i 0=p.2.2.2.1[i]:=by simp[hi2]
  simp only[DA,Bool.and_eq_false_iff,Bool.or_eq_false_iff,decide_eq_false_iff_not,e0,e1] at hp
  have h5:=Cy (i:=i) (by omega)
  by_cases hp1:1≤p.2.2.1[i]∧p.2.2.1[i]≤cnt p
  ·by_cases hz:i=0
   ·subst hz
    have Bf:¬((1:Int)≤p.2.2.2.1[0]∧p.2.2.2.1[0]≤(99:Int)):=by
     rcases hp with(hp|hp)|hp
     ·exact absurd hp1 hp
     ·exact absurd rfl hp.1
     ·exact hp
    simp[Wh.BU,hi,hi2,iy,Wh.pg,bx,Wh.zq,bx,hc,ye,nQ,hp1,Bf]
   ·have h6:(0:Int)<i:=by omega
    have h8:((i:Int)-1).toNat=i-1:=by omega
    have h10:i-1<p.2.2.1.length:=by omega
    have e2:p.2.2.1.getD (i-1) 0=p.2.2.1[i-1]:=by simp[h10]
    rw[e2] at hp
    have h11:(0:Int)≤(i:Int)-1:=by omega
    have h12:(i:Int)-1<p.2.2.1.length:=by omega
    have Ae:(1:Int)≤i:=by omega
    by_cases h9:p.2.2.1[i]≤p.2.2.1[i-1]
    ·simp[Wh.BU,hi,iy,h5,h8,h9,h10,h12,Ae,Wh.pg,bx,Wh.zq,bx,hc,ye,nQ,hp1,show 0<i by omega]
    ·have Bf:¬(1≤p.2.2.2.1[i]∧p.2.2.2.1[i]≤99):=by
      rcases hp with(hp|hp)|hp
      ·exact absurd hp1 hp
      ·exact absurd hp.2 (by omega)
      ·exact hp
     simp[Wh.BU,hi,hi2,iy,h5,h8,h9,h10,h12,Ae,Wh.pg,bx,Wh.zq,bx,hc,ye,nQ,hp1,Bf,show 0<i by omega]
  ·simp[Wh.BU,hi,iy,Wh.pg,bx,Wh.zq,bx,hc,ye,nQ,hp1]
 ·simp[Wh.BU]
theorem afe (p:so.D):Wh.A7 p=some (zg p,()):=by
 by_cases a1:1≤p.1∧p.1≤300
 case neg=>simp[Wh.A7,Wh.pg,bx,ye,iy,nQ,a1,zg,zQ]
 by_cases a2:1≤p.2.1∧p.2.1≤16
 case neg=>simp[Wh.A7,Wh.pg,bx,ye,iy,nQ,a1,a2,zg,zQ]
 have hc:=So p a1 a2
 have hb:=NU p a1 a2
 by_cases a3:cnt p≤24
 case neg=>
  have a3':cnt p>24:=by omega
  simp[Wh.A7,Wh.pg,bx,Wh.zq,bx,hc,ye,iy,nQ,a1,a2,a3,a3',zg,zQ]
 have a3':¬cnt p>24:=by omega
 by_cases a4:1≤p.2.2.1.length∧p.2.2.1.length≤3
 case neg=>
  have Ad:¬((1:Int)≤(p.2.2.1.length:Int)∧(p.2.2.1.length:Int)≤3):=by omega
  simp only[Wh.A7,Wh.pg,bx,Wh.zq,bx,hc,ye,iy,nQ,a1,a2,a3,a3',a4,Ad,zg,zQ,and_self,decide_true,decide_false,Bool.not_true,Bool.not_false,cond_true,cond_false,Bool.false_and,Bool.and_false,Bool.true_or,Bool.or_true,Bool.and_self]
 by_cases a5:p.2.2.2.1.length=p.2.2.1.length
 case neg=>
  have Ad:((1:Int)≤(p.2.2.1.length:Int)∧(p.2.2.1.length:Int)≤3):=by omega
  have CA:((p.2.2.2.1.length:Int) != (p.2.2.1.length:Int))=true:=by simp;omega
  simp only[Wh.A7,Wh.pg,bx,Wh.zq,bx,hc,ye,iy,nQ,a1,a2,a3,a3',a4,Ad,a5,CA,zg,zQ,and_self,decide_true,decide_false,Bool.not_true,Bool.not_false,cond_true,cond_false,Bool.false_and,Bool.and_false,Bool.true_or,Bool.or_true,Bool.and_self]
 have hA:zQ p=true:=by simp only[zQ,a1,a2,a3,a4,a5,and_self,decide_true,Bool.and_self]
 have hl:=aff p hA
 have Ad:((1:Int)≤(p.2.2.1.length:Int)∧(p.2.2.1.length:Int)≤3):=by omega
 have CA:((p.2.2.2.1.length:Int) != (p.2.2.1.length:Int))=false:=by simp;omega
 have w1:IntKind.wrap .i64 ((p.2.2.1.length:Int)-1)=(p.2.2.1.length:Int)-1:=Cy (by omega)
 have w2:((p.2.2.1.length:Int)-1).toNat=p.2.2.1.length-1:=by omega
 have w3:(0:Int)≤(p.2.2.1.length:Int)-1:=by omega
 have w4:(p.2.2.1.length:Int)-1<(p.2.2.1.length:Int):=by omega
 by_cases a6:p.2.2.1.getD (p.2.2.1.length-1) 0=cnt p
 case neg=>
  have a6':(p.2.2.1.getD (p.2.2.1.length-1) 0 != cnt p)=true:=by simpa using a6
  simp only[Wh.A7,Wh.pg,bx,Wh.zq,bx,hc,ye,iy,nQ,a1,a2,a3',Ad,CA,a6,a6',zg,hA,w1,w2,w3,w4,and_self,decide_true,decide_false,Bool.not_true,Bool.not_false,cond_true,cond_false,Bool.true_and,Bool.and_false,Bool.or_true,Bool.and_self]
 have a6':(p.2.2.1.getD (p.2.2.1.length-1) 0 != cnt p)=false:=by simpa using a6
 have a7:decide (p.2.2.1.getD (p.2.2.1.length-1) 0=cnt p)=true:=by simpa using a6
 cases hp:jS p.2.2.1.length (DA p) with
 |true=>
  rw[hp,if_pos rfl] at hl
  simp only[Wh.A7,cb hl,cv hl,Wh.pg,bx,Wh.zq,bx,hc,ye,iy,nQ,a1,a2,a3',Ad,CA,a6',a7,zg,hA,hp,w1,w2,w3,w4,and_self,decide_true,decide_false,Bool.not_true,Bool.not_false,cond_true,cond_false,Bool.or_true,Bool.and_self]
 |false=>
  rw[hp,if_neg (by simp)] at hl
  simp only[Wh.A7,cb hl,cv hl,Wh.pg,bx,Wh.zq,bx,hc,ye,iy,nQ,a1,a2,a3',Ad,CA,a6',a7,zg,hA,hp,w1,w2,w3,w4,and_self,decide_true,decide_false,Bool.not_true,Bool.not_false,cond_true,cond_false,Bool.false_and,Bool.and_false,Bool.or_true,Bool.and_self]
end Pc
open Go Go.Ab
namespace Pc
def yq (l:List Int):Nat:=l.foldl (fun m x=>m |||2 ^ x.toNat) 0
theorem Z6 (l:List Int)(x:Int):yq (l ++ [x])=yq l |||2 ^ x.toNat:=by simp[yq,List.foldl_append]
theorem afS (l:List Int)(j:Nat):∀m:Nat,(l.foldl (fun m x=>m |||2 ^ x.toNat) m).testBit j=(m.testBit j || l.any fun x=>decide (x.toNat=j)):=by
 induction l with
 |nil=>simp
 |cons x l ih=>
  intro m
  rw[List.foldl_cons,ih]
  simp[Nat.testBit_or,Nat.testBit_two_pow,Bool.or_assoc]
theorem Ol (l:List Int)(j:Nat):(yq l).testBit j=l.any fun x=>decide (x.toNat=j):=by
 rw[yq,afS];simp
theorem mk_lt (l:List Int)(h:∀x∈l,x<24):∀m:Nat,m<2 ^ 24→l.foldl (fun m x=>m |||2 ^ x.toNat) m<2 ^ 24:=by
 induction l with
 |nil=>intro m hm;exact hm
 |cons x l ih=>
  intro m hm
  rw[List.foldl_cons]
  refine ih (fun y hy=>h y (List.mem_cons_of_mem _ hy)) _ (Nat.or_lt_two_pow hm ?_)
  exact Nat.pow_lt_pow_right (by decide) (by have:=h x List.mem_cons_self;omega)
theorem Ok (l:List Int)(h:∀x∈l,x<24):yq l<2 ^ 24:=mk_lt l h 0 (by decide)
theorem On {a:Nat}(ha:a<2 ^ 24):(BitVec.ofInt 32 (a:Int)).toNat=a:=by
 rw[BitVec.ofInt_natCast,BitVec.toNat_ofNat];omega
theorem wrap32 {n:Nat}(h:n<2 ^ 24):IntKind.wrap .u32 (n:Int)=(n:Int):=by
 simp[IntKind.wrap,IntKind.bits,IntKind.signed];omega
theorem or32 {a b:Nat}(ha:a<2 ^ 24)(hb:b<2 ^ 24):nj .or .u32 (a:Int) (b:Int)=((a |||b:Nat):Int):=by
 show IntKind.wrap .u32 (((BitVec.ofInt 32 (a:Int) |||BitVec.ofInt 32 (b:Int)).toNat:Nat):Int)=_
 rw[BitVec.toNat_or,On ha,On hb,wrap32 (Nat.or_lt_two_pow ha hb)]
theorem and32 {a b:Nat}(ha:a<2 ^ 24)(hb:b<2 ^ 24):nj .and .u32 (a:Int) (b:Int)=((a &&& b:Nat):Int):=by
 show IntKind.wrap .u32 (((BitVec.ofInt 32 (a:Int) &&& BitVec.ofInt 32 (b:Int)).toNat:Nat):Int)=_
 rw[BitVec.toNat_and,On ha,On hb,wrap32 (Nat.and_lt_two_pow _ hb)]
theorem shl32 {n:Int}(h:0≤n)(h':n<24):IntKind.wrap .u32 ((1:Int)*(2:Int) ^ Min.min (Int.toNat n) (IntKind.bits .u32))=((2 ^ n.toNat:Nat):Int):=by
 obtain⟨k,rfl⟩:∃k:Nat,n=k:=⟨n.toNat,by omega⟩
 have hk:k<24:=by omega
 have hm:min k 32=k:=by omega
 have h2:2 ^ k<2 ^ 24:=Nat.pow_lt_pow_right (by decide) hk
 have e:(1:Int)*(2:Int) ^ Min.min (Int.toNat k) (IntKind.bits .u32)=((2 ^ k:Nat):Int):=by
  simp[IntKind.bits,hm]
 rw[e,wrap32 h2];simp
theorem pow24 {n:Int}(h':n<24):2 ^ n.toNat<2 ^ 24:=Nat.pow_lt_pow_right (by decide) (by omega)
theorem afm (row:List Int)(hl:row.length≤4611686018427387904)(h:∀x∈row,0≤x∧x<24):Wh.Ho row=some ((yq row:Int),()):=by
 have hc:Comes Wh.Hp (((0:Int),(0:Int),row,(row.length:Int)),()) ((yq row:Int),()):=by
  refine x8 (st:=fun i=>(((i:Int),(yq (row.take i):Int),row,(row.length:Int)),())) (n:=row.length) ?_ ?_ 0 (Nat.zero_le _)
  ·intro i hi
   have h0:=h row[i] (by simp)
   have h3:=lg (i:=i) (by omega)
   have e:yq (row.take (i+1))=yq (row.take i) |||2 ^ (row[i]).toNat:=by rw[List.take_succ_eq_append_getElem hi,Z6]
   have h4:=shl32 h0.1 h0.2
   have h5:=or32 (Ok (row.take i) fun x hx=>(h x (List.mem_of_mem_take hx)).2) (pow24 h0.2)
   simp only[Wh.Hp,getD_eq _ _ _ hi,Int.toNat_natCast,h3,h4,h5,e,iy,Int.ofNat_lt,hi,h0.1,decide_true,cond_true,Int.natCast_nonneg,Bool.and_self]
  ·simp[Wh.Hp]
 simp[Wh.Ho,cb hc,cv hc]
end Pc
open Go Go.Ab
namespace Pc
theorem adf {i:Nat}(h:i≤4611686018427387904)(h0:0<i):IntKind.wrap .i64 ((i:Int)-1)=((i-1:Nat):Int):=by rw[wrap64]<;>omega
def gT (s:fT.D)(i:Nat):n4.D:=s.2.2.1.getD i ([],[],())
def ov (s:fT.D)(i:Nat):Int:=(gT s i).1.getD 0 0
def x5 (s:fT.D)(i:Nat):Bool:=
 zU (gT s i).1 s.1&&decide ((gT s i).1.length≠0)&&decide (((gT s i).2.1.length:Int)=s.2.1)&&(decide (i=0) || decide (ov s (i-1)<ov s i))
theorem NW (s:fT.D)(i:Nat)(h:i<s.2.2.1.length):gT s i∈s.2.2.1:=by
 rw[gT,getD_eq _ _ _ h];simp
theorem alc (s:fT.D)(hs:BF s)(h1:1≤s.1∧s.1≤24):Comes Wh.Ej (((0:Int),()),s) (if jS s.2.2.1.length (x5 s)=true then .inr ((),s) else .inl (false,())):=by
 have zv:∀i,i<s.2.2.1.length→(∀j,j<i→x5 s j=true)→Wh.Ej (((i:Int),()),s)=bif x5 s i then some (.inl ((((i+1:Nat):Int),()),s)) else some (.inr (.inl (false,()))):=by
  intro i hi hp
  have hm:=NW s i hi
  have hr:=ala (gT s i).1 s.1 (hs.2 _ hm) (by omega) (by omega)
  have hr':Wh.Kp ((gT s i).1,s.1)=(zU (gT s i).1 s.1,()):=by simp only[Wh.Kp,bx,hr]
  have eA:List.getD s.2.2.1 i ([],[],())=gT s i:=rfl
  have hi':decide ((i:Int)<(s.2.2.1.length:Int))=true:=by simpa using hi
  have h0:decide ((0:Int)≤(i:Int))=true:=by simp
  have w:=lg (i:=i) (by have:=hs.1;omega)
  have d1:(((gT s i).1.length:Int)==0) = !decide ((gT s i).1.length≠0):=by
   by_cases e:(gT s i).1.length=0<;>simp[e]
  have d2:(((gT s i).2.1.length:Int) != s.2.1) = !decide (((gT s i).2.1.length:Int)=s.2.1):=rfl
  have d3:decide ((0:Int)<((gT s i).1.length:Int))=decide ((gT s i).1.length≠0):=by
   by_cases e:(gT s i).1.length=0<;>simp[e];omega
  rcases Nat.eq_zero_or_pos i with hz|hz
  ·subst hz
   have g0:decide (((0:Nat):Int)>0)=false:=by decide
   cases hA:zU (gT s 0).1 s.1<;>cases hB:decide ((gT s 0).1.length≠0)<;>cases hC:decide (((gT s 0).2.1.length:Int)=s.2.1)<;>
    simp only[Wh.Ej,hi',h0,Int.toNat_natCast,eA,hr',hr,d1,d2,d3,g0,hA,hB,hC,w,x5,iy,nQ,cond_true,cond_false,Bool.not_true,Bool.not_false,Bool.and_true,Bool.and_false,Bool.true_or,Bool.or_true,Bool.and_self,decide_true]
  ·have g0:decide ((i:Int)>0)=true:=by simpa using hz
   have gz:decide (i=0)=false:=by simp;omega
   have w2:=adf (i:=i) (by have:=hs.1;omega) hz
   have eB:List.getD s.2.2.1 (i-1) ([],[],())=gT s (i-1):=rfl
   have hq:=hp (i-1) (by omega)
   simp only[x5,Bool.and_eq_true,decide_eq_true_eq] at hq
   have q1:decide ((0:Int)<((gT s (i-1)).1.length:Int))=true:=by have:=hq.1.1.2;simp;omega
   have q2:decide (((i-1:Nat):Int)<(s.2.2.1.length:Int))=true:=by simp;omega
   have q3:decide ((0:Int)≤((i-1:Nat):Int))=true:=by simp
   have f1:List.getD (gT s i).1 0 0=ov s i:=rfl
   have f2:List.getD (gT s (i-1)).1 0 0=ov s (i-1):=rfl
   have d4:decide (ov s (i-1)≥ov s i) = !decide (ov s (i-1)<ov s i):=by
    by_cases e:ov s (i-1)<ov s i
    ·have:¬ov s i≤ov s (i-1):=by omega
     simp[e,this]
    ·have:ov s i≤ov s (i-1):=by omega
     simp[e,this]
   cases hA:zU (gT s i).1 s.1<;>cases hB:decide ((gT s i).1.length≠0)<;>cases hC:decide (((gT s i).2.1.length:Int)=s.2.1)<;>cases hD:decide (ov s (i-1)<ov s i)<;>
    simp only[Wh.Ej,hi',h0,Int.toNat_natCast,Int.toNat_zero,eA,eB,f1,f2,hr',hr,d1,d2,d3,d4,g0,gz,hA,hB,hC,hD,w,w2,q1,q2,q3,x5,iy,nQ,cond_true,cond_false,Bool.not_true,Bool.not_false,Bool.and_true,Bool.and_false,Bool.or_true,Bool.or_false,Bool.and_self,decide_true,Int.le_refl]
 refine xW (fun i=>(((i:Int),()),s)) ?_ ?_ ?_
 ·intro i hi hp h
  rw[zv i hi hp,h];rfl
 ·intro i hi hp h
  rw[zv i hi hp,h];rfl
 ·simp[Wh.Ej]
end Pc
open Go Go.Ab
namespace Pc
def CC (row:List Int)(n:Int):Bool:= !jS row.length fun j=> !(row.getD j 0==n)
theorem Yd (row:List Int)(n:Int):CC row n=true↔∃j,j<row.length∧row.getD j 0=n:=by
 unfold CC
 cases h:jS row.length fun j=> !(row.getD j 0==n) with
 |true=>
  rw[oL] at h
  simp only[Bool.not_true,Bool.false_eq_true,false_iff,not_exists,not_and]
  intro j hj e
  have:=h j hj
  simp only[e,beq_self_eq_true,Bool.not_true,Bool.false_eq_true] at this
 |false=>
  simp only[Bool.not_false,true_iff]
  by_cases e:∃j,j<row.length∧row.getD j 0=n
  ·exact e
  ·exfalso
   have:jS row.length (fun j=> !(row.getD j 0==n))=true:=by
    rw[oL];intro j hj
    simp only[Bool.not_eq_true',beq_eq_false_iff_ne,ne_eq]
    intro e2;exact e ⟨j,hj,e2⟩
   rw[h] at this;cases this
theorem alf (row:List Int)(n:Int)(h:row.length≤4611686018427387904):Wh.Fv (row,n)=some (CC row n,()):=by
 have hl:Comes Wh.Fw (((0:Int),n,row),()) (if(jS row.length fun j=> !(row.getD j 0==n))=true then .inr ((),()) else .inl (true,())):=by
  refine xW (fun i=>(((i:Int),n,row),())) ?_ ?_ ?_
  ·intro i hi _ hp
   have hi':decide ((i:Int)<(row.length:Int))=true:=by simpa using hi
   have h0:decide ((0:Int)≤(i:Int))=true:=by simp
   have hp':(row.getD i 0==n)=false:=by simpa using hp
   simp only[Wh.Fw,hi',h0,Int.toNat_natCast,hp',lg (i:=i) (by omega),iy,cond_true,cond_false,Bool.and_self]
  ·intro i hi _ hp
   have hi':decide ((i:Int)<(row.length:Int))=true:=by simpa using hi
   have h0:decide ((0:Int)≤(i:Int))=true:=by simp
   have hp':(row.getD i 0==n)=true:=by simpa using hp
   simp only[Wh.Fw,hi',h0,Int.toNat_natCast,hp',iy,cond_true,Bool.and_self]
  ·simp[Wh.Fw]
 cases hp:(jS row.length fun j=> !(row.getD j 0==n)) with
 |true=>
  rw[hp,if_pos rfl] at hl
  simp only[Wh.Fv,cb hl,cv hl,CC,hp,cond_true,Bool.not_true]
 |false=>
  rw[hp,if_neg (by simp)] at hl
  simp only[Wh.Fv,cb hl,cv hl,CC,hp,cond_true,Bool.not_false]
def Ig (s:fT.D)(i k:Nat):Bool:=decide (k=i) || !CC (gT s k).1 (ov s i)
def cross (s:fT.D):Bool:=jS s.2.2.1.length fun i=>jS s.2.2.1.length (Ig s i)
theorem ac4 (s:fT.D)(hs:BF s)(i:Nat)(hi:i<s.2.2.1.length)(hne:(gT s i).1.length≠0) :
  Comes Wh.FN (((0:Int),(i:Int),()),s) (if jS s.2.2.1.length (Ig s i)=true then .inr (((),(i:Int)),s) else .inl (false,())):=by
 have zv:∀k,k<s.2.2.1.length→Wh.FN (((k:Int),(i:Int),()),s)=bif Ig s i k then some (.inl ((((k+1:Nat):Int),(i:Int),()),s)) else some (.inr (.inl (false,()))):=by
  intro k hk
  have hr:=alf (gT s k).1 (ov s i) (hs.2 _ (NW s k hk))
  have hr':Wh.Ku ((gT s k).1,ov s i)=(CC (gT s k).1 (ov s i),()):=by simp only[Wh.Ku,bx,hr]
  have eA:List.getD s.2.2.1 i ([],[],())=gT s i:=rfl
  have eB:List.getD s.2.2.1 k ([],[],())=gT s k:=rfl
  have f1:List.getD (gT s i).1 0 0=ov s i:=rfl
  have hi':decide ((i:Int)<(s.2.2.1.length:Int))=true:=by simpa using hi
  have hk':decide ((k:Int)<(s.2.2.1.length:Int))=true:=by simpa using hk
  have h0:decide ((0:Int)≤(i:Int))=true:=by simp
  have h1:decide ((0:Int)≤(k:Int))=true:=by simp
  have h2:decide ((0:Int)<((gT s i).1.length:Int))=true:=by simp;omega
  have w:=lg (i:=k) (by have:=hs.1;omega)
  have d1:((k:Int) != (i:Int)) = !decide (k=i):=by
   by_cases e:k=i
   ·subst e;simp
   ·have:(k:Int)≠i:=by omega
    simp[e,this]
  cases hA:decide (k=i)<;>cases hB:CC (gT s k).1 (ov s i)<;>
   simp only[Wh.FN,hi',hk',h0,h1,h2,Int.toNat_natCast,Int.toNat_zero,eA,eB,f1,hr,hr',d1,hA,hB,w,Ig,iy,nQ,cond_true,cond_false,Bool.not_true,Bool.not_false,Bool.or_true,Bool.or_false,Bool.and_self,Bool.or_self,decide_true,Int.le_refl]
 refine xW (fun k=>(((k:Int),(i:Int),()),s)) ?_ ?_ ?_
 ·intro k hk _ h
  rw[zv k hk,h];rfl
 ·intro k hk _ h
  rw[zv k hk,h];rfl
 ·simp[Wh.FN]
theorem ald (s:fT.D)(hs:BF s)(hne:∀i,i<s.2.2.1.length→(gT s i).1.length≠0) :
  Comes Wh.FM (((0:Int),()),s) (if cross s=true then .inr ((),()) else .inl (false,())):=by
 refine xW (fun i=>(((i:Int),()),s)) ?_ ?_ ?_
 ·intro i hi _ h
  have hl:=ac4 s hs i hi (hne i hi)
  rw[h,if_pos rfl] at hl
  have hi':decide ((i:Int)<(s.2.2.1.length:Int))=true:=by simpa using hi
  simp only[Wh.FM,hi',cb hl,cv hl,cond_true]
  dsimp only[sumC]
  rw[lg (i:=i) (by have:=hs.1;omega)]
 ·intro i hi _ h
  have hl:=ac4 s hs i hi (hne i hi)
  rw[h,if_neg (by simp)] at hl
  have hi':decide ((i:Int)<(s.2.2.1.length:Int))=true:=by simpa using hi
  simp only[Wh.FM,hi',cb hl,cv hl,cond_true]
 ·simp[Wh.FM]
def y3 (s:fT.D):Bool:=decide (1≤s.1∧s.1≤24)&&decide (1≤s.2.1∧s.2.1≤16)&&jS s.2.2.1.length (x5 s)&&cross s
theorem Sa {s:fT.D}(h:jS s.2.2.1.length (x5 s)=true)(i:Nat)(hi:i<s.2.2.1.length):(gT s i).1.length≠0:=by
 have:=oL.1 h i hi
 simp only[x5,Bool.and_eq_true,decide_eq_true_eq] at this
 exact this.1.1.2
theorem alb (s:fT.D)(hs:BF s):Wh.Cp s=some (y3 s,()):=by
 by_cases a1:1≤s.1∧s.1≤24
 case neg=>simp[Wh.Cp,Wh.nW,bx,yc,iy,nQ,a1,y3]
 by_cases a2:1≤s.2.1∧s.2.1≤16
 case neg=>simp[Wh.Cp,Wh.nW,bx,yc,iy,nQ,a1,a2,y3]
 have hl:=alc s hs a1
 cases h1:jS s.2.2.1.length (x5 s) with
 |false=>
  rw[h1,if_neg (by simp)] at hl
  simp[Wh.Cp,Wh.nW,bx,yc,iy,nQ,a1,a2,y3,cb hl,cv hl,h1]
 |true=>
  rw[h1,if_pos rfl] at hl
  have hl2:=ald s hs (Sa h1)
  cases h2:cross s with
  |false=>
   rw[h2,if_neg (by simp)] at hl2
   simp[Wh.Cp,Wh.nW,bx,yc,iy,nQ,a1,a2,y3,cb hl,cv hl,h1,h2]
   dsimp only[sumC]
   simp only[cb hl2,cv hl2,cond_true]
  |true=>
   rw[h2,if_pos rfl] at hl2
   simp[Wh.Cp,Wh.nW,bx,yc,iy,nQ,a1,a2,y3,cb hl,cv hl,h1,h2]
   dsimp only[sumC]
   simp only[cb hl2,cv hl2,cond_true]
end Pc
open Go Go.Ab
namespace Pc
theorem Wj {row:List Int}{count:Int}(h:zU row count=true)(x:Int)(hx:x∈row):0≤x∧x<24:=by
 simp only[zU,Bool.and_eq_true,decide_eq_true_eq] at h
 obtain⟨i,hi,e⟩:=List.mem_iff_getElem.1 hx
 have:=oL.1 h.1 i hi
 simp only[Bz,Bool.and_eq_true,decide_eq_true_eq,getD_eq _ _ _ hi,e] at this
 omega
def y6 (s:fT.D)(i:Nat):List Int:=(List.range i).map (ov s)
theorem ae0 (s:fT.D)(i:Nat):y6 s (i+1)=y6 s i ++ [ov s i]:=by simp[y6,List.range_succ]
theorem N4 {s:fT.D}{i:Nat}(h:x5 s i=true):0≤ov s i∧ov s i<24:=by
 simp only[x5,Bool.and_eq_true,decide_eq_true_eq] at h
 have hp:0<(gT s i).1.length:=by have:=h.1.1.2;omega
 refine Wj h.1.1.1 _ ?_
 rw[ov,getD_eq _ _ _ hp];simp
theorem Yg {s:fT.D}{i:Nat}(h:∀j,j<i→x5 s j=true):∀x∈y6 s i,x<24:=by
 intro x hx
 simp only[y6,List.mem_map,List.mem_range] at hx
 obtain⟨j,hj,rfl⟩:=hx
 exact(N4 (h j hj)).2
theorem afi (s:fT.D)(hs:BF s)(h1:1≤s.1∧s.1≤24) :
  Comes Wh.Cn (((0:Int),(0:Int),(),s.2.2.1,(s.2.2.1.length:Int)),s) (if jS s.2.2.1.length (x5 s)=true then .inr ((((yq (y6 s s.2.2.1.length):Nat):Int),()),s) else .inl (false,())):=by
 have zv:∀i,i<s.2.2.1.length→(∀j,j<i→x5 s j=true)→Wh.Cn (((i:Int),((yq (y6 s i):Nat):Int),(),s.2.2.1,(s.2.2.1.length:Int)),s)=bif x5 s i then some (.inl ((((i+1:Nat):Int),((yq (y6 s (i+1)):Nat):Int),(),s.2.2.1,(s.2.2.1.length:Int)),s)) else some (.inr (.inl (false,()))):=by
  intro i hi hp
  have hm:=NW s i hi
  have hr:=afg (gT s i).1 s.1 (hs.2 _ hm) (by omega) (by omega)
  have hr':Wh.Km ((gT s i).1,s.1)=(zU (gT s i).1 s.1,()):=by simp only[Wh.Km,bx,hr]
  have eA:List.getD s.2.2.1 i ([],[],())=gT s i:=rfl
  have hi':decide ((i:Int)<(s.2.2.1.length:Int))=true:=by simpa using hi
  have h0:decide ((0:Int)≤(i:Int))=true:=by simp
  have w:=lg (i:=i) (by have:=hs.1;omega)
  have d1:(((gT s i).1.length:Int)==0) = !decide ((gT s i).1.length≠0):=by
   by_cases e:(gT s i).1.length=0<;>simp[e]
  have d2:(((gT s i).2.1.length:Int) != s.2.1) = !decide (((gT s i).2.1.length:Int)=s.2.1):=rfl
  have d3:decide ((0:Int)<((gT s i).1.length:Int))=decide ((gT s i).1.length≠0):=by
   by_cases e:(gT s i).1.length=0<;>simp[e];omega
  have f1:List.getD (gT s i).1 0 0=ov s i:=rfl
  have mk:x5 s i=true→nj .or .u32 ((yq (y6 s i):Nat):Int) (IntKind.wrap .u32 ((1:Int)*(2:Int) ^ Min.min (Int.toNat (ov s i)) (IntKind.bits .u32)))=((yq (y6 s (i+1)):Nat):Int):=by
   intro h
   have:=N4 h
   rw[shl32 this.1 this.2,or32 (Ok _ (Yg hp)) (pow24 this.2),ae0,Z6]
  have mk0:x5 s i=true→decide (0≤ov s i)=true:=fun h=>decide_eq_true (N4 h).1
  rcases Nat.eq_zero_or_pos i with hz|hz
  ·subst hz
   have g0:decide (((0:Nat):Int)>0)=false:=by decide
   cases hA:zU (gT s 0).1 s.1<;>cases hB:decide ((gT s 0).1.length≠0)<;>cases hC:decide (((gT s 0).2.1.length:Int)=s.2.1)
   case true.true.true=>
    have hE:x5 s 0=true:=by simp only[x5,hA,hB,hC,decide_true,Bool.true_or,Bool.and_self]
    simp only[Wh.Cn,hi',h0,Int.toNat_natCast,Int.toNat_zero,eA,f1,hr',hr,d1,d2,d3,g0,hA,hB,hC,w,mk hE,mk0 hE,hE,iy,nQ,cond_true,cond_false,Bool.not_true,Bool.not_false,Bool.and_true,Bool.true_or,Bool.or_true,Bool.and_self]
   all_goals
    simp only[Wh.Cn,hi',h0,Int.toNat_natCast,eA,hr',hr,d1,d2,d3,g0,hA,hB,hC,w,x5,iy,nQ,cond_true,cond_false,Bool.not_true,Bool.not_false,Bool.and_true,Bool.and_false,Bool.true_or,Bool.or_true,Bool.and_self,decide_true]
  ·have g0:decide ((i:Int)>0)=true:=by simpa using hz
   have gz:decide (i=0)=false:=by simp;omega
   have w2:=adf (i:=i) (by have:=hs.1;omega) hz
   have eB:List.getD s.2.2.1 (i-1) ([],[],())=gT s (i-1):=rfl
   have hq:=hp (i-1) (by omega)
   simp only[x5,Bool.and_eq_true,decide_eq_true_eq] at hq
   have q1:decide ((0:Int)<((gT s (i-1)).1.length:Int))=true:=by have:=hq.1.1.2;simp;omega
   have q2:decide (((i-1:Nat):Int)<(s.2.2.1.length:Int))=true:=by simp;omega
   have q3:decide ((0:Int)≤((i-1:Nat):Int))=true:=by simp
   have f2:List.getD (gT s (i-1)).1 0 0=ov s (i-1):=rfl
   have d4:decide (ov s (i-1)≥ov s i) = !decide (ov s (i-1)<ov s i):=by
    by_cases e:ov s (i-1)<ov s i
    ·have:¬ov s i≤ov s (i-1):=by omega
     simp[e,this]
    ·have:ov s i≤ov s (i-1):=by omega
     simp[e,this]
   cases hA:zU (gT s i).1 s.1<;>cases hB:decide ((gT s i).1.length≠0)<;>cases hC:decide (((gT s i).2.1.length:Int)=s.2.1)<;>cases hD:decide (ov s (i-1)<ov s i)
   case true.true.true.true=>
    have hE:x5 s i=true:=by simp only[x5,hA,hB,hC,hD,Bool.or_true,Bool.and_self]
    simp only[Wh.Cn,hi',h0,Int.toNat_natCast,Int.toNat_zero,eA,eB,f1,f2,hr',hr,d1,d2,d3,d4,g0,hA,hB,hC,hD,w,w2,q1,q2,q3,mk hE,mk0 hE,hE,iy,nQ,cond_true,cond_false,Bool.not_true,Bool.not_false,Bool.or_true,Bool.and_self,decide_true,Int.le_refl]
   all_goals
    simp only[Wh.Cn,hi',h0,Int.toNat_natCast,Int.toNat_zero,eA,eB,f1,f2,hr',hr,d1,d2,d3,d4,g0,gz,hA,hB,hC,hD,w,w2,q1,q2,q3,x5,iy,nQ,cond_true,cond_false,Bool.not_true,Bool.not_false,Bool.and_true,Bool.and_false,Bool.or_true,Bool.or_false,Bool.and_self,decide_true,Int.le_refl]
 have e0:((yq (y6 s 0):Nat):Int)=0:=rfl
 refine e0▸xW (fun i=>(((i:Int),((yq (y6 s i):Nat):Int),(),s.2.2.1,(s.2.2.1.length:Int)),s)) ?_ ?_ ?_
 ·intro i hi hp h
  rw[zv i hi hp,h];rfl
 ·intro i hi hp h
  rw[zv i hi hp,h];rfl
 ·simp[Wh.Cn]
def An (s:fT.D)(k:Nat):List Int:=(gT s k).1.drop 1
def Ce (s:fT.D)(k:Nat):Bool:=decide (yq (An s k) &&& yq (y6 s s.2.2.1.length)=0)
theorem afj (s:fT.D)(hs:BF s)(ha:jS s.2.2.1.length (x5 s)=true) :
  Comes Wh.FF (((0:Int),((yq (y6 s s.2.2.1.length):Nat):Int),s.2.2.1,(s.2.2.1.length:Int)),()) (if jS s.2.2.1.length (Ce s)=true then .inr ((),()) else .inl (false,())):=by
 have zv:∀k,k<s.2.2.1.length→Wh.FF (((k:Int),((yq (y6 s s.2.2.1.length):Nat):Int),s.2.2.1,(s.2.2.1.length:Int)),())=bif Ce s k then some (.inl ((((k+1:Nat):Int),((yq (y6 s s.2.2.1.length):Nat):Int),s.2.2.1,(s.2.2.1.length:Int)),())) else some (.inr (.inl (false,()))):=by
  intro k hk
  have hm:=NW s k hk
  have hl:=hs.2 _ hm
  have hq:=oL.1 ha k hk
  simp only[x5,Bool.and_eq_true,decide_eq_true_eq] at hq
  have hne:=hq.1.1.2
  have hmem:∀x∈An s k,0≤x∧x<24:=fun x hx=>Wj hq.1.1.1 x (List.mem_of_mem_drop hx)
  have hr:=afm (An s k) (by rw[An,List.length_drop];omega) hmem
  have hr':Wh.Ky (An s k)=(((yq (An s k):Nat):Int),()):=by simp only[Wh.Ky,bx,hr]
  have eA:List.getD s.2.2.1 k ([],[],())=gT s k:=rfl
  have et:List.take (Int.toNat (((gT s k).1.length:Int)-1)) (List.drop (Int.toNat 1) (gT s k).1)=An s k:=by
   rw[An]
   exact List.take_of_length_le (by simp)
  have hk':decide ((k:Int)<(s.2.2.1.length:Int))=true:=by simpa using hk
  have h0:decide ((0:Int)≤(k:Int))=true:=by simp
  have h1:decide ((1:Int)≤((gT s k).1.length:Int))=true:=by simp;omega
  have w:=lg (i:=k) (by have:=hs.1;omega)
  have ea:=and32 (Ok _ fun x hx=>(hmem x hx).2) (Ok _ (Yg (oL.1 ha)))
  have en:(((yq (An s k) &&& yq (y6 s s.2.2.1.length):Nat):Int) != 0) = !Ce s k:=by
   unfold Ce
   by_cases e:yq (An s k) &&& yq (y6 s s.2.2.1.length)=0
   ·rw[e];rfl
   ·rw[decide_eq_false e,Bool.not_false,bne_iff_ne];omega
  cases hc:Ce s k<;>
   simp only[Wh.FF,hk',h0,h1,Int.toNat_natCast,eA,et,hr,hr',ea,en,hc,w,iy,nQ,cond_true,cond_false,Bool.not_true,Bool.not_false,Bool.and_self,decide_true,Int.le_refl]
 refine xW (fun k=>(((k:Int),((yq (y6 s s.2.2.1.length):Nat):Int),s.2.2.1,(s.2.2.1.length:Int)),())) ?_ ?_ ?_
 ·intro k hk _ h
  rw[zv k hk,h];rfl
 ·intro k hk _ h
  rw[zv k hk,h];rfl
 ·simp[Wh.FF]
end Pc
open Go Go.Ab
namespace Pc
theorem asc {f:Nat→Int}{n:Nat}(h:∀i,0<i→i<n→f (i-1)<f i):∀j i,i<j→j<n→f i<f j:=by
 intro j
 induction j with
 |zero=>intro i hi;omega
 |succ j ih=>
  intro i hi hj
  have h1:f j<f (j+1):=h (j+1) (by omega) hj
  by_cases e:i=j
  ·subst e;exact h1
  ·have:=ih i (by omega) (by omega)
   omega
theorem akS {row:List Int}{count:Int}(h:zU row count=true)(m:Nat)(hm:0<m)(hl:m<row.length):row.getD 0 0<row.getD m 0:=by
 simp only[zU,Bool.and_eq_true] at h
 refine asc (f:=fun i=>row.getD i 0) (n:=row.length) ?_ m 0 hm hl
 intro i h0 hi
 have:=oL.1 h.1 i hi
 simp only[Bz,Bool.and_eq_true,Bool.or_eq_true,decide_eq_true_eq] at this
 exact this.2.resolve_left (by omega)
theorem N5 {s:fT.D}(h:jS s.2.2.1.length (x5 s)=true):∀j i,i<j→j<s.2.2.1.length→ov s i<ov s j:=by
 refine asc ?_
 intro i h0 hi
 have:=oL.1 h i hi
 simp only[x5,Bool.and_eq_true,Bool.or_eq_true,decide_eq_true_eq] at this
 exact this.2.resolve_left (by omega)
theorem Py {s:fT.D}(h:jS s.2.2.1.length (x5 s)=true){k:Nat}(hk:k<s.2.2.1.length):zU (gT s k).1 s.1=true:=by
 have:=oL.1 h k hk
 simp only[x5,Bool.and_eq_true] at this
 exact this.1.1.1
theorem SZ {s:fT.D}{k:Nat}{x:Int}:x∈An s k↔∃m,0<m∧m<(gT s k).1.length∧(gT s k).1.getD m 0=x:=by
 rw[An,List.mem_iff_getElem]
 constructor
 ·rintro⟨i,hi,e⟩
  rw[List.length_drop] at hi
  refine⟨i+1,by omega,by omega,?_⟩
  rw[getD_eq _ _ _ (by omega:i+1<(gT s k).1.length)]
  rw[List.getElem_drop] at e
  simpa[Nat.add_comm] using e
 ·rintro⟨m,h0,hm,e⟩
  refine⟨m-1,by rw[List.length_drop];omega,?_⟩
  rw[List.getElem_drop]
  rw[getD_eq _ _ _ hm] at e
  have:1+(m-1)=m:=by omega
  simp only[this]
  exact e
theorem Z5 {s:fT.D}{n:Nat}{x:Int}:x∈y6 s n↔∃i,i<n∧ov s i=x:=by simp[y6]
theorem SY {s:fT.D}(ha:jS s.2.2.1.length (x5 s)=true){k:Nat}(hk:k<s.2.2.1.length) :
  Ce s k=true↔∀i,i<s.2.2.1.length→ov s i∉An s k:=by
 have hr:=Py ha hk
 unfold Ce
 rw[decide_eq_true_eq]
 constructor
 ·intro h i hi hm
  have h1:(yq (An s k)).testBit (ov s i).toNat=true:=by
   rw[Ol,List.any_eq_true];exact⟨_,hm,by simp⟩
  have h2:(yq (y6 s s.2.2.1.length)).testBit (ov s i).toNat=true:=by
   rw[Ol,List.any_eq_true];exact⟨_,Z5.2 ⟨i,hi,rfl⟩,by simp⟩
  have:(yq (An s k) &&& yq (y6 s s.2.2.1.length)).testBit (ov s i).toNat=true:=by rw[Nat.testBit_and,h1,h2];rfl
  rw[h,Nat.zero_testBit] at this;cases this
 ·intro h
  apply Nat.eq_of_testBit_eq
  intro j
  rw[Nat.testBit_and,Nat.zero_testBit,Ol,Ol,Bool.and_eq_false_iff]
  cases h1:(An s k).any fun x=>decide (x.toNat=j) with
  |false=>exact .inl rfl
  |true=>
   refine .inr ?_
   cases h2:(y6 s s.2.2.1.length).any fun x=>decide (x.toNat=j) with
   |false=>rfl
   |true=>
    exfalso
    obtain⟨x,hx,ex⟩:=List.any_eq_true.1 h1
    obtain⟨y,hy,ey⟩:=List.any_eq_true.1 h2
    simp only[decide_eq_true_eq] at ex ey
    obtain⟨i,hi,rfl⟩:=Z5.1 hy
    have b1:=N4 (oL.1 ha i hi)
    have b2:=Wj hr x (List.mem_of_mem_drop hx)
    have:x=ov s i:=by omega
    subst this
    exact h i hi hx
theorem Xz {s:fT.D}(ha:jS s.2.2.1.length (x5 s)=true):jS s.2.2.1.length (Ce s)=cross s:=by
 have hne:=Sa ha
 have key:jS s.2.2.1.length (Ce s)=true↔cross s=true:=by
  rw[oL,cross,oL]
  constructor
  ·intro h i hi
   rw[oL]
   intro k hk
   simp only[Ig,Bool.or_eq_true,decide_eq_true_eq]
   by_cases e:k=i
   ·exact .inl e
   ·refine .inr ?_
    cases hh:CC (gT s k).1 (ov s i) with
    |false=>rfl
    |true=>
     exfalso
     obtain⟨j,hj,ej⟩:=(Yd _ _).1 hh
     rcases Nat.eq_zero_or_pos j with hz|hz
     ·subst hz
      have e2:ov s k=ov s i:=ej
      rcases Nat.lt_or_gt_of_ne e with hlt|hlt
      ·have:=N5 ha i k hlt hi;omega
      ·have:=N5 ha k i hlt hk;omega
     ·exact(SY ha hk).1 (h k hk) i hi (SZ.2 ⟨j,hz,hj,ej⟩)
  ·intro h k hk
   rw[SY ha hk]
   intro i hi hm
   obtain⟨m,h0,hml,e⟩:=SZ.1 hm
   have:=oL.1 (h i hi) k hk
   simp only[Ig,Bool.or_eq_true,decide_eq_true_eq] at this
   rcases this with hki|hn
   ·subst hki
    have:=akS (Py ha hk) m h0 hml
    rw[e] at this
    unfold ov at this
    omega
   ·have:CC (gT s k).1 (ov s i)=true:=(Yd _ _).2 ⟨m,hml,e⟩
    rw[this] at hn;cases hn
 cases h1:jS s.2.2.1.length (Ce s)<;>cases h2:cross s
 ·rfl
 ·rw[key.2 h2] at h1;cases h1
 ·rw[key.1 h1] at h2;cases h2
 ·rfl
theorem afh (s:fT.D)(hs:BF s):Wh.Cm s=some (y3 s,()):=by
 by_cases a1:1≤s.1∧s.1≤24
 case neg=>simp[Wh.Cm,Wh.pg,bx,ye,iy,nQ,a1,y3]
 by_cases a2:1≤s.2.1∧s.2.1≤16
 case neg=>simp[Wh.Cm,Wh.pg,bx,ye,iy,nQ,a1,a2,y3]
 have hl:=afi s hs a1
 cases h1:jS s.2.2.1.length (x5 s) with
 |false=>
  rw[h1,if_neg (by simp)] at hl
  simp[Wh.Cm,Wh.pg,bx,ye,iy,nQ,a1,a2,y3,cb hl,cv hl,h1]
 |true=>
  rw[h1,if_pos rfl] at hl
  have hl2:=afj s hs h1
  rw[Xz h1] at hl2
  cases h2:cross s with
  |false=>
   rw[h2,if_neg (by simp)] at hl2
   simp[Wh.Cm,Wh.pg,bx,ye,iy,nQ,a1,a2,y3,cb hl,cv hl,h1,h2]
   dsimp only[sumC]
   simp only[cb hl2,cv hl2,cond_true]
  |true=>
   rw[h2,if_pos rfl] at hl2
   simp[Wh.Cm,Wh.pg,bx,ye,iy,nQ,a1,a2,y3,cb hl,cv hl,h1,h2]
   dsimp only[sumC]
   simp only[cb hl2,cv hl2,cond_true]
end Pc
open Go Go.Ab
namespace Pc
def scan (p:Nat→Bool):Nat→Nat→Nat
 |0,k=>k
 |d+1,k=>if p k=true then scan p d (k+1) else k
theorem KP (p:Nat→Bool):∀d k,k≤scan p d k∧scan p d k≤k+d∧(∀j,k≤j→j<scan p d k→p j=true)∧(scan p d k<k+d→p (scan p d k)=false)
 |0,k=>⟨Nat.le_refl _,Nat.le_refl _,fun j h1 h2=>by simp only[scan] at h2;omega,fun h=>by simp only[scan] at h;omega⟩
 |d+1,k=>by
  unfold scan
  by_cases h:p k=true
  ·rw[if_pos h]
   obtain⟨a,b,c,e⟩:=KP p d (k+1)
   refine⟨by omega,by omega,fun j h1 h2=>?_,fun hh=>e (by omega)⟩
   by_cases ej:j=k
   ·subst ej;exact h
   ·exact c j (by omega) h2
  ·rw[if_neg h]
   refine⟨Nat.le_refl _,by omega,fun j h1 h2=>by omega,fun _=>by simpa using h⟩
theorem B8 {X Y:Type}{r:X→Option (X⊕Y)}(st:Nat→X){n:Nat}(p:Nat→Bool)(yf:Nat→Y)(hs:∀i,i<n→p i=true→r (st i)=some (.inl (st (i+1))))
  (hf:∀i,i<n→p i=false→r (st i)=some (.inr (yf i))) (he:r (st n)=some (.inr (yf n))):Comes r (st 0) (yf (scan p n 0)):=by
 have main:∀d k,k+d=n→Comes r (st k) (yf (scan p d k)):=by
  intro d
  induction d with
  |zero=>intro k hk;have:k=n:=by omega
         subst this;exact .out he
  |succ d ih=>
   intro k hk
   unfold scan
   cases hp:p k with
   |true=>rw[if_pos rfl];exact .again (hs k (by omega) hp) (ih (k+1) (by omega))
   |false=>rw[if_neg (by simp)];exact .out (hf k (by omega) hp)
 exact main n 0 (by omega)
def A2 (s:fT.D)(n:Int)(i:Nat):Bool:=decide ((gT s i).1.length=1)&&decide (ov s i=n)
def yQ (s:fT.D)(n:Int):Nat:=scan (fun i=> !A2 s n i) s.2.2.1.length 0
def za (s:fT.D)(n:Int):List UInt8×Bool:=if yQ s n<s.2.2.1.length then((gT s (yQ s n)).2.1,true) else([],false)
theorem Ya {s:fT.D}{n:Int}(h:yQ s n<s.2.2.1.length):A2 s n (yQ s n)=true:=by
 have:=(KP (fun i=> !A2 s n i) s.2.2.1.length 0).2.2.2 (by rw[Nat.zero_add];exact h)
 simpa[yQ] using this
theorem aeW {s:fT.D}{n:Int}{i:Nat}(_hi:i<s.2.2.1.length)(h:A2 s n i=true):yQ s n≤i:=by
 rcases Nat.lt_or_ge i (yQ s n) with hl|hl
 ·have:=(KP (fun i=> !A2 s n i) s.2.2.1.length 0).2.2.1 i (Nat.zero_le _) hl
  simp[h] at this
 ·exact hl
theorem len1 (l:List Int):((l.length:Int)==1)=decide (l.length=1):=by
 by_cases e:l.length=1
 ·rw[e];rfl
 ·have:¬(l.length:Int)=1:=by omega
  rw[decide_eq_false e];simpa using this
theorem Sp (s:fT.D)(hs:BF s)(n:Int):Wh.D9 (s,n)=some (za s n,()):=by
 have zv:∀i,i<s.2.2.1.length→Wh.Fz (((i:Int),n,s.2.2.1,(s.2.2.1.length:Int)),())=bif !A2 s n i then some (.inl ((((i+1:Nat):Int),n,s.2.2.1,(s.2.2.1.length:Int)),())) else some (.inr (.inl (((gT s i).2.1,true),()))):=by
  intro i hi
  have eA:List.getD s.2.2.1 i ([],[],())=gT s i:=rfl
  have f1:List.getD (gT s i).1 0 0=ov s i:=rfl
  have hi':decide ((i:Int)<(s.2.2.1.length:Int))=true:=by simpa using hi
  have h0:decide ((0:Int)≤(i:Int))=true:=by simp
  have w:=lg (i:=i) (by have:=hs.1;omega)
  have d1:=len1 (gT s i).1
  have d2:(ov s i==n)=decide (ov s i=n):=rfl
  have d3:(!decide ((gT s i).1.length=1) || decide ((0:Int)<((gT s i).1.length:Int)))=true:=by
   by_cases e:(gT s i).1.length=1
   ·simp[e]
   ·simp[e]
  cases hA:decide ((gT s i).1.length=1)<;>cases hB:decide (ov s i=n)<;>simp only[hA,Bool.not_true,Bool.not_false,Bool.true_or,Bool.false_or] at d3<;>
   simp only[Wh.Fz,hi',h0,Int.toNat_natCast,Int.toNat_zero,eA,f1,d1,d2,hA,hB,d3,w,A2,iy,cond_true,cond_false,Bool.not_true,Bool.not_false,Bool.and_true,Bool.and_false,Bool.true_or,Bool.or_true,Bool.and_self,decide_true,Int.le_refl]
 have hl:Comes Wh.Fz (((0:Int),n,s.2.2.1,(s.2.2.1.length:Int)),()) (if yQ s n<s.2.2.1.length then .inl (((gT s (yQ s n)).2.1,true),()) else .inr ((),())):=by
  refine B8 (fun i=>(((i:Int),n,s.2.2.1,(s.2.2.1.length:Int)),())) (fun i=> !A2 s n i) (fun i=>if i<s.2.2.1.length then(.inl (((gT s i).2.1,true),()):((List UInt8×Bool)×Unit)⊕(Unit×Unit)) else .inr ((),())) ?_ ?_ ?_
  ·intro i hi h
   simp only[zv i hi];rw[h];rfl
  ·intro i hi h
   simp only[zv i hi];rw[h,if_pos hi];rfl
  ·simp[Wh.Fz]
 by_cases h:yQ s n<s.2.2.1.length
 ·rw[if_pos h] at hl
  simp only[Wh.D9,cb hl,cv hl,za,if_pos h,cond_true]
 ·rw[if_neg h] at hl
  simp only[Wh.D9,cb hl,cv hl,za,if_neg h,cond_true]
def pre (s:fT.D):Nat:=scan (fun n=>(za s n).2) s.1.toNat 0
theorem YC (s:fT.D)(hs:BF s)(h1:1≤s.1∧s.1≤24):Wh.FR s=some ((pre s:Int),()):=by
 have hl:Comes Wh.FV (((0:Int),()),s) ((pre s:Int),()):=by
  refine B8 (fun n=>(((n:Int),()),s)) (n:=s.1.toNat) (fun n=>(za s n).2) (fun n=>((n:Int),())) ?_ ?_ ?_
  ·intro i hi h
   have hi':decide ((i:Int)<s.1)=true:=by simp;omega
   have w:=lg (i:=i) (by omega)
   simp only[Wh.FV,hi',Wh.IM,bx,Sp s hs,h,w,iy,nQ,cond_true,cond_false,Bool.not_true]
  ·intro i hi h
   have hi':decide ((i:Int)<s.1)=true:=by simp;omega
   simp only[Wh.FV,hi',Wh.IM,bx,Sp s hs,h,iy,nQ,cond_true,Bool.not_false]
  ·have hi':decide (((s.1.toNat:Nat):Int)<s.1)=false:=by simp;omega
   simp only[Wh.FV,hi',cond_false]
 simp only[Wh.FR,cb hl,cv hl,cond_true]
theorem aeX {s:fT.D}(h:y3 s=true):(za s s.1).2=false:=by
 simp only[y3,Bool.and_eq_true] at h
 have ha:=h.1.2
 unfold za
 by_cases hi:yQ s s.1<s.2.2.1.length
 ·exfalso
  have cE:=Ya hi
  simp only[A2,Bool.and_eq_true,decide_eq_true_eq] at cE
  have hro:=Py ha hi
  simp only[zU,Bool.and_eq_true] at hro
  have hp:0<(gT s (yQ s s.1)).1.length:=by omega
  have:=oL.1 hro.1 0 hp
  simp only[Bz,Bool.and_eq_true,decide_eq_true_eq] at this
  have e:=cE.2
  unfold ov at e
  omega
 ·rw[if_neg hi]
end Pc
open Go Go.Ab
namespace Pc
theorem Xh {f:Nat→Int}{n:Nat}(h:∀i,0<i→i<n→f (i-1)<f i):∀j,j<n→∀i,i≤j→f i+((j:Int)-i)≤f j:=by
 intro j
 induction j with
 |zero=>intro _ i hi;have:i=0:=by omega
        subst this;omega
 |succ j ih=>
  intro hj i hi
  by_cases e:i=j+1
  ·subst e;omega
  ·have h1:f j<f (j+1):=h (j+1) (by omega) hj
   have:=ih (by omega) i (by omega)
   omega
theorem IV {s:fT.D}(h:y3 s=true):(1≤s.1∧s.1≤24)∧(1≤s.2.1∧s.2.1≤16)∧jS s.2.2.1.length (x5 s)=true∧cross s=true:=by
 simp only[y3,Bool.and_eq_true,decide_eq_true_eq] at h
 exact⟨h.1.1.1,h.1.1.2,h.1.2,h.2⟩
theorem Yf {s:fT.D}(ha:jS s.2.2.1.length (x5 s)=true){k m:Nat}(hk:k<s.2.2.1.length)(hm:m<(gT s k).1.length):0≤(gT s k).1.getD m 0∧(gT s k).1.getD m 0≤s.1-1:=by
 have:=Py ha hk
 simp only[zU,Bool.and_eq_true] at this
 have:=oL.1 this.1 m hm
 simp only[Bz,Bool.and_eq_true,decide_eq_true_eq] at this
 exact this.1
theorem aeZ {s:fT.D}(h:jS s.2.2.1.length (x5 s)=true):∀i,0<i→i<s.2.2.1.length→ov s (i-1)<ov s i:=
 fun i h0 hi=>N5 h i (i-1) (by omega) hi
theorem adA {s:fT.D}(h:y3 s=true):((pre s:Nat):Int)=s.1↔(s.2.2.1.length:Int)=s.1:=by
 obtain⟨h1,_,ha,hx⟩:=IV h
 have hne:=Sa ha
 have hb:∀i,i<s.2.2.1.length→0≤ov s i∧ov s i≤s.1-1:=fun i hi=>Yf ha hi (by have:=hne i hi;omega)
 have sp:=KP (fun n=>(za s n).2) s.1.toNat 0
 have sp':pre s≤s.1.toNat∧(∀j,j<pre s→(za s j).2=true)∧(pre s<s.1.toNat→(za s (pre s)).2=false):=
  ⟨by have:=sp.2.1;unfold pre;omega,fun j hj=>sp.2.2.1 j (Nat.zero_le _) hj,fun hh=>sp.2.2.2 (by unfold pre at hh;omega)⟩
 have gap:=Xh (aeZ ha)
 have hle:(s.2.2.1.length:Int)≤s.1:=by
  rcases Nat.eq_zero_or_pos s.2.2.1.length with hz|hz
  ·omega
  ·have a:=gap (s.2.2.1.length-1) (by omega) 0 (Nat.zero_le _)
   have b:=hb (s.2.2.1.length-1) (by omega)
   have c:=hb 0 (by omega)
   omega
 constructor
 ·intro hp
  have hin:∀n:Nat,n<s.1.toNat→yQ s n<s.2.2.1.length∧ov s (yQ s n)=n:=by
   intro n hn
   have:=sp'.2.1 n (by omega)
   unfold za at this
   by_cases hi:yQ s n<s.2.2.1.length
   ·have cE:=Ya hi
    simp only[A2,Bool.and_eq_true,decide_eq_true_eq] at cE
    exact⟨hi,cE.2⟩
   ·rw[if_neg hi] at this;cases this
  have g2:=Xh (f:=fun n=>(yQ s n:Int)) (n:=s.1.toNat) (by
   intro i h0 hi
   have a:=hin i hi
   have b:=hin (i-1) (by omega)
   show((yQ s ((i-1:Nat):Int):Nat):Int)<((yQ s (i:Int):Nat):Int)
   rcases Nat.lt_trichotomy (yQ s ((i-1:Nat):Int)) (yQ s (i:Int)) with hlt|heq|hgt
   ·omega
   ·rw[heq] at b;omega
   ·have:=N5 ha _ _ hgt b.1;omega)
  have c:=g2 (s.1.toNat-1) (by omega) 0 (Nat.zero_le _)
  have d:=(hin (s.1.toNat-1) (by omega)).1
  omega
 ·intro hl
  have hd:∀i,i<s.2.2.1.length→ov s i=i:=by
   intro i hi
   have a:=gap i hi 0 (Nat.zero_le _)
   have b:=gap (s.2.2.1.length-1) (by omega) i (by omega)
   have c:=hb 0 (by omega)
   have d:=hb (s.2.2.1.length-1) (by omega)
   omega
  have hm:jS s.2.2.1.length (Ce s)=true:=by rw[Xz ha];exact hx
  have hone:∀i,i<s.2.2.1.length→(gT s i).1.length=1:=by
   intro i hi
   by_cases e:(gT s i).1.length=1
   ·exact e
   ·exfalso
    have h2:1<(gT s i).1.length:=by have:=hne i hi;omega
    have hr:=Yf ha hi h2
    have ht:(gT s i).1.getD 1 0∈An s i:=SZ.2 ⟨1,by omega,h2,rfl⟩
    have hlt:((gT s i).1.getD 1 0).toNat<s.2.2.1.length:=by omega
    have:=(SY ha hi).1 (oL.1 hm i hi) _ hlt
    rw[hd _ hlt] at this
    have e2:((((gT s i).1.getD 1 0).toNat:Nat):Int)=(gT s i).1.getD 1 0:=by omega
    rw[e2] at this
    exact this ht
  have j5:∀n:Nat,n<s.2.2.1.length→(za s n).2=true:=by
   intro n hn
   have:yQ s n≤n:=aeW hn (by simp only[A2,hone n hn,hd n hn,decide_true,Bool.and_self])
   unfold za
   rw[if_pos (by omega)]
  by_cases hlt:pre s<s.1.toNat
  ·have a:=sp'.2.2 hlt
   rw[j5 (pre s) (by omega)] at a
   cases a
  ·have:=sp'.1
   omega
theorem Dj (a b:Int):(a==b)=decide (a=b):=rfl
def z6 (g:th.D):Bool:=zg g.1&&y3 g.2.1&&decide (g.2.1.1=cnt g.1)&&decide (g.2.1.2.1=g.1.2.1)
theorem J_ {p:so.D}(h:zg p=true):(1≤p.1∧p.1≤300)∧(1≤p.2.1∧p.2.1≤16):=by
 simp only[zg,zQ,Bool.and_eq_true,decide_eq_true_eq] at h
 exact⟨h.1.1.1.1.1.1,h.1.1.1.1.1.2⟩
theorem ac3 (g:th.D)(hg:BE g):Wh.DX g=some (z6 g,()):=by
 have hP:=ak9 g.1
 have hS:=alb g.2.1 hg.2
 cases h1:zg g.1 with
 |false=>simp only[Wh.DX,Wh.Ki,bx,Wh.KG,bx,hP,hS,h1,z6,iy,nQ,cond_true,cond_false,Bool.not_false,Bool.false_and,Bool.true_or,Bool.and_self]
 |true=>
  obtain⟨a1,a2⟩:=J_ h1
  have hc:=Pz g.1 a1 a2
  have d1:(g.2.1.1==cnt g.1)=decide (g.2.1.1=cnt g.1):=Dj _ _
  have d2:(g.2.1.2.1==g.1.2.1)=decide (g.2.1.2.1=g.1.2.1):=Dj _ _
  cases h2:y3 g.2.1<;>cases h3:decide (g.2.1.1=cnt g.1)<;>
   simp only[Wh.DX,Wh.Ki,bx,Wh.KG,bx,Wh.zh,bx,hP,hS,hc,d1,d2,h1,h2,h3,z6,iy,nQ,cond_true,cond_false,Bool.not_true,Bool.not_false,Bool.true_and,Bool.false_and,Bool.and_true,Bool.and_false,Bool.or_true,Bool.and_self]
theorem YA (g:th.D)(hg:BE g):Wh.DT g=some (z6 g,()):=by
 have hP:=afe g.1
 have hS:=afh g.2.1 hg.2
 cases h1:zg g.1 with
 |false=>simp only[Wh.DT,Wh.Kf,bx,Wh.KB,bx,hP,hS,h1,z6,iy,nQ,cond_true,cond_false,Bool.not_false,Bool.false_and,Bool.true_or,Bool.and_self]
 |true=>
  obtain⟨a1,a2⟩:=J_ h1
  have hc:=So g.1 a1 a2
  have d1:(g.2.1.1==cnt g.1)=decide (g.2.1.1=cnt g.1):=Dj _ _
  have d2:(g.2.1.2.1==g.1.2.1)=decide (g.2.1.2.1=g.1.2.1):=Dj _ _
  cases h2:y3 g.2.1<;>cases h3:decide (g.2.1.1=cnt g.1)<;>
   simp only[Wh.DT,Wh.Kf,bx,Wh.KB,bx,Wh.zq,bx,hP,hS,hc,d1,d2,h1,h2,h3,z6,iy,nQ,cond_true,cond_false,Bool.not_true,Bool.not_false,Bool.true_and,Bool.false_and,Bool.and_true,Bool.and_false,Bool.or_true,Bool.and_self]
theorem JQ {g:th.D}(h:z6 g=true):zg g.1=true∧y3 g.2.1=true∧g.2.1.1=cnt g.1∧g.2.1.2.1=g.1.2.1:=by
 simp only[z6,Bool.and_eq_true,decide_eq_true_eq] at h
 exact⟨h.1.1.1,h.1.1.2,h.1.2,h.2⟩
def BL (g:th.D):Bool:=z6 g&&decide ((g.2.1.2.2.1.length:Int)=cnt g.1)
theorem ak6 (g:th.D)(hg:BE g):Wh.CL g=some (BL g,()):=by
 have hO:=ac3 g hg
 have hO':=Wh.UK _ _ hO
 rcases Bool.eq_false_or_eq_true (z6 g) with h1|h1
 case inr=>simp only[Wh.CL,hO',hO,h1,BL,iy,nQ,cond_true,cond_false,Bool.not_false,Bool.false_and,Bool.true_or,Bool.and_self]
 case inl=>
  obtain⟨a1,a2⟩:=J_ (JQ h1).1
  have hc:=Pz g.1 a1 a2
  have aJ:=Wh.CM _ _ hc
  have d1:((g.2.1.2.2.1.length:Int)==cnt g.1)=decide ((g.2.1.2.2.1.length:Int)=cnt g.1):=Dj _ _
  simp only[Wh.CL,hO',aJ,hO,hc,h1,d1,BL,iy,nQ,cond_true,Bool.not_true,Bool.true_and,Bool.false_or,Bool.and_self]
theorem afk (g:th.D)(hg:BE g)(h:z6 g=true):Wh.BR g=some (BL g,()):=by
 obtain⟨_,hs,e1,e2⟩:=JQ h
 have hp:=YC g.2.1 hg.2 (IV hs).1
 have hp':=Wh.q9_v _ _ hp
 have hd:=adA hs
 have:(((pre g.2.1:Nat):Int)==g.2.1.1)=BL g:=by
  unfold BL
  rw[h,Bool.true_and,←e1]
  rw[Dj]
  by_cases e:((pre g.2.1:Nat):Int)=g.2.1.1
  ·rw[decide_eq_true e,decide_eq_true (hd.1 e)]
  ·rw[decide_eq_false e,decide_eq_false (fun hh=>e (hd.2 hh))]
 simp only[Wh.BR,hp',hp,this,iy,nQ,cond_true]
end Pc
open Go Go.Ab
namespace Pc
def Gz (g:th.D):Bool:=
 (g.1.1==0)&&(g.1.2.1==0)&&((g.1.2.2.1.length:Int)==0)&&((g.1.2.2.2.1.length:Int)==0)&&(g.2.1.1==0)&&(g.2.1.2.1==0)&&((g.2.1.2.2.1.length:Int)==0)
theorem afn (g:th.D):Wh.G3 g=some (Gz g,()):=by
 simp only[Wh.G3,Gz,Bool.cond_false_right]
theorem ak8 (c:nc.D):Wh.GG c=some (Gz c.2.2.2.2.2.1,()):=by
 simp only[Wh.GG,Gz,Bool.cond_false_right]
 congr 2
 generalize ((c.2.2.2.2.2.1.1.2.2.1.length:Int)==0)=a1
 generalize ((c.2.2.2.2.2.1.1.2.2.2.1.length:Int)==0)=a2
 generalize (c.2.2.2.2.2.1.1.1==0)=a3
 generalize (c.2.2.2.2.2.1.1.2.1==0)=a4
 generalize (c.2.2.2.2.2.1.2.1.1==0)=a5
 generalize (c.2.2.2.2.2.1.2.1.2.1==0)=a6
 generalize ((c.2.2.2.2.2.1.2.1.2.2.1.length:Int)==0)=a7
 cases a1<;>cases a2<;>cases a3<;>cases a4<;>simp
def AH (c:nc.D):Bool:=
 decide (0≤c.1∧c.1≤3)&&decide (0≤c.2.1∧c.2.1≤99999)&&decide (0≤c.2.2.1∧c.2.2.1≤4)&&decide (0≤c.2.2.2.2.1∧c.2.2.2.2.1≤99999) &&
 (bif c.2.2.2.2.1==0 then Gz c.2.2.2.2.2.1 else z6 c.2.2.2.2.2.1) &&
 (bif c.2.2.1==0 then c.2.2.2.1 == []&&c.2.2.2.2.1==0 else
  !(c.2.1==0)&&Dv c.2.2.2.1 &&
  (bif c.2.2.1==2 then !(c.2.2.2.2.1==0) && !BL c.2.2.2.2.2.1 else bif c.2.2.1==3 then !(c.2.2.2.2.1==0)&&BL c.2.2.2.2.2.1 else c.2.2.2.2.1==0 || !BL c.2.2.2.2.2.1))
theorem ak5 (c:nc.D)(hg:BE c.2.2.2.2.2.1)(hn:c.2.2.2.1.length≤4611686018427387904):Wh.q77 c=some (AH c,()):=by
 have hL:∀x lo hi,Wh.nW (x,lo,hi)=(decide (lo≤x∧x≤hi),()):=fun x lo hi=>Wh.zI _ _ (yc x lo hi)
 have hN:=ak8 c
 have hN':=Wh.aaA _ _ hN
 have hO:=ac3 _ hg
 have hO':=Wh.UK _ _ hO
 have hD:=ak6 _ hg
 have hD':=Wh.aat _ _ hD
 have hM:=ak7 _ hn
 have hM':=Wh.T4 _ _ hM
 obtain⟨id,a,st,name,n,g,u⟩:=c
 dsimp only at hN hN' hO hO' hD hD' hM hM' ⊢
 simp only[Wh.q77,AH,hL,yc,hN,hN',hO,hO',hD,hD',hM,hM',nQ,Bool.or_true,iy,Bool.and_self,cond_true]
 have e4:(n>0)=(0<n):=rfl
 simp only[e4]
 generalize hb:BL g=b
 generalize hc:z6 g=gc
 generalize hd:Gz g=gd
 generalize he:Dv name=ge
 cases h1:decide (0≤id∧id≤3)
 case false=>simp only[Bool.not_false,cond_true,Bool.false_and]
 cases h2:decide (0≤a∧a≤99999)
 case false=>simp only[Bool.not_false,Bool.not_true,cond_true,cond_false,Bool.false_and,Bool.and_false]
 cases h3:decide (0≤st∧st≤4)
 case false=>simp only[Bool.not_false,Bool.not_true,cond_true,cond_false,Bool.false_and,Bool.and_false]
 cases h4:decide (0≤n∧n≤99999)
 case false=>simp only[Bool.not_false,Bool.not_true,cond_true,cond_false,Bool.false_and,Bool.and_false]
 have hn0:decide (0<n) = !(n==0):=by
  have:=of_decide_eq_true h4
  rw[Dj]
  by_cases e:n=0
  ·subst e;rfl
  ·have:0<n:=by omega
   simp[e,this]
 rw[hn0]
 generalize (n==0)=n0
 generalize (a==0)=a0
 generalize (st==0)=s0
 generalize (st==2)=s2
 generalize (st==3)=s3
 generalize (name == [])=m0
 cases n0<;>cases gd<;>cases gc<;>cases s0<;>simp <;>cases a0<;>simp <;>cases ge<;>simp <;>cases s2<;>simp <;>cases s3<;>simp
theorem Yz (c:nc.D)(hg:BE c.2.2.2.2.2.1)(hn:c.2.2.2.1.length≤4611686018427387904):Wh.Ef c=some (AH c,()):=by
 have hL:∀x lo hi,Wh.pg (x,lo,hi)=(decide (lo≤x∧x≤hi),()):=fun x lo hi=>Wh.zX _ _ (ye x lo hi)
 have hK:∀x,Wh.IN x=(decide (0≤x∧x≤3),()):=fun x=>Wh.KC _ _ (Xt x)
 have hN:=afn c.2.2.2.2.2.1
 have hN':=Wh.abg _ _ hN
 have hO:=YA _ hg
 have hO':=Wh.Ur _ _ hO
 have hM:=afd _ hn
 have hM':=Wh.OA _ _ hM
 have hD:=afk _ hg
 obtain⟨id,a,st,name,n,g,u⟩:=c
 dsimp only at hN hN' hO hO' hD hM hM' ⊢
 simp only[Wh.Ef,AH,hL,hK,ye,Xt,hN,hN',hO,hO',hM,hM',nQ,Bool.or_true,iy,Bool.and_self,cond_true]
 have e4:(n>0)=(0<n):=rfl
 simp only[e4]
 generalize hd:Gz g=gd
 generalize he:Dv name=ge
 cases h1:decide (0≤id∧id≤3)
 case false=>simp only[Bool.not_false,cond_true,Bool.false_and]
 cases h2:decide (0≤a∧a≤99999)
 case false=>simp only[Bool.not_false,Bool.not_true,cond_true,cond_false,Bool.false_and,Bool.and_false]
 cases h4:decide (0≤n∧n≤99999)
 case false=>simp only[Bool.not_false,Bool.not_true,cond_true,cond_false,Bool.false_and,Bool.and_false]
 have hn0:decide (0<n) = !(n==0):=by
  have:=of_decide_eq_true h4
  rw[Dj]
  by_cases e:n=0
  ·subst e;rfl
  ·have:0<n:=by omega
   simp[e,this]
 rw[hn0]
 have hst:decide (0≤st∧st≤4)=(st==0 || (st==1 || (st==2 || (st==3 || st==4)))):=by
  simp only[Dj,←Bool.decide_or]
  exact decide_eq_decide.2 ⟨fun h=>by omega,fun h=>by omega⟩
 rw[hst]
 have x12:(st==1)=true→(st==2)=false∧(st==3)=false:=by simp;intro e;subst e;decide
 have x42:(st==4)=true→(st==2)=false∧(st==3)=false:=by simp;intro e;subst e;decide
 generalize (n==0)=n0
 generalize (a==0)=a0
 generalize (st==0)=s0
 generalize (st==1)=s1 at *
 generalize (st==2)=s2 at *
 generalize (st==3)=s3 at *
 generalize (st==4)=s4 at *
 generalize (name == [])=m0
 rcases Bool.eq_false_or_eq_true (z6 g) with hc|hc
 ·have hD1:=hD hc
  have hD2:=Wh.q11_v _ _ hD1
  simp only[hD1,hD2,hc,Bool.or_true,cond_true]
  generalize BL g=b
  cases n0<;>cases gd<;>cases s0<;>simp <;>cases a0<;>simp <;>cases ge<;>simp <;>cases s1<;>simp at x12 ⊢ <;>cases s4<;>simp at x42 ⊢ <;>cases s2<;>simp at x12 x42 ⊢ <;>cases s3<;>simp at x12 x42 ⊢
 ·simp only[hc]
  generalize BL g=b
  cases n0<;>simp <;>cases gd<;>simp <;>cases s0<;>simp <;>cases a0<;>simp <;>cases ge<;>simp <;>cases s1<;>simp at x12 ⊢ <;>cases s4<;>simp at x42 ⊢ <;>cases s2<;>simp at x12 x42 ⊢ <;>cases s3<;>simp at x12 x42 ⊢
end Pc
open Go Go.Ab
namespace Pc
theorem xg {α:Type}(f:α→Nat):∀(l:List α) (x:α),x∈l→f x≤(l.map f).sum
 |a::l,x,h=>by
  rw[List.map_cons,List.sum_cons]
  rcases List.mem_cons.1 h with rfl|h
  ·omega
  ·have:=xg f l x h;omega
theorem vH {α:Type}(f:α→Nat)(h:∀x,1≤f x):∀l:List α,l.length≤(l.map f).sum
 | []=>by simp
 |a::l=>by
  rw[List.map_cons,List.sum_cons,List.length_cons]
  have:=vH f h l;have:=h a;omega
structure Dg (c:nc.D):Prop where
 name:c.2.2.2.1.length≤1048576
 p3:c.2.2.2.2.2.1.1.2.2.1.length≤1048576
 p4:c.2.2.2.2.2.1.1.2.2.2.1.length≤1048576
 s3:c.2.2.2.2.2.1.2.1.2.2.1.length≤1048576
 row:∀x∈c.2.2.2.2.2.1.2.1.2.2.1,x.1.length≤1048576∧x.2.1.length≤1048576
theorem N_ (l:List Int)(n:Nat)(h:(l.map (fR (.int .i64))).sum+1≤n):l.length≤n:=by
 have:=vH (fR (.int .i64)) (fun _=>Nat.le_refl 1) l
 omega
theorem XB (x:n4.D):fR n4 x=((x.1.map (fR (.int .i64))).sum+1)+(x.2.1.length+1+0):=rfl
theorem sml_of (c:nc.D)(h:fR nc c≤1048576):Dg c:=by
 have e:fR nc c=1+(1+(1+((c.2.2.2.1.length+1)+(1+(((1+(1+(((c.2.2.2.2.2.1.1.2.2.1.map (fR (.int .i64))).sum+1)+(((c.2.2.2.2.2.1.1.2.2.2.1.map (fR (.int .i64))).sum+1)+0))))+((1+(1+(((c.2.2.2.2.2.1.2.1.2.2.1.map (fR n4)).sum+1)+0)))+0))+0))))):=rfl
 rw[e] at h
 refine⟨by omega,N_ _ _ (by omega),N_ _ _ (by omega),?_,?_⟩
 ·have:=vH (fR n4) (fun x=>by rw[XB];omega) c.2.2.2.2.2.1.2.1.2.2.1
  omega
 ·intro x hx
  have:=xg (fR n4) _ x hx
  rw[XB] at this
  exact⟨N_ _ _ (by omega),by omega⟩
theorem Dg.sm {c:nc.D}(h:Dg c):BE c.2.2.2.2.2.1:=
 ⟨⟨by have:=h.p3;omega,by have:=h.p4;omega⟩,by have:=h.s3;omega,fun x hx=>by have:=(h.row x hx).1;omega⟩
theorem Wp (a:List Int)(n:Int):∃v,Wh.DJ (a,n)=some (v,()):=by
 simp only[Wh.DJ]
 cases decide (IntKind.wrap .i64 (n-(a.length:Int))<0)<;>exact⟨_,rfl⟩
theorem aly (a:so.D)(n:Int):∃v,Wh.GU (a,n)=some (v,()):=by
 obtain⟨v,hv⟩:=Wp a.2.2.1 n
 obtain⟨w,hw⟩:=Wp a.2.2.2.1 v
 simp only[Wh.GU,hv,Wh.OC _ _ hv,hw,Wh.OC _ _ hw,iy,nQ,cond_true]
 cases decide (v<0)<;>cases decide (w<0)<;>exact⟨_,rfl⟩
theorem alr (a:n4.D)(n:Int):∃v,Wh.Hr (a,n)=some (v,()):=by
 obtain⟨v,hv⟩:=Wp a.1 n
 simp only[Wh.Hr,hv,Wh.OC _ _ hv,iy,nQ,cond_true]
 cases decide (v<0)<;>cases decide (IntKind.wrap .i64 (v-(a.2.1.length:Int))<0)<;>exact⟨_,rfl⟩
theorem alq (a:List n4.D)(n:Int)(h:a.length≤1048576):∃v,Wh.G9 (a,n)=some (v,()):=by
 have hl:∀d k:Nat,k+d=a.length→∀m:Int,∃y,Comes Wh.Fj (((k:Int),m,a),()) y:=by
  intro d
  induction d with
  |zero=>
   intro k hk m
   have hk':decide ((k:Int)<(a.length:Int))=false:=by simp;omega
   exact⟨_,.out (by simp only[Wh.Fj,hk',cond_false];rfl)⟩
  |succ d ih=>
   intro k hk m
   have hk':decide ((k:Int)<(a.length:Int))=true:=by simp;omega
   have h0:decide ((0:Int)≤(k:Int))=true:=by simp
   have w:=lg (i:=k) (by omega)
   obtain⟨v,hv⟩:=alr (List.getD a k ([],[],())) m
   cases hd:decide (v<0) with
   |true=>exact⟨_,.out (by simp only[Wh.Fj,hk',h0,Int.toNat_natCast,hv,Wh.U4 _ _ hv,hd,iy,nQ,cond_true,Bool.and_self];rfl)⟩
   |false=>
    obtain⟨y,hy⟩:=ih (k+1) (by omega) v
    exact⟨y,.again (by simp only[Wh.Fj,hk',h0,w,Int.toNat_natCast,hv,Wh.U4 _ _ hv,hd,iy,nQ,cond_true,cond_false,Bool.and_self]) hy⟩
 simp only[Wh.G9]
 cases decide (IntKind.wrap .i64 (n-(a.length:Int))<0) with
 |true=>exact⟨_,rfl⟩
 |false=>
  obtain⟨y,hy⟩:=hl a.length 0 (by omega) (IntKind.wrap .i64 (n-(a.length:Int)))
  have e1:=cb hy
  have e2:=cv hy Wh.UC
  rw[show(((0:Nat):Int))=0 from rfl] at e1 e2
  simp only[e1,e2,cond_true,cond_false]
  cases y with
  |inl y=>exact⟨_,rfl⟩
  |inr y=>exact⟨_,rfl⟩
theorem alB (a:fT.D)(n:Int)(h:a.2.2.1.length≤1048576):∃v,Wh.q68 (a,n)=some (v,()):=by
 obtain⟨v,hv⟩:=alq a.2.2.1 n h
 simp only[Wh.q68,hv,Wh.abk _ _ hv,iy,nQ,cond_true]
 cases decide (v<0)<;>exact⟨_,rfl⟩
theorem alu (a:th.D)(n:Int)(h:a.2.1.2.2.1.length≤1048576):∃v,Wh.q35 (a,n)=some (v,()):=by
 obtain⟨v,hv⟩:=aly a.1 n
 obtain⟨w,hw⟩:=alB a.2.1 v h
 simp only[Wh.q35,hv,Wh.aaR _ _ hv,hw,Wh.q68_v _ _ hw,iy,nQ,cond_true]
 cases decide (v<0)<;>cases decide (w<0)<;>exact⟨_,rfl⟩
theorem alp (c:nc.D)(n:Int)(h:Dg c):∃v,Wh.q63 (c,n)=some (v,()):=by
 obtain⟨v,hv⟩:=alu c.2.2.2.2.2.1 (IntKind.wrap .i64 (n-(c.2.2.2.1.length:Int))) h.s3
 simp only[Wh.q63,hv,Wh.q35_v _ _ hv,iy,nQ,cond_true]
 cases decide (IntKind.wrap .i64 (n-(c.2.2.2.1.length:Int))<0)<;>cases decide (v<0)<;>exact⟨_,rfl⟩
def iB {α:Type}(a:List α)(z:α)(i:Nat):List α:=a.take i++List.replicate (a.length-i) z
theorem Dm {α:Type}(a:List α)(z:α)(i:Nat)(h:i≤a.length):(iB a z i).length=a.length:=by
 rw[iB,List.length_append,List.length_take,List.length_replicate];omega
theorem Dp {α:Type}(a:List α)(z:α):iB a z 0=List.replicate a.length z:=by simp[iB]
theorem Dl {α:Type}(a:List α)(z:α):iB a z a.length=a:=by simp[iB]
theorem Dn {α:Type}(a:List α)(z z':α)(i:Nat)(h:i<a.length):(iB a z i).set i (a.getD i z')=iB a z (i+1):=by
 have e1:a.length-i=(a.length-(i+1))+1:=by omega
 have e2:(a.take i).length=i:=by rw[List.length_take];omega
 rw[iB,iB,e1,List.replicate_succ,List.set_append_right _ _ (by omega),e2,Nat.sub_self,List.set_cons_zero,List.take_succ_eq_append_getElem h,List.append_assoc,getD_eq _ _ _ h]
 rfl
theorem Wv (a:List Int)(h:a.length≤1048576):Wh.DL a=some (a,()):=by
 have hl:Comes Wh.Fc (((0:Int),a,()),List.replicate a.length 0) ((),a):=by
  have:=x8 (r:=Wh.Fc) (st:=fun i=>(((i:Int),a,()),iB a 0 i)) (n:=a.length) (y:=((),a)) ?_ ?_ 0 (Nat.zero_le _)
  ·rw[Dp] at this;exact this
  ·intro i hi
   have hi':decide ((i:Int)<(a.length:Int))=true:=by simpa using hi
   have h0:decide ((0:Int)≤(i:Int))=true:=by simp
   simp only[Wh.Fc,hi',h0,Int.toNat_natCast,Dm a 0 i (by omega),Dn a 0 0 i hi,lg (i:=i) (by omega),iy,cond_true,Bool.and_self]
  ·have hi':decide (((a.length:Nat):Int)<(a.length:Int))=false:=by simp
   simp only[Wh.Fc,hi',cond_false,Dl]
 have b0:decide ((0:Int)≤(a.length:Int))=true:=by simp
 have b1:decide ((a.length:Int)≤(dh:Int))=true:=decide_eq_true (by unfold dh;omega)
 simp only[Wh.DL,Int.toNat_natCast,cb hl,cv hl,b0,b1,Int.le_refl,decide_true,iy,cond_true,Bool.and_self]
theorem alT (a:so.D)(h1:a.2.2.1.length≤1048576)(h2:a.2.2.2.1.length≤1048576):Wh.GW a=some (a,()):=by
 have e1:=Wv _ h1
 have e2:=Wv _ h2
 simp only[Wh.GW,e1,e2,Wh.OE _ _ e1,Wh.OE _ _ e2,iy,nQ,cond_true]
theorem alN (a:n4.D)(h1:a.1.length≤1048576):Wh.Hs a=some (a,()):=by
 have e1:=Wv _ h1
 simp only[Wh.Hs,e1,Wh.OE _ _ e1,iy,nQ,cond_true]
theorem alM (a:List n4.D)(h:a.length≤1048576)(hr:∀x∈a,x.1.length≤1048576):Wh.He a=some (a,()):=by
 have hl:Comes Wh.Fk (((0:Int),a,()),List.replicate a.length ([],[],())) ((),a):=by
  have:=x8 (r:=Wh.Fk) (st:=fun i=>(((i:Int),a,()),iB a ([],[],()) i)) (n:=a.length) (y:=((),a)) ?_ ?_ 0 (Nat.zero_le _)
  ·rw[Dp] at this;exact this
  ·intro i hi
   have hi':decide ((i:Int)<(a.length:Int))=true:=by simpa using hi
   have h0:decide ((0:Int)≤(i:Int))=true:=by simp
   have he:=alN (List.getD a i ([],[],())) (hr _ (by rw[getD_eq _ _ _ hi];simp))
   have hs:(iB a ([],[],()) i).set i ((List.getD a i ([],[],())).1,(List.getD a i ([],[],())).2)=iB a ([],[],()) (i+1):=Dn a ([],[],()) ([],[],()) i hi
   simp only[Wh.Fk,hi',h0,Int.toNat_natCast,Dm a ([],[],()) i (by omega),he,Wh.abH _ _ he,hs,lg (i:=i) (by omega),iy,nQ,cond_true,Bool.and_self]
  ·have hi':decide (((a.length:Nat):Int)<(a.length:Int))=false:=by simp
   simp only[Wh.Fk,hi',cond_false,Dl]
 have b0:decide ((0:Int)≤(a.length:Int))=true:=by simp
 have b1:decide ((a.length:Int)≤(dh:Int))=true:=decide_eq_true (by unfold dh;omega)
 simp only[Wh.He,Int.toNat_natCast,cb hl,cv hl,b0,b1,Int.le_refl,decide_true,iy,cond_true,Bool.and_self]
theorem alY (a:fT.D)(h:a.2.2.1.length≤1048576)(hr:∀x∈a.2.2.1,x.1.length≤1048576):Wh.q75 a=some (a,()):=by
 have e1:=alM _ h hr
 simp only[Wh.q75,e1,Wh.abn _ _ e1,iy,nQ,cond_true]
theorem alL (c:nc.D)(h:Dg c):Wh.q70 c=some (c,()):=by
 have e1:=alT c.2.2.2.2.2.1.1 h.p3 h.p4
 have e2:=alY c.2.2.2.2.2.1.2.1 h.s3 fun x hx=>(h.row x hx).1
 have e3:Wh.q39 c.2.2.2.2.2.1=some (c.2.2.2.2.2.1,()):=by
  simp only[Wh.q39,e1,e2,Wh.aaW _ _ e1,Wh.q75_v _ _ e2,iy,nQ,cond_true]
 simp only[Wh.q70,e3,Wh.q39_v _ _ e3,iy,nQ,cond_true]
end Pc
open Go Go.Ab Go.Lib
namespace Pl
theorem adO (w:r5.D):Wh.q59 (w,w)=some (true,()):=by simp[Wh.q59]
theorem adN (a:List r5.D)(h:a.length≤4611686018427387904):Wh.q32 (a,a)=some (true,()):=by
 have hl:Comes Wh.Hv (((0:Int),a,a),()) (.inr ((),())):=by
  refine x8 (st:=fun i=>(((i:Int),a,a),())) (n:=a.length) ?_ ?_ 0 (Nat.zero_le _)
  ·intro i hi
   have h2:=lg (i:=i) (by omega)
   have h4:=adO (a[i])
   simp[Wh.Hv,Wh.O_,bx,iy,h2,hi,h4,nQ]
  ·simp[Wh.Hv]
 simp[Wh.q32,cb hl,cv hl]
theorem alS (a:r5.D):Wh.q72 a=some (a,()):=rfl
theorem alR (a:List r5.D)(h:a.length≤1048576):Wh.q40 a=some (a,()):=by
 have hl:Comes Wh.FD (((0:Int),a,()),List.replicate a.length ((0:Int),([]:List UInt8),false,())) ((),a):=by
  have:=x8 (r:=Wh.FD) (st:=fun i=>(((i:Int),a,()),iB a ((0:Int),([]:List UInt8),false,()) i)) (n:=a.length) (y:=((),a)) ?_ ?_ 0 (Nat.zero_le _)
  ·rw[Dp] at this;exact this
  ·intro i hi
   have hi':decide ((i:Int)<(a.length:Int))=true:=by simpa using hi
   have h0:decide ((0:Int)≤(i:Int))=true:=by simp
   have he:=alS (List.getD a i ((0:Int),([]:List UInt8),false,()))
   have hs:(iB a ((0:Int),([]:List UInt8),false,()) i).set i (List.getD a i ((0:Int),([]:List UInt8),false,()))=iB a ((0:Int),([]:List UInt8),false,()) (i+1):=Dn a _ _ i hi
   simp only[Wh.FD,hi',h0,Int.toNat_natCast,Dm a ((0:Int),([]:List UInt8),false,()) i (by omega),he,Wh.q72_v _ _ he,hs,lg (i:=i) (by omega),iy,nQ,cond_true,Bool.and_self]
  ·have hi':decide (((a.length:Nat):Int)<(a.length:Int))=false:=by simp
   simp only[Wh.FD,hi',cond_false,Dl]
 have b0:decide ((0:Int)≤(a.length:Int))=true:=by simp
 have b1:decide ((a.length:Int)≤(dh:Int))=true:=decide_eq_true (by unfold dh;omega)
 simp only[Wh.q40,Int.toNat_natCast,cb hl,cv hl,b0,b1,Int.le_refl,decide_true,iy,cond_true,Bool.and_self]
theorem alx (a:r5.D)(n:Int):∃v,Wh.q65 (a,n)=some (v,()):=by
 simp only[Wh.q65]
 repeat' (first|exact⟨_,rfl⟩|refine RZ _ ?_ ?_)
theorem alw (a:List r5.D)(n:Int)(h:a.length≤1048576):∃v,Wh.q36 (a,n)=some (v,()):=by
 have hl:∀d k:Nat,k+d=a.length→∀m:Int,∃y,Comes Wh.FA (((k:Int),m,a),()) y:=by
  intro d
  induction d with
  |zero=>
   intro k hk m
   have hk':decide ((k:Int)<(a.length:Int))=false:=by simp;omega
   exact⟨_,.out (by simp only[Wh.FA,hk',cond_false];rfl)⟩
  |succ d ih=>
   intro k hk m
   have hk':decide ((k:Int)<(a.length:Int))=true:=by simp;omega
   have h0:decide ((0:Int)≤(k:Int))=true:=by simp
   have w:=lg (i:=k) (by omega)
   obtain⟨v,hv⟩:=alx (List.getD a k ((0:Int),([]:List UInt8),false,())) m
   cases hd:decide (v<0) with
   |true=>exact⟨_,.out (by simp only[Wh.FA,hk',h0,Int.toNat_natCast,hv,Wh.VK _ _ hv,hd,iy,nQ,cond_true,Bool.and_self];rfl)⟩
   |false=>
    obtain⟨y,hy⟩:=ih (k+1) (by omega) v
    exact⟨y,.again (by simp only[Wh.FA,hk',h0,w,Int.toNat_natCast,hv,Wh.VK _ _ hv,hd,iy,nQ,cond_true,cond_false,Bool.and_self]) hy⟩
 simp only[Wh.q36]
 cases decide (IntKind.wrap .i64 (n-(a.length:Int))<0) with
 |true=>exact⟨_,rfl⟩
 |false=>
  obtain⟨y,hy⟩:=hl a.length 0 (by omega) (IntKind.wrap .i64 (n-(a.length:Int)))
  have e1:=cb hy
  have e2:=cv hy Wh.Vk
  rw[show(((0:Nat):Int))=0 from rfl] at e1 e2
  simp only[e1,e2,cond_true,cond_false]
  cases y with
  |inl y=>exact⟨_,rfl⟩
  |inr y=>exact⟨_,rfl⟩
def zC:nc.D:=((0:Int),(0:Int),(0:Int),([]:List UInt8),(0:Int),(((0:Int),(0:Int),([]:List Int),([]:List Int),()),((0:Int),(0:Int),([]:List n4.D),()),()),())
theorem adF (a:List nc.D)(h:a.length≤1048576)(hr:∀x∈a,Pc.Dg x):Wh.q30 (a,a)=some (true,()):=by
 have hl:Comes Wh.Hu (((0:Int),a,a),()) (.inr ((),())):=by
  refine x8 (st:=fun i=>(((i:Int),a,a),())) (n:=a.length) ?_ ?_ 0 (Nat.zero_le _)
  ·intro i hi
   have h2:=lg (i:=i) (by omega)
   have h4:=Pc.adG (a[i]) (hr _ (by simp)).sm
   simp[Wh.Hu,Wh.O9,bx,iy,h2,hi,h4,nQ]
  ·simp[Wh.Hu]
 simp[Wh.q30,cb hl,cv hl]
theorem alK (a:List nc.D)(h:a.length≤1048576)(hr:∀x∈a,Pc.Dg x):Wh.q38 a=some (a,()):=by
 have hl:Comes Wh.FC (((0:Int),a,()),List.replicate a.length zC) ((),a):=by
  have:=x8 (r:=Wh.FC) (st:=fun i=>(((i:Int),a,()),iB a zC i)) (n:=a.length) (y:=((),a)) ?_ ?_ 0 (Nat.zero_le _)
  ·rw[Dp] at this;exact this
  ·intro i hi
   have hi':decide ((i:Int)<(a.length:Int))=true:=by simpa using hi
   have h0:decide ((0:Int)≤(i:Int))=true:=by simp
   have he:=Pc.alL (List.getD a i zC) (hr _ (by rw[getD_eq _ _ _ hi];exact List.getElem_mem hi))
   have hs:(iB a zC i).set i (List.getD a i zC)=iB a zC (i+1):=Dn a _ _ i hi
   have hc:=Dm a zC i (by omega)
   unfold zC at he hs hc ⊢
   simp only[Wh.FC,hi',h0,Int.toNat_natCast,hc,he,Wh.q70_v _ _ he,hs,lg (i:=i) (by omega),iy,nQ,cond_true,Bool.and_self]
  ·have hi':decide (((a.length:Nat):Int)<(a.length:Int))=false:=by simp
   simp only[Wh.FC,hi',cond_false,Dl]
 have b0:decide ((0:Int)≤(a.length:Int))=true:=by simp
 have b1:decide ((a.length:Int)≤(dh:Int))=true:=decide_eq_true (by unfold dh;omega)
 unfold zC at hl
 simp only[Wh.q38,Int.toNat_natCast,cb hl,cv hl,b0,b1,Int.le_refl,decide_true,iy,cond_true,Bool.and_self]
theorem alo (a:List nc.D)(n:Int)(h:a.length≤1048576)(hr:∀x∈a,Pc.Dg x):∃v,Wh.q34 (a,n)=some (v,()):=by
 have hl:∀d k:Nat,k+d=a.length→∀m:Int,∃y,Comes Wh.Ec (((k:Int),m,a),()) y:=by
  intro d
  induction d with
  |zero=>
   intro k hk m
   have hk':decide ((k:Int)<(a.length:Int))=false:=by simp;omega
   exact⟨_,.out (by simp only[Wh.Ec,hk',cond_false];rfl)⟩
  |succ d ih=>
   intro k hk m
   have hk':decide ((k:Int)<(a.length:Int))=true:=by simp;omega
   have h0:decide ((0:Int)≤(k:Int))=true:=by simp
   have w:=lg (i:=k) (by omega)
   obtain⟨v,hv⟩:=Pc.alp (List.getD a k zC) m (hr _ (by rw[getD_eq _ _ _ (by omega)];exact List.getElem_mem (by omega)))
   unfold zC at hv
   cases hd:decide (v<0) with
   |true=>exact⟨_,.out (by simp only[Wh.Ec,hk',h0,Int.toNat_natCast,hv,Wh.VJ _ _ hv,hd,iy,nQ,cond_true,Bool.and_self];rfl)⟩
   |false=>
    obtain⟨y,hy⟩:=ih (k+1) (by omega) v
    exact⟨y,.again (x':=((((k+1:Nat):Int),v,a),())) (by simp only[Wh.Ec,hk',h0,Int.toNat_natCast,hv,Wh.VJ _ _ hv,hd,iy,nQ,cond_true,cond_false,Bool.and_self,w]) hy⟩
 obtain⟨y,hy⟩:=hl a.length 0 (by omega) (IntKind.wrap .i64 (n-(a.length:Int)))
 have hy':Comes Wh.Ec (((0:Int),IntKind.wrap .i64 (n-(a.length:Int)),a),()) y:=hy
 simp only[Wh.q34,cb hy',cv hy',cond_true]
 cases decide (IntKind.wrap .i64 (n-(a.length:Int))<0) with
 |true=>exact⟨_,rfl⟩
 |false=>cases y<;>exact⟨_,rfl⟩
structure zD (w:gv.D):Prop where
 C9:Gc w.1
 cls:w.2.1.length≤1048576
 cl:∀x∈w.2.1,Pc.Dg x
 rad:w.2.2.1.length≤1048576
 pk:∀x∈w.2.2.1,x.2.1.length≤1048576
 giv:w.2.2.2.1.length≤1048576
 its:∀x∈w.2.2.2.1,x.2.1.length≤1048576∧x.2.2.2.1.length≤1048576
theorem cl_pos (c:nc.D):1≤fR nc c:=by simp only[fR];omega
theorem pk_pos (c:r5.D):1≤fR r5 c:=by simp only[fR];omega
theorem it_pos (c:an.D):1≤fR an c:=by simp only[fR];omega
theorem smW_of (w:gv.D)(h:fR gv w≤1048576):zD w:=by
 have e:fR gv w=fR nC w.1+(((w.2.1.map (fR nc)).sum+1)+(((w.2.2.1.map (fR r5)).sum+1)+(((w.2.2.2.1.map (fR an)).sum+1)+0))):=rfl
 rw[e] at h
 have h1:=vH (fR nc) cl_pos w.2.1
 have h2:=vH (fR r5) pk_pos w.2.2.1
 have h3:=vH (fR an) it_pos w.2.2.2.1
 refine⟨akU _ (by omega),by omega,fun x hx=>Pc.sml_of x ?_,by omega,fun x hx=>?_,by omega,fun x hx=>?_⟩
 ·have:=xg (fR nc) _ x hx;omega
 ·have:=xg (fR r5) _ x hx
  have e:fR r5 x=1+(x.2.1.length+1+(1+0)):=rfl
  omega
 ·have:=xg (fR an) _ x hx
  have e:fR an x=1+(x.2.1.length+1+(1+(x.2.2.2.1.length+1+0))):=rfl
  omega
theorem alZ (w:gv.D)(S:zD w):Wh.DB w=some (w,()):=by
 have a:=alX w.1 S.C9
 have b:=alK w.2.1 S.cls S.cl
 have c:=alR w.2.2.1 S.rad
 have d:=ada w.2.2.2.1 S.giv
 simp only[Wh.DB,a,Wh.q74_v _ _ a,b,Wh.q38_v _ _ b,c,Wh.q40_v _ _ c,d,Wh.Tj _ _ d,iy,nQ,cond_true]
theorem adV (w:gv.D)(S:zD w):Wh.q98 (w,w)=some (true,()):=by
 have a:=adT w.1 S.C9
 have b:=adF w.2.1 S.cls S.cl
 have c:=adN w.2.2.1 (Nat.le_trans S.rad (by omega))
 have d:=XA w.2.2.2.1 (Nat.le_trans S.giv (by omega))
 simp only[Wh.q98,a,Wh.q61_v _ _ a,b,Wh.q30_v _ _ b,c,Wh.q32_v _ _ c,d,Wh.Wa _ _ d,iy,nQ,cond_true,cond_false,Bool.not_true]
theorem alC (w:gv.D)(n:Int)(S:zD w):∃v,Wh.GC (w,n)=some (v,()):=by
 obtain⟨a,ha⟩:=alA w.1 n S.C9
 obtain⟨b,hb⟩:=alo w.2.1 a S.cls S.cl
 obtain⟨c,hc⟩:=alw w.2.2.1 b S.rad
 obtain⟨d,hd⟩:=ac5 w.2.2.2.1 c S.giv
 simp only[Wh.GC,ha,Wh.q67_v _ _ ha,hb,Wh.q34_v _ _ hb,hc,Wh.q36_v _ _ hc,hd,Wh.We _ _ hd,iy,nQ,cond_true]
 cases decide (a<0) with
 |true=>exact⟨_,rfl⟩
 |false=>
 cases decide (b<0) with
 |true=>exact⟨_,rfl⟩
 |false=>
 cases decide (c<0) with
 |true=>exact⟨_,rfl⟩
 |false=>
 cases decide (d<0)<;>exact⟨_,rfl⟩
end Pl
open Go Go.Ab
namespace Pl
section
variable {α:Type} (mk1:α→Int→α) (n1:α→Nat)
def markL:List α→Int→List α
 | [],_=>[]
 |a::l,k=>mk1 a k::markL l (k+n1 a)
def sumN (l:List α):Nat:=(l.map n1).sum
def ks (k:Int)(l:List α)(i:Nat):Int:=k+(sumN n1 (l.take i):Nat)
def part (k:Int)(l:List α)(i:Nat):List α:=markL mk1 n1 (l.take i) k++l.drop i
end
end Pl
open Go Go.Ab
namespace Pl
end Pl
open Go Go.Ab
namespace Pl
end Pl
open Go Go.Ab Go.Lib
namespace Pl
theorem CF (x y:Nat):((x:Int)==(y:Int))=(x==y):=by rw[Bool.eq_iff_iff,beq_iff_eq,beq_iff_eq];omega
theorem S4 {s:nC.D}(h:okV s=true):yC s.2.2.2.1:=by
 unfold okV at h
 simp only[Bool.and_eq_true] at h
 obtain⟨_,_,hc,h⟩:=h
 cases hu:s.1 with
 |true=>
  rw[hu] at h
  simp only[cond_true,upV,Bool.and_eq_true,decide_eq_true_eq] at h
  rw[←h.2.1]
  exact NT hc
 |false=>
  rw[hu] at h
  simp only[cond_false,JI,Bool.and_eq_true,beq_iff_eq,List.length_eq_zero_iff] at h
  have e:s.2.2.2.1=((0:Int),[],()):=by
   rw[←h.1.1.1.1.2,←h.1.1.1.1.1]
  rw[e]
  exact NS
theorem aaa {s:nC.D}(h:okV s=true):s.2.2.1.length≤9000:=by
 unfold okV at h
 simp only[Bool.and_eq_true,decide_eq_true_eq] at h
 exact h.2.1
end Pl
open Go Go.Ab Go.Lib
namespace Pl
theorem BJ {α:Type}(b:Bool)(x y:α):(bif b then x else y)=if b=true then x else y:=by cases b<;>rfl
abbrev Wd:Type:=gv.D
def zP:r5.D:=((0:Int),[],false,())
def EL (w:Wd)(i:Nat):Bool:=bif(bif !Pc.AH (w.2.1.getD i zC) then true else(w.2.1.getD i zC).1 != (i:Int)) then true else decide ((w.2.1.getD i zC).2.2.2.2.1>(w.2.2.2.1.length:Int))
def GB (p:r5.D):Bool:=bif decide ((p.2.1.length:Int)>160) then true else bif p.1 != 9 then !w7 p.1 0 3 else false
def Gi (g:List It)(i:Nat):Bool:=bif !Az (g.getD i z0).1 (g.getD i z0).2.1 (g.getD i z0).2.2.2.1 then true else(g.getD i z0).2.2.1 != ((i+1:Nat):Int)
def IU (g:List It)(t:It):Bool:=decide (g.getD (t.2.2.1-1).toNat z0=t)
def itF (g:List It)(t:It):Bool:=bif decide (t.2.2.1>(g.length:Int)) then true else !IU g t
def B9 (g:List It)(t:It):Bool:=bif decide (t.2.2.1≤(g.length:Int)) then !IU g t else false
theorem clOk {w:Wd}(S:zD w){i:Nat}(hi:i<w.2.1.length):Wh.q77 (w.2.1.getD i zC)=some (Pc.AH (w.2.1.getD i zC),())∧Wh.Ef (w.2.1.getD i zC)=some (Pc.AH (w.2.1.getD i zC),()):=by
 have s:=S.cl _ (show w.2.1.getD i zC∈w.2.1 by rw[getD_eq _ _ _ hi];exact List.getElem_mem hi)
 have h:=s.name
 exact⟨Pc.ak5 _ s.sm (by omega),Pc.Yz _ s.sm (by omega)⟩
theorem acT (w:Wd)(S:zD w)(i:Nat)(hi:i<w.2.1.length) :
  Wh.DC (((i:Int),()),w)=if EL w i=true then some (.inr (.inl (false,()))) else some (.inl ((((i+1:Nat):Int),()),w)):=by
 have hl:=S.cls
 have wr:=lg (show i≤4611686018427387904 by omega)
 obtain⟨a,_⟩:=clOk S hi
 unfold EL
 unfold zC at a ⊢
 simp only[Wh.DC,gl hi,g0,Int.toNat_natCast,a,Wh.q77_v _ _ a,nQ,iy,Bool.or_true,Bool.and_self,cond_true,wr]
 exact BJ _ _ _
theorem Yn (w:Wd)(S:zD w)(i:Nat)(hi:i<w.2.1.length) :
  Wh.Eo (((i:Int),(),w.2.1,(w.2.1.length:Int)),w)=if EL w i=true then some (.inr (.inl (false,()))) else some (.inl ((((i+1:Nat):Int),(),w.2.1,(w.2.1.length:Int)),w)):=by
 have hl:=S.cls
 have wr:=lg (show i≤4611686018427387904 by omega)
 obtain⟨_,a⟩:=clOk S hi
 have fin (A B D:Bool):(bif(bif B then true else !A) then true else D)=(bif(bif !A then true else B) then true else D):=by cases A<;>cases B<;>rfl
 unfold EL
 unfold zC at a ⊢
 simp only[Wh.Eo,gl hi,g0,Int.toNat_natCast,a,Wh.Vt _ _ a,nQ,iy,Bool.or_true,Bool.and_self,cond_true,wr,fin]
 exact BJ _ _ _
theorem acZ (w:Wd)(S:zD w)(i:Nat)(hi:i<w.2.2.1.length) :
  Wh.DD (((i:Int),()),w)=if GB (w.2.2.1.getD i zP)=true then some (.inr (.inl (false,()))) else some (.inl ((((i+1:Nat):Int),()),w)):=by
 have hl:=S.rad
 have wr:=lg (show i≤4611686018427387904 by omega)
 unfold GB
 unfold zP
 simp only[Wh.DD,gl hi,g0,Int.toNat_natCast,Av,Wh.zI _ _ (Av _ _ _),nQ,iy,Bool.or_true,Bool.and_self,cond_true,wr]
 exact BJ _ _ _
theorem Yu (w:Wd)(S:zD w)(i:Nat)(hi:i<w.2.2.1.length) :
  Wh.Ep (((i:Int),w.2.2.1,(),(w.2.2.1.length:Int)),w)=if GB (w.2.2.1.getD i zP)=true then some (.inr (.inl (false,()))) else some (.inl ((((i+1:Nat):Int),w.2.2.1,(),(w.2.2.1.length:Int)),w)):=by
 have hl:=S.rad
 have wr:=lg (show i≤4611686018427387904 by omega)
 have fin (A B:Bool):(bif A then true else B)=(bif B then true else A):=by cases A<;>cases B<;>rfl
 unfold GB
 unfold zP
 simp only[Wh.Ep,gl hi,g0,Int.toNat_natCast,Ie,Wh.KC _ _ (Ie _),nQ,iy,Bool.or_true,Bool.and_self,cond_true,wr]
 rw[fin]
 exact BJ _ _ _
theorem acX (w:Wd)(S:zD w)(i:Nat)(hi:i<w.2.2.2.1.length) :
  Wh.Ek (((i:Int),()),w)=if Gi w.2.2.2.1 i=true then some (.inr (.inl (false,()))) else some (.inl ((((i+1:Nat):Int),()),w)):=by
 have hl:=S.giv
 have wr:=lg (show i≤4611686018427387904 by omega)
 have hm:w.2.2.2.1.getD i z0∈w.2.2.2.1:=by rw[getD_eq _ _ _ hi];exact List.getElem_mem hi
 have a:=JY (w.2.2.2.1.getD i z0) (by have:=(S.its _ hm).1;omega)
 unfold Gi
 unfold z0 at a ⊢
 simp only[Wh.Ek,gl hi,g0,Int.toNat_natCast,a,Wh.D6 _ _ a,nQ,iy,Bool.or_true,Bool.and_self,cond_true,wr]
 exact BJ _ _ _
theorem Yr (w:Wd)(S:zD w)(i:Nat)(hi:i<w.2.2.2.1.length) :
  Wh.Er (((i:Int),w.2.2.2.1,(),(w.2.2.2.1.length:Int)),w)=if Gi w.2.2.2.1 i=true then some (.inr (.inl (false,()))) else some (.inl ((((i+1:Nat):Int),w.2.2.2.1,(),(w.2.2.2.1.length:Int)),w)):=by
 have hl:=S.giv
 have wr:=lg (show i≤4611686018427387904 by omega)
 have hm:w.2.2.2.1.getD i z0∈w.2.2.2.1:=by rw[getD_eq _ _ _ hi];exact List.getElem_mem hi
 have a:=aak (w.2.2.2.1.getD i z0).1 (w.2.2.2.1.getD i z0).2.1 (w.2.2.2.1.getD i z0).2.2.2.1 (by have:=(S.its _ hm).1;omega)
 have fin (A B:Bool):(bif A then true else B)=(bif B then true else A):=by cases A<;>cases B<;>rfl
 unfold Gi
 unfold z0 at a ⊢
 simp only[Wh.Er,gl hi,g0,Int.toNat_natCast,a,Wh.Kq _ _ a,nQ,iy,Bool.or_true,Bool.and_self,cond_true,wr]
 rw[fin]
 exact BJ _ _ _
end Pl
open Go Go.Ab Go.Lib
namespace Pl
theorem JM {c:Ct}(I:yC c){i:Nat}(hi:i<c.2.1.length):∃e:Nat,(c.2.1.getD i z0).2.2.1=(e:Int)∧1≤e∧e≤99999∧(e:Int)≤c.1:=by
 have hm:c.2.1.getD i z0∈c.2.1:=by rw[getD_eq _ _ _ hi];exact List.getElem_mem hi
 have h:=I.eds _ hm
 have h2:=I.ed
 exact⟨(c.2.1.getD i z0).2.2.1.toNat,by omega,by omega,by omega,by omega⟩
theorem edw {e:Nat}(h1:1≤e)(h2:e≤99999):IntKind.wrap .i64 ((e:Int)-1)=((e-1:Nat):Int):=wi (by omega) (by omega)
theorem acY (w:Wd)(_S:zD w)(I:yC w.1.2.2.2.1)(i:Nat)(hi:i<w.1.2.2.2.1.2.1.length) :
  Wh.El (((i:Int),()),w)=if itF w.2.2.2.1 (w.1.2.2.2.1.2.1.getD i z0)=true then some (.inr (.inl (false,()))) else some (.inl ((((i+1:Nat):Int),()),w)):=by
 have h8:=I.len
 have wr:=lg (show i≤4611686018427387904 by omega)
 obtain⟨e,he,h1,h2,_⟩:=JM I hi
 have we:=edw h1 h2
 unfold itF IU
 have et:((e:Int)-1).toNat=e-1:=by omega
 have c0:decide ((0:Int)≤((e-1:Nat):Int))=true:=decide_eq_true (by omega)
 have c1:((!!decide ((e:Int)>(w.2.2.2.1.length:Int))) || decide (((e-1:Nat):Int)<(w.2.2.2.1.length:Int)))=true:=by
  by_cases h:(e:Int)>(w.2.2.2.1.length:Int)
  ·rw[decide_eq_true h];rfl
  ·rw[decide_eq_true (show((e-1:Nat):Int)<(w.2.2.2.1.length:Int) by omega),Bool.or_true]
 rw[←ET,he,et]
 unfold z0 at he ⊢
 simp only[Wh.El,gl hi,g0,Int.toNat_natCast,he,we,c0,c1,iy,Bool.or_true,Bool.and_self,cond_true,wr]
 exact BJ _ _ _
theorem dnC {e:Nat}{n:Nat}(h1:1≤e):((!decide ((e:Int)≤(n:Int))) || decide (((e-1:Nat):Int)<(n:Int)))=true:=by
 by_cases h:(e:Int)≤(n:Int)
 ·rw[decide_eq_true (show((e-1:Nat):Int)<(n:Int) by omega),Bool.or_true]
 ·rw[decide_eq_false h];rfl
theorem acU (w:Wd)(c:Ct)(I:yC c)(i:Nat)(hi:i<c.2.1.length) :
  Wh.DG (((i:Int),(),()),w,(c.1,(),c.2.2),c.2.1)=if B9 w.2.2.2.1 (c.2.1.getD i z0)=true then some (.inr (.inl (false,()))) else some (.inl ((((i+1:Nat):Int),(),()),w,(c.1,(),c.2.2),c.2.1)):=by
 have h8:=I.len
 have wr:=lg (show i≤4611686018427387904 by omega)
 obtain⟨e,he,h1,h2,_⟩:=JM I hi
 have we:=edw h1 h2
 unfold B9 IU
 have et:((e:Int)-1).toNat=e-1:=by omega
 have c0:decide ((0:Int)≤((e-1:Nat):Int))=true:=decide_eq_true (by omega)
 have c1:=dnC (n:=w.2.2.2.1.length) h1
 rw[←ET,he,et]
 unfold z0 at he ⊢
 simp only[Wh.DG,gl hi,g0,Int.toNat_natCast,he,we,c0,c1,iy,Bool.or_true,Bool.and_self,cond_true,wr]
 exact BJ _ _ _
theorem Yo (w:Wd)(c:Ct)(I:yC c)(i:Nat)(hi:i<c.2.1.length) :
  Wh.Es (((i:Int),(),(),(c.2.1.length:Int)),w,c.2.1)=if B9 w.2.2.2.1 (c.2.1.getD i z0)=true then some (.inr (.inl (false,()))) else some (.inl ((((i+1:Nat):Int),(),(),(c.2.1.length:Int)),w,c.2.1)):=by
 have h8:=I.len
 have wr:=lg (show i≤4611686018427387904 by omega)
 obtain⟨e,he,h1,h2,_⟩:=JM I hi
 have we:=edw h1 h2
 unfold B9 IU
 have et:((e:Int)-1).toNat=e-1:=by omega
 have c0:decide ((0:Int)≤((e-1:Nat):Int))=true:=decide_eq_true (by omega)
 have c1:=dnC (n:=w.2.2.2.1.length) h1
 rw[←ET,he,et]
 unfold z0 at he ⊢
 simp only[Wh.Es,gl hi,g0,Int.toNat_natCast,he,we,c0,c1,iy,Bool.or_true,Bool.and_self,cond_true,wr]
 exact BJ _ _ _
theorem Yy (w:Wd)(c:Ct)(I:yC c)(i:Nat)(hi:i<c.2.1.length) :
  Wh.Et (((i:Int),(),c.2.1,(c.2.1.length:Int)),w)=if B9 w.2.2.2.1 (c.2.1.getD i z0)=true then some (.inr (.inl (false,()))) else some (.inl ((((i+1:Nat):Int),(),c.2.1,(c.2.1.length:Int)),w)):=by
 have h8:=I.len
 have wr:=lg (show i≤4611686018427387904 by omega)
 obtain⟨e,he,h1,h2,_⟩:=JM I hi
 have we:=edw h1 h2
 unfold B9 IU
 have et:((e:Int)-1).toNat=e-1:=by omega
 have c0:decide ((0:Int)≤((e-1:Nat):Int))=true:=decide_eq_true (by omega)
 have c1:=dnC (n:=w.2.2.2.1.length) h1
 rw[←ET,he,et]
 unfold z0 at he ⊢
 simp only[Wh.Et,gl hi,g0,Int.toNat_natCast,he,we,c0,c1,iy,Bool.or_true,Bool.and_self,cond_true,wr]
 exact BJ _ _ _
noncomputable def JH (w:Wd):Bool:=jS w.2.1.length fun i=> !EL w i
def J8 (w:Wd):Bool:=jS w.2.2.1.length fun i=> !GB (w.2.2.1.getD i zP)
def JR (w:Wd):Bool:=jS w.2.2.2.1.length fun i=> !Gi w.2.2.2.1 i
def Gq (w:Wd):Bool:=jS w.1.2.2.2.1.2.1.length fun i=> !itF w.2.2.2.1 (w.1.2.2.2.1.2.1.getD i z0)
def CB (w:Wd)(c:Ct):Bool:=jS c.2.1.length fun i=> !B9 w.2.2.2.1 (c.2.1.getD i z0)
noncomputable def yl (w:Wd):Ct:=(zE (x_ w.1).1).1
noncomputable def JJ (w:Wd):Bool:=CB w (yl w)&&w7 (yl w).1 (w.2.2.2.1.length:Int) ((w.2.2.2.1.length:Int)+1)
noncomputable def JS (w:Wd):Bool:=JR w&&(Gq w&&(bif w.1.1 then w.1.2.2.2.1.1==(w.2.2.2.1.length:Int) else JJ w))
noncomputable def Bc (w:Wd):Bool:=(okV w.1&&w.2.1.length==4&&decide (w.2.2.1.length≤60)&&JS w)&&(JH w&&J8 w)
theorem BO (n:Nat):decide ((n:Int)<(n:Int))=false:=decide_eq_false (by omega)
theorem wlen {w:Wd}(S:zD w):IntKind.wrap .i64 ((w.2.2.2.1.length:Int)+1)=(w.2.2.2.1.length:Int)+1:=by
 have:=S.giv
 exact(wi (y:=w.2.2.2.1.length+1) (by omega) (by omega)).trans (by omega)
theorem acM {s:nC.D}(ho:okV s=true):yC (zE (x_ s).1).1:=by
 unfold okV at ho
 simp only[Bool.and_eq_true] at ho
 exact NT ho.2.2.1
theorem adB (w:Wd)(S:zD w)(ho:okV w.1=true):Wh.GH w=some (JJ w,()):=by
 have I:yC (yl w):=acM ho
 have hl:=aaa ho
 have a:=YL w.1.2.2.1 (by omega)
 change Wh.Ch w.1.2.2.1=some (((x_ w.1).1,((x_ w.1).2:Int)),()) at a
 obtain⟨r1,r2⟩:=Pw w.1 (by omega)
 have b:=acS (x_ w.1).1 r1 r2
 have wl:=wlen S
 have q:=xW (r:=Wh.DG) (fun i=>(((i:Int),(),()),w,((yl w).1,(),(yl w).2.2),(yl w).2.1)) (n:=(yl w).2.1.length) (p:=fun i=> !B9 w.2.2.2.1 ((yl w).2.1.getD i z0)) (yf:=.inl (false,())) (yt:=.inr (((),()),w,((yl w).1,(),(yl w).2.2),(yl w).2.1)) (fun i hi _ hp=>by
   rw[acU w (yl w) I i hi,if_neg (by simpa using hp)]) (fun i hi _ hp=>by
   rw[acU w (yl w) I i hi,if_pos (by simpa using hp)]) (by simp only[Wh.DG,BO,cond_false])
 have q':Comes Wh.DG (((0:Int),(),()),w,((yl w).1,(),(yl w).2.2),(yl w).2.1) (if CB w (yl w)=true then _ else _):=q
 unfold JJ
 change Wh.CW (x_ w.1).1=some ((yl w,(zE (x_ w.1).1).2),()) at b
 simp only[Wh.GH,a,Wh.OJ _ _ a,b,Wh.OT _ _ b,cb q',cv q',nQ,iy,cond_true]
 cases CB w (yl w) with
 |false=>rfl
 |true=>simp only[if_true,sumC,wl,Av,Wh.zI _ _ (Av _ _ _),cond_true,Bool.true_and]
theorem aeY (w:Wd)(S:zD w)(ho:okV w.1=true):Wh.q81 w=some (JS w,()):=by
 have I:=S4 ho
 have q:=xW (r:=Wh.Ek) (fun i=>(((i:Int),()),w)) (n:=w.2.2.2.1.length) (p:=fun i=> !Gi w.2.2.2.1 i) (yf:=.inl (false,())) (yt:=.inr ((),w)) (fun i hi _ hp=>by
   rw[acX w S i hi,if_neg (by simpa using hp)]) (fun i hi _ hp=>by
   rw[acX w S i hi,if_pos (by simpa using hp)]) (by simp only[Wh.Ek,BO,cond_false])
 have q':Comes Wh.Ek (((0:Int),()),w) (if JR w=true then _ else _):=q
 have r:=xW (r:=Wh.El) (fun i=>(((i:Int),()),w)) (n:=w.1.2.2.2.1.2.1.length) (p:=fun i=> !itF w.2.2.2.1 (w.1.2.2.2.1.2.1.getD i z0)) (yf:=.inl (false,())) (yt:=.inr ((),w)) (fun i hi _ hp=>by
   rw[acY w S I i hi,if_neg (by simpa using hp)]) (fun i hi _ hp=>by
   rw[acY w S I i hi,if_pos (by simpa using hp)]) (by simp only[Wh.El,BO,cond_false])
 have r':Comes Wh.El (((0:Int),()),w) (if Gq w=true then _ else _):=r
 have d:=adB w S ho
 unfold JS
 simp only[Wh.q81,cb q',cv q',cond_true]
 cases JR w with
 |false=>rfl
 |true=>
 simp only[if_true,sumC,cb r',cv r',cond_true]
 cases Gq w with
 |false=>rfl
 |true=>
 simp only[if_true,d,Wh.aaC _ _ d,nQ,iy,cond_true,Bool.true_and]
 cases w.1.1<;>rfl
theorem ak4 (w:Wd)(S:zD w):Wh.E9 w=some (Bc w,()):=by
 have a:=akY w.1 S.C9
 have e60:decide ((w.2.2.1.length:Int)>60) = !decide (w.2.2.1.length≤60):=by
  by_cases h:w.2.2.1.length≤60
  ·rw[decide_eq_true h,decide_eq_false (by omega)];rfl
  ·rw[decide_eq_false h,decide_eq_true (by omega)];rfl
 have e4:((w.2.1.length:Int) != 4) = !(w.2.1.length==4):=by rw[←CF];rfl
 unfold Bc
 cases ho:okV w.1 with
 |false=>
  rw[ho] at a
  simp only[Wh.E9,a,Wh.VP _ _ a,nQ,iy,cond_true,Bool.not_false,Bool.not_true,Bool.true_or,Bool.and_self,Bool.false_and]
 |true=>
 rw[ho] at a
 have g:=aeY w S ho
 have q:=xW (r:=Wh.DC) (fun i=>(((i:Int),()),w)) (n:=w.2.1.length) (p:=fun i=> !EL w i) (yf:=.inl (false,())) (yt:=.inr ((),w)) (fun i hi _ hp=>by
   rw[acT w S i hi,if_neg (by simpa using hp)]) (fun i hi _ hp=>by
   rw[acT w S i hi,if_pos (by simpa using hp)]) (by simp only[Wh.DC,BO,cond_false])
 have q':Comes Wh.DC (((0:Int),()),w) (if JH w=true then _ else _):=q
 have r:=xW (r:=Wh.DD) (fun i=>(((i:Int),()),w)) (n:=w.2.2.1.length) (p:=fun i=> !GB (w.2.2.1.getD i zP)) (yf:=.inl (false,())) (yt:=.inr ((),())) (fun i hi _ hp=>by
   rw[acZ w S i hi,if_neg (by simpa using hp)]) (fun i hi _ hp=>by
   rw[acZ w S i hi,if_pos (by simpa using hp)]) (by simp only[Wh.DD,BO,cond_false])
 have r':Comes Wh.DD (((0:Int),()),w) (if J8 w=true then _ else _):=r
 simp only[Wh.E9,a,Wh.VP _ _ a,g,Wh.q81_v _ _ g,e4,e60,nQ,iy,Bool.or_true,Bool.and_self,cond_true,cond_false,Bool.not_true,Bool.true_and,cb q',cv q']
 cases (w.2.1.length==4) with
 |false=>rfl
 |true=>
 cases decide (w.2.2.1.length≤60) with
 |false=>rfl
 |true=>
 cases JS w with
 |false=>rfl
 |true=>
 simp only[Bool.not_true,cond_false,Bool.true_and]
 cases JH w with
 |false=>rfl
 |true=>
 simp only[if_true,sumC,cb r',cv r',cond_true]
 cases J8 w<;>rfl
noncomputable def Wu (w:Wd):Bool:=bif !w.1.1 then w7 (yl w).1 (w.2.2.2.1.length:Int) ((w.2.2.2.1.length:Int)+1)&&CB w (yl w) else w7 w.1.2.2.2.1.1 (w.2.2.2.1.length:Int) (w.2.2.2.1.length:Int)&&CB w w.1.2.2.2.1
theorem alD (w:Wd)(ho:okV w.1=true):Wu w=(Gq w&&(bif w.1.1 then w.1.2.2.2.1.1==(w.2.2.2.1.length:Int) else JJ w)):=by
 have I:=S4 ho
 unfold Wu
 cases hu:w.1.1 with
 |false=>
  have he:w.1.2.2.2.1.2.1.length=0:=by
   unfold okV at ho
   simp only[Bool.and_eq_true] at ho
   have:=ho.2.2.2
   rw[hu] at this
   simp only[cond_false,JI,Bool.and_eq_true,beq_iff_eq] at this
   exact this.1.1.1.1.1
  have hi:Gq w=true:=by
   unfold Gq
   rw[he];rfl
  rw[hi]
  simp only[Bool.not_false,cond_true,cond_false,Bool.true_and,JJ]
  exact Bool.and_comm _ _
 |true=>
  simp only[Bool.not_true,cond_false,cond_true]
  have hb:w7 w.1.2.2.2.1.1 (w.2.2.2.1.length:Int) (w.2.2.2.1.length:Int)=(w.1.2.2.2.1.1==(w.2.2.2.1.length:Int)):=by
   unfold w7
   rw[Bool.eq_iff_iff,decide_eq_true_iff,beq_iff_eq]
   omega
  rw[hb,Bool.and_comm]
  cases hl:w.1.2.2.2.1.1==(w.2.2.2.1.length:Int) with
  |false=>simp only[Bool.and_false]
  |true=>
   have hl':w.1.2.2.2.1.1=(w.2.2.2.1.length:Int):=by simpa using hl
   simp only[Bool.and_true]
   unfold CB Gq
   refine NO fun i hi=>?_
   obtain⟨e,he,_,_,h4⟩:=JM I hi
   unfold B9 itF
   rw[he,decide_eq_true (by omega:(e:Int)≤(w.2.2.2.1.length:Int)),decide_eq_false (by omega:¬(e:Int)>(w.2.2.2.1.length:Int))]
   rfl
theorem afa (w:Wd)(S:zD w):Wh.q91 w=some (Bc w,()):=by
 have a:=ae5 w.1 S.C9
 have e60:decide ((w.2.2.1.length:Int)>60) = !decide (w.2.2.1.length≤60):=by
  by_cases h:w.2.2.1.length≤60
  ·rw[decide_eq_true h,decide_eq_false (by omega)];rfl
  ·rw[decide_eq_false h,decide_eq_true (by omega)];rfl
 have e4:((w.2.1.length:Int) != 4) = !(w.2.1.length==4):=by rw[←CF];rfl
 have wl:=wlen S
 have hg:=S.giv
 have wl0:IntKind.wrap .i64 ((w.2.2.2.1.length:Int)+0)=(w.2.2.2.1.length:Int):=wi (by omega) (by omega)
 unfold Bc
 cases ho:okV w.1 with
 |false=>
  rw[ho] at a
  simp only[Wh.q91,a,Wh.Vw _ _ a,nQ,iy,cond_true,Bool.not_false,Bool.false_and]
 |true=>
 rw[ho] at a
 have I:=S4 ho
 have I2:yC (yl w):=acM ho
 have hl:=aaa ho
 have c:=Xf w.1.2.2.1 (by omega)
 change Wh.C5 w.1.2.2.1=some (((x_ w.1).1,((x_ w.1).2:Int)),()) at c
 obtain⟨r1,r2⟩:=Pw w.1 (by omega)
 have d:=Ym (x_ w.1).1 r1 r2
 change Wh.DR (x_ w.1).1=some ((yl w,(zE (x_ w.1).1).2),()) at d
 have q:=xW (r:=Wh.Eo) (fun i=>(((i:Int),(),w.2.1,(w.2.1.length:Int)),w)) (n:=w.2.1.length) (p:=fun i=> !EL w i) (yf:=.inl (false,())) (yt:=.inr ((),w)) (fun i hi _ hp=>by
   rw[Yn w S i hi,if_neg (by simpa using hp)]) (fun i hi _ hp=>by
   rw[Yn w S i hi,if_pos (by simpa using hp)]) (by simp only[Wh.Eo,BO,cond_false])
 have q':Comes Wh.Eo (((0:Int),(),w.2.1,(w.2.1.length:Int)),w) (if JH w=true then _ else _):=q
 have r:=xW (r:=Wh.Ep) (fun i=>(((i:Int),w.2.2.1,(),(w.2.2.1.length:Int)),w)) (n:=w.2.2.1.length) (p:=fun i=> !GB (w.2.2.1.getD i zP)) (yf:=.inl (false,())) (yt:=.inr ((),w)) (fun i hi _ hp=>by
   rw[Yu w S i hi,if_neg (by simpa using hp)]) (fun i hi _ hp=>by
   rw[Yu w S i hi,if_pos (by simpa using hp)]) (by simp only[Wh.Ep,BO,cond_false])
 have r':Comes Wh.Ep (((0:Int),w.2.2.1,(),(w.2.2.1.length:Int)),w) (if J8 w=true then _ else _):=r
 have t:=xW (r:=Wh.Er) (fun i=>(((i:Int),w.2.2.2.1,(),(w.2.2.2.1.length:Int)),w)) (n:=w.2.2.2.1.length) (p:=fun i=> !Gi w.2.2.2.1 i) (yf:=.inl (false,())) (yt:=.inr ((),w)) (fun i hi _ hp=>by
   rw[Yr w S i hi,if_neg (by simpa using hp)]) (fun i hi _ hp=>by
   rw[Yr w S i hi,if_pos (by simpa using hp)]) (by simp only[Wh.Er,BO,cond_false])
 have t':Comes Wh.Er (((0:Int),w.2.2.2.1,(),(w.2.2.2.1.length:Int)),w) (if JR w=true then _ else _):=t
 have u:=xW (r:=Wh.Es) (fun i=>(((i:Int),(),(),((yl w).2.1.length:Int)),w,(yl w).2.1)) (n:=(yl w).2.1.length) (p:=fun i=> !B9 w.2.2.2.1 ((yl w).2.1.getD i z0)) (yf:=.inl (false,())) (yt:=.inr ((),())) (fun i hi _ hp=>by
   rw[Yo w (yl w) I2 i hi,if_neg (by simpa using hp)]) (fun i hi _ hp=>by
   rw[Yo w (yl w) I2 i hi,if_pos (by simpa using hp)]) (by simp only[Wh.Es,BO,cond_false])
 have u':Comes Wh.Es (((0:Int),(),(),((yl w).2.1.length:Int)),w,(yl w).2.1) (if CB w (yl w)=true then _ else _):=u
 have v:=xW (r:=Wh.Et) (fun i=>(((i:Int),(),w.1.2.2.2.1.2.1,(w.1.2.2.2.1.2.1.length:Int)),w)) (n:=w.1.2.2.2.1.2.1.length) (p:=fun i=> !B9 w.2.2.2.1 (w.1.2.2.2.1.2.1.getD i z0)) (yf:=.inl (false,())) (yt:=.inr ((),())) (fun i hi _ hp=>by
   rw[Yy w w.1.2.2.2.1 I i hi,if_neg (by simpa using hp)]) (fun i hi _ hp=>by
   rw[Yy w w.1.2.2.2.1 I i hi,if_pos (by simpa using hp)]) (by simp only[Wh.Et,BO,cond_false])
 have v':Comes Wh.Et (((0:Int),(),w.1.2.2.2.1.2.1,(w.1.2.2.2.1.2.1.length:Int)),w) (if CB w w.1.2.2.2.1=true then _ else _):=v
 unfold JS
 rw[←alD w ho]
 unfold Wu
 simp only[Wh.q91,a,Wh.Vw _ _ a,e4,e60,nQ,iy,cond_true,cond_false,Bool.not_true,Bool.true_and,cb q',cv q']
 cases (w.2.1.length==4) with
 |false=>rfl
 |true=>
 cases decide (w.2.2.1.length≤60) with
 |false=>rfl
 |true=>
 simp only[Bool.not_true,cond_false,Bool.true_and]
 cases JH w with
 |false=>simp only[Bool.false_and,Bool.and_false];rfl
 |true=>
 simp only[if_true,sumC,cb r',cv r',cond_true]
 cases J8 w with
 |false=>simp only[Bool.and_false];rfl
 |true=>
 simp only[if_true,cb t',cv t',cond_true,Bool.and_self,Bool.and_true]
 cases JR w with
 |false=>rfl
 |true=>
 simp only[if_true,c,Wh.V0 _ _ c,d,Wh.Uq _ _ d,cond_true,wl,wl0,zA,Wh.zX _ _ (zA _ _ _),cb u',cv u',cb v',cv v',Bool.true_and]
 cases w.1.1 with
 |false=>
  simp only[Bool.not_false,cond_true]
  cases w7 (yl w).1 (w.2.2.2.1.length:Int) ((w.2.2.2.1.length:Int)+1) with
  |false=>rfl
  |true=>cases CB w (yl w)<;>rfl
 |true=>
  simp only[Bool.not_true,cond_false]
  cases w7 w.1.2.2.2.1.1 (w.2.2.2.1.length:Int) (w.2.2.2.1.length:Int) with
  |false=>rfl
  |true=>cases CB w w.1.2.2.2.1<;>rfl
end Pl
open Go Go.Ab Go.Lib
namespace Pl
end Pl
open Go Go.Ab
namespace Pc
theorem PA (s:fT.D)(hs:BF s)(n:Int):Wh.DZ (s,n)=some (za s n,()):=by
 have zv:∀i,i<s.2.2.1.length→Wh.Fu (((i:Int),(),n),s)=bif !A2 s n i then some (.inl ((((i+1:Nat):Int),(),n),s)) else some (.inr (.inl (((gT s i).2.1,true),()))):=by
  intro i hi
  have eA:List.getD s.2.2.1 i ([],[],())=gT s i:=rfl
  have f1:List.getD (gT s i).1 0 0=ov s i:=rfl
  have hi':decide ((i:Int)<(s.2.2.1.length:Int))=true:=by simpa using hi
  have h0:decide ((0:Int)≤(i:Int))=true:=by simp
  have w:=lg (i:=i) (by have:=hs.1;omega)
  have d1:=len1 (gT s i).1
  have d2:(ov s i==n)=decide (ov s i=n):=rfl
  have d3:(!decide ((gT s i).1.length=1) || decide ((0:Int)<((gT s i).1.length:Int)))=true:=by
   by_cases e:(gT s i).1.length=1
   ·simp[e]
   ·simp[e]
  cases hA:decide ((gT s i).1.length=1)<;>cases hB:decide (ov s i=n)<;>simp only[hA,Bool.not_true,Bool.not_false,Bool.true_or,Bool.false_or] at d3<;>
   simp only[Wh.Fu,hi',h0,Int.toNat_natCast,Int.toNat_zero,eA,f1,d1,d2,hA,hB,d3,w,A2,iy,cond_true,cond_false,Bool.not_true,Bool.not_false,Bool.and_true,Bool.and_false,Bool.true_or,Bool.or_true,Bool.and_self,decide_true,Int.le_refl]
 have hl:Comes Wh.Fu (((0:Int),(),n),s) (if yQ s n<s.2.2.1.length then .inl (((gT s (yQ s n)).2.1,true),()) else .inr ((),())):=by
  refine B8 (fun i=>(((i:Int),(),n),s)) (fun i=> !A2 s n i) (fun i=>if i<s.2.2.1.length then(.inl (((gT s i).2.1,true),()):((List UInt8×Bool)×Unit)⊕(Unit×Unit)) else .inr ((),())) ?_ ?_ ?_
  ·intro i hi h
   simp only[zv i hi];rw[h];rfl
  ·intro i hi h
   simp only[zv i hi];rw[h,if_pos hi];rfl
  ·simp[Wh.Fu]
 by_cases h:yQ s n<s.2.2.1.length
 ·rw[if_pos h] at hl
  simp only[Wh.DZ,cb hl,cv hl,za,if_pos h,cond_true]
 ·rw[if_neg h] at hl
  simp only[Wh.DZ,cb hl,cv hl,za,if_neg h,cond_true]
theorem alh (s:fT.D)(hs:BF s)(h:y3 s=true):Wh.q84 s=some ((pre s:Int),()):=by
 have h1:1≤s.1∧s.1≤24:=by
  simp only[y3,Bool.and_eq_true,decide_eq_true_eq] at h;exact h.1.1.1
 have hl:Comes Wh.FP (((0:Int),()),s) ((pre s:Int),()):=by
  refine B8 (fun n=>(((n:Int),()),s)) (n:=s.1.toNat) (fun n=>(za s n).2) (fun n=>((n:Int),())) ?_ ?_ ?_
  ·intro i hi h
   have w:=lg (i:=i) (by omega)
   simp only[Wh.FP,Wh.Hi,bx,PA s hs,h,w,iy,nQ,cond_true,cond_false,Bool.not_true]
  ·intro i hi h
   simp only[Wh.FP,Wh.Hi,bx,PA s hs,h,iy,nQ,cond_true,Bool.not_false]
  ·have e:((s.1.toNat:Nat):Int)=s.1:=by omega
   simp only[Wh.FP,Wh.Hi,bx,PA s hs,e,aeX h,iy,nQ,cond_true,Bool.not_false]
 simp only[Wh.q84,cb hl,cv hl,cond_true]
def Ba (s:fT.D):Nat→List UInt8
 |0=>[]
 |i+1=>Ba s i++(za s i).1
theorem Si {s:fT.D}(h:y3 s=true)(n:Int):(za s n).1.length≤16:=by
 obtain⟨h1,h2,ha,_⟩:=IV h
 unfold za
 by_cases hi:yQ s n<s.2.2.1.length
 ·rw[if_pos hi]
  have:=oL.1 ha _ hi
  simp only[x5,Bool.and_eq_true,decide_eq_true_eq] at this
  have:=this.1.2
  show(gT s (yQ s n)).2.1.length≤16
  omega
 ·rw[if_neg hi];exact Nat.zero_le _
theorem PD {s:fT.D}(h:y3 s=true):∀i,(Ba s i).length≤16*i
 |0=>Nat.le_refl _
 |i+1=>by
  rw[Ba,List.length_append]
  have:=PD h i;have:=Si h i;omega
theorem Tc (s:fT.D):pre s≤s.1.toNat:=by
 have:=(KP (fun n=>(za s n).2) s.1.toNat 0).2.1
 unfold pre;omega
def HQ (g:th.D):List UInt8:=(Ba g.2.1 (pre g.2.1)).take g.1.1.toNat
theorem alg (g:th.D)(hg:BE g)(h:z6 g=true):Wh.Ff g=some (HQ g,()):=by
 obtain⟨hp,hs,_,_⟩:=JQ h
 obtain⟨a1,a2⟩:=J_ hp
 have h1:=(IV hs).1
 have hpre:=alh g.2.1 hg.2 hs
 have N7:=Wh.q84_v _ _ hpre
 have hple:=Tc g.2.1
 have hl:Comes Wh.GY (((0:Int),[],()),g) (((),Ba g.2.1 (pre g.2.1)),g):=by
  refine x8 (st:=fun i=>(((i:Int),Ba g.2.1 i,()),g)) (n:=pre g.2.1) ?_ ?_ 0 (Nat.zero_le _)
  ·intro i hi
   have hi':decide ((i:Int)<((pre g.2.1:Nat):Int))=true:=by simpa using hi
   have j5:=PA g.2.1 hg.2 i
   have Sm:=Wh.abA _ _ j5
   have w:=lg (i:=i) (by omega)
   have hb:decide ((Ba g.2.1 i).length+(za g.2.1 i).1.length≤dh)=true:=by
    have:=PD hs i;have:=Si hs (i:Int)
    exact decide_eq_true (by unfold dh;omega)
   simp only[Wh.GY,hpre,N7,hi',j5,Sm,hb,w,Ba,iy,nQ,cond_true]
  ·have hi':decide (((pre g.2.1:Nat):Int)<((pre g.2.1:Nat):Int))=false:=by simp
   simp only[Wh.GY,hpre,N7,hi',iy,nQ,cond_true,cond_false]
 simp only[Wh.Ff,cb hl,cv hl,cond_true,HQ]
 generalize Ba g.2.1 (pre g.2.1)=out
 have z:decide ((0:Int)≤g.1.1)=true:=decide_eq_true (by omega)
 by_cases e:g.1.1<(out.length:Int)
 ·have e1:decide ((out.length:Int)>g.1.1)=true:=decide_eq_true e
  have e2:decide (g.1.1≤(out.length:Int))=true:=decide_eq_true (by omega)
  simp only[e1,e2,z,iy,cond_true,Bool.and_self,Int.sub_zero,Int.toNat_zero,List.drop_zero]
 ·have e1:decide ((out.length:Int)>g.1.1)=false:=decide_eq_false e
  simp only[e1,cond_false]
  rw[List.take_of_length_le (by omega)]
theorem afc (g:th.D)(hg:BE g)(h:z6 g=true):Wh.q86 g=some (HQ g,()):=by
 obtain⟨hp,hs,_,_⟩:=JQ h
 obtain⟨a1,a2⟩:=J_ hp
 have h1:=(IV hs).1
 have hpre:=YC g.2.1 hg.2 h1
 have N7:=Wh.q9_v _ _ hpre
 have hple:=Tc g.2.1
 have hok:=YA g hg
 have hok':=Wh.Ur _ _ hok
 have hl:Comes Wh.HD (((0:Int),[],(),((pre g.2.1:Nat):Int)),g) (((),Ba g.2.1 (pre g.2.1)),g):=by
  refine x8 (st:=fun i=>(((i:Int),Ba g.2.1 i,(),((pre g.2.1:Nat):Int)),g)) (n:=pre g.2.1) ?_ ?_ 0 (Nat.zero_le _)
  ·intro i hi
   have hi':decide ((i:Int)<((pre g.2.1:Nat):Int))=true:=by simpa using hi
   have j5:=Sp g.2.1 hg.2 i
   have Sm:=Wh.q21_v _ _ j5
   have w:=lg (i:=i) (by omega)
   have hb:decide ((Ba g.2.1 i).length+(za g.2.1 i).1.length≤dh)=true:=by
    have:=PD hs i;have:=Si hs (i:Int)
    exact decide_eq_true (by unfold dh;omega)
   simp only[Wh.HD,hi',j5,Sm,hb,w,Ba,iy,nQ,cond_true]
  ·have hi':decide (((pre g.2.1:Nat):Int)<((pre g.2.1:Nat):Int))=false:=by simp
   simp only[Wh.HD,hi',cond_false]
 simp only[Wh.q86,hok,hok',h,hpre,N7,cb hl,cv hl,iy,nQ,cond_true,cond_false,Bool.not_true,HQ]
 generalize Ba g.2.1 (pre g.2.1)=out
 have z:decide ((0:Int)≤g.1.1)=true:=decide_eq_true (by omega)
 have z2:decide ((0:Int)≤(out.length:Int))=true:=decide_eq_true (by omega)
 by_cases e:g.1.1<(out.length:Int)
 ·have e2:decide (g.1.1≤(out.length:Int))=true:=decide_eq_true (by omega)
  simp only[if_pos e,e2,z,cond_true,Bool.and_self,Int.sub_zero,Int.toNat_zero,List.drop_zero]
 ·simp only[if_neg e,z2,Int.le_refl,decide_true,cond_true,Bool.and_self,Int.sub_zero,Int.toNat_zero,Int.toNat_natCast,List.drop_zero]
  rw[List.take_of_length_le (by omega),List.take_of_length_le (by omega)]
def Ic (c:nc.D):List UInt8:=bif !AH c || c.2.2.2.2.1==0 then [] else HQ c.2.2.2.2.2.1
theorem R1 {c:nc.D}(h:AH c=true)(hn:(c.2.2.2.2.1==0)=false):z6 c.2.2.2.2.2.1=true:=by
 simp only[AH,Bool.and_eq_true,hn,cond_false] at h
 exact h.1.2
theorem afb (c:nc.D)(hg:BE c.2.2.2.2.2.1)(hn:c.2.2.2.1.length≤4611686018427387904):Wh.D7 c=some (Ic c,()):=by
 have hO:=Yz c hg hn
 have hO':=Wh.Vt _ _ hO
 cases h:AH c with
 |false=>simp only[Wh.D7,hO,hO',h,Ic,iy,nQ,cond_true,Bool.not_false,Bool.true_or]
 |true=>
  cases h2:(c.2.2.2.2.1==0) with
  |true=>simp only[Wh.D7,hO,hO',h,h2,Ic,iy,nQ,cond_true,cond_false,Bool.not_true,Bool.or_true]
  |false=>
   have hT:=afc _ hg (R1 h h2)
   have hT':=Wh.q86_v _ _ hT
   simp only[Wh.D7,hO,hO',h,h2,hT,hT',Ic,iy,nQ,cond_true,cond_false,Bool.not_true,Bool.or_false]
end Pc
