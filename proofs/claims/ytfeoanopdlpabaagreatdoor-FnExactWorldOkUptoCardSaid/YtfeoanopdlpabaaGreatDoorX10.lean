import Derived.Test.YtfeoanopdlpabaaGreatDoorX9
open Go Go.Ab
namespace Pl
theorem abY (w:an.D):Wh.Gq (w,w)=some (true,()):=by simp[Wh.Gq]
theorem Wc (a:List an.D)(h:a.length≤4611686018427387904):Wh.q91 (a,a)=some (true,()):=by
 have hl:Comes Wh.G8 (((0:Int),a,a),()) (.inr ((),())):=by
  refine yd (st:=fun i=>(((i:Int),a,a),())) (n:=a.length) ?_ ?_ 0 (Nat.zero_le _)
  ·intro i hi
   have h2:=mb (i:=i) (by omega)
   have h4:=abY (a[i])
   simp[Wh.G8,Wh.Zc _ _ h4,iy,h2,hi,h4,nQ]
  ·simp[Wh.G8]
 simp[Wh.q91,cb hl,cv hl]
theorem ajI (a:an.D):Wh.H7 a=some (a,()):=rfl
theorem abn (a:List an.D)(h:a.length≤1048576):Wh.q97 a=some (a,()):=by
 have hl:Comes Wh.Fs (((0:Int),a,()),List.replicate a.length ((0:Int),([]:List UInt8),(0:Int),([]:List UInt8),())) ((),a):=by
  have:=yd (r:=Wh.Fs) (st:=fun i=>(((i:Int),a,()),iB a ((0:Int),([]:List UInt8),(0:Int),([]:List UInt8),()) i)) (n:=a.length) (y:=((),a)) ?_ ?_ 0 (Nat.zero_le _)
  ·rw[Db] at this;exact this
  ·intro i hi
   have hi':decide ((i:Int)<(a.length:Int))=true:=by simpa using hi
   have h0:decide ((0:Int)≤(i:Int))=true:=by simp
   have he:=ajI (List.getD a i ((0:Int),([]:List UInt8),(0:Int),([]:List UInt8),()))
   have hs:(iB a ((0:Int),([]:List UInt8),(0:Int),([]:List UInt8),()) i).set i (List.getD a i ((0:Int),([]:List UInt8),(0:Int),([]:List UInt8),()))=iB a ((0:Int),([]:List UInt8),(0:Int),([]:List UInt8),()) (i+1):=Da a _ _ i hi
   simp only[Wh.Fs,hi',h0,Int.toNat_natCast,C_ a ((0:Int),([]:List UInt8),(0:Int),([]:List UInt8),()) i (by omega),he,Wh.Zh _ _ he,hs,mb (i:=i) (by omega),iy,nQ,cond_true,Bool.and_self]
  ·have hi':decide (((a.length:Nat):Int)<(a.length:Int))=false:=by simp
   simp only[Wh.Fs,hi',cond_false,C9]
 have b0:decide ((0:Int)≤(a.length:Int))=true:=by simp
 have b1:decide ((a.length:Int)≤(dh:Int))=true:=decide_eq_true (by unfold dh;omega)
 simp only[Wh.q97,Int.toNat_natCast,cb hl,cv hl,b0,b1,Int.le_refl,decide_true,iy,cond_true,Bool.and_self]
theorem ajn (a:an.D)(n:Int):∃v,Wh.Gt (a,n)=some (v,()):=by
 simp only[Wh.Gt]
 repeat' (first|exact⟨_,rfl⟩|refine Q0 _ ?_ ?_)
theorem abi (a:List an.D)(n:Int)(h:a.length≤1048576):∃v,Wh.q94 (a,n)=some (v,()):=by
 have hl:∀d k:Nat,k+d=a.length→∀m:Int,∃y,Comes Wh.Fq (((k:Int),m,a),()) y:=by
  intro d
  induction d with
  |zero=>
   intro k hk m
   have hk':decide ((k:Int)<(a.length:Int))=false:=by simp;omega
   exact⟨_,.out (by simp only[Wh.Fq,hk',cond_false];rfl)⟩
  |succ d ih=>
   intro k hk m
   have hk':decide ((k:Int)<(a.length:Int))=true:=by simp;omega
   have h0:decide ((0:Int)≤(k:Int))=true:=by simp
   have w:=mb (i:=k) (by omega)
   obtain⟨v,hv⟩:=ajn (List.getD a k ((0:Int),([]:List UInt8),(0:Int),([]:List UInt8),())) m
   cases hd:decide (v<0) with
   |true=>exact⟨_,.out (by simp only[Wh.Fq,hk',h0,Int.toNat_natCast,hv,Wh.SE _ _ hv,hd,iy,nQ,cond_true,Bool.and_self];rfl)⟩
   |false=>
    obtain⟨y,hy⟩:=ih (k+1) (by omega) v
    exact⟨y,.again (by simp only[Wh.Fq,hk',h0,w,Int.toNat_natCast,hv,Wh.SE _ _ hv,hd,iy,nQ,cond_true,cond_false,Bool.and_self]) hy⟩
 simp only[Wh.q94]
 cases decide (IntKind.wrap .i64 (n-(a.length:Int))<0) with
 |true=>exact⟨_,rfl⟩
 |false=>
  obtain⟨y,hy⟩:=hl a.length 0 (by omega) (IntKind.wrap .i64 (n-(a.length:Int)))
  have e1:=cb hy
  have e2:=cv hy Wh.UX
  rw[show(((0:Nat):Int))=0 from rfl] at e1 e2
  simp only[e1,e2,cond_true,cond_false]
  cases y with
  |inl y=>exact⟨_,rfl⟩
  |inr y=>exact⟨_,rfl⟩
theorem abW (w:nc.D):Wh.q90 (w,w)=some (true,()):=by simp[Wh.q90]
theorem abV (a:List nc.D)(h:a.length≤4611686018427387904):Wh.q55 (a,a)=some (true,()):=by
 have hl:Comes Wh.G3 (((0:Int),a,a),()) (.inr ((),())):=by
  refine yd (st:=fun i=>(((i:Int),a,a),())) (n:=a.length) ?_ ?_ 0 (Nat.zero_le _)
  ·intro i hi
   have h2:=mb (i:=i) (by omega)
   have h4:=abW (a[i])
   simp[Wh.G3,Wh.q90_v _ _ h4,iy,h2,hi,h4,nQ]
  ·simp[Wh.G3]
 simp[Wh.q55,cb hl,cv hl]
theorem ajH (a:nc.D):Wh.q96 a=some (a,()):=rfl
theorem ajG (a:List nc.D)(h:a.length≤1048576):Wh.q68 a=some (a,()):=by
 have hl:Comes Wh.Fj (((0:Int),a,()),List.replicate a.length ((0:Int),(0:Int),(0:Int),(0:Int),false,())) ((),a):=by
  have:=yd (r:=Wh.Fj) (st:=fun i=>(((i:Int),a,()),iB a ((0:Int),(0:Int),(0:Int),(0:Int),false,()) i)) (n:=a.length) (y:=((),a)) ?_ ?_ 0 (Nat.zero_le _)
  ·rw[Db] at this;exact this
  ·intro i hi
   have hi':decide ((i:Int)<(a.length:Int))=true:=by simpa using hi
   have h0:decide ((0:Int)≤(i:Int))=true:=by simp
   have he:=ajH (List.getD a i ((0:Int),(0:Int),(0:Int),(0:Int),false,()))
   have hs:(iB a ((0:Int),(0:Int),(0:Int),(0:Int),false,()) i).set i (List.getD a i ((0:Int),(0:Int),(0:Int),(0:Int),false,()))=iB a ((0:Int),(0:Int),(0:Int),(0:Int),false,()) (i+1):=Da a _ _ i hi
   simp only[Wh.Fj,hi',h0,Int.toNat_natCast,C_ a ((0:Int),(0:Int),(0:Int),(0:Int),false,()) i (by omega),he,Wh.q96_v _ _ he,hs,mb (i:=i) (by omega),iy,nQ,cond_true,Bool.and_self]
  ·have hi':decide (((a.length:Nat):Int)<(a.length:Int))=false:=by simp
   simp only[Wh.Fj,hi',cond_false,C9]
 have b0:decide ((0:Int)≤(a.length:Int))=true:=by simp
 have b1:decide ((a.length:Int)≤(dh:Int))=true:=decide_eq_true (by unfold dh;omega)
 simp only[Wh.q68,Int.toNat_natCast,cb hl,cv hl,b0,b1,Int.le_refl,decide_true,iy,cond_true,Bool.and_self]
theorem ajl (a:List nc.D)(n:Int):∃v,Wh.q61 (a,n)=some (v,()):=by
 simp only[Wh.q61]
 cases decide (IntKind.wrap .i64 (n-(a.length:Int))<0)<;>exact⟨_,rfl⟩
theorem abP (w:nI.D):Wh.q53 (w,w)=some (true,()):=by simp[Wh.q53]
theorem abO (a:List nI.D)(h:a.length≤4611686018427387904):Wh.q27 (a,a)=some (true,()):=by
 have hl:Comes Wh.GX (((0:Int),a,a),()) (.inr ((),())):=by
  refine yd (st:=fun i=>(((i:Int),a,a),())) (n:=a.length) ?_ ?_ 0 (Nat.zero_le _)
  ·intro i hi
   have h2:=mb (i:=i) (by omega)
   have h4:=abP (a[i])
   simp[Wh.GX,Wh.q53_v _ _ h4,iy,h2,hi,h4,nQ]
  ·simp[Wh.GX]
 simp[Wh.q27,cb hl,cv hl]
theorem ajA (a:nI.D):Wh.q66 a=some (a,()):=rfl
theorem ajz (a:List nI.D)(h:a.length≤1048576):Wh.q35 a=some (a,()):=by
 have hl:Comes Wh.Fa (((0:Int),a,()),List.replicate a.length ((0:Int),(0:Int),(0:Int),(0:Int),())) ((),a):=by
  have:=yd (r:=Wh.Fa) (st:=fun i=>(((i:Int),a,()),iB a ((0:Int),(0:Int),(0:Int),(0:Int),()) i)) (n:=a.length) (y:=((),a)) ?_ ?_ 0 (Nat.zero_le _)
  ·rw[Db] at this;exact this
  ·intro i hi
   have hi':decide ((i:Int)<(a.length:Int))=true:=by simpa using hi
   have h0:decide ((0:Int)≤(i:Int))=true:=by simp
   have he:=ajA (List.getD a i ((0:Int),(0:Int),(0:Int),(0:Int),()))
   have hs:(iB a ((0:Int),(0:Int),(0:Int),(0:Int),()) i).set i (List.getD a i ((0:Int),(0:Int),(0:Int),(0:Int),()))=iB a ((0:Int),(0:Int),(0:Int),(0:Int),()) (i+1):=Da a _ _ i hi
   simp only[Wh.Fa,hi',h0,Int.toNat_natCast,C_ a ((0:Int),(0:Int),(0:Int),(0:Int),()) i (by omega),he,Wh.q66_v _ _ he,hs,mb (i:=i) (by omega),iy,nQ,cond_true,Bool.and_self]
  ·have hi':decide (((a.length:Nat):Int)<(a.length:Int))=false:=by simp
   simp only[Wh.Fa,hi',cond_false,C9]
 have b0:decide ((0:Int)≤(a.length:Int))=true:=by simp
 have b1:decide ((a.length:Int)≤(dh:Int))=true:=decide_eq_true (by unfold dh;omega)
 simp only[Wh.q35,Int.toNat_natCast,cb hl,cv hl,b0,b1,Int.le_refl,decide_true,iy,cond_true,Bool.and_self]
theorem ajg (a:List nI.D)(n:Int):∃v,Wh.q31 (a,n)=some (v,()):=by
 simp only[Wh.q31]
 cases decide (IntKind.wrap .i64 (n-(a.length:Int))<0)<;>exact⟨_,rfl⟩
theorem ab4 (w:pg.D):Wh.q92 (w,w)=some (true,()):=by simp[Wh.q92]
theorem ab3 (a:List pg.D)(h:a.length≤4611686018427387904):Wh.q57 (a,a)=some (true,()):=by
 have hl:Comes Wh.G4 (((0:Int),a,a),()) (.inr ((),())):=by
  refine yd (st:=fun i=>(((i:Int),a,a),())) (n:=a.length) ?_ ?_ 0 (Nat.zero_le _)
  ·intro i hi
   have h2:=mb (i:=i) (by omega)
   have h4:=ab4 (a[i])
   simp[Wh.G4,Wh.q92_v _ _ h4,iy,h2,hi,h4,nQ]
  ·simp[Wh.G4]
 simp[Wh.q57,cb hl,cv hl]
theorem ajO (a:pg.D):Wh.q98 a=some (a,()):=rfl
theorem ajN (a:List pg.D)(h:a.length≤1048576):Wh.q70 a=some (a,()):=by
 have hl:Comes Wh.Fk (((0:Int),a,()),List.replicate a.length ((0:Int),(0:Int),(0:Int),(0:Int),(0:Int),(0:Int),())) ((),a):=by
  have:=yd (r:=Wh.Fk) (st:=fun i=>(((i:Int),a,()),iB a ((0:Int),(0:Int),(0:Int),(0:Int),(0:Int),(0:Int),()) i)) (n:=a.length) (y:=((),a)) ?_ ?_ 0 (Nat.zero_le _)
  ·rw[Db] at this;exact this
  ·intro i hi
   have hi':decide ((i:Int)<(a.length:Int))=true:=by simpa using hi
   have h0:decide ((0:Int)≤(i:Int))=true:=by simp
   have he:=ajO (List.getD a i ((0:Int),(0:Int),(0:Int),(0:Int),(0:Int),(0:Int),()))
   have hs:(iB a ((0:Int),(0:Int),(0:Int),(0:Int),(0:Int),(0:Int),()) i).set i (List.getD a i ((0:Int),(0:Int),(0:Int),(0:Int),(0:Int),(0:Int),()))=iB a ((0:Int),(0:Int),(0:Int),(0:Int),(0:Int),(0:Int),()) (i+1):=Da a _ _ i hi
   simp only[Wh.Fk,hi',h0,Int.toNat_natCast,C_ a ((0:Int),(0:Int),(0:Int),(0:Int),(0:Int),(0:Int),()) i (by omega),he,Wh.q98_v _ _ he,hs,mb (i:=i) (by omega),iy,nQ,cond_true,Bool.and_self]
  ·have hi':decide (((a.length:Nat):Int)<(a.length:Int))=false:=by simp
   simp only[Wh.Fk,hi',cond_false,C9]
 have b0:decide ((0:Int)≤(a.length:Int))=true:=by simp
 have b1:decide ((a.length:Int)≤(dh:Int))=true:=decide_eq_true (by unfold dh;omega)
 simp only[Wh.q70,Int.toNat_natCast,cb hl,cv hl,b0,b1,Int.le_refl,decide_true,iy,cond_true,Bool.and_self]
theorem ajr (a:List pg.D)(n:Int):∃v,Wh.q63 (a,n)=some (v,()):=by
 simp only[Wh.q63]
 cases decide (IntKind.wrap .i64 (n-(a.length:Int))<0)<;>exact⟨_,rfl⟩
def M3 (c:fk.D):Prop:=c.2.1.length≤1048576
def M4 (p:n4.D):Prop:=p.1.length≤1048576
structure FL (s:ng.D):Prop where
 log:s.2.2.1.length≤1048576
 cat:M3 s.2.2.2.1
 items:∀x∈s.2.2.2.1.2.1,x.2.1.length≤1048576∧x.2.2.2.1.length≤1048576
 NL:M4 s.2.2.2.2.1
 bks:s.2.2.2.2.2.1.length≤1048576
 CU:s.2.2.2.2.2.2.1.length≤1048576
theorem abQ (c:fk.D)(h:M3 c):Wh.GD (c,c)=some (true,()):=by
 have e:=Wc c.2.1 (by unfold M3 at h;omega)
 simp[Wh.GD,e,Wh.UU _ _ e,iy,nQ]
theorem ab2 (c:n4.D)(h:M4 c):Wh.Gs (c,c)=some (true,()):=by
 have e:=abV c.1 (by unfold M4 at h;omega)
 simp[Wh.Gs,e,Wh.q55_v _ _ e,iy,nQ]
theorem ab5 (s:ng.D)(h:FL s):Wh.q58 (s,s)=some (true,()):=by
 have e1:=abQ _ h.cat
 have e2:=ab2 _ h.NL
 have e3:=abO s.2.2.2.2.2.1 (by have:=h.bks;omega)
 have e4:=ab3 s.2.2.2.2.2.2.1 (by have:=h.CU;omega)
 simp[Wh.q58,e1,e2,e3,e4,Wh.ZF _ _ e1,Wh.Zd _ _ e2,Wh.q27_v _ _ e3,Wh.q57_v _ _ e4,iy,nQ]
theorem ajB (c:fk.D)(h:M3 c):Wh.GJ c=some (c,()):=by
 have e:=abn c.2.1 h
 simp only[Wh.GJ,e,Wh.U0 _ _ e,iy,nQ,cond_true]
theorem ajM (c:n4.D)(h:M4 c):Wh.Gx c=some (c,()):=by
 have e:=ajG c.1 h
 simp only[Wh.Gx,e,Wh.q68_v _ _ e,iy,nQ,cond_true]
theorem ajP (s:ng.D)(h:FL s):Wh.q71 s=some (s,()):=by
 have e1:=ajB _ h.cat
 have e2:=ajM _ h.NL
 have e3:=ajz s.2.2.2.2.2.1 h.bks
 have e4:=ajN s.2.2.2.2.2.2.1 h.CU
 simp only[Wh.q71,e1,e2,e3,e4,Wh.ZJ _ _ e1,Wh.Zj _ _ e2,Wh.q35_v _ _ e3,Wh.q70_v _ _ e4,iy,nQ,cond_true]
theorem ajs (s:ng.D)(n:Int)(h:FL s):∃v,Wh.q64 (s,n)=some (v,()):=by
 have c1:∀n,∃v,Wh.GH (s.2.2.2.1,n)=some (v,()):=by
  intro n
  obtain⟨v,hv⟩:=abi s.2.2.2.1.2.1 n h.cat
  simp only[Wh.GH,hv,Wh.UY _ _ hv,iy,nQ,cond_true]
  cases decide (v<0)<;>exact⟨_,rfl⟩
 have c2:∀n,∃v,Wh.Gv (s.2.2.2.2.1,n)=some (v,()):=by
  intro n
  obtain⟨v,hv⟩:=ajl s.2.2.2.2.1.1 n
  simp only[Wh.Gv,hv,Wh.q61_v _ _ hv,iy,nQ,cond_true]
  cases decide (v<0)<;>exact⟨_,rfl⟩
 obtain⟨v1,h1⟩:=c1 (IntKind.wrap .i64 (n-(s.2.2.1.length:Int)))
 obtain⟨v2,h2⟩:=c2 v1
 obtain⟨v3,h3⟩:=ajg s.2.2.2.2.2.1 v2
 obtain⟨v4,h4⟩:=ajr s.2.2.2.2.2.2.1 v3
 simp only[Wh.q64,h1,h2,h3,h4,Wh.ZH _ _ h1,Wh.Zf _ _ h2,Wh.q31_v _ _ h3,Wh.q63_v _ _ h4,iy,nQ,cond_true]
 repeat' (first|exact⟨_,rfl⟩|refine Q0 _ ?_ ?_)
theorem aiR (s:ng.D)(h:fR ng s≤1048576):FL s:=by
 have e:fR ng s=1+(1+((s.2.2.1.length+1)+((1+(((s.2.2.2.1.2.1.map (fR an)).sum+1)+0))+((((s.2.2.2.2.1.1.map (fR nc)).sum+1)+(1+0))+(((s.2.2.2.2.2.1.map (fR nI)).sum+1)+(((s.2.2.2.2.2.2.1.map (fR pg)).sum+1)+0)))))):=rfl
 rw[e] at h
 have i0:∀x:an.D,fR an x=1+((x.2.1.length+1)+(1+((x.2.2.2.1.length+1)+0))):=fun _=>rfl
 have l1:=vH (fR an) (fun x=>by rw[i0];omega) s.2.2.2.1.2.1
 have l2:=vH (fR nc) (fun x=>by show 1≤1+(1+(1+(1+(1+0))));omega) s.2.2.2.2.1.1
 have l3:=vH (fR nI) (fun x=>by show 1≤1+(1+(1+(1+0)));omega) s.2.2.2.2.2.1
 have l4:=vH (fR pg) (fun x=>by show 1≤1+(1+(1+(1+(1+(1+0)))));omega) s.2.2.2.2.2.2.1
 refine⟨by omega,by show _≤_;omega,fun x hx=>?_,by show _≤_;omega,by omega,by omega⟩
 have:=xg (fR an) _ x hx
 rw[i0] at this
 exact⟨by omega,by omega⟩
end Pl
open Go Go.Ab Go.Lib
namespace Pl
instance itDec:DecidableEq It:=inferInstanceAs (DecidableEq (Int×List UInt8×Int×List UInt8×Unit))
instance ctDec:DecidableEq Ct:=fun a b=>if h1:a.1=b.1 then if h2:a.2.1=b.2.1 then .isTrue (by obtain⟨_,_,_⟩:=a;obtain⟨_,_,_⟩:=b;simp_all) else .isFalse (fun e=>h2 (by rw[e])) else .isFalse (fun e=>h1 (by rw[e]))
theorem Ew (a b:It):(a.1==b.1&&(a.2.1==b.2.1&&(a.2.2.1==b.2.2.1&&(a.2.2.2.1==b.2.2.2.1&&true))))=decide (a=b):=by
 obtain⟨a1,a2,a3,a4,a5⟩:=a
 obtain⟨b1,b2,b3,b4,b5⟩:=b
 rw[Bool.eq_iff_iff]
 simp
theorem Xq (a b:List It)(h:a.length=b.length):jS a.length (fun i=>decide (a.getD i z0=b.getD i z0))=decide (a=b):=by
 rw[Bool.eq_iff_iff,oL,decide_eq_true_iff]
 constructor
 ·intro hh
  refine List.ext_getElem h fun i h1 h2=>?_
  have:=of_decide_eq_true (hh i h1)
  rwa[getD_eq _ _ _ h1,getD_eq _ _ _ h2] at this
 ·rintro rfl i _;exact decide_eq_true rfl
theorem ct_eq (a b:Ct)(hl:a.2.1.length=b.2.1.length):(decide (a.1=b.1)&&decide (a.2.1=b.2.1))=decide (a=b):=by
 obtain⟨a1,a2,a3⟩:=a
 obtain⟨b1,b2,b3⟩:=b
 rw[Bool.eq_iff_iff]
 simp
theorem aiY (a b:Ct)(hl:a.2.1.length≤9999999):Wh.Dq (a,b)=some (decide (a=b),()):=by
 by_cases h1:a.1=b.1
 ·by_cases h2:a.2.1.length=b.2.1.length
  ·have c1:(a.1 != b.1)=false:=by simp[h1]
   have c2:((a.2.1.length:Int) != (b.2.1.length:Int))=false:=by simp[h2]
   have q:=xW (r:=Wh.Dr) (fun i=>(((i:Int),(),()),b,a)) (n:=a.2.1.length) (p:=fun i=>decide (a.2.1.getD i z0=b.2.1.getD i z0)) (yf:=.inl (false,())) (yt:=.inr ((),())) (fun i hi _ hp=>by
     have hp':=(Ew (a.2.1.getD i z0) (b.2.1.getD i z0)).trans hp
     unfold z0 at hp'
     simp only[Wh.Dr,gl hi,gl (show i<b.2.1.length by omega),g0,Int.toNat_natCast,hp',iy,Bool.and_self,Bool.not_true,cond_true,cond_false,mb (show i≤4611686018427387904 by omega)]) (fun i hi _ hp=>by
     have hp':=(Ew (a.2.1.getD i z0) (b.2.1.getD i z0)).trans hp
     unfold z0 at hp'
     simp only[Wh.Dr,gl hi,gl (show i<b.2.1.length by omega),g0,Int.toNat_natCast,hp',iy,Bool.and_self,Bool.not_false,cond_true]) (by
     have d1:decide ((a.2.1.length:Int)<(a.2.1.length:Int))=false:=decide_eq_false (by omega)
     simp only[Wh.Dr,d1,cond_false])
   rw[Xq _ _ h2] at q
   have q':Comes Wh.Dr ((0,(),()),b,a) _:=q
   simp only[Wh.Dq,c1,c2,cond_false,cb q',cv q',cond_true]
   rw[←ct_eq a b h2,decide_eq_true h1,Bool.true_and]
   cases decide (a.2.1=b.2.1)<;>rfl
  ·have c1:(a.1 != b.1)=false:=by simp[h1]
   have c2:((a.2.1.length:Int) != (b.2.1.length:Int))=true:=bne_iff_ne.2 (by omega)
   simp only[Wh.Dq,c1,c2,cond_false,cond_true]
   rw[decide_eq_false (by rintro rfl;exact h2 rfl)]
 ·have c1:(a.1 != b.1)=true:=bne_iff_ne.2 h1
  simp only[Wh.Dq,c1,cond_true]
  rw[decide_eq_false (by rintro rfl;exact h1 rfl)]
theorem adn (a b:Ct)(hl:a.2.1.length≤9999999):Wh.q89 (a,b)=some (decide (a=b),()):=by
 have he:Wh.q12 (a.2.1,b.2.1)=some (decide (a.2.1=b.2.1),()):=by
  by_cases h2:a.2.1.length=b.2.1.length
  ·have c2:((a.2.1.length:Int) != (b.2.1.length:Int))=false:=by simp[h2]
   have q:=xW (r:=Wh.Dy) (fun i=>(((i:Int),b.2.1,a.2.1,(a.2.1.length:Int)),())) (n:=a.2.1.length) (p:=fun i=>decide (a.2.1.getD i z0=b.2.1.getD i z0)) (yf:=.inl (false,())) (yt:=.inr ((),())) (fun i hi _ hp=>by
     have hp':=(Ew (a.2.1.getD i z0) (b.2.1.getD i z0)).trans hp
     unfold z0 at hp'
     simp only[Wh.Dy,gl hi,gl (show i<b.2.1.length by omega),g0,Int.toNat_natCast,hp',iy,Bool.and_self,Bool.not_true,cond_true,cond_false,mb (show i≤4611686018427387904 by omega)]) (fun i hi _ hp=>by
     have hp':=(Ew (a.2.1.getD i z0) (b.2.1.getD i z0)).trans hp
     unfold z0 at hp'
     simp only[Wh.Dy,gl hi,gl (show i<b.2.1.length by omega),g0,Int.toNat_natCast,hp',iy,Bool.and_self,Bool.not_false,cond_true]) (by
     have d1:decide ((a.2.1.length:Int)<(a.2.1.length:Int))=false:=decide_eq_false (by omega)
     simp only[Wh.Dy,d1,cond_false])
   rw[Xq _ _ h2] at q
   have q':Comes Wh.Dy ((0,b.2.1,a.2.1,(a.2.1.length:Int)),()) _:=q
   simp only[Wh.q12,c2,cond_false,cb q',cv q',cond_true]
   cases decide (a.2.1=b.2.1)<;>rfl
  ·have c2:((a.2.1.length:Int) != (b.2.1.length:Int))=true:=bne_iff_ne.2 (by omega)
   simp only[Wh.q12,c2,cond_true]
   rw[decide_eq_false (fun e=>h2 (by rw[e]))]
 have hd:(bif a.1==b.1 then decide (a.2.1=b.2.1) else false)=decide (a=b):=by
  obtain⟨a1,a2,a3⟩:=a
  obtain⟨b1,b2,b3⟩:=b
  by_cases h1:a1=b1
  ·simp[h1]
  ·simp[h1]
 simp only[Wh.q89,he,Wh.q12_v _ _ he,nQ,Bool.or_true,iy,cond_true,hd]
def Ay (l:List It)(e:Int):Option Nat:=first l.length fun i=>(l.getD i z0).2.2.1==e
def edI (l:List It):Option Nat→It
 |some i=>l.getD i z0
 |none=>z0
theorem aa_ (c:Ct)(e:Int)(hl:c.2.1.length≤9999999):Wh.q41 (c,e)=some ((edI c.2.1 (Ay c.2.1 e),(Ay c.2.1 e).isSome),()):=by
 obtain⟨ce,l,u⟩:=c
 have hl:l.length≤9999999:=hl
 have q:=C8 (r:=Wh.DW) (fun i=>(((),(i:Int),(),e),((0:Int),([]:List UInt8),(0:Int),([]:List UInt8),()),(ce,l,u))) (n:=l.length) (p:=fun i=>(l.getD i z0).2.2.1==e) (yt:=fun i=>.inl (((),true),l.getD i z0)) (yn:=.inr ((),(0:Int),[],(0:Int),[],())) (fun i hi hp=>by
   have hp':((l.getD i z0).2.2.1==e)=false:=hp
   unfold z0 at hp'
   simp only[Wh.DW,gl hi,g0,Int.toNat_natCast,hp',iy,Bool.and_self,cond_true,cond_false,mb (show i≤4611686018427387904 by omega)]) (fun i hi hp=>by
   have hp':((l.getD i z0).2.2.1==e)=true:=hp
   unfold z0 at hp' ⊢
   simp only[Wh.DW,gl hi,g0,Int.toNat_natCast,hp',iy,Bool.and_self,cond_true]) (by
   have d1:decide ((l.length:Int)<(l.length:Int))=false:=decide_eq_false (by omega)
   simp only[Wh.DW,d1,cond_false])
 have q':Comes Wh.DW (((),0,(),e),((0:Int),([]:List UInt8),(0:Int),([]:List UInt8),()),(ce,l,u)) _:=q
 simp only[Wh.q41,cb q',cv q',cond_true,Ay]
 cases first l.length (fun i=>(l.getD i z0).2.2.1==e)<;>rfl
theorem W0 (c:Ct)(e:Int)(hl:c.2.1.length≤9999999):Wh.DF (c,e)=some (Br (Ay c.2.1 e),()):=by
 obtain⟨ce,l,u⟩:=c
 have hl:l.length≤9999999:=hl
 have f (x:It):Wh.Ie (x,e)=some ((x.2.2.1==e),()):=rfl
 have q:=C8 (r:=Wh.DS) (fun i=>(((i:Int),l,(e,()),(l.length:Int)),())) (n:=l.length) (p:=fun i=>(l.getD i z0).2.2.1==e) (yt:=fun i=>.inl ((i:Int),())) (yn:=.inr ((),())) (fun i hi hp=>by
   have hp':((l.getD i z0).2.2.1==e)=false:=hp
   unfold z0 at hp'
   simp only[Wh.DS,gl hi,g0,Int.toNat_natCast,f,Wh.q8_v _ _ (f _),hp',nQ,iy,Bool.and_self,cond_true,cond_false,mb (show i≤4611686018427387904 by omega)]) (fun i hi hp=>by
   have hp':((l.getD i z0).2.2.1==e)=true:=hp
   unfold z0 at hp'
   simp only[Wh.DS,gl hi,g0,Int.toNat_natCast,f,Wh.q8_v _ _ (f _),hp',nQ,iy,Bool.and_self,cond_true]) (by
   have d1:decide ((l.length:Int)<(l.length:Int))=false:=decide_eq_false (by omega)
   simp only[Wh.DS,d1,cond_false])
 have q':Comes Wh.DS ((0,l,(e,()),(l.length:Int)),()) _:=q
 have h:Wh.q2 (l,e,())=some (Br (Ay l e),()):=by
  simp only[Wh.q2,cb q',cv q',cond_true,Ay]
  cases first l.length (fun i=>(l.getD i z0).2.2.1==e)<;>rfl
 simp only[Wh.DF,h,Wh.q2_v _ _ h,nQ,iy,cond_true]
theorem V_:Wh.AG=Wh.z8:=rfl
theorem Wa:Wh.zg=Wh.y6:=rfl
def AL (a b:Int):Int:=IntKind.wrap .i64 (Int.tdiv (IntKind.wrap .i64 (IntKind.wrap .i64 (a+b)-1)) b)
theorem count_eq (a b:Int)(x y:List Int)(u:Unit)(h:b≠0):Wh.z8 (a,b,x,y,u)=some (AL a b,()):=by
 have c:(b != 0)=true:=bne_iff_ne.2 h
 simp only[Wh.z8,c,iy,cond_true];rfl
theorem abG (a b:Nat)(ha:a≤100000)(hb:1≤b)(bZ:b≤1000):AL a b=(((a+b-1) / b:Nat):Int):=by
 have w1:IntKind.wrap .i64 ((a:Int)+(b:Int))=((a+b:Nat):Int):=wi (by omega) (by omega)
 have w2:IntKind.wrap .i64 (((a+b:Nat):Int)-1)=((a+b-1:Nat):Int):=wi (by omega) (by omega)
 have w3:Int.tdiv ((a+b-1:Nat):Int) (b:Int)=(((a+b-1) / b:Nat):Int):=by rw[Int.tdiv_eq_ediv_of_nonneg (by omega)];rfl
 have hle:(a+b-1) / b≤a+b-1:=Nat.div_le_self _ _
 rw[AL,w1,w2,w3];exact wi rfl (by omega)
theorem ac8 (L:Nat)(hL:L≤300):∀d s:Nat,s+d=13→1≤s→∃s':Nat,1≤s'∧s'≤13∧Comes Wh.DK (((),()),((L:Int),(s:Int),(),(),()),((0:Int),(0:Int),(),(),()),[],[],[],[]) (((),()),((0:Int),(0:Int),(),(),()),((L:Int),(s':Int),(),(),()),[],[],[],[]):=by
 intro d
 induction d with
 |zero=>
  intro s h1 h2
  have:s=13:=by omega
  subst this
  refine⟨13,by omega,by omega,.out ?_⟩
  have a:=count_eq (L:Int) ((13:Nat):Int) [] [] () (by omega)
  rw[abG L 13 (by omega) (by omega) (by omega)] at a
  have c1:decide ((((L+13-1) / 13:Nat):Int)>24)=false:=decide_eq_false (by omega)
  simp only[Wh.DK,a,Wh.CC _ _ a,c1,nQ,iy,cond_true,cond_false]
 |succ d ih=>
  intro s h1 h2
  have a:=count_eq (L:Int) (s:Int) [] [] () (by omega)
  cases hc:decide (AL (L:Int) (s:Int)>24) with
  |true=>
   obtain⟨s',g1,g2,g3⟩:=ih (s+1) (by omega) (by omega)
   refine⟨s',g1,g2,.again ?_ g3⟩
   simp only[Wh.DK,a,Wh.CC _ _ a,hc,nQ,iy,cond_true,mb (show s≤4611686018427387904 by omega)]
  |false=>
   refine⟨s,by omega,by omega,.out ?_⟩
   simp only[Wh.DK,a,Wh.CC _ _ a,hc,nQ,iy,cond_true,cond_false]
theorem YJ (L:Nat)(h1:1≤L)(hL:L≤300):∃P:r5.D,P.2.1≠0∧Wh.E7 (L:Int)=some (P,())∧Wh.q84 (L:Int)=some (P,()):=by
 obtain⟨s,g1,g2,g3⟩:=ac8 L hL 5 8 (by omega) (by omega)
 have g3':Comes Wh.DK (((),()),((L:Int),(8:Int),(),(),()),((0:Int),(0:Int),(),(),()),[],[],[],[]) _:=g3
 have g4:Comes Wh.JY (((),()),((L:Int),(8:Int),(),(),()),((0:Int),(0:Int),(),(),()),[],[],[],[]) _:=g3
 have a:=count_eq (L:Int) (s:Int) [] [] () (by omega)
 have wi1:wh (L:Int) 1 300=true:=decide_eq_true (by omega)
 cases hk:decide (IntKind.wrap .i64 (Int.tdiv (IntKind.wrap .i64 (AL (L:Int) (s:Int)+3)) 4)<AL (L:Int) (s:Int)) with
 |true=>
  refine⟨((L:Int),(s:Int),[IntKind.wrap .i64 (Int.tdiv (IntKind.wrap .i64 (AL (L:Int) (s:Int)+3)) 4),AL (L:Int) (s:Int)],[(2:Int),(3:Int)],()),by simp only;omega,?_,?_⟩
  ·simp only[Wh.E7,cb g3',cv g3',cond_true,a,Wh.CC _ _ a,hk,nQ,iy]
  ·simp only[Wh.q84,zj,Wh.zK _ _ (zj _ _ _),wi1,cb g4,cv g4,cond_true,cond_false,Bool.not_true,V_,Wa,a,Wh.CC _ _ a,hk,nQ,iy]
 |false=>
  refine⟨((L:Int),(s:Int),[AL (L:Int) (s:Int)],[(1:Int)],()),by simp only;omega,?_,?_⟩
  ·simp only[Wh.E7,cb g3',cv g3',cond_true,a,Wh.CC _ _ a,hk,nQ,iy,cond_false]
  ·simp only[Wh.q84,zj,Wh.zK _ _ (zj _ _ _),wi1,cb g4,cv g4,cond_true,cond_false,Bool.not_true,V_,Wa,a,Wh.CC _ _ a,hk,nQ,iy]
noncomputable def Js (L:Int):Int:=AL (Wh.JL L).1.1 (Wh.JL L).1.2.1
noncomputable def Dc (c:Ct) (f:Fr):Bool:=bif decide (f.2.2.2.1>0) then true else bif decide (f.2.1>0) then(match Ay c.2.1 f.2.1 with
 |none=>true
 |some k=>bif(c.2.1.getD k z0).1 != f.1 then true else decide (f.2.2.1≥Js ((c.2.1.getD k z0).2.2.2.1.length:Int))) else false
theorem Q9 {l:List It}{e:Int}{i:Nat}(h:Ay l e=some i):i<l.length:=(Bt.1 h).1
theorem aba (s:ng.D)(I:yx s.2.2.2.1)(i:Nat)(hi:i<s.2.2.2.2.1.1.length)(hl:s.2.2.2.2.1.1.length≤9999999) :
  Wh.Bi (((i:Int),()),s)=if Dc s.2.2.2.1 (s.2.2.2.2.1.1.getD i zF)=true then some (.inr (.inl (false,()))) else some (.inl ((((i+1:Nat):Int),()),s)):=by
 have bI:s.2.2.2.1.2.1.length≤8:=I.len
 have ed:=aa_ s.2.2.2.1 (s.2.2.2.2.1.1.getD i zF).2.1 (by omega)
 have w:=mb (show i≤4611686018427387904 by omega)
 unfold Dc
 cases hw:decide ((s.2.2.2.2.1.1.getD i zF).2.2.2.1>0) with
 |true=>
  unfold zF at ed hw ⊢
  simp only[Wh.Bi,gl hi,g0,Int.toNat_natCast,ed,Wh.Fe _ _ ed,hw,nQ,Bool.not_true,Bool.and_false,Bool.not_false,Bool.true_or,Bool.or_true,iy,Bool.and_self,cond_true,if_true]
 |false=>
  cases he:decide ((s.2.2.2.2.1.1.getD i zF).2.1>0) with
  |false=>
   unfold zF at ed hw he ⊢
   simp only[Wh.Bi,gl hi,g0,Int.toNat_natCast,ed,Wh.Fe _ _ ed,hw,he,nQ,Bool.not_true,Bool.and_false,Bool.false_and,Bool.not_false,Bool.true_or,Bool.or_true,iy,Bool.and_self,cond_true,cond_false,w]
   rfl
  |true=>
   cases hk:Ay s.2.2.2.1.2.1 (s.2.2.2.2.1.1.getD i zF).2.1 with
   |none=>
    rw[hk] at ed
    unfold zF at ed hw he ⊢
    simp only[Wh.Bi,gl hi,g0,Int.toNat_natCast,ed,Wh.Fe _ _ ed,hw,he,edI,Option.isSome,nQ,Bool.not_true,Bool.not_false,Bool.true_or,Bool.or_true,Bool.and_true,iy,Bool.and_self,cond_true,cond_false,if_true]
   |some k=>
    rw[hk] at ed
    have jf:=Q9 hk
    have hp:=R7 (I.ok (s.2.2.2.1.2.1.getD k z0) (by rw[getD_eq _ _ _ jf];exact List.getElem_mem jf))
    obtain⟨P,hP,f1,_⟩:=YJ _ hp.2.2.1 hp.2.2.2
    have f3 (x y:List Int) (u:Unit):=count_eq P.1 P.2.1 x y u hP
    have f4 (x y:List Int) (u:Unit):=Wh.CC _ _ (f3 x y u)
    cases hh:((s.2.2.2.1.2.1.getD k z0).1 != (s.2.2.2.2.1.1.getD i zF).1) with
    |true=>
     unfold zF at ed hw he hh ⊢
     simp only[Wh.Bi,gl hi,g0,Int.toNat_natCast,ed,Wh.Fe _ _ ed,hw,he,hh,edI,Option.isSome,nQ,Bool.not_true,Bool.not_false,Bool.true_or,Bool.or_true,Bool.and_true,iy,Bool.and_self,cond_true,cond_false,if_true]
    |false=>
     have hc:Js ((s.2.2.2.1.2.1.getD k z0).2.2.2.1.length:Int)=AL P.1 P.2.1:=by rw[Js,Wh.Oa _ _ f1]
     unfold zF at ed hw he hh ⊢
     simp only[hc,Wh.Bi,gl hi,g0,Int.toNat_natCast,ed,Wh.Fe _ _ ed,hw,he,hh,f1,Wh.Oa _ _ f1,f3,f4,edI,Option.isSome,nQ,Bool.not_true,Bool.not_false,Bool.or_true,iy,Bool.and_self,cond_true,cond_false,w]
     cases decide ((s.2.2.2.2.1.1.getD i ((0:Int),(0:Int),(0:Int),(0:Int),false,())).2.2.1≥AL P.1 P.2.1)<;>rfl
theorem W3 (c:Ct)(I:yx c)(l:List Fr)(i:Nat)(hi:i<l.length)(hl:l.length≤9999999)(hok:okF (l.getD i zF)=true) :
  Wh.Bh (((i:Int),(),l,(l.length:Int)),c)=if Dc c (l.getD i zF)=true then some (.inr (.inl (false,()))) else some (.inl ((((i+1:Nat):Int),(),l,(l.length:Int)),c)):=by
 have bI:c.2.1.length≤8:=I.len
 have ed:=W0 c (l.getD i zF).2.1 (by omega)
 have w:=mb (show i≤4611686018427387904 by omega)
 unfold Dc
 cases hz:((l.getD i zF).2.1==0) with
 |true=>
  have h0:(l.getD i zF).2.1=0:=eq_of_beq hz
  have hw:decide ((l.getD i zF).2.2.2.1>0)=false:=by
   unfold okF at hok
   rw[hz,cond_true] at hok
   simp only[Bool.and_eq_true,beq_iff_eq] at hok
   exact decide_eq_false (by omega)
  have he:decide ((l.getD i zF).2.1>0)=false:=decide_eq_false (by omega)
  rw[hw,he]
  unfold zF at hz ⊢
  simp only[Wh.Bh,gl hi,g0,Int.toNat_natCast,hz,iy,Bool.and_self,cond_true,cond_false,w]
  rfl
 |false=>
  have he:decide ((l.getD i zF).2.1>0)=true:=by
   unfold okF at hok
   rw[hz,cond_false] at hok
   simp only[Bool.and_eq_true,wh,decide_eq_true_iff] at hok
   exact decide_eq_true (by omega)
  rw[he]
  cases hw:decide ((l.getD i zF).2.2.2.1>0) with
  |true=>
   unfold zF at ed hz hw ⊢
   simp only[Wh.Bh,gl hi,g0,Int.toNat_natCast,hz,ed,Wh.GM _ _ ed,hw,nQ,Bool.not_true,Bool.not_false,Bool.true_or,iy,Bool.and_self,cond_true,cond_false,if_true]
  |false=>
   cases hk:Ay c.2.1 (l.getD i zF).2.1 with
   |none=>
    rw[hk] at ed
    unfold zF at ed hz hw ⊢
    simp only[Wh.Bh,gl hi,g0,Int.toNat_natCast,hz,ed,Wh.GM _ _ ed,hw,QY,nQ,Bool.not_true,Bool.not_false,Bool.true_or,iy,Bool.and_self,cond_true,cond_false,if_true]
   |some k=>
    rw[hk] at ed
    have jf:=Q9 hk
    have hp:=R7 (I.ok (c.2.1.getD k z0) (by rw[getD_eq _ _ _ jf];exact List.getElem_mem jf))
    obtain⟨P,hP,f0,f1⟩:=YJ _ hp.2.2.1 hp.2.2.2
    have f3 (x y:List Int) (u:Unit):Wh.AG (P.1,P.2.1,x,y,u)=_:=count_eq P.1 P.2.1 x y u hP
    have f4 (x y:List Int) (u:Unit):=Wh.q19_v _ _ (f3 x y u)
    have ed':Wh.DF (c,(l.getD i zF).2.1)=some ((k:Int),()):=ed
    have e1:decide ((k:Int)<0)=false:=decide_eq_false (by omega)
    cases hh:((c.2.1.getD k z0).1 != (l.getD i zF).1) with
    |true=>
     unfold zF at ed' hz hw hh ⊢
     unfold z0 at hh ⊢
     simp only[Wh.Bh,gl hi,gl jf,g0,Int.toNat_natCast,hz,ed',Wh.GM _ _ ed',hw,hh,e1,nQ,Bool.not_true,Bool.not_false,Bool.true_or,Bool.or_true,iy,Bool.and_self,cond_true,cond_false,if_true]
    |false=>
     have hc:Js ((c.2.1.getD k z0).2.2.2.1.length:Int)=AL P.1 P.2.1:=by rw[Js,Wh.Oa _ _ f0]
     unfold zF at ed' hz hw hh ⊢
     have hh2:=hh
     unfold z0 at hh2 f1
     simp only[hc,hh2,Wh.Bh,gl hi,gl jf,g0,Int.toNat_natCast,hz,ed',Wh.GM _ _ ed',hw,hh,e1,f1,Wh.q84_v _ _ f1,f3,f4,nQ,Bool.not_true,Bool.not_false,Bool.or_true,iy,Bool.and_self,cond_true,cond_false,w]
     cases decide ((l.getD i ((0:Int),(0:Int),(0:Int),(0:Int),false,())).2.2.1≥AL P.1 P.2.1)<;>rfl
abbrev Bu:Type:=Int×Int×Int×Int×Unit
def FP (b:Bu):Bool:=wh b.2.1 0 99999&&wh b.1 0 b.2.1&&wh b.2.2.1 0 99999&&wh b.2.2.2.1 0 99999
theorem aa5 (b:Bu):Wh.q73 b=some (FP b,()):=by
 unfold FP
 simp only[Wh.q73,Ao,Wh.zm _ _ (Ao _ _ _),nQ,Bool.or_true,iy,Bool.and_self,cond_true]
 cases wh b.2.1 0 99999<;>cases wh b.1 0 b.2.1<;>cases wh b.2.2.1 0 99999<;>cases wh b.2.2.2.1 0 99999<;>rfl
theorem WV (b:Bu):Wh.q43 b=some (FP b,()):=by
 unfold FP
 simp only[Wh.q43,zj,Wh.zK _ _ (zj _ _ _),nQ,Bool.or_true,iy,Bool.and_self,cond_true]
 cases wh b.2.1 0 99999<;>cases wh b.1 0 b.2.1<;>cases wh b.2.2.1 0 99999<;>cases wh b.2.2.2.1 0 99999<;>rfl
def zB:Bu:=((0:Int),(0:Int),(0:Int),(0:Int),())
def C7 (now:Int)(b:Bu):Bool:=bif bif bif !FP b then true else b.2.1 != 40 then true else b.2.2.1 != 8 then true else decide (b.2.2.2.1>now)
theorem aa4 (s:ng.D)(i:Nat)(hi:i<s.2.2.2.2.2.1.length)(hl:s.2.2.2.2.2.1.length≤9999999) :
  Wh.DZ (((i:Int),()),s)=if C7 s.2.1 (s.2.2.2.2.2.1.getD i zB)=true then some (.inr (.inl (false,()))) else some (.inl ((((i+1:Nat):Int),()),s)):=by
 have w:=mb (show i≤4611686018427387904 by omega)
 unfold C7 zB
 simp only[Wh.DZ,gl hi,g0,Int.toNat_natCast,aa5,Wh.q73_v _ _ (aa5 _),nQ,iy,Bool.and_self,cond_true,w]
 generalize (bif bif bif !FP _ then true else _ then true else _ then true else _)=b
 cases b<;>rfl
theorem WU (s:ng.D)(l:List Bu)(i:Nat)(hi:i<l.length)(hl:l.length≤9999999) :
  Wh.DX (((i:Int),(),l,(l.length:Int)),s)=if C7 s.2.1 (l.getD i zB)=true then some (.inr (.inl (false,()))) else some (.inl ((((i+1:Nat):Int),(),l,(l.length:Int)),s)):=by
 have w:=mb (show i≤4611686018427387904 by omega)
 unfold C7 zB
 simp only[Wh.DX,gl hi,g0,Int.toNat_natCast,WV,Wh.q43_v _ _ (WV _),nQ,iy,Bool.and_self,cond_true,w]
 generalize (bif bif bif !FP _ then true else _ then true else _ then true else _)=b
 cases b<;>rfl
end Pl
open Go Go.Ab Go.Lib
namespace Pl
abbrev Sv:Type:=Int×Int×Int×Int×Int×Int×Unit
def zS:Sv:=((0:Int),(0:Int),(0:Int),(0:Int),(0:Int),(0:Int),())
def Jt (l:List Sv)(i:Nat)(c:Int):Bool:=match i with
 |0=>false
 |m+1=>decide ((l.getD m zS).1≥c)
def I1 (c:Ct)(s:Sv):Bool:=bif(Ay c.2.1 s.2.2.1).isSome then(edI c.2.1 (Ay c.2.1 s.2.2.1)).1 != Int.tmod s.1 2 else false
def Cf (c:Ct)(now:Int)(l:List Sv)(i:Nat):Bool:=
 ((((((!wh (l.getD i zS).1 0 3 || Jt l i (l.getD i zS).1) || !wh (l.getD i zS).2.1 1 99999) || !wh (l.getD i zS).2.2.1 1 c.1) || !wh (l.getD i zS).2.2.2.1 0 9999) || !wh (l.getD i zS).2.2.2.2.1 0 3) || !wh (l.getD i zS).2.2.2.2.2.1 0 now) || I1 c (l.getD i zS)
theorem M7 (a b:Bool):(bif a then true else b)=(a || b):=by cases a<;>rfl
theorem abf (s:ng.D)(hc:s.2.2.2.1.2.1.length≤9999999)(i:Nat)(hi:i<s.2.2.2.2.2.2.1.length)(hl:s.2.2.2.2.2.2.1.length≤9999999) :
  Wh.CP (((i:Int),()),s)=if Cf s.2.2.2.1 s.2.1 s.2.2.2.2.2.2.1 i=true then some (.inr (.inl (false,()))) else some (.inl ((((i+1:Nat):Int),()),s)):=by
 have w:=mb (show i≤4611686018427387904 by omega)
 have ed:=aa_ s.2.2.2.1 (s.2.2.2.2.2.2.1.getD i zS).2.2.1 hc
 have hh (x:Int):Wh.q77 x=some (Int.tmod x 2,()):=rfl
 have fin (A B:Bool) (X Y:Option ((((Int)×(Unit))×((ng.D)))⊕((((Bool))×(Unit))⊕((Unit)×(Unit))))):(bif A then X else bif B then X else Y)=if(A || B)=true then X else Y:=by cases A<;>cases B<;>rfl
 rcases Nat.eq_zero_or_pos i with h0|h0
 ·subst h0
  have d1:decide (((0:Nat):Int)>0)=false:=rfl
  unfold Cf I1 Jt
  unfold zS at ed ⊢
  simp only[Wh.CP,gl hi,g0,Int.toNat_natCast,Ao,Wh.zm _ _ (Ao _ _ _),ed,Wh.Fe _ _ ed,hh,Wh.UD _ _ (hh _),d1,M7,nQ,Bool.or_true,Bool.false_and,Bool.not_false,Bool.true_or,Bool.or_false,iy,Bool.and_self,cond_true,cond_false,w]
  exact fin _ _ _ _
 ·obtain⟨m,rfl⟩:∃m,i=m+1:=⟨i-1,by omega⟩
  have d1:decide (((m+1:Nat):Int)>0)=true:=decide_eq_true (by omega)
  have w1:IntKind.wrap .i64 (((m+1:Nat):Int)-1)=(m:Int):=wi (by omega) (by omega)
  unfold Cf I1 Jt
  unfold zS at ed ⊢
  simp only[Wh.CP,gl hi,gl (show m<s.2.2.2.2.2.2.1.length by omega),g0,Int.toNat_natCast,w1,Ao,Wh.zm _ _ (Ao _ _ _),ed,Wh.Fe _ _ ed,hh,Wh.UD _ _ (hh _),d1,M7,nQ,Bool.or_true,iy,Bool.and_self,cond_true,w]
  exact fin _ _ _ _
theorem HF (n:Int):Wh.Ca n=some (wh n 0 3,()):=by simp only[Wh.Ca,zj,Wh.zK _ _ (zj _ _ _),nQ,iy,cond_true]
theorem W8 (s:ng.D)(hc:s.2.2.2.1.2.1.length≤9999999)(i:Nat)(hi:i<s.2.2.2.2.2.2.1.length)(hl:s.2.2.2.2.2.2.1.length≤9999999) :
  Wh.CQ (((i:Int),(),s.2.2.2.2.2.2.1,(s.2.2.2.2.2.2.1.length:Int)),s)=if Cf s.2.2.2.1 s.2.1 s.2.2.2.2.2.2.1 i=true then some (.inr (.inl (false,()))) else some (.inl ((((i+1:Nat):Int),(),s.2.2.2.2.2.2.1,(s.2.2.2.2.2.2.1.length:Int)),s)):=by
 have w:=mb (show i≤4611686018427387904 by omega)
 have ed:=W0 s.2.2.2.1 (s.2.2.2.2.2.2.1.getD i zS).2.2.1 hc
 have hh (x:Int):Wh.q87 x=some (Int.tmod x 2,()):=rfl
 have he:∃v,Br (Ay s.2.2.2.1.2.1 (s.2.2.2.2.2.2.1.getD i zS).2.2.1)=v∧decide (v≥0)=(Ay s.2.2.2.1.2.1 (s.2.2.2.2.2.2.1.getD i zS).2.2.1).isSome∧(!decide (v≥0) || decide (0≤v))=true∧(!decide (v≥0) || decide (v<(s.2.2.2.1.2.1.length:Int)))=true ∧
   (bif decide (v≥0) then(s.2.2.2.1.2.1.getD (Int.toNat v) z0).1 != Int.tmod (s.2.2.2.2.2.2.1.getD i zS).1 2 else false)=I1 s.2.2.2.1 (s.2.2.2.2.2.2.1.getD i zS):=by
  unfold I1
  cases e:Ay s.2.2.2.1.2.1 (s.2.2.2.2.2.2.1.getD i zS).2.2.1 with
  |none=>exact⟨-1,rfl,rfl,rfl,rfl,rfl⟩
  |some k=>
   have:=Q9 e
   have d:decide ((k:Int)≥0)=true:=decide_eq_true (by omega)
   refine⟨(k:Int),rfl,d,by rw[g0,Bool.or_true],by rw[gl this,Bool.or_true],?_⟩
   rw[d];rfl
 obtain⟨v,hv,_,BU,hv3,hv4⟩:=he
 rw[hv] at ed
 have fin (A B C D:Bool) (X Y:Option ((((Int)×(Unit)×(List (pg.D))×(Int))×((ng.D)))⊕((((Bool))×(Unit))⊕((Unit)×(Unit))))) (h:(A || (B || C))=D):(bif A then X else bif B then X else bif C then X else Y)=if D=true then X else Y:=by subst h;cases A<;>cases B<;>cases C<;>rfl
 have bool8 (a b c d e f g h:Bool):((((b || !a) || !c) || !d) || (h || ((!e || !f) || !g)))=(((((((!a || b) || !c) || !d) || !e) || !f) || !g) || h):=by
  cases a<;>cases b<;>cases c<;>cases d<;>cases e<;>cases f<;>cases g<;>cases h<;>rfl
 have bool7 (a c d e f g h:Bool):(((!a || !c) || !d) || (h || ((!e || !f) || !g)))=((((((!a || !c) || !d) || !e) || !f) || !g) || h):=by
  cases a<;>cases c<;>cases d<;>cases e<;>cases f<;>cases g<;>cases h<;>rfl
 rcases Nat.eq_zero_or_pos i with h0|h0
 ·subst h0
  have d1:decide (((0:Nat):Int)>0)=false:=rfl
  unfold Cf Jt
  unfold z0 at hv4
  unfold zS at ed hv4 ⊢
  simp only[Wh.CQ,gl hi,g0,Int.toNat_natCast,HF,Wh.JT _ _ (HF _),zj,Wh.zK _ _ (zj _ _ _),ed,Wh.GM _ _ ed,hh,Wh.UR _ _ (hh _),BU,hv3,hv4,d1,nQ,Bool.or_true,Bool.not_false,Bool.true_or,Bool.or_false,iy,Bool.and_self,cond_true,cond_false,w]
  refine fin _ _ _ _ _ _ ?_
  simp only[M7]
  exact bool7 _ _ _ _ _ _ _
 ·obtain⟨m,rfl⟩:∃m,i=m+1:=⟨i-1,by omega⟩
  have d1:decide (((m+1:Nat):Int)>0)=true:=decide_eq_true (by omega)
  have w1:IntKind.wrap .i64 (((m+1:Nat):Int)-1)=(m:Int):=wi (by omega) (by omega)
  unfold Cf Jt
  unfold z0 at hv4
  unfold zS at ed hv4 ⊢
  simp only[Wh.CQ,gl hi,gl (show m<s.2.2.2.2.2.2.1.length by omega),g0,Int.toNat_natCast,w1,HF,Wh.JT _ _ (HF _),zj,Wh.zK _ _ (zj _ _ _),ed,Wh.GM _ _ ed,hh,Wh.UR _ _ (hh _),BU,hv3,hv4,d1,nQ,Bool.or_true,iy,Bool.and_self,cond_true,w]
  refine fin _ _ _ _ _ _ ?_
  simp only[M7]
  exact bool8 _ _ _ _ _ _ _ _
noncomputable def x7 (s:ng.D):List (List UInt8)×Nat:=BV hash s.2.2.1
noncomputable def IY (s:ng.D):Bool:=(s.2.2.2.1.2.1.length==0&&s.2.2.2.1.1==0&&s.2.2.2.2.1.1.length==0&&s.2.2.2.2.1.2.1==0&&s.2.2.2.2.2.1.length==0&&s.2.2.2.2.2.2.1.length==0)
noncomputable def I9 (s:ng.D):Bool:=jS s.2.2.2.2.1.1.length (fun i=> !Dc s.2.2.2.1 (s.2.2.2.2.1.1.getD i zF))
noncomputable def Q1 (s:ng.D):Bool:=jS s.2.2.2.2.2.1.length (fun i=> !C7 s.2.1 (s.2.2.2.2.2.1.getD i zB))
noncomputable def J8 (s:ng.D):Bool:=jS s.2.2.2.2.2.2.1.length (fun i=> !Cf s.2.2.2.1 s.2.1 s.2.2.2.2.2.2.1 i)
noncomputable def upV (s:ng.D):Bool:=(x7 s).2==s.2.2.1.length&&(decide ((zk (x7 s).1).1=s.2.2.2.1)&&(Cy s.2.2.2.2.1&&(s.2.2.2.2.2.1.length==2&&(J8 s&&(I9 s&&Q1 s)))))
noncomputable def okV (s:ng.D):Bool:=wh s.2.1 0 99999&&(decide (s.2.2.1.length≤9000)&&((zk (x7 s).1).2&&(bif s.1 then upV s else IY s)))
theorem Na {l:List (List UInt8)}(h:(zk l).2=true):yx (zk l).1:=by
 unfold zk at h ⊢
 cases e:AK (0,[],()) l with
 |none=>rw[e] at h;cases h
 |some c=>exact V4 l _ c M_ e
theorem aiQ (s:ng.D)(hc:s.2.2.2.1.2.1.length≤9999999)(hl:s.2.2.2.2.2.2.1.length≤9999999):Wh.q40 s=some (J8 s,()):=by
 have q:=xW (r:=Wh.CP) (fun i=>(((i:Int),()),s)) (n:=s.2.2.2.2.2.2.1.length) (p:=fun i=> !Cf s.2.2.2.1 s.2.1 s.2.2.2.2.2.2.1 i) (yf:=.inl (false,())) (yt:=.inr ((),())) (fun i hi _ hp=>by
   rw[abf s hc i hi hl,if_neg (by simpa using hp)]) (fun i hi _ hp=>by
   rw[abf s hc i hi hl,if_pos (by simpa using hp)]) (by
   have d1:decide ((s.2.2.2.2.2.2.1.length:Int)<(s.2.2.2.2.2.2.1.length:Int))=false:=decide_eq_false (by omega)
   simp only[Wh.CP,d1,cond_false])
 have q':Comes Wh.CP ((0,()),s) _:=q
 simp only[Wh.q40,cb q',cv q',cond_true]
 unfold J8
 cases jS s.2.2.2.2.2.2.1.length (fun i=> !Cf s.2.2.2.1 s.2.1 s.2.2.2.2.2.2.1 i)<;>rfl
theorem OB (s:ng.D)(h:s.2.2.1.length≤9999999):(x7 s).1.length≤9999999∧∀r∈(x7 s).1,r.length≤9999999:=by
 obtain⟨h1,h2,h3⟩:=vQ hash Bx (s.2.2.1.length+1) s.2.2.1 0
 refine⟨?_,fun r hr=>?_⟩
 ·change (eE hash (s.2.2.1.length+1) s.2.2.1 0).1.length≤9999999;omega
 ·have:=h3 r hr;omega
theorem aiV (s:ng.D)(S:FL s):Wh.q75 s=some (okV s,()):=by
 have A6:=S.log
 have hbk:=S.bks
 have hsv:=S.CU
 have hfr:s.2.2.2.2.1.1.length≤1048576:=S.NL
 have hct:s.2.2.2.1.2.1.length≤1048576:=S.cat
 have a:=Xj s.2.2.1 (by omega)
 obtain⟨r1,r2⟩:=OB s (by omega)
 have b:=aa7 (x7 s).1 r1 r2
 unfold okV
 change Wh.B4 s.2.2.1=some (((x7 s).1,((x7 s).2:Int)),()) at a
 have hle:decide ((s.2.2.1.length:Int)>9000) = !decide (s.2.2.1.length≤9000):=by
  by_cases h:s.2.2.1.length≤9000
  ·rw[decide_eq_true h,decide_eq_false (by omega)];rfl
  ·rw[decide_eq_false h,decide_eq_true (by omega)];rfl
 have Cu (x y:Nat):((x:Int)==(y:Int))=(x==y):=by rw[Bool.eq_iff_iff,beq_iff_eq,beq_iff_eq];omega
 have RU (x:Nat):((x:Int)==0)=(x==0):=Cu x 0
 have RW (x:Nat):((x:Int) != 2) = !(x==2):=by rw[←Cu x 2];rfl
 simp only[Wh.q75,Ao,Wh.zm _ _ (Ao _ _ _),hle,nQ,iy,cond_true]
 cases wh s.2.1 0 99999 with
 |false=>rfl
 |true=>
 cases decide (s.2.2.1.length≤9000) with
 |false=>rfl
 |true=>
 simp only[Bool.not_true,cond_false,Bool.true_and]
 cases cS:s.1 with
 |false=>
  have sy:Wh.Ge s=some ((zk (x7 s).1).2,()):=by
   simp only[Wh.Ge,a,Wh.NV _ _ a,b,Wh.N4 _ _ b,nQ,iy,cond_true]
  simp only[Bool.not_false,cond_true,cond_false,sy,Wh.YX _ _ sy,Bool.or_true,RU,IY]
  congr 2
  cases (zk (x7 s).1).2<;>cases (s.2.2.2.1.2.1.length==0)<;>cases (s.2.2.2.1.1==0)<;>cases (s.2.2.2.2.1.1.length==0)<;>cases (s.2.2.2.2.1.2.1==0)<;>cases (s.2.2.2.2.2.1.length==0)<;>cases (s.2.2.2.2.2.2.1.length==0)<;>rfl
 |true=>
  have sm:=aiY (zk (x7 s).1).1 s.2.2.2.1
  have po:=aiW s.2.2.2.2.1 (by omega)
  have sv:=aiQ s (by omega) (by omega)
  have e1:(((x7 s).2:Int) != (s.2.2.1.length:Int)) = !((x7 s).2==s.2.2.1.length):=by rw[←Cu];rfl
  simp only[Bool.not_true,cond_false,cond_true,a,Wh.NV _ _ a,b,Wh.N4 _ _ b,po,Wh.Zr _ _ po,sv,Wh.q40_v _ _ sv,Bool.or_true,e1,RW]
  unfold upV
  cases hcat:(zk (x7 s).1).2 with
  |false=>simp only[Bool.not_false,cond_true,Bool.not_true,Bool.true_or,Bool.and_self,Bool.false_and]
  |true=>
  cases hrd:((x7 s).2==s.2.2.1.length) with
  |false=>simp only[Bool.not_false,cond_true,cond_false,Bool.not_true,Bool.true_or,Bool.and_self,Bool.false_and,Bool.and_false]
  |true=>
  have I:=Na hcat
  have hI:=I.len
  have sm':=sm (by omega)
  simp only[sm',Wh.YW _ _ sm',Bool.not_true,Bool.not_false,cond_false,cond_true,Bool.or_true,Bool.true_and,Bool.and_self]
  by_cases hsame:(zk (x7 s).1).1=s.2.2.2.1
  ·rw[decide_eq_true hsame]
   rw[hsame] at I
   cases hpo:Cy s.2.2.2.2.1 with
   |false=>rfl
   |true=>
   cases bZ:(s.2.2.2.2.2.1.length==2) with
   |false=>rfl
   |true=>
   cases hsr:J8 s with
   |false=>rfl
   |true=>
    simp only[Bool.not_true,cond_false,Bool.true_and]
    have q:=xW (r:=Wh.Bi) (fun i=>(((i:Int),()),s)) (n:=s.2.2.2.2.1.1.length) (p:=fun i=> !Dc s.2.2.2.1 (s.2.2.2.2.1.1.getD i zF)) (yf:=.inl (false,())) (yt:=.inr ((),s)) (fun i hi _ hp=>by
      rw[aba s I i hi (by omega),if_neg (by simpa using hp)]) (fun i hi _ hp=>by
      rw[aba s I i hi (by omega),if_pos (by simpa using hp)]) (by
      have d1:decide ((s.2.2.2.2.1.1.length:Int)<(s.2.2.2.2.1.1.length:Int))=false:=decide_eq_false (by omega)
      simp only[Wh.Bi,d1,cond_false])
    have q':Comes Wh.Bi ((0,()),s) _:=q
    have q2:=xW (r:=Wh.DZ) (fun i=>(((i:Int),()),s)) (n:=s.2.2.2.2.2.1.length) (p:=fun i=> !C7 s.2.1 (s.2.2.2.2.2.1.getD i zB)) (yf:=.inl (false,())) (yt:=.inr ((),())) (fun i hi _ hp=>by
      rw[aa4 s i hi (by omega),if_neg (by simpa using hp)]) (fun i hi _ hp=>by
      rw[aa4 s i hi (by omega),if_pos (by simpa using hp)]) (by
      have d1:decide ((s.2.2.2.2.2.1.length:Int)<(s.2.2.2.2.2.1.length:Int))=false:=decide_eq_false (by omega)
      simp only[Wh.DZ,d1,cond_false])
    have DP:Comes Wh.DZ ((0,()),s) _:=q2
    simp only[cb q',cv q',cond_true]
    unfold I9 Q1
    cases hf:jS s.2.2.2.2.1.1.length (fun i=> !Dc s.2.2.2.1 (s.2.2.2.2.1.1.getD i zF)) with
    |false=>simp[sumC]
    |true=>
     simp only[if_true,sumC,cb DP,cv DP,cond_true,Bool.true_and]
     cases hb:jS s.2.2.2.2.2.1.length (fun i=> !C7 s.2.1 (s.2.2.2.2.2.1.getD i zB))<;>rfl
  ·rw[decide_eq_false hsame];rfl
theorem ab_ (s:ng.D)(I:yx s.2.2.2.1)(hp:s.2.2.2.2.1.1.length≤9999999):Wh.q51 (s.2.2.2.2.1,s.2.2.2.1)=some (Cy s.2.2.2.2.1&&I9 s,()):=by
 have a:=adl s.2.2.2.2.1 hp
 cases hv:Cy s.2.2.2.2.1 with
 |false=>
  rw[hv] at a
  simp only[Wh.q51,a,Wh.Sz _ _ a,nQ,iy,cond_true,Bool.not_false,Bool.false_and]
 |true=>
  have hok:∀i,i<s.2.2.2.2.1.1.length→okF (s.2.2.2.2.1.1.getD i zF)=true:=by
   unfold Cy at hv
   simp only[Bool.and_eq_true,beq_iff_eq] at hv
   intro i hi
   have:=oL.1 hv.2.1 i (by omega)
   unfold AH at this
   rw[Bool.and_eq_true] at this
   exact this.1
  rw[hv] at a
  have q:=xW (r:=Wh.Bh) (fun i=>(((i:Int),(),s.2.2.2.2.1.1,(s.2.2.2.2.1.1.length:Int)),s.2.2.2.1)) (n:=s.2.2.2.2.1.1.length) (p:=fun i=> !Dc s.2.2.2.1 (s.2.2.2.2.1.1.getD i zF)) (yf:=.inl (false,())) (yt:=.inr ((),())) (fun i hi _ hp=>by
    rw[W3 s.2.2.2.1 I _ i hi (by omega) (hok i hi),if_neg (by simpa using hp)]) (fun i hi _ hp=>by
    rw[W3 s.2.2.2.1 I _ i hi (by omega) (hok i hi),if_pos (by simpa using hp)]) (by
    have d1:decide ((s.2.2.2.2.1.1.length:Int)<(s.2.2.2.2.1.1.length:Int))=false:=decide_eq_false (by omega)
    simp only[Wh.Bh,d1,cond_false])
  have q':Comes Wh.Bh ((0,(),s.2.2.2.2.1.1,(s.2.2.2.2.1.1.length:Int)),s.2.2.2.1) _:=q
  simp only[Wh.q51,a,Wh.Sz _ _ a,nQ,iy,cond_true,cond_false,Bool.not_true,Bool.true_and,cb q',cv q']
  unfold I9
  cases jS s.2.2.2.2.1.1.length (fun i=> !Dc s.2.2.2.1 (s.2.2.2.2.1.1.getD i zF))<;>rfl
theorem adk (s:ng.D)(S:FL s):Wh.q47 s=some (okV s,()):=by
 have A6:=S.log
 have hbk:=S.bks
 have hsv:=S.CU
 have hfr:s.2.2.2.2.1.1.length≤1048576:=S.NL
 have hct:s.2.2.2.1.2.1.length≤1048576:=S.cat
 have a:=VS s.2.2.1 (by omega)
 obtain⟨r1,r2⟩:=OB s (by omega)
 have b:=WX (x7 s).1 r1 r2
 unfold okV
 change Wh.CR s.2.2.1=some (((x7 s).1,((x7 s).2:Int)),()) at a
 have hle:decide ((s.2.2.1.length:Int)>9000) = !decide (s.2.2.1.length≤9000):=by
  by_cases h:s.2.2.1.length≤9000
  ·rw[decide_eq_true h,decide_eq_false (by omega)];rfl
  ·rw[decide_eq_false h,decide_eq_true (by omega)];rfl
 have Cu (x y:Nat):((x:Int)==(y:Int))=(x==y):=by rw[Bool.eq_iff_iff,beq_iff_eq,beq_iff_eq];omega
 have RU (x:Nat):((x:Int)==0)=(x==0):=Cu x 0
 have RW (x:Nat):((x:Int) != 2) = !(x==2):=by rw[←Cu x 2];rfl
 simp only[Wh.q47,zj,Wh.zK _ _ (zj _ _ _),hle,nQ,iy,cond_true]
 cases wh s.2.1 0 99999 with
 |false=>rfl
 |true=>
 cases decide (s.2.2.1.length≤9000) with
 |false=>rfl
 |true=>
 simp only[Bool.not_true,cond_false,Bool.true_and,a,Wh.UJ _ _ a,b,Wh.S_ _ _ b,cond_true]
 cases hcat:(zk (x7 s).1).2 with
 |false=>rfl
 |true=>
 simp only[Bool.not_true,cond_false,Bool.true_and]
 cases cS:s.1 with
 |false=>
  simp only[Bool.not_false,cond_true,cond_false,RU,IY]
  congr 2
  cases (s.2.2.2.1.2.1.length==0)<;>cases (s.2.2.2.1.1==0)<;>cases (s.2.2.2.2.1.1.length==0)<;>cases (s.2.2.2.2.1.2.1==0)<;>cases (s.2.2.2.2.2.1.length==0)<;>cases (s.2.2.2.2.2.2.1.length==0)<;>rfl
 |true=>
  have I:=Na hcat
  have hI:=I.len
  have sm:=adn (zk (x7 s).1).1 s.2.2.2.1 (by omega)
  have e1:(((x7 s).2:Int) != (s.2.2.1.length:Int)) = !((x7 s).2==s.2.2.1.length):=by rw[←Cu];rfl
  simp only[Bool.not_true,cond_false,cond_true,sm,Wh.q89_v _ _ sm,Bool.or_true,e1,RW]
  unfold upV
  cases hrd:((x7 s).2==s.2.2.1.length) with
  |false=>simp only[Bool.not_false,cond_true,Bool.not_true,Bool.true_or,Bool.and_self,Bool.false_and]
  |true=>
  by_cases hsame:(zk (x7 s).1).1=s.2.2.2.1
  ·rw[decide_eq_true hsame]
   rw[hsame] at I
   have fi:=ab_ s I (by omega)
   simp only[fi,Wh.q51_v _ _ fi,Bool.not_true,cond_false,Bool.or_true,Bool.and_self,cond_true,Bool.true_and]
   cases hpo:Cy s.2.2.2.2.1 with
   |false=>rfl
   |true=>
   cases hfi:I9 s with
   |false=>simp only[Bool.and_false,Bool.not_false,cond_true,Bool.false_and]
   |true=>
   cases bZ:(s.2.2.2.2.2.1.length==2) with
   |false=>rfl
   |true=>
    simp only[Bool.not_true,cond_false,Bool.true_and,Bool.and_self]
    have q:=xW (r:=Wh.DX) (fun i=>(((i:Int),(),s.2.2.2.2.2.1,(s.2.2.2.2.2.1.length:Int)),s)) (n:=s.2.2.2.2.2.1.length) (p:=fun i=> !C7 s.2.1 (s.2.2.2.2.2.1.getD i zB)) (yf:=.inl (false,())) (yt:=.inr ((),s)) (fun i hi _ hp=>by
      rw[WU s _ i hi (by omega),if_neg (by simpa using hp)]) (fun i hi _ hp=>by
      rw[WU s _ i hi (by omega),if_pos (by simpa using hp)]) (by
      have d1:decide ((s.2.2.2.2.2.1.length:Int)<(s.2.2.2.2.2.1.length:Int))=false:=decide_eq_false (by omega)
      simp only[Wh.DX,d1,cond_false])
    have q':Comes Wh.DX ((0,(),s.2.2.2.2.2.1,(s.2.2.2.2.2.1.length:Int)),s) _:=q
    have q2:=xW (r:=Wh.CQ) (fun i=>(((i:Int),(),s.2.2.2.2.2.2.1,(s.2.2.2.2.2.2.1.length:Int)),s)) (n:=s.2.2.2.2.2.2.1.length) (p:=fun i=> !Cf s.2.2.2.1 s.2.1 s.2.2.2.2.2.2.1 i) (yf:=.inl (false,())) (yt:=.inr ((),())) (fun i hi _ hp=>by
      rw[W8 s (by omega) i hi (by omega),if_neg (by simpa using hp)]) (fun i hi _ hp=>by
      rw[W8 s (by omega) i hi (by omega),if_pos (by simpa using hp)]) (by
      have d1:decide ((s.2.2.2.2.2.2.1.length:Int)<(s.2.2.2.2.2.2.1.length:Int))=false:=decide_eq_false (by omega)
      simp only[Wh.CQ,d1,cond_false])
    have DP:Comes Wh.CQ ((0,(),s.2.2.2.2.2.2.1,(s.2.2.2.2.2.2.1.length:Int)),s) _:=q2
    simp only[cb q',cv q',cond_true]
    unfold Q1 J8
    cases hf:jS s.2.2.2.2.2.1.length (fun i=> !C7 s.2.1 (s.2.2.2.2.2.1.getD i zB)) with
    |false=>simp[sumC]
    |true=>
     simp only[if_true,sumC,cb DP,cv DP,cond_true,Bool.and_true]
     cases hb:jS s.2.2.2.2.2.2.1.length (fun i=> !Cf s.2.2.2.1 s.2.1 s.2.2.2.2.2.2.1 i)<;>rfl
  ·rw[decide_eq_false hsame];rfl
end Pl
open Go Go.Ab
namespace Pc
theorem wrap64 {n:Int}(h1: -9223372036854775808≤n)(h2:n≤9223372036854775807):IntKind.wrap .i64 n=n:=by
 simp[IntKind.wrap,IntKind.signed,IntKind.bits]
 omega
theorem yd {X Y:Type}{r:X→Option (X⊕Y)}(st:Nat→X){n:Nat}{y:Y}(hs:∀i,i<n→r (st i)=some (.inl (st (i+1))))(he:r (st n)=some (.inr y)):∀k,k≤n→Comes r (st k) y:=by
 intro k hk
 have:∀d k,k+d=n→Comes r (st k) y:=by
  intro d
  induction d with
  |zero=>intro k hk;have:k=n:=by omega
         subst this;exact .out he
  |succ d ih=>intro k hk;exact .again (hs k (by omega)) (ih (k+1) (by omega))
 exact this (n-k) k (by omega)
theorem cb {X Y:Type}{r:X→Option (X⊕Y)}{x:X}{y:Y}(h:Comes r x y):lF r x=true:=(h.is (y0:=y)).1
theorem cv {X Y:Type}{r:X→Option (X⊕Y)}{x:X}{y:Y}(h:Comes r x y)(y0:Y):kG r y0 x=y:=h.is.2
theorem getD_eq {α:Type}(l:List α)(i:Nat)(z:α)(h:i<l.length):l.getD i z=l[i]:=by simp[h]
theorem Q_ (a:List Int)(h:a.length≤4611686018427387904):Wh.Dv (a,a)=some (true,()):=by
 have hl:Comes Wh.Gp (((0:Int),a,a),()) (.inr ((),())):=by
  refine yd (st:=fun i=>(((i:Int),a,a),())) (n:=a.length) ?_ ?_ 0 (Nat.zero_le _)
  ·intro i hi
   have h1:decide ((i:Int)<(a.length:Int))=true:=by simpa using hi
   have h2:IntKind.wrap .i64 ((i:Int)+1)=((i+1:Nat):Int):=by rw[wrap64]<;>omega
   have h3:decide ((0:Int)≤(i:Int))=true:=by simp
   simp[Wh.Gp,iy,h2,hi]
  ·simp[Wh.Gp]
 simp[Wh.Dv,cb hl,cv hl]
theorem ab1 (a:r5.D)(h1:a.2.2.1.length≤4611686018427387904)(h2:a.2.2.2.1.length≤4611686018427387904):Wh.Gr (a,a)=some (true,()):=by
 simp[Wh.Gr,Wh.Gn,bx,Q_ _ h1,Q_ _ h2,iy,nQ]
theorem abU (a:nW.D)(h1:a.1.length≤4611686018427387904):Wh.GU (a,a)=some (true,()):=by
 simp[Wh.GU,Wh.Gn,bx,Q_ _ h1,iy,nQ]
theorem abT (a:List nW.D)(h:a.length≤4611686018427387904)(hr:∀x∈a,x.1.length≤4611686018427387904):Wh.GF (a,a)=some (true,()):=by
 have hl:Comes Wh.GG (((0:Int),a,a),()) (.inr ((),())):=by
  refine yd (st:=fun i=>(((i:Int),a,a),())) (n:=a.length) ?_ ?_ 0 (Nat.zero_le _)
  ·intro i hi
   have h2:IntKind.wrap .i64 ((i:Int)+1)=((i+1:Nat):Int):=by rw[wrap64]<;>omega
   have h4:=abU (a[i]) (hr _ (by simp))
   simp[Wh.GG,Wh.Ob,bx,iy,h2,hi,h4,nQ]
  ·simp[Wh.GG]
 simp[Wh.GF,cb hl,cv hl]
theorem ab6 (a:lg.D)(h:a.2.2.1.length≤4611686018427387904)(hr:∀x∈a.2.2.1,x.1.length≤4611686018427387904):Wh.q59 (a,a)=some (true,()):=by
 simp[Wh.q59,Wh.N3,bx,abT _ h hr,iy,nQ]
def SmPlan (a:r5.D):Prop:=a.2.2.1.length≤4611686018427387904∧a.2.2.2.1.length≤4611686018427387904
def Cj (a:lg.D):Prop:=a.2.2.1.length≤4611686018427387904∧∀x∈a.2.2.1,x.1.length≤4611686018427387904
def C3 (a:xN.D):Prop:=SmPlan a.1∧Cj a.2.1
def abt (a:nE.D):Prop:=C3 a.2.2.2.2.2.1
theorem abX (a:xN.D)(h:C3 a):Wh.q29 (a,a)=some (true,()):=by
 simp[Wh.q29,Wh.NQ,bx,Wh.Ok,bx,ab1 _ h.1.1 h.1.2,ab6 _ h.2.1 h.2.2,iy,nQ]
theorem abS (a:nE.D)(h:abt a):Wh.q54 (a,a)=some (true,()):=by
 simp[Wh.q54,Wh.Oe,bx,abX _ h,iy,nQ]
end Pc
open Go Go.Ab
namespace Pc
theorem x8 (n lo hi:Int):Wh.xd (n,lo,hi)=some (decide (lo≤n∧n≤hi),()):=by
 by_cases h:lo≤n<;>simp[Wh.xd,h]
theorem yc (n lo hi:Int):Wh.xR (n,lo,hi)=some (decide (lo≤n∧n≤hi),()):=by
 by_cases h:lo≤n<;>simp[Wh.xR,h]
theorem V6 (n:Int):Wh.Ca n=some (decide (0≤n∧n≤3),()):=by
 simp[Wh.Ca,Wh.n_,bx,yc,iy,nQ]
def jS:Nat→(Nat→Bool)→Bool
 |0,_=>true
 |n+1,p=>jS n p&&p n
theorem oL {p:Nat→Bool}:∀{n:Nat},jS n p=true↔∀i,i<n→p i=true
 |0=>by simp[jS]
 |n+1=>by
  rw[jS,Bool.and_eq_true,oL]
  constructor
  ·rintro⟨h1,h2⟩ i hi
   by_cases e:i=n
   ·subst e;exact h2
   ·exact h1 i (by omega)
  ·intro h
   exact⟨fun i hi=>h i (by omega),h n (by omega)⟩
theorem M5 {p q:Nat→Bool}:∀{n:Nat},(∀i,i<n→p i=q i)→jS n p=jS n q
 |0,_=>rfl
 |n+1,h=>by rw[jS,jS,M5 fun i hi=>h i (by omega),h n (by omega)]
theorem xW {X Y:Type}{r:X→Option (X⊕Y)}(st:Nat→X){n:Nat}{p:Nat→Bool}{yf yt:Y}(hs:∀i,i<n→(∀j,j<i→p j=true)→p i=true→r (st i)=some (.inl (st (i+1))))
  (hf:∀i,i<n→(∀j,j<i→p j=true)→p i=false→r (st i)=some (.inr yf)) (he:r (st n)=some (.inr yt)):Comes r (st 0) (if jS n p=true then yt else yf):=by
 have main:∀d k,k+d=n→(∀j,j<k→p j=true)→Comes r (st k) (if jS n p=true then yt else yf):=by
  intro d
  induction d with
  |zero=>
   intro k hk hp
   have:k=n:=by omega
   subst this
   rw[if_pos (oL.2 hp)]
   exact .out he
  |succ d ih=>
   intro k hk hp
   cases hpk:p k with
   |true=>
    refine .again (hs k (by omega) hp hpk) (ih (k+1) (by omega) fun j hj=>?_)
    by_cases e:j=k
    ·subst e;exact hpk
    ·exact hp j (by omega)
   |false=>
    have:¬jS n p=true:=by
     intro h
     have:=oL.1 h k (by omega)
     rw[hpk] at this;cases this
    rw[if_neg this]
    exact .out (hf k (by omega) hp hpk)
 exact main n 0 (by omega) (fun j hj=>by omega)
theorem mb {i:Nat}(h:i≤4611686018427387904):IntKind.wrap .i64 ((i:Int)+1)=((i+1:Nat):Int):=by rw[wrap64]<;>omega
theorem Ci {i:Nat}(h:i≤4611686018427387904):IntKind.wrap .i64 ((i:Int)-1)=(i:Int)-1:=by rw[wrap64]<;>omega
theorem Kj:IntKind.wrap .i64 1=1:=by decide
end Pc
open Go Go.Ab
namespace Pc
def Dj (t:List UInt8)(i:Nat):Bool:=decide (97≤(t.getD i 0).toNat)&&decide ((t.getD i 0).toNat≤122)
def Dh (t:List UInt8):Bool:=jS t.length (Dj t)&&decide (1≤t.length∧t.length≤6)
theorem ai3 (t:List UInt8)(h:t.length≤4611686018427387904):Wh.B3 t=some (Dh t,()):=by
 have hl:Comes Wh.A1 (((0:Int),t),()) (if jS t.length (Dj t)=true then .inr (t,()) else .inl (false,())):=by
  refine xW (fun i=>(((i:Int),t),())) ?_ ?_ ?_
  ·intro i hi _ hp
   have e0:t.getD i 0=t[i]:=by simp[hi]
   simp only[Dj,Bool.and_eq_true,decide_eq_true_eq,e0] at hp
   have h1:¬(((t[i].toNat:Nat):Int)<97):=by omega
   have h2:¬(122<((t[i].toNat:Nat):Int)):=by omega
   have h3:=mb (i:=i) (by omega)
   simp[Wh.A1,hi,iy,h1,h2,h3]
  ·intro i hi _ hp
   have e0:t.getD i 0=t[i]:=by simp[hi]
   simp only[Dj,Bool.and_eq_false_iff,decide_eq_false_iff_not,e0] at hp
   by_cases h1:((t[i].toNat:Nat):Int)<97
   ·simp[Wh.A1,hi,iy,h1]
   ·have h2:122<((t[i].toNat:Nat):Int):=by omega
    simp[Wh.A1,hi,iy,h1,h2]
  ·simp[Wh.A1]
 have e:decide ((1:Int)≤(t.length:Int)∧(t.length:Int)≤6)=decide (1≤t.length∧t.length≤6):=by congr 1;exact propext ⟨fun h=>by omega,fun h=>by omega⟩
 cases hp:jS t.length (Dj t) with
 |true=>
  rw[hp,if_pos rfl] at hl
  simp only[Wh.B3,cb hl,cv hl,Dh,hp,Wh.nS,bx,x8,iy,nQ,cond_true,Bool.true_and]
  exact congrArg (fun b=>some (b,())) e
 |false=>
  rw[hp,if_neg (by simp)] at hl
  simp[Wh.B3,cb hl,cv hl,Dh,hp]
theorem ads (t:List UInt8)(h:t.length≤4611686018427387904):Wh.BD t=some (Dh t,()):=by
 have hl:Comes Wh.AZ (((0:Int),t,(t.length:Int)),()) (if jS t.length (Dj t)=true then .inr (t,()) else .inl (false,())):=by
  refine xW (fun i=>(((i:Int),t,(t.length:Int)),())) ?_ ?_ ?_
  ·intro i hi _ hp
   have e0:t.getD i 0=t[i]:=by simp[hi]
   simp only[Dj,Bool.and_eq_true,decide_eq_true_eq,e0] at hp
   have h1:¬(((t[i].toNat:Nat):Int)<97):=by omega
   have h2:¬(122<((t[i].toNat:Nat):Int)):=by omega
   have h3:=mb (i:=i) (by omega)
   simp[Wh.AZ,hi,iy,h1,h2,h3]
  ·intro i hi _ hp
   have e0:t.getD i 0=t[i]:=by simp[hi]
   simp only[Dj,Bool.and_eq_false_iff,decide_eq_false_iff_not,e0] at hp
   by_cases h1:((t[i].toNat:Nat):Int)<97
   ·simp[Wh.AZ,hi,iy,h1]
   ·have h2:122<((t[i].toNat:Nat):Int):=by omega
    simp[Wh.AZ,hi,iy,h1,h2]
  ·simp[Wh.AZ]
 have e:decide ((1:Int)≤(t.length:Int)∧(t.length:Int)≤6)=decide (1≤t.length∧t.length≤6):=by congr 1;exact propext ⟨fun h=>by omega,fun h=>by omega⟩
 cases hp:jS t.length (Dj t) with
 |true=>
  rw[hp,if_pos rfl] at hl
  simp only[Wh.BD,cb hl,cv hl,Dh,hp,Wh.n_,bx,yc,iy,nQ,cond_true,Bool.true_and]
  exact congrArg (fun b=>some (b,())) e
 |false=>
  rw[hp,if_neg (by simp)] at hl
  simp[Wh.BD,cb hl,cv hl,Dh,hp]
def BL (row:List Int)(count:Int)(i:Nat):Bool:=decide (0≤row.getD i 0∧row.getD i 0≤count-1)&&(decide (i=0) || decide (row.getD (i-1) 0<row.getD i 0))
def zM (row:List Int)(count:Int):Bool:=jS row.length (BL row count)&&decide (0≤count∧count≤24)
theorem ai7 (row:List Int)(count:Int)(h:row.length≤4611686018427387904)(hc: -9223372036854775807≤count)(aJ:count≤9223372036854775807):Wh.EY (row,count)=some (zM row count,()):=by
 have hl:Comes Wh.CM (((0:Int),row,count),()) (if jS row.length (BL row count)=true then .inr (count,()) else .inl (false,())):=by
  refine xW (fun i=>(((i:Int),row,count),())) ?_ ?_ ?_
  ·intro i hi _ hp
   have e0:row.getD i 0=row[i]:=by simp[hi]
   simp only[BL,Bool.and_eq_true,Bool.or_eq_true,decide_eq_true_eq,e0] at hp
   have h3:=mb (i:=i) (by omega)
   have h4:IntKind.wrap .i64 (count-1)=count-1:=by rw[wrap64]<;>omega
   have h5:=Ci (i:=i) (by omega)
   obtain⟨hp1,hp2⟩:=hp
   by_cases hz:i=0
   ·subst hz
    simp[Wh.CM,hi,iy,h4,Kj,Wh.nS,bx,x8,nQ,hp1]
   ·have h6:(0:Int)<i:=by omega
    have h7:row.getD (i-1) 0<row[i]:=hp2.resolve_left hz
    have h8:((i:Int)-1).toNat=i-1:=by omega
    have h9:¬row[i]≤row[i-1]:=by
     have:row.getD (i-1) 0=row[i-1]:=by simp[show i-1<row.length by omega]
     omega
    have h10:i-1<row.length:=by omega
    have h11:(0:Int)≤(i:Int)-1:=by omega
    have h12:(i:Int)-1<row.length:=by omega
    have zZ:(1:Int)≤i:=by omega
    simp[Wh.CM,hi,iy,h3,h4,h5,h8,h9,h10,h12,zZ,Wh.nS,bx,x8,nQ,hp1,show 0<i by omega]
  ·intro i hi _ hp
   have e0:row.getD i 0=row[i]:=by simp[hi]
   simp only[BL,Bool.and_eq_false_iff,Bool.or_eq_false_iff,decide_eq_false_iff_not,e0] at hp
   have h4:IntKind.wrap .i64 (count-1)=count-1:=by rw[wrap64]<;>omega
   have h5:=Ci (i:=i) (by omega)
   by_cases hp1:0≤row[i]∧row[i]≤count-1
   ·have hp2:=hp.resolve_left (fun h=>h hp1)
    have h6:(0:Int)<i:=by omega
    have h8:((i:Int)-1).toNat=i-1:=by omega
    have h9:row[i]≤row[i-1]:=by
     have:row.getD (i-1) 0=row[i-1]:=by simp[show i-1<row.length by omega]
     omega
    have h10:i-1<row.length:=by omega
    have h11:(0:Int)≤(i:Int)-1:=by omega
    have h12:(i:Int)-1<row.length:=by omega
    have zZ:(1:Int)≤i:=by omega
    simp[Wh.CM,hi,iy,h4,h5,h8,h9,h10,h12,zZ,Wh.nS,bx,x8,nQ,hp1,show 0<i by omega]
   ·simp[Wh.CM,hi,iy,h4,Wh.nS,bx,x8,nQ,hp1]
  ·simp[Wh.CM]
 cases hp:jS row.length (BL row count) with
 |true=>
  rw[hp,if_pos rfl] at hl
  simp[Wh.EY,cb hl,cv hl,zM,hp,Wh.nS,bx,x8,iy,nQ]
 |false=>
  rw[hp,if_neg (by simp)] at hl
  simp[Wh.EY,cb hl,cv hl,zM,hp]
theorem adv (row:List Int)(count:Int)(h:row.length≤4611686018427387904)(hc: -9223372036854775807≤count)(aJ:count≤9223372036854775807):Wh.ES (row,count)=some (zM row count,()):=by
 have hl:Comes Wh.CK (((0:Int),row,count,row,(row.length:Int)),()) (if jS row.length (BL row count)=true then .inr (count,()) else .inl (false,())):=by
  refine xW (fun i=>(((i:Int),row,count,row,(row.length:Int)),())) ?_ ?_ ?_
  ·intro i hi _ hp
   have e0:row.getD i 0=row[i]:=by simp[hi]
   simp only[BL,Bool.and_eq_true,Bool.or_eq_true,decide_eq_true_eq,e0] at hp
   have h3:=mb (i:=i) (by omega)
   have h4:IntKind.wrap .i64 (count-1)=count-1:=by rw[wrap64]<;>omega
   have h5:=Ci (i:=i) (by omega)
   obtain⟨hp1,hp2⟩:=hp
   by_cases hz:i=0
   ·subst hz
    simp[Wh.CK,hi,iy,h4,Kj,Wh.n_,bx,yc,nQ,hp1]
   ·have h6:(0:Int)<i:=by omega
    have h7:row.getD (i-1) 0<row[i]:=hp2.resolve_left hz
    have h8:((i:Int)-1).toNat=i-1:=by omega
    have h9:¬row[i]≤row[i-1]:=by
     have:row.getD (i-1) 0=row[i-1]:=by simp[show i-1<row.length by omega]
     omega
    have h10:i-1<row.length:=by omega
    have h11:(0:Int)≤(i:Int)-1:=by omega
    have h12:(i:Int)-1<row.length:=by omega
    have zZ:(1:Int)≤i:=by omega
    simp[Wh.CK,hi,iy,h3,h4,h5,h8,h9,h10,h12,zZ,Wh.n_,bx,yc,nQ,hp1,show 0<i by omega]
  ·intro i hi _ hp
   have e0:row.getD i 0=row[i]:=by simp[hi]
   simp only[BL,Bool.and_eq_false_iff,Bool.or_eq_false_iff,decide_eq_false_iff_not,e0] at hp
   have h4:IntKind.wrap .i64 (count-1)=count-1:=by rw[wrap64]<;>omega
   have h5:=Ci (i:=i) (by omega)
   by_cases hp1:0≤row[i]∧row[i]≤count-1
   ·have hp2:=hp.resolve_left (fun h=>h hp1)
    have h6:(0:Int)<i:=by omega
    have h8:((i:Int)-1).toNat=i-1:=by omega
    have h9:row[i]≤row[i-1]:=by
     have:row.getD (i-1) 0=row[i-1]:=by simp[show i-1<row.length by omega]
     omega
    have h10:i-1<row.length:=by omega
    have h11:(0:Int)≤(i:Int)-1:=by omega
    have h12:(i:Int)-1<row.length:=by omega
    have zZ:(1:Int)≤i:=by omega
    simp[Wh.CK,hi,iy,h4,h5,h8,h9,h10,h12,zZ,Wh.n_,bx,yc,nQ,hp1,show 0<i by omega]
   ·simp[Wh.CK,hi,iy,h4,Wh.n_,bx,yc,nQ,hp1]
  ·simp[Wh.CK]
 cases hp:jS row.length (BL row count) with
 |true=>
  rw[hp,if_pos rfl] at hl
  simp[Wh.ES,cb hl,cv hl,zM,hp,Wh.n_,bx,yc,iy,nQ]
 |false=>
  rw[hp,if_neg (by simp)] at hl
  simp[Wh.ES,cb hl,cv hl,zM,hp]
end Pc
open Go Go.Ab
namespace Pc
def cnt (p:r5.D):Int:=(p.1+p.2.1-1).tdiv p.2.1
theorem Nb (p:r5.D)(h1:1≤p.1∧p.1≤300)(h2:1≤p.2.1∧p.2.1≤16):1≤cnt p∧cnt p≤400:=by
 unfold cnt
 rw[Int.tdiv_eq_ediv_of_nonneg (by omega)]
 constructor
 ·exact(Int.le_ediv_iff_mul_le (by omega)).2 (by omega)
 ·have:(p.1+p.2.1-1) / p.2.1≤(p.1+p.2.1-1):=Int.ediv_le_self _ (by omega)
  omega
theorem OE (p:r5.D)(h1:1≤p.1∧p.1≤300)(h2:1≤p.2.1∧p.2.1≤16):Wh.z8 p=some (cnt p,()):=by
 have hb:=Nb p h1 h2
 have e1:IntKind.wrap .i64 (p.1+p.2.1)=p.1+p.2.1:=by rw[wrap64]<;>omega
 have e2:IntKind.wrap .i64 (p.1+p.2.1-1)=p.1+p.2.1-1:=by rw[wrap64]<;>omega
 have e3:IntKind.wrap .i64 ((p.1+p.2.1-1).tdiv p.2.1)=(p.1+p.2.1-1).tdiv p.2.1:=by unfold cnt at hb;rw[wrap64]<;>omega
 have hz:(p.2.1 != 0)=true:=by simp;omega
 simp[Wh.z8,e1,e2,e3,iy,cnt,hz]
theorem Rk (p:r5.D)(h1:1≤p.1∧p.1≤300)(h2:1≤p.2.1∧p.2.1≤16):Wh.AG p=some (cnt p,()):=by
 have hb:=Nb p h1 h2
 have e1:IntKind.wrap .i64 (p.1+p.2.1)=p.1+p.2.1:=by rw[wrap64]<;>omega
 have e2:IntKind.wrap .i64 (p.1+p.2.1-1)=p.1+p.2.1-1:=by rw[wrap64]<;>omega
 have e3:IntKind.wrap .i64 ((p.1+p.2.1-1).tdiv p.2.1)=(p.1+p.2.1-1).tdiv p.2.1:=by unfold cnt at hb;rw[wrap64]<;>omega
 have hz:(p.2.1 != 0)=true:=by simp;omega
 simp[Wh.AG,e1,e2,e3,iy,cnt,hz]
def Dm (p:r5.D)(i:Nat):Bool:=
 decide (1≤p.2.2.1.getD i 0∧p.2.2.1.getD i 0≤cnt p)&&(decide (i=0) || decide (p.2.2.1.getD (i-1) 0<p.2.2.1.getD i 0))&&decide (1≤p.2.2.2.1.getD i 0∧p.2.2.2.1.getD i 0≤99)
def zy (p:r5.D):Bool:=decide (1≤p.1∧p.1≤300)&&decide (1≤p.2.1∧p.2.1≤16)&&decide (cnt p≤24)&&decide (1≤p.2.2.1.length∧p.2.2.1.length≤3)&&decide (p.2.2.2.1.length=p.2.2.1.length)
def y5 (p:r5.D):Bool:=zy p&&jS p.2.2.1.length (Dm p)&&decide (p.2.2.1.getD (p.2.2.1.length-1) 0=cnt p)
theorem ai6 (p:r5.D)(h:zy p=true):Comes Wh.BF (((0:Int),()),p) (if jS p.2.2.1.length (Dm p)=true then .inr ((),p) else .inl (false,())):=by
 simp only[zy,Bool.and_eq_true,decide_eq_true_eq] at h
 obtain⟨⟨⟨⟨a1,a2⟩,a3⟩,a4⟩,a5⟩:=h
 have hc:=OE p a1 a2
 refine xW (fun i=>(((i:Int),()),p)) ?_ ?_ ?_
 ·intro i hi _ hp
  have hi2:i<p.2.2.2.1.length:=by omega
  have e0:p.2.2.1.getD i 0=p.2.2.1[i]:=by simp[hi]
  have e1:p.2.2.2.1.getD i 0=p.2.2.2.1[i]:=by simp[hi2]
  simp only[Dm,Bool.and_eq_true,Bool.or_eq_true,decide_eq_true_eq,e0,e1] at hp
  obtain⟨⟨hp1,hp2⟩,A7⟩:=hp
  have h3:=mb (i:=i) (by omega)
  have h5:=Ci (i:=i) (by omega)
  by_cases hz:i=0
  ·subst hz
   simp[Wh.BF,hi,hi2,iy,Kj,Wh.nS,bx,Wh.y6,bx,hc,x8,nQ,hp1,A7]
  ·have h6:(0:Int)<i:=by omega
   have h8:((i:Int)-1).toNat=i-1:=by omega
   have h10:i-1<p.2.2.1.length:=by omega
   have h9:¬p.2.2.1[i]≤p.2.2.1[i-1]:=by
    have:p.2.2.1.getD (i-1) 0=p.2.2.1[i-1]:=by simp[h10]
    have:=hp2.resolve_left hz
    omega
   have h11:(0:Int)≤(i:Int)-1:=by omega
   have h12:(i:Int)-1<p.2.2.1.length:=by omega
   have zZ:(1:Int)≤i:=by omega
   simp[Wh.BF,hi,hi2,iy,h3,h5,h8,h9,h10,h12,zZ,Wh.nS,bx,Wh.y6,bx,hc,x8,nQ,hp1,A7,show 0<i by omega]
 ·intro i hi _ hp
  have hi2:i<p.2.2.2.1.length:=by omega
  have e0:p.2.2.1.getD i 0=p.2.2.1[i]:=by simp[hi]
  have e1:p.2.2.2.1.getD i 0=p.2.2.2.1[i]:=by simp[hi2]
  simp only[Dm,Bool.and_eq_false_iff,Bool.or_eq_false_iff,decide_eq_false_iff_not,e0,e1] at hp
  have h5:=Ci (i:=i) (by omega)
  by_cases hp1:1≤p.2.2.1[i]∧p.2.2.1[i]≤cnt p
  ·by_cases hz:i=0
   ·subst hz
    have A7:¬((1:Int)≤p.2.2.2.1[0]∧p.2.2.2.1[0]≤(99:Int)):=by
     rcases hp with(hp|hp)|hp
     ·exact absurd hp1 hp
     ·exact absurd rfl hp.1
     ·exact hp
    simp[Wh.BF,hi,hi2,iy,Wh.nS,bx,Wh.y6,bx,hc,x8,nQ,hp1,A7]
   ·have h6:(0:Int)<i:=by omega
    have h8:((i:Int)-1).toNat=i-1:=by omega
    have h10:i-1<p.2.2.1.length:=by omega
    have e2:p.2.2.1.getD (i-1) 0=p.2.2.1[i-1]:=by simp[h10]
    rw[e2] at hp
    have h11:(0:Int)≤(i:Int)-1:=by omega
    have h12:(i:Int)-1<p.2.2.1.length:=by omega
    have zZ:(1:Int)≤i:=by omega
    by_cases h9:p.2.2.1[i]≤p.2.2.1[i-1]
    ·simp[Wh.BF,hi,iy,h5,h8,h9,h10,h12,zZ,Wh.nS,bx,Wh.y6,bx,hc,x8,nQ,hp1,show 0<i by omega]
    ·have A7:¬(1≤p.2.2.2.1[i]∧p.2.2.2.1[i]≤99):=by
      rcases hp with(hp|hp)|hp
      ·exact absurd hp1 hp
      ·exact absurd hp.2 (by omega)
      ·exact hp
     simp[Wh.BF,hi,hi2,iy,h5,h8,h9,h10,h12,zZ,Wh.nS,bx,Wh.y6,bx,hc,x8,nQ,hp1,A7,show 0<i by omega]
  ·simp[Wh.BF,hi,iy,Wh.nS,bx,Wh.y6,bx,hc,x8,nQ,hp1]
 ·simp[Wh.BF]
theorem ai5 (p:r5.D):Wh.Be p=some (y5 p,()):=by
 by_cases a1:1≤p.1∧p.1≤300
 case neg=>simp[Wh.Be,Wh.nS,bx,x8,iy,nQ,a1,y5,zy]
 by_cases a2:1≤p.2.1∧p.2.1≤16
 case neg=>simp[Wh.Be,Wh.nS,bx,x8,iy,nQ,a1,a2,y5,zy]
 have hc:=OE p a1 a2
 have hb:=Nb p a1 a2
 by_cases a3:cnt p≤24
 case neg=>simp[Wh.Be,Wh.nS,bx,Wh.y6,bx,hc,x8,iy,nQ,a1,a2,a3,y5,zy]
 by_cases a4:1≤p.2.2.1.length∧p.2.2.1.length≤3
 case neg=>
  have zY:¬((1:Int)≤(p.2.2.1.length:Int)∧(p.2.2.1.length:Int)≤3):=by omega
  simp only[Wh.Be,Wh.nS,bx,Wh.y6,bx,hc,x8,iy,nQ,a1,a2,a3,a4,zY,hb.1,y5,zy,and_self,decide_true,decide_false,Bool.not_true,Bool.not_false,cond_true,cond_false,Bool.false_and,Bool.and_false,Bool.or_true,Bool.and_self]
 by_cases a5:p.2.2.2.1.length=p.2.2.1.length
 case neg=>
  have zY:((1:Int)≤(p.2.2.1.length:Int)∧(p.2.2.1.length:Int)≤3):=by omega
  have Ck:((p.2.2.2.1.length:Int) != (p.2.2.1.length:Int))=true:=by simp;omega
  simp only[Wh.Be,Wh.nS,bx,Wh.y6,bx,hc,x8,iy,nQ,a1,a2,a3,a4,zY,a5,Ck,hb.1,y5,zy,and_self,decide_true,decide_false,Bool.not_true,Bool.not_false,cond_true,cond_false,Bool.false_and,Bool.and_false,Bool.or_true,Bool.and_self]
 have hA:zy p=true:=by simp only[zy,a1,a2,a3,a4,a5,and_self,decide_true,Bool.and_self]
 have hl:=ai6 p hA
 have zY:((1:Int)≤(p.2.2.1.length:Int)∧(p.2.2.1.length:Int)≤3):=by omega
 have Ck:((p.2.2.2.1.length:Int) != (p.2.2.1.length:Int))=false:=by simp;omega
 have w1:IntKind.wrap .i64 ((p.2.2.1.length:Int)-1)=(p.2.2.1.length:Int)-1:=Ci (by omega)
 have w2:((p.2.2.1.length:Int)-1).toNat=p.2.2.1.length-1:=by omega
 have w3:(0:Int)≤(p.2.2.1.length:Int)-1:=by omega
 have w4:(p.2.2.1.length:Int)-1<(p.2.2.1.length:Int):=by omega
 cases hp:jS p.2.2.1.length (Dm p) with
 |true=>
  rw[hp,if_pos rfl] at hl
  simp only[Wh.Be,cb hl,cv hl,Wh.nS,bx,Wh.y6,bx,hc,x8,iy,nQ,a1,a2,a3,zY,Ck,hb.1,y5,hA,hp,and_self,decide_true,Bool.not_true,Bool.not_false,cond_true,cond_false,Bool.true_and,Bool.or_true,Bool.and_self]
  dsimp only[sumC]
  simp only[hc,w1,w2,w3,w4,decide_true,Bool.and_self,cond_true]
  rfl
 |false=>
  rw[hp,if_neg (by simp)] at hl
  simp only[Wh.Be,cb hl,cv hl,Wh.nS,bx,Wh.y6,bx,hc,x8,iy,nQ,a1,a2,a3,zY,Ck,hb.1,y5,hA,hp,and_self,decide_true,Bool.not_true,Bool.not_false,cond_true,cond_false,Bool.false_and,Bool.and_false,Bool.or_true,Bool.and_self]
theorem adu (p:r5.D)(h:zy p=true):Comes Wh.BE (((0:Int),(),p.2.2.1,(p.2.2.1.length:Int)),p) (if jS p.2.2.1.length (Dm p)=true then .inr ((),()) else .inl (false,())):=by
 simp only[zy,Bool.and_eq_true,decide_eq_true_eq] at h
 obtain⟨⟨⟨⟨a1,a2⟩,a3⟩,a4⟩,a5⟩:=h
 have hc:=Rk p a1 a2
 refine xW (fun i=>(((i:Int),(),p.2.2.1,(p.2.2.1.length:Int)),p)) ?_ ?_ ?_
 ·intro i hi _ hp
  have hi2:i<p.2.2.2.1.length:=by omega
  have e0:p.2.2.1.getD i 0=p.2.2.1[i]:=by simp[hi]
  have e1:p.2.2.2.1.getD i 0=p.2.2.2.1[i]:=by simp[hi2]
  simp only[Dm,Bool.and_eq_true,Bool.or_eq_true,decide_eq_true_eq,e0,e1] at hp
  obtain⟨⟨hp1,hp2⟩,A7⟩:=hp
  have h3:=mb (i:=i) (by omega)
  have h5:=Ci (i:=i) (by omega)
  by_cases hz:i=0
  ·subst hz
   simp[Wh.BE,hi,hi2,iy,Kj,Wh.n_,bx,Wh.zg,bx,hc,yc,nQ,hp1,A7]
  ·have h6:(0:Int)<i:=by omega
   have h8:((i:Int)-1).toNat=i-1:=by omega
   have h10:i-1<p.2.2.1.length:=by omega
   have h9:¬p.2.2.1[i]≤p.2.2.1[i-1]:=by
    have:p.2.2.1.getD (i-1) 0=p.2.2.1[i-1]:=by simp[h10]
    have:=hp2.resolve_left hz
    omega
   have h11:(0:Int)≤(i:Int)-1:=by omega
   have h12:(i:Int)-1<p.2.2.1.length:=by omega
   have zZ:(1:Int)≤i:=by omega
   simp[Wh.BE,hi,hi2,iy,h3,h5,h8,h9,h10,h12,zZ,Wh.n_,bx,Wh.zg,bx,hc,yc,nQ,hp1,A7,show 0<i by omega]
 ·intro i hi _ hp
  have hi2:i<p.2.2.2.1.length:=by omega
  have e0:p.2.2.1.getD i 0=p.2.2.1[i]:=by simp[hi]
  have e1:p.2.2.2.1.getD i 0=p.2.2.2.1[i]:=by simp[hi2]
  simp only[Dm,Bool.and_eq_false_iff,Bool.or_eq_false_iff,decide_eq_false_iff_not,e0,e1] at hp
  have h5:=Ci (i:=i) (by omega)
  by_cases hp1:1≤p.2.2.1[i]∧p.2.2.1[i]≤cnt p
  ·by_cases hz:i=0
   ·subst hz
    have A7:¬((1:Int)≤p.2.2.2.1[0]∧p.2.2.2.1[0]≤(99:Int)):=by
     rcases hp with(hp|hp)|hp
     ·exact absurd hp1 hp
     ·exact absurd rfl hp.1
     ·exact hp
    simp[Wh.BE,hi,hi2,iy,Wh.n_,bx,Wh.zg,bx,hc,yc,nQ,hp1,A7]
   ·have h6:(0:Int)<i:=by omega
    have h8:((i:Int)-1).toNat=i-1:=by omega
    have h10:i-1<p.2.2.1.length:=by omega
    have e2:p.2.2.1.getD (i-1) 0=p.2.2.1[i-1]:=by simp[h10]
    rw[e2] at hp
    have h11:(0:Int)≤(i:Int)-1:=by omega
    have h12:(i:Int)-1<p.2.2.1.length:=by omega
    have zZ:(1:Int)≤i:=by omega
    by_cases h9:p.2.2.1[i]≤p.2.2.1[i-1]
    ·simp[Wh.BE,hi,iy,h5,h8,h9,h10,h12,zZ,Wh.n_,bx,Wh.zg,bx,hc,yc,nQ,hp1,show 0<i by omega]
    ·have A7:¬(1≤p.2.2.2.1[i]∧p.2.2.2.1[i]≤99):=by
      rcases hp with(hp|hp)|hp
      ·exact absurd hp1 hp
      ·exact absurd hp.2 (by omega)
      ·exact hp
     simp[Wh.BE,hi,hi2,iy,h5,h8,h9,h10,h12,zZ,Wh.n_,bx,Wh.zg,bx,hc,yc,nQ,hp1,A7,show 0<i by omega]
  ·simp[Wh.BE,hi,iy,Wh.n_,bx,Wh.zg,bx,hc,yc,nQ,hp1]
 ·simp[Wh.BE]
theorem adt (p:r5.D):Wh.A0 p=some (y5 p,()):=by
 by_cases a1:1≤p.1∧p.1≤300
 case neg=>simp[Wh.A0,Wh.n_,bx,yc,iy,nQ,a1,y5,zy]
 by_cases a2:1≤p.2.1∧p.2.1≤16
 case neg=>simp[Wh.A0,Wh.n_,bx,yc,iy,nQ,a1,a2,y5,zy]
 have hc:=Rk p a1 a2
 have hb:=Nb p a1 a2
 by_cases a3:cnt p≤24
 case neg=>
  have a3':cnt p>24:=by omega
  simp[Wh.A0,Wh.n_,bx,Wh.zg,bx,hc,yc,iy,nQ,a1,a2,a3,a3',y5,zy]
 have a3':¬cnt p>24:=by omega
 by_cases a4:1≤p.2.2.1.length∧p.2.2.1.length≤3
 case neg=>
  have zY:¬((1:Int)≤(p.2.2.1.length:Int)∧(p.2.2.1.length:Int)≤3):=by omega
  simp only[Wh.A0,Wh.n_,bx,Wh.zg,bx,hc,yc,iy,nQ,a1,a2,a3,a3',a4,zY,y5,zy,and_self,decide_true,decide_false,Bool.not_true,Bool.not_false,cond_true,cond_false,Bool.false_and,Bool.and_false,Bool.true_or,Bool.or_true,Bool.and_self]
 by_cases a5:p.2.2.2.1.length=p.2.2.1.length
 case neg=>
  have zY:((1:Int)≤(p.2.2.1.length:Int)∧(p.2.2.1.length:Int)≤3):=by omega
  have Ck:((p.2.2.2.1.length:Int) != (p.2.2.1.length:Int))=true:=by simp;omega
  simp only[Wh.A0,Wh.n_,bx,Wh.zg,bx,hc,yc,iy,nQ,a1,a2,a3,a3',a4,zY,a5,Ck,y5,zy,and_self,decide_true,decide_false,Bool.not_true,Bool.not_false,cond_true,cond_false,Bool.false_and,Bool.and_false,Bool.true_or,Bool.or_true,Bool.and_self]
 have hA:zy p=true:=by simp only[zy,a1,a2,a3,a4,a5,and_self,decide_true,Bool.and_self]
 have hl:=adu p hA
 have zY:((1:Int)≤(p.2.2.1.length:Int)∧(p.2.2.1.length:Int)≤3):=by omega
 have Ck:((p.2.2.2.1.length:Int) != (p.2.2.1.length:Int))=false:=by simp;omega
 have w1:IntKind.wrap .i64 ((p.2.2.1.length:Int)-1)=(p.2.2.1.length:Int)-1:=Ci (by omega)
 have w2:((p.2.2.1.length:Int)-1).toNat=p.2.2.1.length-1:=by omega
 have w3:(0:Int)≤(p.2.2.1.length:Int)-1:=by omega
 have w4:(p.2.2.1.length:Int)-1<(p.2.2.1.length:Int):=by omega
 by_cases a6:p.2.2.1.getD (p.2.2.1.length-1) 0=cnt p
 case neg=>
  have a6':(p.2.2.1.getD (p.2.2.1.length-1) 0 != cnt p)=true:=by simpa using a6
  simp only[Wh.A0,Wh.n_,bx,Wh.zg,bx,hc,yc,iy,nQ,a1,a2,a3',zY,Ck,a6,a6',y5,hA,w1,w2,w3,w4,and_self,decide_true,decide_false,Bool.not_true,Bool.not_false,cond_true,cond_false,Bool.true_and,Bool.and_false,Bool.or_true,Bool.and_self]
 have a6':(p.2.2.1.getD (p.2.2.1.length-1) 0 != cnt p)=false:=by simpa using a6
 have a7:decide (p.2.2.1.getD (p.2.2.1.length-1) 0=cnt p)=true:=by simpa using a6
 cases hp:jS p.2.2.1.length (Dm p) with
 |true=>
  rw[hp,if_pos rfl] at hl
  simp only[Wh.A0,cb hl,cv hl,Wh.n_,bx,Wh.zg,bx,hc,yc,iy,nQ,a1,a2,a3',zY,Ck,a6',a7,y5,hA,hp,w1,w2,w3,w4,and_self,decide_true,decide_false,Bool.not_true,Bool.not_false,cond_true,cond_false,Bool.or_true,Bool.and_self]
 |false=>
  rw[hp,if_neg (by simp)] at hl
  simp only[Wh.A0,cb hl,cv hl,Wh.n_,bx,Wh.zg,bx,hc,yc,iy,nQ,a1,a2,a3',zY,Ck,a6',a7,y5,hA,hp,w1,w2,w3,w4,and_self,decide_true,decide_false,Bool.not_true,Bool.not_false,cond_true,cond_false,Bool.false_and,Bool.and_false,Bool.or_true,Bool.and_self]
end Pc
open Go Go.Ab
namespace Pc
def ym (l:List Int):Nat:=l.foldl (fun m x=>m |||2 ^ x.toNat) 0
theorem Yx (l:List Int)(x:Int):ym (l ++ [x])=ym l |||2 ^ x.toNat:=by simp[ym,List.foldl_append]
theorem ad8 (l:List Int)(j:Nat):∀m:Nat,(l.foldl (fun m x=>m |||2 ^ x.toNat) m).testBit j=(m.testBit j || l.any fun x=>decide (x.toNat=j)):=by
 induction l with
 |nil=>simp
 |cons x l ih=>
  intro m
  rw[List.foldl_cons,ih]
  simp[Nat.testBit_or,Nat.testBit_two_pow,Bool.or_assoc]
theorem NF (l:List Int)(j:Nat):(ym l).testBit j=l.any fun x=>decide (x.toNat=j):=by
 rw[ym,ad8];simp
theorem mk_lt (l:List Int)(h:∀x∈l,x<24):∀m:Nat,m<2 ^ 24→l.foldl (fun m x=>m |||2 ^ x.toNat) m<2 ^ 24:=by
 induction l with
 |nil=>intro m hm;exact hm
 |cons x l ih=>
  intro m hm
  rw[List.foldl_cons]
  refine ih (fun y hy=>h y (List.mem_cons_of_mem _ hy)) _ (Nat.or_lt_two_pow hm ?_)
  exact Nat.pow_lt_pow_right (by decide) (by have:=h x List.mem_cons_self;omega)
theorem ND (l:List Int)(h:∀x∈l,x<24):ym l<2 ^ 24:=mk_lt l h 0 (by decide)
theorem NH {a:Nat}(ha:a<2 ^ 24):(BitVec.ofInt 32 (a:Int)).toNat=a:=by
 rw[BitVec.ofInt_natCast,BitVec.toNat_ofNat];omega
theorem wrap32 {n:Nat}(h:n<2 ^ 24):IntKind.wrap .u32 (n:Int)=(n:Int):=by
 simp[IntKind.wrap,IntKind.bits,IntKind.signed];omega
theorem or32 {a b:Nat}(ha:a<2 ^ 24)(hb:b<2 ^ 24):nj .or .u32 (a:Int) (b:Int)=((a |||b:Nat):Int):=by
 show IntKind.wrap .u32 (((BitVec.ofInt 32 (a:Int) |||BitVec.ofInt 32 (b:Int)).toNat:Nat):Int)=_
 rw[BitVec.toNat_or,NH ha,NH hb,wrap32 (Nat.or_lt_two_pow ha hb)]
theorem and32 {a b:Nat}(ha:a<2 ^ 24)(hb:b<2 ^ 24):nj .and .u32 (a:Int) (b:Int)=((a &&& b:Nat):Int):=by
 show IntKind.wrap .u32 (((BitVec.ofInt 32 (a:Int) &&& BitVec.ofInt 32 (b:Int)).toNat:Nat):Int)=_
 rw[BitVec.toNat_and,NH ha,NH hb,wrap32 (Nat.and_lt_two_pow _ hb)]
theorem shl32 {n:Int}(h:0≤n)(h':n<24):IntKind.wrap .u32 ((1:Int)*(2:Int) ^ Min.min (Int.toNat n) (IntKind.bits .u32))=((2 ^ n.toNat:Nat):Int):=by
 obtain⟨k,rfl⟩:∃k:Nat,n=k:=⟨n.toNat,by omega⟩
 have hk:k<24:=by omega
 have hm:min k 32=k:=by omega
 have h2:2 ^ k<2 ^ 24:=Nat.pow_lt_pow_right (by decide) hk
 have e:(1:Int)*(2:Int) ^ Min.min (Int.toNat k) (IntKind.bits .u32)=((2 ^ k:Nat):Int):=by
  simp[IntKind.bits,hm]
 rw[e,wrap32 h2];simp
theorem pow24 {n:Int}(h':n<24):2 ^ n.toNat<2 ^ 24:=Nat.pow_lt_pow_right (by decide) (by omega)
theorem adB (row:List Int)(hl:row.length≤4611686018427387904)(h:∀x∈row,0≤x∧x<24):Wh.GR row=some ((ym row:Int),()):=by
 have hc:Comes Wh.GS (((0:Int),(0:Int),row,(row.length:Int)),()) ((ym row:Int),()):=by
  refine yd (st:=fun i=>(((i:Int),(ym (row.take i):Int),row,(row.length:Int)),())) (n:=row.length) ?_ ?_ 0 (Nat.zero_le _)
  ·intro i hi
   have h0:=h row[i] (by simp)
   have h3:=mb (i:=i) (by omega)
   have e:ym (row.take (i+1))=ym (row.take i) |||2 ^ (row[i]).toNat:=by rw[List.take_succ_eq_append_getElem hi,Yx]
   have h4:=shl32 h0.1 h0.2
   have h5:=or32 (ND (row.take i) fun x hx=>(h x (List.mem_of_mem_take hx)).2) (pow24 h0.2)
   simp only[Wh.GS,getD_eq _ _ _ hi,Int.toNat_natCast,h3,h4,h5,e,iy,Int.ofNat_lt,hi,h0.1,decide_true,cond_true,Int.natCast_nonneg,Bool.and_self]
  ·simp[Wh.GS]
 simp[Wh.GR,cb hc,cv hc]
end Pc
open Go Go.Ab
namespace Pc
theorem abq {i:Nat}(h:i≤4611686018427387904)(h0:0<i):IntKind.wrap .i64 ((i:Int)-1)=((i-1:Nat):Int):=by rw[wrap64]<;>omega
def mw (s:lg.D)(i:Nat):nW.D:=s.2.2.1.getD i ([],[],())
def th (s:lg.D)(i:Nat):Int:=(mw s i).1.getD 0 0
def x4 (s:lg.D)(i:Nat):Bool:=
 zM (mw s i).1 s.1&&decide ((mw s i).1.length≠0)&&decide (((mw s i).2.1.length:Int)=s.2.1)&&(decide (i=0) || decide (th s (i-1)<th s i))
theorem Nd (s:lg.D)(i:Nat)(h:i<s.2.2.1.length):mw s i∈s.2.2.1:=by
 rw[mw,getD_eq _ _ _ h];simp
theorem ai9 (s:lg.D)(hs:Cj s)(h1:1≤s.1∧s.1≤24):Comes Wh.D0 (((0:Int),()),s) (if jS s.2.2.1.length (x4 s)=true then .inr ((),s) else .inl (false,())):=by
 have zL:∀i,i<s.2.2.1.length→(∀j,j<i→x4 s j=true)→Wh.D0 (((i:Int),()),s)=bif x4 s i then some (.inl ((((i+1:Nat):Int),()),s)) else some (.inr (.inl (false,()))):=by
  intro i hi hp
  have hm:=Nd s i hi
  have hr:=ai7 (mw s i).1 s.1 (hs.2 _ hm) (by omega) (by omega)
  have hr':Wh.JI ((mw s i).1,s.1)=(zM (mw s i).1 s.1,()):=by simp only[Wh.JI,bx,hr]
  have eA:List.getD s.2.2.1 i ([],[],())=mw s i:=rfl
  have hi':decide ((i:Int)<(s.2.2.1.length:Int))=true:=by simpa using hi
  have h0:decide ((0:Int)≤(i:Int))=true:=by simp
  have w:=mb (i:=i) (by have:=hs.1;omega)
  have d1:(((mw s i).1.length:Int)==0) = !decide ((mw s i).1.length≠0):=by
   by_cases e:(mw s i).1.length=0<;>simp[e]
  have d2:(((mw s i).2.1.length:Int) != s.2.1) = !decide (((mw s i).2.1.length:Int)=s.2.1):=rfl
  have d3:decide ((0:Int)<((mw s i).1.length:Int))=decide ((mw s i).1.length≠0):=by
   by_cases e:(mw s i).1.length=0<;>simp[e];omega
  rcases Nat.eq_zero_or_pos i with hz|hz
  ·subst hz
   have g0:decide (((0:Nat):Int)>0)=false:=by decide
   cases hA:zM (mw s 0).1 s.1<;>cases hB:decide ((mw s 0).1.length≠0)<;>cases hC:decide (((mw s 0).2.1.length:Int)=s.2.1)<;>
    simp only[Wh.D0,hi',h0,Int.toNat_natCast,eA,hr',hr,d1,d2,d3,g0,hA,hB,hC,w,x4,iy,nQ,cond_true,cond_false,Bool.not_true,Bool.not_false,Bool.and_true,Bool.and_false,Bool.true_or,Bool.or_true,Bool.and_self,decide_true]
  ·have g0:decide ((i:Int)>0)=true:=by simpa using hz
   have gz:decide (i=0)=false:=by simp;omega
   have w2:=abq (i:=i) (by have:=hs.1;omega) hz
   have eB:List.getD s.2.2.1 (i-1) ([],[],())=mw s (i-1):=rfl
   have hq:=hp (i-1) (by omega)
   simp only[x4,Bool.and_eq_true,decide_eq_true_eq] at hq
   have q1:decide ((0:Int)<((mw s (i-1)).1.length:Int))=true:=by have:=hq.1.1.2;simp;omega
   have q2:decide (((i-1:Nat):Int)<(s.2.2.1.length:Int))=true:=by simp;omega
   have q3:decide ((0:Int)≤((i-1:Nat):Int))=true:=by simp
   have f1:List.getD (mw s i).1 0 0=th s i:=rfl
   have f2:List.getD (mw s (i-1)).1 0 0=th s (i-1):=rfl
   have d4:decide (th s (i-1)≥th s i) = !decide (th s (i-1)<th s i):=by
    by_cases e:th s (i-1)<th s i
    ·have:¬th s i≤th s (i-1):=by omega
     simp[e,this]
    ·have:th s i≤th s (i-1):=by omega
     simp[e,this]
   cases hA:zM (mw s i).1 s.1<;>cases hB:decide ((mw s i).1.length≠0)<;>cases hC:decide (((mw s i).2.1.length:Int)=s.2.1)<;>cases hD:decide (th s (i-1)<th s i)<;>
    simp only[Wh.D0,hi',h0,Int.toNat_natCast,Int.toNat_zero,eA,eB,f1,f2,hr',hr,d1,d2,d3,d4,g0,gz,hA,hB,hC,hD,w,w2,q1,q2,q3,x4,iy,nQ,cond_true,cond_false,Bool.not_true,Bool.not_false,Bool.and_true,Bool.and_false,Bool.or_true,Bool.or_false,Bool.and_self,decide_true,Int.le_refl]
 refine xW (fun i=>(((i:Int),()),s)) ?_ ?_ ?_
 ·intro i hi hp h
  rw[zL i hi hp,h];rfl
 ·intro i hi hp h
  rw[zL i hi hp,h];rfl
 ·simp[Wh.D0]
end Pc
open Go Go.Ab
namespace Pc
def Cn (row:List Int)(n:Int):Bool:= !jS row.length fun j=> !(row.getD j 0==n)
theorem WM (row:List Int)(n:Int):Cn row n=true↔∃j,j<row.length∧row.getD j 0=n:=by
 unfold Cn
 cases h:jS row.length fun j=> !(row.getD j 0==n) with
 |true=>
  rw[oL] at h
  simp only[Bool.not_true,Bool.false_eq_true,false_iff,not_exists,not_and]
  intro j hj e
  have:=h j hj
  simp only[e,beq_self_eq_true,Bool.not_true,Bool.false_eq_true] at this
 |false=>
  simp only[Bool.not_false,true_iff]
  by_cases e:∃j,j<row.length∧row.getD j 0=n
  ·exact e
  ·exfalso
   have:jS row.length (fun j=> !(row.getD j 0==n))=true:=by
    rw[oL];intro j hj
    simp only[Bool.not_eq_true',beq_eq_false_iff_ne,ne_eq]
    intro e2;exact e ⟨j,hj,e2⟩
   rw[h] at this;cases this
theorem ajb (row:List Int)(n:Int)(h:row.length≤4611686018427387904):Wh.E5 (row,n)=some (Cn row n,()):=by
 have hl:Comes Wh.E6 (((0:Int),n,row),()) (if(jS row.length fun j=> !(row.getD j 0==n))=true then .inr ((),()) else .inl (true,())):=by
  refine xW (fun i=>(((i:Int),n,row),())) ?_ ?_ ?_
  ·intro i hi _ hp
   have hi':decide ((i:Int)<(row.length:Int))=true:=by simpa using hi
   have h0:decide ((0:Int)≤(i:Int))=true:=by simp
   have hp':(row.getD i 0==n)=false:=by simpa using hp
   simp only[Wh.E6,hi',h0,Int.toNat_natCast,hp',mb (i:=i) (by omega),iy,cond_true,cond_false,Bool.and_self]
  ·intro i hi _ hp
   have hi':decide ((i:Int)<(row.length:Int))=true:=by simpa using hi
   have h0:decide ((0:Int)≤(i:Int))=true:=by simp
   have hp':(row.getD i 0==n)=true:=by simpa using hp
   simp only[Wh.E6,hi',h0,Int.toNat_natCast,hp',iy,cond_true,Bool.and_self]
  ·simp[Wh.E6]
 cases hp:(jS row.length fun j=> !(row.getD j 0==n)) with
 |true=>
  rw[hp,if_pos rfl] at hl
  simp only[Wh.E5,cb hl,cv hl,Cn,hp,cond_true,Bool.not_true]
 |false=>
  rw[hp,if_neg (by simp)] at hl
  simp only[Wh.E5,cb hl,cv hl,Cn,hp,cond_true,Bool.not_false]
def HG (s:lg.D)(i k:Nat):Bool:=decide (k=i) || !Cn (mw s k).1 (th s i)
def cross (s:lg.D):Bool:=jS s.2.2.1.length fun i=>jS s.2.2.1.length (HG s i)
theorem abh (s:lg.D)(hs:Cj s)(i:Nat)(hi:i<s.2.2.1.length)(hne:(mw s i).1.length≠0) :
  Comes Wh.Fm (((0:Int),(i:Int),()),s) (if jS s.2.2.1.length (HG s i)=true then .inr (((),(i:Int)),s) else .inl (false,())):=by
 have zL:∀k,k<s.2.2.1.length→Wh.Fm (((k:Int),(i:Int),()),s)=bif HG s i k then some (.inl ((((k+1:Nat):Int),(i:Int),()),s)) else some (.inr (.inl (false,()))):=by
  intro k hk
  have hr:=ajb (mw s k).1 (th s i) (hs.2 _ (Nd s k hk))
  have hr':Wh.JK ((mw s k).1,th s i)=(Cn (mw s k).1 (th s i),()):=by simp only[Wh.JK,bx,hr]
  have eA:List.getD s.2.2.1 i ([],[],())=mw s i:=rfl
  have eB:List.getD s.2.2.1 k ([],[],())=mw s k:=rfl
  have f1:List.getD (mw s i).1 0 0=th s i:=rfl
  have hi':decide ((i:Int)<(s.2.2.1.length:Int))=true:=by simpa using hi
  have hk':decide ((k:Int)<(s.2.2.1.length:Int))=true:=by simpa using hk
  have h0:decide ((0:Int)≤(i:Int))=true:=by simp
  have h1:decide ((0:Int)≤(k:Int))=true:=by simp
  have h2:decide ((0:Int)<((mw s i).1.length:Int))=true:=by simp;omega
  have w:=mb (i:=k) (by have:=hs.1;omega)
  have d1:((k:Int) != (i:Int)) = !decide (k=i):=by
   by_cases e:k=i
   ·subst e;simp
   ·have:(k:Int)≠i:=by omega
    simp[e,this]
  cases hA:decide (k=i)<;>cases hB:Cn (mw s k).1 (th s i)<;>
   simp only[Wh.Fm,hi',hk',h0,h1,h2,Int.toNat_natCast,Int.toNat_zero,eA,eB,f1,hr,hr',d1,hA,hB,w,HG,iy,nQ,cond_true,cond_false,Bool.not_true,Bool.not_false,Bool.or_true,Bool.or_false,Bool.and_self,Bool.or_self,decide_true,Int.le_refl]
 refine xW (fun k=>(((k:Int),(i:Int),()),s)) ?_ ?_ ?_
 ·intro k hk _ h
  rw[zL k hk,h];rfl
 ·intro k hk _ h
  rw[zL k hk,h];rfl
 ·simp[Wh.Fm]
theorem ai_ (s:lg.D)(hs:Cj s)(hne:∀i,i<s.2.2.1.length→(mw s i).1.length≠0) :
  Comes Wh.Fl (((0:Int),()),s) (if cross s=true then .inr ((),()) else .inl (false,())):=by
 refine xW (fun i=>(((i:Int),()),s)) ?_ ?_ ?_
 ·intro i hi _ h
  have hl:=abh s hs i hi (hne i hi)
  rw[h,if_pos rfl] at hl
  have hi':decide ((i:Int)<(s.2.2.1.length:Int))=true:=by simpa using hi
  simp only[Wh.Fl,hi',cb hl,cv hl,cond_true]
  dsimp only[sumC]
  rw[mb (i:=i) (by have:=hs.1;omega)]
 ·intro i hi _ h
  have hl:=abh s hs i hi (hne i hi)
  rw[h,if_neg (by simp)] at hl
  have hi':decide ((i:Int)<(s.2.2.1.length:Int))=true:=by simpa using hi
  simp only[Wh.Fl,hi',cb hl,cv hl,cond_true]
 ·simp[Wh.Fl]
def zN (s:lg.D):Bool:=decide (1≤s.1∧s.1≤24)&&decide (1≤s.2.1∧s.2.1≤16)&&jS s.2.2.1.length (x4 s)&&cross s
theorem Ra {s:lg.D}(h:jS s.2.2.1.length (x4 s)=true)(i:Nat)(hi:i<s.2.2.1.length):(mw s i).1.length≠0:=by
 have:=oL.1 h i hi
 simp only[x4,Bool.and_eq_true,decide_eq_true_eq] at this
 exact this.1.1.2
theorem ai8 (s:lg.D)(hs:Cj s):Wh.Cb s=some (zN s,()):=by
 by_cases a1:1≤s.1∧s.1≤24
 case neg=>simp[Wh.Cb,Wh.nS,bx,x8,iy,nQ,a1,zN]
 by_cases a2:1≤s.2.1∧s.2.1≤16
 case neg=>simp[Wh.Cb,Wh.nS,bx,x8,iy,nQ,a1,a2,zN]
 have hl:=ai9 s hs a1
 cases h1:jS s.2.2.1.length (x4 s) with
 |false=>
  rw[h1,if_neg (by simp)] at hl
  simp[Wh.Cb,Wh.nS,bx,x8,iy,nQ,a1,a2,zN,cb hl,cv hl,h1]
 |true=>
  rw[h1,if_pos rfl] at hl
  have hl2:=ai_ s hs (Ra h1)
  cases h2:cross s with
  |false=>
   rw[h2,if_neg (by simp)] at hl2
   simp[Wh.Cb,Wh.nS,bx,x8,iy,nQ,a1,a2,zN,cb hl,cv hl,h1,h2]
   dsimp only[sumC]
   simp only[cb hl2,cv hl2,cond_true]
  |true=>
   rw[h2,if_pos rfl] at hl2
   simp[Wh.Cb,Wh.nS,bx,x8,iy,nQ,a1,a2,zN,cb hl,cv hl,h1,h2]
   dsimp only[sumC]
   simp only[cb hl2,cv hl2,cond_true]
end Pc
open Go Go.Ab
namespace Pc
theorem U4 {row:List Int}{count:Int}(h:zM row count=true)(x:Int)(hx:x∈row):0≤x∧x<24:=by
 simp only[zM,Bool.and_eq_true,decide_eq_true_eq] at h
 obtain⟨i,hi,e⟩:=List.mem_iff_getElem.1 hx
 have:=oL.1 h.1 i hi
 simp only[BL,Bool.and_eq_true,decide_eq_true_eq,getD_eq _ _ _ hi,e] at this
 omega
def yU (s:lg.D)(i:Nat):List Int:=(List.range i).map (th s)
theorem adf (s:lg.D)(i:Nat):yU s (i+1)=yU s i ++ [th s i]:=by simp[yU,List.range_succ]
theorem Nn {s:lg.D}{i:Nat}(h:x4 s i=true):0≤th s i∧th s i<24:=by
 simp only[x4,Bool.and_eq_true,decide_eq_true_eq] at h
 have hp:0<(mw s i).1.length:=by have:=h.1.1.2;omega
 refine U4 h.1.1.1 _ ?_
 rw[th,getD_eq _ _ _ hp];simp
theorem WR {s:lg.D}{i:Nat}(h:∀j,j<i→x4 s j=true):∀x∈yU s i,x<24:=by
 intro x hx
 simp only[yU,List.mem_map,List.mem_range] at hx
 obtain⟨j,hj,rfl⟩:=hx
 exact(Nn (h j hj)).2
theorem adx (s:lg.D)(hs:Cj s)(h1:1≤s.1∧s.1≤24) :
  Comes Wh.B_ (((0:Int),(0:Int),(),s.2.2.1,(s.2.2.1.length:Int)),s) (if jS s.2.2.1.length (x4 s)=true then .inr ((((ym (yU s s.2.2.1.length):Nat):Int),()),s) else .inl (false,())):=by
 have zL:∀i,i<s.2.2.1.length→(∀j,j<i→x4 s j=true)→Wh.B_ (((i:Int),((ym (yU s i):Nat):Int),(),s.2.2.1,(s.2.2.1.length:Int)),s)=bif x4 s i then some (.inl ((((i+1:Nat):Int),((ym (yU s (i+1)):Nat):Int),(),s.2.2.1,(s.2.2.1.length:Int)),s)) else some (.inr (.inl (false,()))):=by
  intro i hi hp
  have hm:=Nd s i hi
  have hr:=adv (mw s i).1 s.1 (hs.2 _ hm) (by omega) (by omega)
  have hr':Wh.JF ((mw s i).1,s.1)=(zM (mw s i).1 s.1,()):=by simp only[Wh.JF,bx,hr]
  have eA:List.getD s.2.2.1 i ([],[],())=mw s i:=rfl
  have hi':decide ((i:Int)<(s.2.2.1.length:Int))=true:=by simpa using hi
  have h0:decide ((0:Int)≤(i:Int))=true:=by simp
  have w:=mb (i:=i) (by have:=hs.1;omega)
  have d1:(((mw s i).1.length:Int)==0) = !decide ((mw s i).1.length≠0):=by
   by_cases e:(mw s i).1.length=0<;>simp[e]
  have d2:(((mw s i).2.1.length:Int) != s.2.1) = !decide (((mw s i).2.1.length:Int)=s.2.1):=rfl
  have d3:decide ((0:Int)<((mw s i).1.length:Int))=decide ((mw s i).1.length≠0):=by
   by_cases e:(mw s i).1.length=0<;>simp[e];omega
  have f1:List.getD (mw s i).1 0 0=th s i:=rfl
  have mk:x4 s i=true→nj .or .u32 ((ym (yU s i):Nat):Int) (IntKind.wrap .u32 ((1:Int)*(2:Int) ^ Min.min (Int.toNat (th s i)) (IntKind.bits .u32)))=((ym (yU s (i+1)):Nat):Int):=by
   intro h
   have:=Nn h
   rw[shl32 this.1 this.2,or32 (ND _ (WR hp)) (pow24 this.2),adf,Yx]
  have mk0:x4 s i=true→decide (0≤th s i)=true:=fun h=>decide_eq_true (Nn h).1
  rcases Nat.eq_zero_or_pos i with hz|hz
  ·subst hz
   have g0:decide (((0:Nat):Int)>0)=false:=by decide
   cases hA:zM (mw s 0).1 s.1<;>cases hB:decide ((mw s 0).1.length≠0)<;>cases hC:decide (((mw s 0).2.1.length:Int)=s.2.1)
   case true.true.true=>
    have hE:x4 s 0=true:=by simp only[x4,hA,hB,hC,decide_true,Bool.true_or,Bool.and_self]
    simp only[Wh.B_,hi',h0,Int.toNat_natCast,Int.toNat_zero,eA,f1,hr',hr,d1,d2,d3,g0,hA,hB,hC,w,mk hE,mk0 hE,hE,iy,nQ,cond_true,cond_false,Bool.not_true,Bool.not_false,Bool.and_true,Bool.true_or,Bool.or_true,Bool.and_self]
   all_goals
    simp only[Wh.B_,hi',h0,Int.toNat_natCast,eA,hr',hr,d1,d2,d3,g0,hA,hB,hC,w,x4,iy,nQ,cond_true,cond_false,Bool.not_true,Bool.not_false,Bool.and_true,Bool.and_false,Bool.true_or,Bool.or_true,Bool.and_self,decide_true]
  ·have g0:decide ((i:Int)>0)=true:=by simpa using hz
   have gz:decide (i=0)=false:=by simp;omega
   have w2:=abq (i:=i) (by have:=hs.1;omega) hz
   have eB:List.getD s.2.2.1 (i-1) ([],[],())=mw s (i-1):=rfl
   have hq:=hp (i-1) (by omega)
   simp only[x4,Bool.and_eq_true,decide_eq_true_eq] at hq
   have q1:decide ((0:Int)<((mw s (i-1)).1.length:Int))=true:=by have:=hq.1.1.2;simp;omega
   have q2:decide (((i-1:Nat):Int)<(s.2.2.1.length:Int))=true:=by simp;omega
   have q3:decide ((0:Int)≤((i-1:Nat):Int))=true:=by simp
   have f2:List.getD (mw s (i-1)).1 0 0=th s (i-1):=rfl
   have d4:decide (th s (i-1)≥th s i) = !decide (th s (i-1)<th s i):=by
    by_cases e:th s (i-1)<th s i
    ·have:¬th s i≤th s (i-1):=by omega
     simp[e,this]
    ·have:th s i≤th s (i-1):=by omega
     simp[e,this]
   cases hA:zM (mw s i).1 s.1<;>cases hB:decide ((mw s i).1.length≠0)<;>cases hC:decide (((mw s i).2.1.length:Int)=s.2.1)<;>cases hD:decide (th s (i-1)<th s i)
   case true.true.true.true=>
    have hE:x4 s i=true:=by simp only[x4,hA,hB,hC,hD,Bool.or_true,Bool.and_self]
    simp only[Wh.B_,hi',h0,Int.toNat_natCast,Int.toNat_zero,eA,eB,f1,f2,hr',hr,d1,d2,d3,d4,g0,hA,hB,hC,hD,w,w2,q1,q2,q3,mk hE,mk0 hE,hE,iy,nQ,cond_true,cond_false,Bool.not_true,Bool.not_false,Bool.or_true,Bool.and_self,decide_true,Int.le_refl]
   all_goals
    simp only[Wh.B_,hi',h0,Int.toNat_natCast,Int.toNat_zero,eA,eB,f1,f2,hr',hr,d1,d2,d3,d4,g0,gz,hA,hB,hC,hD,w,w2,q1,q2,q3,x4,iy,nQ,cond_true,cond_false,Bool.not_true,Bool.not_false,Bool.and_true,Bool.and_false,Bool.or_true,Bool.or_false,Bool.and_self,decide_true,Int.le_refl]
 have e0:((ym (yU s 0):Nat):Int)=0:=rfl
 refine e0▸xW (fun i=>(((i:Int),((ym (yU s i):Nat):Int),(),s.2.2.1,(s.2.2.1.length:Int)),s)) ?_ ?_ ?_
 ·intro i hi hp h
  rw[zL i hi hp,h];rfl
 ·intro i hi hp h
  rw[zL i hi hp,h];rfl
 ·simp[Wh.B_]
def Af (s:lg.D)(k:Nat):List Int:=(mw s k).1.drop 1
def BY (s:lg.D)(k:Nat):Bool:=decide (ym (Af s k) &&& ym (yU s s.2.2.1.length)=0)
theorem ady (s:lg.D)(hs:Cj s)(ha:jS s.2.2.1.length (x4 s)=true) :
  Comes Wh.Ff (((0:Int),((ym (yU s s.2.2.1.length):Nat):Int),s.2.2.1,(s.2.2.1.length:Int)),()) (if jS s.2.2.1.length (BY s)=true then .inr ((),()) else .inl (false,())):=by
 have zL:∀k,k<s.2.2.1.length→Wh.Ff (((k:Int),((ym (yU s s.2.2.1.length):Nat):Int),s.2.2.1,(s.2.2.1.length:Int)),())=bif BY s k then some (.inl ((((k+1:Nat):Int),((ym (yU s s.2.2.1.length):Nat):Int),s.2.2.1,(s.2.2.1.length:Int)),())) else some (.inr (.inl (false,()))):=by
  intro k hk
  have hm:=Nd s k hk
  have hl:=hs.2 _ hm
  have hq:=oL.1 ha k hk
  simp only[x4,Bool.and_eq_true,decide_eq_true_eq] at hq
  have hne:=hq.1.1.2
  have hmem:∀x∈Af s k,0≤x∧x<24:=fun x hx=>U4 hq.1.1.1 x (List.mem_of_mem_drop hx)
  have hr:=adB (Af s k) (by rw[Af,List.length_drop];omega) hmem
  have hr':Wh.JO (Af s k)=(((ym (Af s k):Nat):Int),()):=by simp only[Wh.JO,bx,hr]
  have eA:List.getD s.2.2.1 k ([],[],())=mw s k:=rfl
  have et:List.take (Int.toNat (((mw s k).1.length:Int)-1)) (List.drop (Int.toNat 1) (mw s k).1)=Af s k:=by
   rw[Af]
   exact List.take_of_length_le (by simp)
  have hk':decide ((k:Int)<(s.2.2.1.length:Int))=true:=by simpa using hk
  have h0:decide ((0:Int)≤(k:Int))=true:=by simp
  have h1:decide ((1:Int)≤((mw s k).1.length:Int))=true:=by simp;omega
  have w:=mb (i:=k) (by have:=hs.1;omega)
  have ea:=and32 (ND _ fun x hx=>(hmem x hx).2) (ND _ (WR (oL.1 ha)))
  have en:(((ym (Af s k) &&& ym (yU s s.2.2.1.length):Nat):Int) != 0) = !BY s k:=by
   unfold BY
   by_cases e:ym (Af s k) &&& ym (yU s s.2.2.1.length)=0
   ·rw[e];rfl
   ·rw[decide_eq_false e,Bool.not_false,bne_iff_ne];omega
  cases hc:BY s k<;>
   simp only[Wh.Ff,hk',h0,h1,Int.toNat_natCast,eA,et,hr,hr',ea,en,hc,w,iy,nQ,cond_true,cond_false,Bool.not_true,Bool.not_false,Bool.and_self,decide_true,Int.le_refl]
 refine xW (fun k=>(((k:Int),((ym (yU s s.2.2.1.length):Nat):Int),s.2.2.1,(s.2.2.1.length:Int)),())) ?_ ?_ ?_
 ·intro k hk _ h
  rw[zL k hk,h];rfl
 ·intro k hk _ h
  rw[zL k hk,h];rfl
 ·simp[Wh.Ff]
end Pc
open Go Go.Ab
namespace Pc
theorem asc {f:Nat→Int}{n:Nat}(h:∀i,0<i→i<n→f (i-1)<f i):∀j i,i<j→j<n→f i<f j:=by
 intro j
 induction j with
 |zero=>intro i hi;omega
 |succ j ih=>
  intro i hi hj
  have h1:f j<f (j+1):=h (j+1) (by omega) hj
  by_cases e:i=j
  ·subst e;exact h1
  ·have:=ih i (by omega) (by omega)
   omega
theorem aiP {row:List Int}{count:Int}(h:zM row count=true)(m:Nat)(hm:0<m)(hl:m<row.length):row.getD 0 0<row.getD m 0:=by
 simp only[zM,Bool.and_eq_true] at h
 refine asc (f:=fun i=>row.getD i 0) (n:=row.length) ?_ m 0 hm hl
 intro i h0 hi
 have:=oL.1 h.1 i hi
 simp only[BL,Bool.and_eq_true,Bool.or_eq_true,decide_eq_true_eq] at this
 exact this.2.resolve_left (by omega)
theorem No {s:lg.D}(h:jS s.2.2.1.length (x4 s)=true):∀j i,i<j→j<s.2.2.1.length→th s i<th s j:=by
 refine asc ?_
 intro i h0 hi
 have:=oL.1 h i hi
 simp only[x4,Bool.and_eq_true,Bool.or_eq_true,decide_eq_true_eq] at this
 exact this.2.resolve_left (by omega)
theorem U5 {s:lg.D}(h:jS s.2.2.1.length (x4 s)=true){k:Nat}(hk:k<s.2.2.1.length):zM (mw s k).1 s.1=true:=by
 have:=oL.1 h k hk
 simp only[x4,Bool.and_eq_true] at this
 exact this.1.1.1
theorem RT {s:lg.D}{k:Nat}{x:Int}:x∈Af s k↔∃m,0<m∧m<(mw s k).1.length∧(mw s k).1.getD m 0=x:=by
 rw[Af,List.mem_iff_getElem]
 constructor
 ·rintro⟨i,hi,e⟩
  rw[List.length_drop] at hi
  refine⟨i+1,by omega,by omega,?_⟩
  rw[getD_eq _ _ _ (by omega:i+1<(mw s k).1.length)]
  rw[List.getElem_drop] at e
  simpa[Nat.add_comm] using e
 ·rintro⟨m,h0,hm,e⟩
  refine⟨m-1,by rw[List.length_drop];omega,?_⟩
  rw[List.getElem_drop]
  rw[getD_eq _ _ _ hm] at e
  have:1+(m-1)=m:=by omega
  simp only[this]
  exact e
theorem Yw {s:lg.D}{n:Nat}{x:Int}:x∈yU s n↔∃i,i<n∧th s i=x:=by simp[yU]
theorem RS {s:lg.D}(ha:jS s.2.2.1.length (x4 s)=true){k:Nat}(hk:k<s.2.2.1.length) :
  BY s k=true↔∀i,i<s.2.2.1.length→th s i∉Af s k:=by
 have hr:=U5 ha hk
 unfold BY
 rw[decide_eq_true_eq]
 constructor
 ·intro h i hi hm
  have h1:(ym (Af s k)).testBit (th s i).toNat=true:=by
   rw[NF,List.any_eq_true];exact⟨_,hm,by simp⟩
  have h2:(ym (yU s s.2.2.1.length)).testBit (th s i).toNat=true:=by
   rw[NF,List.any_eq_true];exact⟨_,Yw.2 ⟨i,hi,rfl⟩,by simp⟩
  have:(ym (Af s k) &&& ym (yU s s.2.2.1.length)).testBit (th s i).toNat=true:=by rw[Nat.testBit_and,h1,h2];rfl
  rw[h,Nat.zero_testBit] at this;cases this
 ·intro h
  apply Nat.eq_of_testBit_eq
  intro j
  rw[Nat.testBit_and,Nat.zero_testBit,NF,NF,Bool.and_eq_false_iff]
  cases h1:(Af s k).any fun x=>decide (x.toNat=j) with
  |false=>exact .inl rfl
  |true=>
   refine .inr ?_
   cases h2:(yU s s.2.2.1.length).any fun x=>decide (x.toNat=j) with
   |false=>rfl
   |true=>
    exfalso
    obtain⟨x,hx,ex⟩:=List.any_eq_true.1 h1
    obtain⟨y,hy,ey⟩:=List.any_eq_true.1 h2
    simp only[decide_eq_true_eq] at ex ey
    obtain⟨i,hi,rfl⟩:=Yw.1 hy
    have b1:=Nn (oL.1 ha i hi)
    have b2:=U4 hr x (List.mem_of_mem_drop hx)
    have:x=th s i:=by omega
    subst this
    exact h i hi hx
theorem Wb {s:lg.D}(ha:jS s.2.2.1.length (x4 s)=true):jS s.2.2.1.length (BY s)=cross s:=by
 have hne:=Ra ha
 have key:jS s.2.2.1.length (BY s)=true↔cross s=true:=by
  rw[oL,cross,oL]
  constructor
  ·intro h i hi
   rw[oL]
   intro k hk
   simp only[HG,Bool.or_eq_true,decide_eq_true_eq]
   by_cases e:k=i
   ·exact .inl e
   ·refine .inr ?_
    cases hh:Cn (mw s k).1 (th s i) with
    |false=>rfl
    |true=>
     exfalso
     obtain⟨j,hj,ej⟩:=(WM _ _).1 hh
     rcases Nat.eq_zero_or_pos j with hz|hz
     ·subst hz
      have e2:th s k=th s i:=ej
      rcases Nat.lt_or_gt_of_ne e with hlt|hlt
      ·have:=No ha i k hlt hi;omega
      ·have:=No ha k i hlt hk;omega
     ·exact(RS ha hk).1 (h k hk) i hi (RT.2 ⟨j,hz,hj,ej⟩)
  ·intro h k hk
   rw[RS ha hk]
   intro i hi hm
   obtain⟨m,h0,hml,e⟩:=RT.1 hm
   have:=oL.1 (h i hi) k hk
   simp only[HG,Bool.or_eq_true,decide_eq_true_eq] at this
   rcases this with hki|hn
   ·subst hki
    have:=aiP (U5 ha hk) m h0 hml
    rw[e] at this
    unfold th at this
    omega
   ·have:Cn (mw s k).1 (th s i)=true:=(WM _ _).2 ⟨m,hml,e⟩
    rw[this] at hn;cases hn
 cases h1:jS s.2.2.1.length (BY s)<;>cases h2:cross s
 ·rfl
 ·rw[key.2 h2] at h1;cases h1
 ·rw[key.1 h1] at h2;cases h2
 ·rfl
theorem adw (s:lg.D)(hs:Cj s):Wh.B9 s=some (zN s,()):=by
 by_cases a1:1≤s.1∧s.1≤24
 case neg=>simp[Wh.B9,Wh.n_,bx,yc,iy,nQ,a1,zN]
 by_cases a2:1≤s.2.1∧s.2.1≤16
 case neg=>simp[Wh.B9,Wh.n_,bx,yc,iy,nQ,a1,a2,zN]
 have hl:=adx s hs a1
 cases h1:jS s.2.2.1.length (x4 s) with
 |false=>
  rw[h1,if_neg (by simp)] at hl
  simp[Wh.B9,Wh.n_,bx,yc,iy,nQ,a1,a2,zN,cb hl,cv hl,h1]
 |true=>
  rw[h1,if_pos rfl] at hl
  have hl2:=ady s hs h1
  rw[Wb h1] at hl2
  cases h2:cross s with
  |false=>
   rw[h2,if_neg (by simp)] at hl2
   simp[Wh.B9,Wh.n_,bx,yc,iy,nQ,a1,a2,zN,cb hl,cv hl,h1,h2]
   dsimp only[sumC]
   simp only[cb hl2,cv hl2,cond_true]
  |true=>
   rw[h2,if_pos rfl] at hl2
   simp[Wh.B9,Wh.n_,bx,yc,iy,nQ,a1,a2,zN,cb hl,cv hl,h1,h2]
   dsimp only[sumC]
   simp only[cb hl2,cv hl2,cond_true]
end Pc
open Go Go.Ab
namespace Pc
def scan (p:Nat→Bool):Nat→Nat→Nat
 |0,k=>k
 |d+1,k=>if p k=true then scan p d (k+1) else k
theorem OD (p:Nat→Bool):∀d k,k≤scan p d k∧scan p d k≤k+d∧(∀j,k≤j→j<scan p d k→p j=true)∧(scan p d k<k+d→p (scan p d k)=false)
 |0,k=>⟨Nat.le_refl _,Nat.le_refl _,fun j h1 h2=>by simp only[scan] at h2;omega,fun h=>by simp only[scan] at h;omega⟩
 |d+1,k=>by
  unfold scan
  by_cases h:p k=true
  ·rw[if_pos h]
   obtain⟨a,b,c,e⟩:=OD p d (k+1)
   refine⟨by omega,by omega,fun j h1 h2=>?_,fun hh=>e (by omega)⟩
   by_cases ej:j=k
   ·subst ej;exact h
   ·exact c j (by omega) h2
  ·rw[if_neg h]
   refine⟨Nat.le_refl _,by omega,fun j h1 h2=>by omega,fun _=>by simpa using h⟩
theorem C8 {X Y:Type}{r:X→Option (X⊕Y)}(st:Nat→X){n:Nat}(p:Nat→Bool)(yf:Nat→Y)(hs:∀i,i<n→p i=true→r (st i)=some (.inl (st (i+1))))
  (hf:∀i,i<n→p i=false→r (st i)=some (.inr (yf i))) (he:r (st n)=some (.inr (yf n))):Comes r (st 0) (yf (scan p n 0)):=by
 have main:∀d k,k+d=n→Comes r (st k) (yf (scan p d k)):=by
  intro d
  induction d with
  |zero=>intro k hk;have:k=n:=by omega
         subst this;exact .out he
  |succ d ih=>
   intro k hk
   unfold scan
   cases hp:p k with
   |true=>rw[if_pos rfl];exact .again (hs k (by omega) hp) (ih (k+1) (by omega))
   |false=>rw[if_neg (by simp)];exact .out (hf k (by omega) hp)
 exact main n 0 (by omega)
def Cp (s:lg.D)(n:Int)(i:Nat):Bool:=decide ((mw s i).1.length=1)&&decide (th s i=n)
def zH (s:lg.D)(n:Int):Nat:=scan (fun i=> !Cp s n i) s.2.2.1.length 0
def BT (s:lg.D)(n:Int):List UInt8×Bool:=if zH s n<s.2.2.1.length then((mw s (zH s n)).2.1,true) else([],false)
theorem ac_ {s:lg.D}{n:Int}(h:zH s n<s.2.2.1.length):Cp s n (zH s n)=true:=by
 have:=(OD (fun i=> !Cp s n i) s.2.2.1.length 0).2.2.2 (by rw[Nat.zero_add];exact h)
 simpa[zH] using this
theorem ada {s:lg.D}{n:Int}{i:Nat}(_hi:i<s.2.2.1.length)(h:Cp s n i=true):zH s n≤i:=by
 rcases Nat.lt_or_ge i (zH s n) with hl|hl
 ·have:=(OD (fun i=> !Cp s n i) s.2.2.1.length 0).2.2.1 i (Nat.zero_le _) hl
  simp[h] at this
 ·exact hl
theorem len1 (l:List Int):((l.length:Int)==1)=decide (l.length=1):=by
 by_cases e:l.length=1
 ·rw[e];rfl
 ·have:¬(l.length:Int)=1:=by omega
  rw[decide_eq_false e];simpa using this
theorem Xa (s:lg.D)(hs:Cj s)(n:Int):Wh.q20 (s,n)=some (BT s n,()):=by
 have zL:∀i,i<s.2.2.1.length→Wh.E9 (((i:Int),n,s.2.2.1,(s.2.2.1.length:Int)),())=bif !Cp s n i then some (.inl ((((i+1:Nat):Int),n,s.2.2.1,(s.2.2.1.length:Int)),())) else some (.inr (.inl (((mw s i).2.1,true),()))):=by
  intro i hi
  have eA:List.getD s.2.2.1 i ([],[],())=mw s i:=rfl
  have f1:List.getD (mw s i).1 0 0=th s i:=rfl
  have hi':decide ((i:Int)<(s.2.2.1.length:Int))=true:=by simpa using hi
  have h0:decide ((0:Int)≤(i:Int))=true:=by simp
  have w:=mb (i:=i) (by have:=hs.1;omega)
  have d1:=len1 (mw s i).1
  have d2:(th s i==n)=decide (th s i=n):=rfl
  have d3:(!decide ((mw s i).1.length=1) || decide ((0:Int)<((mw s i).1.length:Int)))=true:=by
   by_cases e:(mw s i).1.length=1
   ·simp[e]
   ·simp[e]
  cases hA:decide ((mw s i).1.length=1)<;>cases hB:decide (th s i=n)<;>simp only[hA,Bool.not_true,Bool.not_false,Bool.true_or,Bool.false_or] at d3<;>
   simp only[Wh.E9,hi',h0,Int.toNat_natCast,Int.toNat_zero,eA,f1,d1,d2,hA,hB,d3,w,Cp,iy,cond_true,cond_false,Bool.not_true,Bool.not_false,Bool.and_true,Bool.and_false,Bool.true_or,Bool.or_true,Bool.and_self,decide_true,Int.le_refl]
 have hl:Comes Wh.E9 (((0:Int),n,s.2.2.1,(s.2.2.1.length:Int)),()) (if zH s n<s.2.2.1.length then .inl (((mw s (zH s n)).2.1,true),()) else .inr ((),())):=by
  refine C8 (fun i=>(((i:Int),n,s.2.2.1,(s.2.2.1.length:Int)),())) (fun i=> !Cp s n i) (fun i=>if i<s.2.2.1.length then(.inl (((mw s i).2.1,true),()):((List UInt8×Bool)×Unit)⊕(Unit×Unit)) else .inr ((),())) ?_ ?_ ?_
  ·intro i hi h
   simp only[zL i hi];rw[h];rfl
  ·intro i hi h
   simp only[zL i hi];rw[h,if_pos hi];rfl
  ·simp[Wh.E9]
 by_cases h:zH s n<s.2.2.1.length
 ·rw[if_pos h] at hl
  simp only[Wh.q20,cb hl,cv hl,BT,if_pos h,cond_true]
 ·rw[if_neg h] at hl
  simp only[Wh.q20,cb hl,cv hl,BT,if_neg h,cond_true]
def pre (s:lg.D):Nat:=scan (fun n=>(BT s n).2) s.1.toNat 0
theorem adD (s:lg.D)(hs:Cj s)(h1:1≤s.1∧s.1≤24):Wh.G7 s=some ((pre s:Int),()):=by
 have hl:Comes Wh.Ft (((0:Int),()),s) ((pre s:Int),()):=by
  refine C8 (fun n=>(((n:Int),()),s)) (n:=s.1.toNat) (fun n=>(BT s n).2) (fun n=>((n:Int),())) ?_ ?_ ?_
  ·intro i hi h
   have hi':decide ((i:Int)<s.1)=true:=by simp;omega
   have w:=mb (i:=i) (by omega)
   simp only[Wh.Ft,hi',Wh.JQ,bx,Xa s hs,h,w,iy,nQ,cond_true,cond_false,Bool.not_true]
  ·intro i hi h
   have hi':decide ((i:Int)<s.1)=true:=by simp;omega
   simp only[Wh.Ft,hi',Wh.JQ,bx,Xa s hs,h,iy,nQ,cond_true,Bool.not_false]
  ·have hi':decide (((s.1.toNat:Nat):Int)<s.1)=false:=by simp;omega
   simp only[Wh.Ft,hi',cond_false]
 simp only[Wh.G7,cb hl,cv hl,cond_true]
end Pc
open Go Go.Ab
namespace Pc
theorem VU {f:Nat→Int}{n:Nat}(h:∀i,0<i→i<n→f (i-1)<f i):∀j,j<n→∀i,i≤j→f i+((j:Int)-i)≤f j:=by
 intro j
 induction j with
 |zero=>intro _ i hi;have:i=0:=by omega
        subst this;omega
 |succ j ih=>
  intro hj i hi
  by_cases e:i=j+1
  ·subst e;omega
  ·have h1:f j<f (j+1):=h (j+1) (by omega) hj
   have:=ih (by omega) i (by omega)
   omega
theorem aa2 {s:lg.D}(h:zN s=true):(1≤s.1∧s.1≤24)∧(1≤s.2.1∧s.2.1≤16)∧jS s.2.2.1.length (x4 s)=true∧cross s=true:=by
 simp only[zN,Bool.and_eq_true,decide_eq_true_eq] at h
 exact⟨h.1.1.1,h.1.1.2,h.1.2,h.2⟩
theorem WQ {s:lg.D}(ha:jS s.2.2.1.length (x4 s)=true){k m:Nat}(hk:k<s.2.2.1.length)(hm:m<(mw s k).1.length):0≤(mw s k).1.getD m 0∧(mw s k).1.getD m 0≤s.1-1:=by
 have:=U5 ha hk
 simp only[zM,Bool.and_eq_true] at this
 have:=oL.1 this.1 m hm
 simp only[BL,Bool.and_eq_true,decide_eq_true_eq] at this
 exact this.1
theorem ade {s:lg.D}(h:jS s.2.2.1.length (x4 s)=true):∀i,0<i→i<s.2.2.1.length→th s (i-1)<th s i:=
 fun i h0 hi=>No h i (i-1) (by omega) hi
theorem abM {s:lg.D}(h:zN s=true):((pre s:Nat):Int)=s.1↔(s.2.2.1.length:Int)=s.1:=by
 obtain⟨h1,_,ha,hx⟩:=aa2 h
 have hne:=Ra ha
 have hb:∀i,i<s.2.2.1.length→0≤th s i∧th s i≤s.1-1:=fun i hi=>WQ ha hi (by have:=hne i hi;omega)
 have sp:=OD (fun n=>(BT s n).2) s.1.toNat 0
 have sp':pre s≤s.1.toNat∧(∀j,j<pre s→(BT s j).2=true)∧(pre s<s.1.toNat→(BT s (pre s)).2=false):=
  ⟨by have:=sp.2.1;unfold pre;omega,fun j hj=>sp.2.2.1 j (Nat.zero_le _) hj,fun hh=>sp.2.2.2 (by unfold pre at hh;omega)⟩
 have gap:=VU (ade ha)
 have hle:(s.2.2.1.length:Int)≤s.1:=by
  rcases Nat.eq_zero_or_pos s.2.2.1.length with hz|hz
  ·omega
  ·have a:=gap (s.2.2.1.length-1) (by omega) 0 (Nat.zero_le _)
   have b:=hb (s.2.2.1.length-1) (by omega)
   have c:=hb 0 (by omega)
   omega
 constructor
 ·intro hp
  have hin:∀n:Nat,n<s.1.toNat→zH s n<s.2.2.1.length∧th s (zH s n)=n:=by
   intro n hn
   have:=sp'.2.1 n (by omega)
   unfold BT at this
   by_cases hi:zH s n<s.2.2.1.length
   ·have cE:=ac_ hi
    simp only[Cp,Bool.and_eq_true,decide_eq_true_eq] at cE
    exact⟨hi,cE.2⟩
   ·rw[if_neg hi] at this;cases this
  have g2:=VU (f:=fun n=>(zH s n:Int)) (n:=s.1.toNat) (by
   intro i h0 hi
   have a:=hin i hi
   have b:=hin (i-1) (by omega)
   show((zH s ((i-1:Nat):Int):Nat):Int)<((zH s (i:Int):Nat):Int)
   rcases Nat.lt_trichotomy (zH s ((i-1:Nat):Int)) (zH s (i:Int)) with hlt|heq|hgt
   ·omega
   ·rw[heq] at b;omega
   ·have:=No ha _ _ hgt b.1;omega)
  have c:=g2 (s.1.toNat-1) (by omega) 0 (Nat.zero_le _)
  have d:=(hin (s.1.toNat-1) (by omega)).1
  omega
 ·intro hl
  have hd:∀i,i<s.2.2.1.length→th s i=i:=by
   intro i hi
   have a:=gap i hi 0 (Nat.zero_le _)
   have b:=gap (s.2.2.1.length-1) (by omega) i (by omega)
   have c:=hb 0 (by omega)
   have d:=hb (s.2.2.1.length-1) (by omega)
   omega
  have hm:jS s.2.2.1.length (BY s)=true:=by rw[Wb ha];exact hx
  have hone:∀i,i<s.2.2.1.length→(mw s i).1.length=1:=by
   intro i hi
   by_cases e:(mw s i).1.length=1
   ·exact e
   ·exfalso
    have h2:1<(mw s i).1.length:=by have:=hne i hi;omega
    have hr:=WQ ha hi h2
    have ht:(mw s i).1.getD 1 0∈Af s i:=RT.2 ⟨1,by omega,h2,rfl⟩
    have hlt:((mw s i).1.getD 1 0).toNat<s.2.2.1.length:=by omega
    have:=(RS ha hi).1 (oL.1 hm i hi) _ hlt
    rw[hd _ hlt] at this
    have e2:((((mw s i).1.getD 1 0).toNat:Nat):Int)=(mw s i).1.getD 1 0:=by omega
    rw[e2] at this
    exact this ht
  have j5:∀n:Nat,n<s.2.2.1.length→(BT s n).2=true:=by
   intro n hn
   have:zH s n≤n:=ada hn (by simp only[Cp,hone n hn,hd n hn,decide_true,Bool.and_self])
   unfold BT
   rw[if_pos (by omega)]
  by_cases hlt:pre s<s.1.toNat
  ·have a:=sp'.2.2 hlt
   rw[j5 (pre s) (by omega)] at a
   cases a
  ·have:=sp'.1
   omega
theorem C6 (a b:Int):(a==b)=decide (a=b):=rfl
def AO (g:xN.D):Bool:=y5 g.1&&zN g.2.1&&decide (g.2.1.1=cnt g.1)&&decide (g.2.1.2.1=g.1.2.1)
theorem R6 {p:r5.D}(h:y5 p=true):(1≤p.1∧p.1≤300)∧(1≤p.2.1∧p.2.1≤16):=by
 simp only[y5,zy,Bool.and_eq_true,decide_eq_true_eq] at h
 exact⟨h.1.1.1.1.1.1,h.1.1.1.1.1.2⟩
theorem abg (g:xN.D)(hg:C3 g):Wh.DI g=some (AO g,()):=by
 have hP:=ai5 g.1
 have hS:=ai8 g.2.1 hg.2
 cases h1:y5 g.1 with
 |false=>simp only[Wh.DI,Wh.JB,bx,Wh.JX,bx,hP,hS,h1,AO,iy,nQ,cond_true,cond_false,Bool.not_false,Bool.false_and,Bool.true_or,Bool.and_self]
 |true=>
  obtain⟨a1,a2⟩:=R6 h1
  have hc:=OE g.1 a1 a2
  have d1:(g.2.1.1==cnt g.1)=decide (g.2.1.1=cnt g.1):=C6 _ _
  have d2:(g.2.1.2.1==g.1.2.1)=decide (g.2.1.2.1=g.1.2.1):=C6 _ _
  cases h2:zN g.2.1<;>cases h3:decide (g.2.1.1=cnt g.1)<;>
   simp only[Wh.DI,Wh.JB,bx,Wh.JX,bx,Wh.y6,bx,hP,hS,hc,d1,d2,h1,h2,h3,AO,iy,nQ,cond_true,cond_false,Bool.not_true,Bool.not_false,Bool.true_and,Bool.false_and,Bool.and_true,Bool.and_false,Bool.or_true,Bool.and_self]
theorem adr (g:xN.D)(hg:C3 g):Wh.ER g=some (AO g,()):=by
 have hP:=adt g.1
 have hS:=adw g.2.1 hg.2
 cases h1:y5 g.1 with
 |false=>simp only[Wh.ER,Wh.Jy,bx,Wh.JS,bx,hP,hS,h1,AO,iy,nQ,cond_true,cond_false,Bool.not_false,Bool.false_and,Bool.true_or,Bool.and_self]
 |true=>
  obtain⟨a1,a2⟩:=R6 h1
  have hc:=Rk g.1 a1 a2
  have d1:(g.2.1.1==cnt g.1)=decide (g.2.1.1=cnt g.1):=C6 _ _
  have d2:(g.2.1.2.1==g.1.2.1)=decide (g.2.1.2.1=g.1.2.1):=C6 _ _
  cases h2:zN g.2.1<;>cases h3:decide (g.2.1.1=cnt g.1)<;>
   simp only[Wh.ER,Wh.Jy,bx,Wh.JS,bx,Wh.zg,bx,hP,hS,hc,d1,d2,h1,h2,h3,AO,iy,nQ,cond_true,cond_false,Bool.not_true,Bool.not_false,Bool.true_and,Bool.false_and,Bool.and_true,Bool.and_false,Bool.or_true,Bool.and_self]
theorem WJ {g:xN.D}(h:AO g=true):y5 g.1=true∧zN g.2.1=true∧g.2.1.1=cnt g.1∧g.2.1.2.1=g.1.2.1:=by
 simp only[AO,Bool.and_eq_true,decide_eq_true_eq] at h
 exact⟨h.1.1.1,h.1.1.2,h.1.2,h.2⟩
def Bw (g:xN.D):Bool:=AO g&&decide ((g.2.1.2.2.1.length:Int)=cnt g.1)
theorem ai2 (g:xN.D)(hg:C3 g):Wh.CB g=some (Bw g,()):=by
 have hO:=abg g hg
 have hO':=Wh.Ts _ _ hO
 rcases Bool.eq_false_or_eq_true (AO g) with h1|h1
 case inr=>simp only[Wh.CB,hO',hO,h1,Bw,iy,nQ,cond_true,cond_false,Bool.not_false,Bool.false_and,Bool.true_or,Bool.and_self]
 case inl=>
  obtain⟨a1,a2⟩:=R6 (WJ h1).1
  have hc:=OE g.1 a1 a2
  have aJ:=Wh.CC _ _ hc
  have d1:((g.2.1.2.2.1.length:Int)==cnt g.1)=decide ((g.2.1.2.2.1.length:Int)=cnt g.1):=C6 _ _
  simp only[Wh.CB,hO',aJ,hO,hc,h1,d1,Bw,iy,nQ,cond_true,Bool.not_true,Bool.true_and,Bool.false_or,Bool.and_self]
theorem adz (g:xN.D)(hg:C3 g)(h:AO g=true):Wh.BB g=some (Bw g,()):=by
 obtain⟨_,hs,e1,e2⟩:=WJ h
 have hp:=adD g.2.1 hg.2 (aa2 hs).1
 have hp':=Wh.q9_v _ _ hp
 have hd:=abM hs
 have:(((pre g.2.1:Nat):Int)==g.2.1.1)=Bw g:=by
  unfold Bw
  rw[h,Bool.true_and,←e1]
  rw[C6]
  by_cases e:((pre g.2.1:Nat):Int)=g.2.1.1
  ·rw[decide_eq_true e,decide_eq_true (hd.1 e)]
  ·rw[decide_eq_false e,decide_eq_false (fun hh=>e (hd.2 hh))]
 simp only[Wh.BB,hp',hp,this,iy,nQ,cond_true]
end Pc
open Go Go.Ab
namespace Pc
def F_ (g:xN.D):Bool:=
 (g.1.1==0)&&(g.1.2.1==0)&&((g.1.2.2.1.length:Int)==0)&&((g.1.2.2.2.1.length:Int)==0)&&(g.2.1.1==0)&&(g.2.1.2.1==0)&&((g.2.1.2.2.1.length:Int)==0)
theorem adC (g:xN.D):Wh.GC g=some (F_ g,()):=by
 simp only[Wh.GC,F_,Bool.cond_false_right]
theorem ai4 (c:nE.D):Wh.Gf c=some (F_ c.2.2.2.2.2.1,()):=by
 simp only[Wh.Gf,F_,Bool.cond_false_right]
 congr 2
 generalize ((c.2.2.2.2.2.1.1.2.2.1.length:Int)==0)=a1
 generalize ((c.2.2.2.2.2.1.1.2.2.2.1.length:Int)==0)=a2
 generalize (c.2.2.2.2.2.1.1.1==0)=a3
 generalize (c.2.2.2.2.2.1.1.2.1==0)=a4
 generalize (c.2.2.2.2.2.1.2.1.1==0)=a5
 generalize (c.2.2.2.2.2.1.2.1.2.1==0)=a6
 generalize ((c.2.2.2.2.2.1.2.1.2.2.1.length:Int)==0)=a7
 cases a1<;>cases a2<;>cases a3<;>cases a4<;>simp
def FU (c:nE.D):Bool:=
 decide (0≤c.1∧c.1≤3)&&decide (0≤c.2.1∧c.2.1≤99999)&&decide (0≤c.2.2.1∧c.2.2.1≤4)&&decide (0≤c.2.2.2.2.1∧c.2.2.2.2.1≤99999) &&
 (bif c.2.2.2.2.1==0 then F_ c.2.2.2.2.2.1 else AO c.2.2.2.2.2.1) &&
 (bif c.2.2.1==0 then c.2.2.2.1 == []&&c.2.2.2.2.1==0 else
  !(c.2.1==0)&&Dh c.2.2.2.1 &&
  (bif c.2.2.1==2 then !(c.2.2.2.2.1==0) && !Bw c.2.2.2.2.2.1 else bif c.2.2.1==3 then !(c.2.2.2.2.1==0)&&Bw c.2.2.2.2.2.1 else c.2.2.2.2.1==0 || !Bw c.2.2.2.2.2.1))
theorem ai1 (c:nE.D)(hg:C3 c.2.2.2.2.2.1)(hn:c.2.2.2.1.length≤4611686018427387904):Wh.q74 c=some (FU c,()):=by
 have hL:∀x lo hi,Wh.nS (x,lo,hi)=(decide (lo≤x∧x≤hi),()):=fun x lo hi=>Wh.zm _ _ (x8 x lo hi)
 have hN:=ai4 c
 have hN':=Wh.YY _ _ hN
 have hO:=abg _ hg
 have hO':=Wh.Ts _ _ hO
 have hD:=ai2 _ hg
 have hD':=Wh.YQ _ _ hD
 have hM:=ai3 _ hn
 have hM':=Wh.SN _ _ hM
 obtain⟨id,a,st,name,n,g,u⟩:=c
 dsimp only at hN hN' hO hO' hD hD' hM hM' ⊢
 simp only[Wh.q74,FU,hL,x8,hN,hN',hO,hO',hD,hD',hM,hM',nQ,Bool.or_true,iy,Bool.and_self,cond_true]
 have e4:(n>0)=(0<n):=rfl
 simp only[e4]
 generalize hb:Bw g=b
 generalize hc:AO g=gc
 generalize hd:F_ g=gd
 generalize he:Dh name=ge
 cases h1:decide (0≤id∧id≤3)
 case false=>simp only[Bool.not_false,cond_true,Bool.false_and]
 cases h2:decide (0≤a∧a≤99999)
 case false=>simp only[Bool.not_false,Bool.not_true,cond_true,cond_false,Bool.false_and,Bool.and_false]
 cases h3:decide (0≤st∧st≤4)
 case false=>simp only[Bool.not_false,Bool.not_true,cond_true,cond_false,Bool.false_and,Bool.and_false]
 cases h4:decide (0≤n∧n≤99999)
 case false=>simp only[Bool.not_false,Bool.not_true,cond_true,cond_false,Bool.false_and,Bool.and_false]
 have hn0:decide (0<n) = !(n==0):=by
  have:=of_decide_eq_true h4
  rw[C6]
  by_cases e:n=0
  ·subst e;rfl
  ·have:0<n:=by omega
   simp[e,this]
 rw[hn0]
 generalize (n==0)=n0
 generalize (a==0)=a0
 generalize (st==0)=s0
 generalize (st==2)=s2
 generalize (st==3)=s3
 generalize (name == [])=m0
 cases n0<;>cases gd<;>cases gc<;>cases s0<;>simp <;>cases a0<;>simp <;>cases ge<;>simp <;>cases s2<;>simp <;>cases s3<;>simp
theorem adq (c:nE.D)(hg:C3 c.2.2.2.2.2.1)(hn:c.2.2.2.1.length≤4611686018427387904):Wh.q46 c=some (FU c,()):=by
 have hL:∀x lo hi,Wh.n_ (x,lo,hi)=(decide (lo≤x∧x≤hi),()):=fun x lo hi=>Wh.zK _ _ (yc x lo hi)
 have hK:∀x,Wh.Ic x=(decide (0≤x∧x≤3),()):=fun x=>Wh.JT _ _ (V6 x)
 have hN:=adC c.2.2.2.2.2.1
 have hN':=Wh.ZE _ _ hN
 have hO:=adr _ hg
 have hO':=Wh.ZA _ _ hO
 have hM:=ads _ hn
 have hM':=Wh.NP _ _ hM
 have hD:=adz _ hg
 obtain⟨id,a,st,name,n,g,u⟩:=c
 dsimp only at hN hN' hO hO' hD hM hM' ⊢
 simp only[Wh.q46,FU,hL,hK,yc,V6,hN,hN',hO,hO',hM,hM',nQ,Bool.or_true,iy,Bool.and_self,cond_true]
 have e4:(n>0)=(0<n):=rfl
 simp only[e4]
 generalize hd:F_ g=gd
 generalize he:Dh name=ge
 cases h1:decide (0≤id∧id≤3)
 case false=>simp only[Bool.not_false,cond_true,Bool.false_and]
 cases h2:decide (0≤a∧a≤99999)
 case false=>simp only[Bool.not_false,Bool.not_true,cond_true,cond_false,Bool.false_and,Bool.and_false]
 cases h4:decide (0≤n∧n≤99999)
 case false=>simp only[Bool.not_false,Bool.not_true,cond_true,cond_false,Bool.false_and,Bool.and_false]
 have hn0:decide (0<n) = !(n==0):=by
  have:=of_decide_eq_true h4
  rw[C6]
  by_cases e:n=0
  ·subst e;rfl
  ·have:0<n:=by omega
   simp[e,this]
 rw[hn0]
 have hst:decide (0≤st∧st≤4)=(st==0 || (st==1 || (st==2 || (st==3 || st==4)))):=by
  simp only[C6,←Bool.decide_or]
  exact decide_eq_decide.2 ⟨fun h=>by omega,fun h=>by omega⟩
 rw[hst]
 have x12:(st==1)=true→(st==2)=false∧(st==3)=false:=by simp;intro e;subst e;decide
 have x42:(st==4)=true→(st==2)=false∧(st==3)=false:=by simp;intro e;subst e;decide
 generalize (n==0)=n0
 generalize (a==0)=a0
 generalize (st==0)=s0
 generalize (st==1)=s1 at *
 generalize (st==2)=s2 at *
 generalize (st==3)=s3 at *
 generalize (st==4)=s4 at *
 generalize (name == [])=m0
 rcases Bool.eq_false_or_eq_true (AO g) with hc|hc
 ·have hD1:=hD hc
  have hD2:=Wh.q11_v _ _ hD1
  simp only[hD1,hD2,hc,Bool.or_true,cond_true]
  generalize Bw g=b
  cases n0<;>cases gd<;>cases s0<;>simp <;>cases a0<;>simp <;>cases ge<;>simp <;>cases s1<;>simp at x12 ⊢ <;>cases s4<;>simp at x42 ⊢ <;>cases s2<;>simp at x12 x42 ⊢ <;>cases s3<;>simp at x12 x42 ⊢
 ·simp only[hc]
  generalize Bw g=b
  cases n0<;>simp <;>cases gd<;>simp <;>cases s0<;>simp <;>cases a0<;>simp <;>cases ge<;>simp <;>cases s1<;>simp at x12 ⊢ <;>cases s4<;>simp at x42 ⊢ <;>cases s2<;>simp at x12 x42 ⊢ <;>cases s3<;>simp at x12 x42 ⊢
end Pc
open Go Go.Ab
namespace Pc
theorem xg {α:Type}(f:α→Nat):∀(l:List α) (x:α),x∈l→f x≤(l.map f).sum
 |a::l,x,h=>by
  rw[List.map_cons,List.sum_cons]
  rcases List.mem_cons.1 h with rfl|h
  ·omega
  ·have:=xg f l x h;omega
theorem vH {α:Type}(f:α→Nat)(h:∀x,1≤f x):∀l:List α,l.length≤(l.map f).sum
 | []=>by simp
 |a::l=>by
  rw[List.map_cons,List.sum_cons,List.length_cons]
  have:=vH f h l;have:=h a;omega
structure C4 (c:nE.D):Prop where
 name:c.2.2.2.1.length≤1048576
 p3:c.2.2.2.2.2.1.1.2.2.1.length≤1048576
 p4:c.2.2.2.2.2.1.1.2.2.2.1.length≤1048576
 s3:c.2.2.2.2.2.1.2.1.2.2.1.length≤1048576
 row:∀x∈c.2.2.2.2.2.1.2.1.2.2.1,x.1.length≤1048576∧x.2.1.length≤1048576
theorem Ns (l:List Int)(n:Nat)(h:(l.map (fR (.int .i64))).sum+1≤n):l.length≤n:=by
 have:=vH (fR (.int .i64)) (fun _=>Nat.le_refl 1) l
 omega
theorem We (x:nW.D):fR nW x=((x.1.map (fR (.int .i64))).sum+1)+(x.2.1.length+1+0):=rfl
theorem sml_of (c:nE.D)(h:fR nE c≤1048576):C4 c:=by
 have e:fR nE c=1+(1+(1+((c.2.2.2.1.length+1)+(1+(((1+(1+(((c.2.2.2.2.2.1.1.2.2.1.map (fR (.int .i64))).sum+1)+(((c.2.2.2.2.2.1.1.2.2.2.1.map (fR (.int .i64))).sum+1)+0))))+((1+(1+(((c.2.2.2.2.2.1.2.1.2.2.1.map (fR nW)).sum+1)+0)))+0))+0))))):=rfl
 rw[e] at h
 refine⟨by omega,Ns _ _ (by omega),Ns _ _ (by omega),?_,?_⟩
 ·have:=vH (fR nW) (fun x=>by rw[We];omega) c.2.2.2.2.2.1.2.1.2.2.1
  omega
 ·intro x hx
  have:=xg (fR nW) _ x hx
  rw[We] at this
  exact⟨Ns _ _ (by omega),by omega⟩
theorem C4.sm {c:nE.D}(h:C4 c):C3 c.2.2.2.2.2.1:=
 ⟨⟨by have:=h.p3;omega,by have:=h.p4;omega⟩,by have:=h.s3;omega,fun x hx=>by have:=(h.row x hx).1;omega⟩
theorem Va (a:List Int)(n:Int):∃v,Wh.Dw (a,n)=some (v,()):=by
 simp only[Wh.Dw]
 cases decide (IntKind.wrap .i64 (n-(a.length:Int))<0)<;>exact⟨_,rfl⟩
theorem ajq (a:r5.D)(n:Int):∃v,Wh.Gu (a,n)=some (v,()):=by
 obtain⟨v,hv⟩:=Va a.2.2.1 n
 obtain⟨w,hw⟩:=Va a.2.2.2.1 v
 simp only[Wh.Gu,hv,Wh.NR _ _ hv,hw,Wh.NR _ _ hw,iy,nQ,cond_true]
 cases decide (v<0)<;>cases decide (w<0)<;>exact⟨_,rfl⟩
theorem ajk (a:nW.D)(n:Int):∃v,Wh.GV (a,n)=some (v,()):=by
 obtain⟨v,hv⟩:=Va a.1 n
 simp only[Wh.GV,hv,Wh.NR _ _ hv,iy,nQ,cond_true]
 cases decide (v<0)<;>cases decide (IntKind.wrap .i64 (v-(a.2.1.length:Int))<0)<;>exact⟨_,rfl⟩
theorem ajj (a:List nW.D)(n:Int)(h:a.length≤1048576):∃v,Wh.GI (a,n)=some (v,()):=by
 have hl:∀d k:Nat,k+d=a.length→∀m:Int,∃y,Comes Wh.ET (((k:Int),m,a),()) y:=by
  intro d
  induction d with
  |zero=>
   intro k hk m
   have hk':decide ((k:Int)<(a.length:Int))=false:=by simp;omega
   exact⟨_,.out (by simp only[Wh.ET,hk',cond_false];rfl)⟩
  |succ d ih=>
   intro k hk m
   have hk':decide ((k:Int)<(a.length:Int))=true:=by simp;omega
   have h0:decide ((0:Int)≤(k:Int))=true:=by simp
   have w:=mb (i:=k) (by omega)
   obtain⟨v,hv⟩:=ajk (List.getD a k ([],[],())) m
   cases hd:decide (v<0) with
   |true=>exact⟨_,.out (by simp only[Wh.ET,hk',h0,Int.toNat_natCast,hv,Wh.TN _ _ hv,hd,iy,nQ,cond_true,Bool.and_self];rfl)⟩
   |false=>
    obtain⟨y,hy⟩:=ih (k+1) (by omega) v
    exact⟨y,.again (by simp only[Wh.ET,hk',h0,w,Int.toNat_natCast,hv,Wh.TN _ _ hv,hd,iy,nQ,cond_true,cond_false,Bool.and_self]) hy⟩
 simp only[Wh.GI]
 cases decide (IntKind.wrap .i64 (n-(a.length:Int))<0) with
 |true=>exact⟨_,rfl⟩
 |false=>
  obtain⟨y,hy⟩:=hl a.length 0 (by omega) (IntKind.wrap .i64 (n-(a.length:Int)))
  have e1:=cb hy
  have e2:=cv hy Wh.Tk
  rw[show(((0:Nat):Int))=0 from rfl] at e1 e2
  simp only[e1,e2,cond_true,cond_false]
  cases y with
  |inl y=>exact⟨_,rfl⟩
  |inr y=>exact⟨_,rfl⟩
theorem ajt (a:lg.D)(n:Int)(h:a.2.2.1.length≤1048576):∃v,Wh.q65 (a,n)=some (v,()):=by
 obtain⟨v,hv⟩:=ajj a.2.2.1 n h
 simp only[Wh.q65,hv,Wh.ZI _ _ hv,iy,nQ,cond_true]
 cases decide (v<0)<;>exact⟨_,rfl⟩
theorem ajm (a:xN.D)(n:Int)(h:a.2.1.2.2.1.length≤1048576):∃v,Wh.q33 (a,n)=some (v,()):=by
 obtain⟨v,hv⟩:=ajq a.1 n
 obtain⟨w,hw⟩:=ajt a.2.1 v h
 simp only[Wh.q33,hv,Wh.Ze _ _ hv,hw,Wh.q65_v _ _ hw,iy,nQ,cond_true]
 cases decide (v<0)<;>cases decide (w<0)<;>exact⟨_,rfl⟩
theorem aji (c:nE.D)(n:Int)(h:C4 c):∃v,Wh.q60 (c,n)=some (v,()):=by
 obtain⟨v,hv⟩:=ajm c.2.2.2.2.2.1 (IntKind.wrap .i64 (n-(c.2.2.2.1.length:Int))) h.s3
 simp only[Wh.q60,hv,Wh.q33_v _ _ hv,iy,nQ,cond_true]
 cases decide (IntKind.wrap .i64 (n-(c.2.2.2.1.length:Int))<0)<;>cases decide (v<0)<;>exact⟨_,rfl⟩
def iB {α:Type}(a:List α)(z:α)(i:Nat):List α:=a.take i++List.replicate (a.length-i) z
theorem C_ {α:Type}(a:List α)(z:α)(i:Nat)(h:i≤a.length):(iB a z i).length=a.length:=by
 rw[iB,List.length_append,List.length_take,List.length_replicate];omega
theorem Db {α:Type}(a:List α)(z:α):iB a z 0=List.replicate a.length z:=by simp[iB]
theorem C9 {α:Type}(a:List α)(z:α):iB a z a.length=a:=by simp[iB]
theorem Da {α:Type}(a:List α)(z z':α)(i:Nat)(h:i<a.length):(iB a z i).set i (a.getD i z')=iB a z (i+1):=by
 have e1:a.length-i=(a.length-(i+1))+1:=by omega
 have e2:(a.take i).length=i:=by rw[List.length_take];omega
 rw[iB,iB,e1,List.replicate_succ,List.set_append_right _ _ (by omega),e2,Nat.sub_self,List.set_cons_zero,List.take_succ_eq_append_getElem h,List.append_assoc,getD_eq _ _ _ h]
 rfl
theorem Vf (a:List Int)(h:a.length≤1048576):Wh.Dx a=some (a,()):=by
 have hl:Comes Wh.EM (((0:Int),a,()),List.replicate a.length 0) ((),a):=by
  have:=yd (r:=Wh.EM) (st:=fun i=>(((i:Int),a,()),iB a 0 i)) (n:=a.length) (y:=((),a)) ?_ ?_ 0 (Nat.zero_le _)
  ·rw[Db] at this;exact this
  ·intro i hi
   have hi':decide ((i:Int)<(a.length:Int))=true:=by simpa using hi
   have h0:decide ((0:Int)≤(i:Int))=true:=by simp
   simp only[Wh.EM,hi',h0,Int.toNat_natCast,C_ a 0 i (by omega),Da a 0 0 i hi,mb (i:=i) (by omega),iy,cond_true,Bool.and_self]
  ·have hi':decide (((a.length:Nat):Int)<(a.length:Int))=false:=by simp
   simp only[Wh.EM,hi',cond_false,C9]
 have b0:decide ((0:Int)≤(a.length:Int))=true:=by simp
 have b1:decide ((a.length:Int)≤(dh:Int))=true:=decide_eq_true (by unfold dh;omega)
 simp only[Wh.Dx,Int.toNat_natCast,cb hl,cv hl,b0,b1,Int.le_refl,decide_true,iy,cond_true,Bool.and_self]
theorem ajL (a:r5.D)(h1:a.2.2.1.length≤1048576)(h2:a.2.2.2.1.length≤1048576):Wh.Gw a=some (a,()):=by
 have e1:=Vf _ h1
 have e2:=Vf _ h2
 simp only[Wh.Gw,e1,e2,Wh.NS _ _ e1,Wh.NS _ _ e2,iy,nQ,cond_true]
theorem ajF (a:nW.D)(h1:a.1.length≤1048576):Wh.GW a=some (a,()):=by
 have e1:=Vf _ h1
 simp only[Wh.GW,e1,Wh.NS _ _ e1,iy,nQ,cond_true]
theorem ajE (a:List nW.D)(h:a.length≤1048576)(hr:∀x∈a,x.1.length≤1048576):Wh.GK a=some (a,()):=by
 have hl:Comes Wh.EU (((0:Int),a,()),List.replicate a.length ([],[],())) ((),a):=by
  have:=yd (r:=Wh.EU) (st:=fun i=>(((i:Int),a,()),iB a ([],[],()) i)) (n:=a.length) (y:=((),a)) ?_ ?_ 0 (Nat.zero_le _)
  ·rw[Db] at this;exact this
  ·intro i hi
   have hi':decide ((i:Int)<(a.length:Int))=true:=by simpa using hi
   have h0:decide ((0:Int)≤(i:Int))=true:=by simp
   have he:=ajF (List.getD a i ([],[],())) (hr _ (by rw[getD_eq _ _ _ hi];simp))
   have hs:(iB a ([],[],()) i).set i ((List.getD a i ([],[],())).1,(List.getD a i ([],[],())).2)=iB a ([],[],()) (i+1):=Da a ([],[],()) ([],[],()) i hi
   simp only[Wh.EU,hi',h0,Int.toNat_natCast,C_ a ([],[],()) i (by omega),he,Wh.Z4 _ _ he,hs,mb (i:=i) (by omega),iy,nQ,cond_true,Bool.and_self]
  ·have hi':decide (((a.length:Nat):Int)<(a.length:Int))=false:=by simp
   simp only[Wh.EU,hi',cond_false,C9]
 have b0:decide ((0:Int)≤(a.length:Int))=true:=by simp
 have b1:decide ((a.length:Int)≤(dh:Int))=true:=decide_eq_true (by unfold dh;omega)
 simp only[Wh.GK,Int.toNat_natCast,cb hl,cv hl,b0,b1,Int.le_refl,decide_true,iy,cond_true,Bool.and_self]
theorem ajQ (a:lg.D)(h:a.2.2.1.length≤1048576)(hr:∀x∈a.2.2.1,x.1.length≤1048576):Wh.q72 a=some (a,()):=by
 have e1:=ajE _ h hr
 simp only[Wh.q72,e1,Wh.ZL _ _ e1,iy,nQ,cond_true]
theorem ajD (c:nE.D)(h:C4 c):Wh.q67 c=some (c,()):=by
 have e1:=ajL c.2.2.2.2.2.1.1 h.p3 h.p4
 have e2:=ajQ c.2.2.2.2.2.1.2.1 h.s3 fun x hx=>(h.row x hx).1
 have e3:Wh.q37 c.2.2.2.2.2.1=some (c.2.2.2.2.2.1,()):=by
  simp only[Wh.q37,e1,e2,Wh.Zi _ _ e1,Wh.q72_v _ _ e2,iy,nQ,cond_true]
 simp only[Wh.q67,e3,Wh.q37_v _ _ e3,iy,nQ,cond_true]
end Pc
open Go Go.Ab Go.Lib
namespace Pl
theorem ab0 (w:ov.D):Wh.q56 (w,w)=some (true,()):=by simp[Wh.q56]
theorem abZ (a:List ov.D)(h:a.length≤4611686018427387904):Wh.q30 (a,a)=some (true,()):=by
 have hl:Comes Wh.GZ (((0:Int),a,a),()) (.inr ((),())):=by
  refine yd (st:=fun i=>(((i:Int),a,a),())) (n:=a.length) ?_ ?_ 0 (Nat.zero_le _)
  ·intro i hi
   have h2:=mb (i:=i) (by omega)
   have h4:=ab0 (a[i])
   simp[Wh.GZ,Wh.Oj,bx,iy,h2,hi,h4,nQ]
  ·simp[Wh.GZ]
 simp[Wh.q30,cb hl,cv hl]
theorem ajK (a:ov.D):Wh.q69 a=some (a,()):=rfl
theorem ajJ (a:List ov.D)(h:a.length≤1048576):Wh.q38 a=some (a,()):=by
 have hl:Comes Wh.Fc (((0:Int),a,()),List.replicate a.length ((0:Int),([]:List UInt8),false,())) ((),a):=by
  have:=yd (r:=Wh.Fc) (st:=fun i=>(((i:Int),a,()),iB a ((0:Int),([]:List UInt8),false,()) i)) (n:=a.length) (y:=((),a)) ?_ ?_ 0 (Nat.zero_le _)
  ·rw[Db] at this;exact this
  ·intro i hi
   have hi':decide ((i:Int)<(a.length:Int))=true:=by simpa using hi
   have h0:decide ((0:Int)≤(i:Int))=true:=by simp
   have he:=ajK (List.getD a i ((0:Int),([]:List UInt8),false,()))
   have hs:(iB a ((0:Int),([]:List UInt8),false,()) i).set i (List.getD a i ((0:Int),([]:List UInt8),false,()))=iB a ((0:Int),([]:List UInt8),false,()) (i+1):=Da a _ _ i hi
   simp only[Wh.Fc,hi',h0,Int.toNat_natCast,C_ a ((0:Int),([]:List UInt8),false,()) i (by omega),he,Wh.q69_v _ _ he,hs,mb (i:=i) (by omega),iy,nQ,cond_true,Bool.and_self]
  ·have hi':decide (((a.length:Nat):Int)<(a.length:Int))=false:=by simp
   simp only[Wh.Fc,hi',cond_false,C9]
 have b0:decide ((0:Int)≤(a.length:Int))=true:=by simp
 have b1:decide ((a.length:Int)≤(dh:Int))=true:=decide_eq_true (by unfold dh;omega)
 simp only[Wh.q38,Int.toNat_natCast,cb hl,cv hl,b0,b1,Int.le_refl,decide_true,iy,cond_true,Bool.and_self]
theorem ajp (a:ov.D)(n:Int):∃v,Wh.q62 (a,n)=some (v,()):=by
 simp only[Wh.q62]
 repeat' (first|exact⟨_,rfl⟩|refine Q0 _ ?_ ?_)
theorem ajo (a:List ov.D)(n:Int)(h:a.length≤1048576):∃v,Wh.q34 (a,n)=some (v,()):=by
 have hl:∀d k:Nat,k+d=a.length→∀m:Int,∃y,Comes Wh.E_ (((k:Int),m,a),()) y:=by
  intro d
  induction d with
  |zero=>
   intro k hk m
   have hk':decide ((k:Int)<(a.length:Int))=false:=by simp;omega
   exact⟨_,.out (by simp only[Wh.E_,hk',cond_false];rfl)⟩
  |succ d ih=>
   intro k hk m
   have hk':decide ((k:Int)<(a.length:Int))=true:=by simp;omega
   have h0:decide ((0:Int)≤(k:Int))=true:=by simp
   have w:=mb (i:=k) (by omega)
   obtain⟨v,hv⟩:=ajp (List.getD a k ((0:Int),([]:List UInt8),false,())) m
   cases hd:decide (v<0) with
   |true=>exact⟨_,.out (by simp only[Wh.E_,hk',h0,Int.toNat_natCast,hv,Wh.Ut _ _ hv,hd,iy,nQ,cond_true,Bool.and_self];rfl)⟩
   |false=>
    obtain⟨y,hy⟩:=ih (k+1) (by omega) v
    exact⟨y,.again (by simp only[Wh.E_,hk',h0,w,Int.toNat_natCast,hv,Wh.Ut _ _ hv,hd,iy,nQ,cond_true,cond_false,Bool.and_self]) hy⟩
 simp only[Wh.q34]
 cases decide (IntKind.wrap .i64 (n-(a.length:Int))<0) with
 |true=>exact⟨_,rfl⟩
 |false=>
  obtain⟨y,hy⟩:=hl a.length 0 (by omega) (IntKind.wrap .i64 (n-(a.length:Int)))
  have e1:=cb hy
  have e2:=cv hy Wh.T6
  rw[show(((0:Nat):Int))=0 from rfl] at e1 e2
  simp only[e1,e2,cond_true,cond_false]
  cases y with
  |inl y=>exact⟨_,rfl⟩
  |inr y=>exact⟨_,rfl⟩
def zC:nE.D:=((0:Int),(0:Int),(0:Int),([]:List UInt8),(0:Int),(((0:Int),(0:Int),([]:List Int),([]:List Int),()),((0:Int),(0:Int),([]:List nW.D),()),()),())
theorem abR (a:List nE.D)(h:a.length≤1048576)(hr:∀x∈a,Pc.C4 x):Wh.q28 (a,a)=some (true,()):=by
 have hl:Comes Wh.GY (((0:Int),a,a),()) (.inr ((),())):=by
  refine yd (st:=fun i=>(((i:Int),a,a),())) (n:=a.length) ?_ ?_ 0 (Nat.zero_le _)
  ·intro i hi
   have h2:=mb (i:=i) (by omega)
   have h4:=Pc.abS (a[i]) (hr _ (by simp)).sm
   simp[Wh.GY,Wh.Oi,bx,iy,h2,hi,h4,nQ]
  ·simp[Wh.GY]
 simp[Wh.q28,cb hl,cv hl]
theorem ajC (a:List nE.D)(h:a.length≤1048576)(hr:∀x∈a,Pc.C4 x):Wh.q36 a=some (a,()):=by
 have hl:Comes Wh.Fb (((0:Int),a,()),List.replicate a.length zC) ((),a):=by
  have:=yd (r:=Wh.Fb) (st:=fun i=>(((i:Int),a,()),iB a zC i)) (n:=a.length) (y:=((),a)) ?_ ?_ 0 (Nat.zero_le _)
  ·rw[Db] at this;exact this
  ·intro i hi
   have hi':decide ((i:Int)<(a.length:Int))=true:=by simpa using hi
   have h0:decide ((0:Int)≤(i:Int))=true:=by simp
   have he:=Pc.ajD (List.getD a i zC) (hr _ (by rw[getD_eq _ _ _ hi];exact List.getElem_mem hi))
   have hs:(iB a zC i).set i (List.getD a i zC)=iB a zC (i+1):=Da a _ _ i hi
   have hc:=C_ a zC i (by omega)
   unfold zC at he hs hc ⊢
   simp only[Wh.Fb,hi',h0,Int.toNat_natCast,hc,he,Wh.q67_v _ _ he,hs,mb (i:=i) (by omega),iy,nQ,cond_true,Bool.and_self]
  ·have hi':decide (((a.length:Nat):Int)<(a.length:Int))=false:=by simp
   simp only[Wh.Fb,hi',cond_false,C9]
 have b0:decide ((0:Int)≤(a.length:Int))=true:=by simp
 have b1:decide ((a.length:Int)≤(dh:Int))=true:=decide_eq_true (by unfold dh;omega)
 unfold zC at hl
 simp only[Wh.q36,Int.toNat_natCast,cb hl,cv hl,b0,b1,Int.le_refl,decide_true,iy,cond_true,Bool.and_self]
theorem ajh (a:List nE.D)(n:Int)(h:a.length≤1048576)(hr:∀x∈a,Pc.C4 x):∃v,Wh.q32 (a,n)=some (v,()):=by
 have hl:∀d k:Nat,k+d=a.length→∀m:Int,∃y,Comes Wh.DT (((k:Int),m,a),()) y:=by
  intro d
  induction d with
  |zero=>
   intro k hk m
   have hk':decide ((k:Int)<(a.length:Int))=false:=by simp;omega
   exact⟨_,.out (by simp only[Wh.DT,hk',cond_false];rfl)⟩
  |succ d ih=>
   intro k hk m
   have hk':decide ((k:Int)<(a.length:Int))=true:=by simp;omega
   have h0:decide ((0:Int)≤(k:Int))=true:=by simp
   have w:=mb (i:=k) (by omega)
   obtain⟨v,hv⟩:=Pc.aji (List.getD a k zC) m (hr _ (by rw[getD_eq _ _ _ (by omega)];exact List.getElem_mem (by omega)))
   unfold zC at hv
   cases hd:decide (v<0) with
   |true=>exact⟨_,.out (by simp only[Wh.DT,hk',h0,Int.toNat_natCast,hv,Wh.Us _ _ hv,hd,iy,nQ,cond_true,Bool.and_self];rfl)⟩
   |false=>
    obtain⟨y,hy⟩:=ih (k+1) (by omega) v
    exact⟨y,.again (x':=((((k+1:Nat):Int),v,a),())) (by simp only[Wh.DT,hk',h0,Int.toNat_natCast,hv,Wh.Us _ _ hv,hd,iy,nQ,cond_true,cond_false,Bool.and_self,w]) hy⟩
 obtain⟨y,hy⟩:=hl a.length 0 (by omega) (IntKind.wrap .i64 (n-(a.length:Int)))
 have hy':Comes Wh.DT (((0:Int),IntKind.wrap .i64 (n-(a.length:Int)),a),()) y:=hy
 simp only[Wh.q32,cb hy',cv hy',cond_true]
 cases decide (IntKind.wrap .i64 (n-(a.length:Int))<0) with
 |true=>exact⟨_,rfl⟩
 |false=>cases y<;>exact⟨_,rfl⟩
structure zX (w:gv.D):Prop where
 CU:FL w.1
 cls:w.2.1.length≤1048576
 cl:∀x∈w.2.1,Pc.C4 x
 rad:w.2.2.1.length≤1048576
 pk:∀x∈w.2.2.1,x.2.1.length≤1048576
 giv:w.2.2.2.1.length≤1048576
 its:∀x∈w.2.2.2.1,x.2.1.length≤1048576∧x.2.2.2.1.length≤1048576
theorem cl_pos (c:nE.D):1≤fR nE c:=by simp only[fR];omega
theorem pk_pos (c:ov.D):1≤fR ov c:=by simp only[fR];omega
theorem it_pos (c:an.D):1≤fR an c:=by simp only[fR];omega
theorem smW_of (w:gv.D)(h:fR gv w≤1048576):zX w:=by
 have e:fR gv w=fR ng w.1+(((w.2.1.map (fR nE)).sum+1)+(((w.2.2.1.map (fR ov)).sum+1)+(((w.2.2.2.1.map (fR an)).sum+1)+0))):=rfl
 rw[e] at h
 have h1:=vH (fR nE) cl_pos w.2.1
 have h2:=vH (fR ov) pk_pos w.2.2.1
 have h3:=vH (fR an) it_pos w.2.2.2.1
 refine⟨aiR _ (by omega),by omega,fun x hx=>Pc.sml_of x ?_,by omega,fun x hx=>?_,by omega,fun x hx=>?_⟩
 ·have:=xg (fR nE) _ x hx;omega
 ·have:=xg (fR ov) _ x hx
  have e:fR ov x=1+(x.2.1.length+1+(1+0)):=rfl
  omega
 ·have:=xg (fR an) _ x hx
  have e:fR an x=1+(x.2.1.length+1+(1+(x.2.2.2.1.length+1+0))):=rfl
  omega
theorem ajR (w:gv.D)(S:zX w):Wh.Eb w=some (w,()):=by
 have a:=ajP w.1 S.CU
 have b:=ajC w.2.1 S.cls S.cl
 have c:=ajJ w.2.2.1 S.rad
 have d:=abn w.2.2.2.1 S.giv
 simp only[Wh.Eb,a,Wh.q71_v _ _ a,b,Wh.q36_v _ _ b,c,Wh.q38_v _ _ c,d,Wh.U0 _ _ d,iy,nQ,cond_true]
theorem ab7 (w:gv.D)(S:zX w):Wh.q93 (w,w)=some (true,()):=by
 have a:=ab5 w.1 S.CU
 have b:=abR w.2.1 S.cls S.cl
 have c:=abZ w.2.2.1 (Nat.le_trans S.rad (by omega))
 have d:=Wc w.2.2.2.1 (Nat.le_trans S.giv (by omega))
 simp only[Wh.q93,a,Wh.q58_v _ _ a,b,Wh.q28_v _ _ b,c,Wh.q30_v _ _ c,d,Wh.UU _ _ d,iy,nQ,cond_true,cond_false,Bool.not_true]
theorem aju (w:gv.D)(n:Int)(S:zX w):∃v,Wh.q95 (w,n)=some (v,()):=by
 obtain⟨a,ha⟩:=ajs w.1 n S.CU
 obtain⟨b,hb⟩:=ajh w.2.1 a S.cls S.cl
 obtain⟨c,hc⟩:=ajo w.2.2.1 b S.rad
 obtain⟨d,hd⟩:=abi w.2.2.2.1 c S.giv
 simp only[Wh.q95,ha,Wh.q64_v _ _ ha,hb,Wh.q32_v _ _ hb,hc,Wh.q34_v _ _ hc,hd,Wh.UY _ _ hd,iy,nQ,cond_true]
 cases decide (a<0) with
 |true=>exact⟨_,rfl⟩
 |false=>
 cases decide (b<0) with
 |true=>exact⟨_,rfl⟩
 |false=>
 cases decide (c<0) with
 |true=>exact⟨_,rfl⟩
 |false=>
 cases decide (d<0)<;>exact⟨_,rfl⟩
end Pl
open Go Go.Ab
namespace Pl
section
variable {α:Type} (mk1:α→Int→α) (n1:α→Nat)
def markL:List α→Int→List α
 | [],_=>[]
 |a::l,k=>mk1 a k::markL l (k+n1 a)
def sumN (l:List α):Nat:=(l.map n1).sum
def ks (k:Int)(l:List α)(i:Nat):Int:=k+(sumN n1 (l.take i):Nat)
def part (k:Int)(l:List α)(i:Nat):List α:=markL mk1 n1 (l.take i) k++l.drop i
end
end Pl
open Go Go.Ab
namespace Pl
end Pl
open Go Go.Ab
namespace Pl
end Pl
open Go Go.Ab Go.Lib
namespace Pl
theorem Cu (x y:Nat):((x:Int)==(y:Int))=(x==y):=by rw[Bool.eq_iff_iff,beq_iff_eq,beq_iff_eq];omega
theorem RZ {s:ng.D}(h:okV s=true):yx s.2.2.2.1:=by
 unfold okV at h
 simp only[Bool.and_eq_true] at h
 obtain⟨_,_,hc,h⟩:=h
 cases hu:s.1 with
 |true=>
  rw[hu] at h
  simp only[cond_true,upV,Bool.and_eq_true,decide_eq_true_eq] at h
  rw[←h.2.1]
  exact Na hc
 |false=>
  rw[hu] at h
  simp only[cond_false,IY,Bool.and_eq_true,beq_iff_eq,List.length_eq_zero_iff] at h
  have e:s.2.2.2.1=((0:Int),[],()):=by
   rw[←h.1.1.1.1.2,←h.1.1.1.1.1]
  rw[e]
  exact M_
theorem YC {s:ng.D}(h:okV s=true):s.2.2.1.length≤9000:=by
 unfold okV at h
 simp only[Bool.and_eq_true,decide_eq_true_eq] at h
 exact h.2.1
end Pl
open Go Go.Ab Go.Lib
namespace Pl
theorem Cl {α:Type}(b:Bool)(x y:α):(bif b then x else y)=if b=true then x else y:=by cases b<;>rfl
abbrev Wd:Type:=gv.D
def zP:ov.D:=((0:Int),[],false,())
def FR (w:Wd)(i:Nat):Bool:=bif(bif !Pc.FU (w.2.1.getD i zC) then true else(w.2.1.getD i zC).1 != (i:Int)) then true else decide ((w.2.1.getD i zC).2.2.2.2.1>(w.2.2.2.1.length:Int))
def Gc (p:ov.D):Bool:=bif decide ((p.2.1.length:Int)>160) then true else bif p.1 != 9 then !wh p.1 0 3 else false
def FV (g:List It)(i:Nat):Bool:=bif !Ar (g.getD i z0).1 (g.getD i z0).2.1 (g.getD i z0).2.2.2.1 then true else(g.getD i z0).2.2.1 != ((i+1:Nat):Int)
def Ii (g:List It)(t:It):Bool:=decide (g.getD (t.2.2.1-1).toNat z0=t)
def itF (g:List It)(t:It):Bool:=bif decide (t.2.2.1>(g.length:Int)) then true else !Ii g t
def BQ (g:List It)(t:It):Bool:=bif decide (t.2.2.1≤(g.length:Int)) then !Ii g t else false
theorem clOk {w:Wd}(S:zX w){i:Nat}(hi:i<w.2.1.length):Wh.q74 (w.2.1.getD i zC)=some (Pc.FU (w.2.1.getD i zC),())∧Wh.q46 (w.2.1.getD i zC)=some (Pc.FU (w.2.1.getD i zC),()):=by
 have s:=S.cl _ (show w.2.1.getD i zC∈w.2.1 by rw[getD_eq _ _ _ hi];exact List.getElem_mem hi)
 have h:=s.name
 exact⟨Pc.ai1 _ s.sm (by omega),Pc.adq _ s.sm (by omega)⟩
theorem aa8 (w:Wd)(S:zX w)(i:Nat)(hi:i<w.2.1.length) :
  Wh.Dn (((i:Int),()),w)=if FR w i=true then some (.inr (.inl (false,()))) else some (.inl ((((i+1:Nat):Int),()),w)):=by
 have hl:=S.cls
 have wr:=mb (show i≤4611686018427387904 by omega)
 obtain⟨a,_⟩:=clOk S hi
 unfold FR
 unfold zC at a ⊢
 simp only[Wh.Dn,gl hi,g0,Int.toNat_natCast,a,Wh.q74_v _ _ a,nQ,iy,Bool.or_true,Bool.and_self,cond_true,wr]
 exact Cl _ _ _
theorem WY (w:Wd)(S:zX w)(i:Nat)(hi:i<w.2.1.length) :
  Wh.D7 (((i:Int),(),w.2.1,(w.2.1.length:Int)),w)=if FR w i=true then some (.inr (.inl (false,()))) else some (.inl ((((i+1:Nat):Int),(),w.2.1,(w.2.1.length:Int)),w)):=by
 have hl:=S.cls
 have wr:=mb (show i≤4611686018427387904 by omega)
 obtain⟨_,a⟩:=clOk S hi
 have fin (A B D:Bool):(bif(bif B then true else !A) then true else D)=(bif(bif !A then true else B) then true else D):=by cases A<;>cases B<;>rfl
 unfold FR
 unfold zC at a ⊢
 simp only[Wh.D7,gl hi,g0,Int.toNat_natCast,a,Wh.q46_v _ _ a,nQ,iy,Bool.or_true,Bool.and_self,cond_true,wr,fin]
 exact Cl _ _ _
theorem abd (w:Wd)(S:zX w)(i:Nat)(hi:i<w.2.2.1.length) :
  Wh.Dp (((i:Int),()),w)=if Gc (w.2.2.1.getD i zP)=true then some (.inr (.inl (false,()))) else some (.inl ((((i+1:Nat):Int),()),w)):=by
 have hl:=S.rad
 have wr:=mb (show i≤4611686018427387904 by omega)
 unfold Gc
 unfold zP
 simp only[Wh.Dp,gl hi,g0,Int.toNat_natCast,Ao,Wh.zm _ _ (Ao _ _ _),nQ,iy,Bool.or_true,Bool.and_self,cond_true,wr]
 exact Cl _ _ _
theorem W6 (w:Wd)(S:zX w)(i:Nat)(hi:i<w.2.2.1.length) :
  Wh.D8 (((i:Int),w.2.2.1,(),(w.2.2.1.length:Int)),w)=if Gc (w.2.2.1.getD i zP)=true then some (.inr (.inl (false,()))) else some (.inl ((((i+1:Nat):Int),w.2.2.1,(),(w.2.2.1.length:Int)),w)):=by
 have hl:=S.rad
 have wr:=mb (show i≤4611686018427387904 by omega)
 have fin (A B:Bool):(bif A then true else B)=(bif B then true else A):=by cases A<;>cases B<;>rfl
 unfold Gc
 unfold zP
 simp only[Wh.D8,gl hi,g0,Int.toNat_natCast,HF,Wh.JT _ _ (HF _),nQ,iy,Bool.or_true,Bool.and_self,cond_true,wr]
 rw[fin]
 exact Cl _ _ _
theorem abb (w:Wd)(S:zX w)(i:Nat)(hi:i<w.2.2.2.1.length) :
  Wh.D3 (((i:Int),()),w)=if FV w.2.2.2.1 i=true then some (.inr (.inl (false,()))) else some (.inl ((((i+1:Nat):Int),()),w)):=by
 have hl:=S.giv
 have wr:=mb (show i≤4611686018427387904 by omega)
 have hm:w.2.2.2.1.getD i z0∈w.2.2.2.1:=by rw[getD_eq _ _ _ hi];exact List.getElem_mem hi
 have a:=Jh (w.2.2.2.1.getD i z0) (by have:=(S.its _ hm).1;omega)
 unfold FV
 unfold z0 at a ⊢
 simp only[Wh.D3,gl hi,g0,Int.toNat_natCast,a,Wh.DO _ _ a,nQ,iy,Bool.or_true,Bool.and_self,cond_true,wr]
 exact Cl _ _ _
theorem W4 (w:Wd)(S:zX w)(i:Nat)(hi:i<w.2.2.2.1.length) :
  Wh.D9 (((i:Int),w.2.2.2.1,(),(w.2.2.2.1.length:Int)),w)=if FV w.2.2.2.1 i=true then some (.inr (.inl (false,()))) else some (.inl ((((i+1:Nat):Int),w.2.2.2.1,(),(w.2.2.2.1.length:Int)),w)):=by
 have hl:=S.giv
 have wr:=mb (show i≤4611686018427387904 by omega)
 have hm:w.2.2.2.1.getD i z0∈w.2.2.2.1:=by rw[getD_eq _ _ _ hi];exact List.getElem_mem hi
 have a:=YM (w.2.2.2.1.getD i z0).1 (w.2.2.2.1.getD i z0).2.1 (w.2.2.2.1.getD i z0).2.2.2.1 (by have:=(S.its _ hm).1;omega)
 have fin (A B:Bool):(bif A then true else B)=(bif B then true else A):=by cases A<;>cases B<;>rfl
 unfold FV
 unfold z0 at a ⊢
 simp only[Wh.D9,gl hi,g0,Int.toNat_natCast,a,Wh.JN _ _ a,nQ,iy,Bool.or_true,Bool.and_self,cond_true,wr]
 rw[fin]
 exact Cl _ _ _
end Pl
open Go Go.Ab Go.Lib
namespace Pl
theorem I5 {c:Ct}(I:yx c){i:Nat}(hi:i<c.2.1.length):∃e:Nat,(c.2.1.getD i z0).2.2.1=(e:Int)∧1≤e∧e≤99999∧(e:Int)≤c.1:=by
 have hm:c.2.1.getD i z0∈c.2.1:=by rw[getD_eq _ _ _ hi];exact List.getElem_mem hi
 have h:=I.eds _ hm
 have h2:=I.ed
 exact⟨(c.2.1.getD i z0).2.2.1.toNat,by omega,by omega,by omega,by omega⟩
theorem edw {e:Nat}(h1:1≤e)(h2:e≤99999):IntKind.wrap .i64 ((e:Int)-1)=((e-1:Nat):Int):=wi (by omega) (by omega)
theorem abc (w:Wd)(_S:zX w)(I:yx w.1.2.2.2.1)(i:Nat)(hi:i<w.1.2.2.2.1.2.1.length) :
  Wh.D4 (((i:Int),()),w)=if itF w.2.2.2.1 (w.1.2.2.2.1.2.1.getD i z0)=true then some (.inr (.inl (false,()))) else some (.inl ((((i+1:Nat):Int),()),w)):=by
 have h8:=I.len
 have wr:=mb (show i≤4611686018427387904 by omega)
 obtain⟨e,he,h1,h2,_⟩:=I5 I hi
 have we:=edw h1 h2
 unfold itF Ii
 have et:((e:Int)-1).toNat=e-1:=by omega
 have c0:decide ((0:Int)≤((e-1:Nat):Int))=true:=decide_eq_true (by omega)
 have c1:((!!decide ((e:Int)>(w.2.2.2.1.length:Int))) || decide (((e-1:Nat):Int)<(w.2.2.2.1.length:Int)))=true:=by
  by_cases h:(e:Int)>(w.2.2.2.1.length:Int)
  ·rw[decide_eq_true h];rfl
  ·rw[decide_eq_true (show((e-1:Nat):Int)<(w.2.2.2.1.length:Int) by omega),Bool.or_true]
 rw[←Ew,he,et]
 unfold z0 at he ⊢
 simp only[Wh.D4,gl hi,g0,Int.toNat_natCast,he,we,c0,c1,iy,Bool.or_true,Bool.and_self,cond_true,wr]
 exact Cl _ _ _
theorem dnC {e:Nat}{n:Nat}(h1:1≤e):((!decide ((e:Int)≤(n:Int))) || decide (((e-1:Nat):Int)<(n:Int)))=true:=by
 by_cases h:(e:Int)≤(n:Int)
 ·rw[decide_eq_true (show((e-1:Nat):Int)<(n:Int) by omega),Bool.or_true]
 ·rw[decide_eq_false h];rfl
theorem aa9 (w:Wd)(c:Ct)(I:yx c)(i:Nat)(hi:i<c.2.1.length) :
  Wh.Dt (((i:Int),(),()),w,(c.1,(),c.2.2),c.2.1)=if BQ w.2.2.2.1 (c.2.1.getD i z0)=true then some (.inr (.inl (false,()))) else some (.inl ((((i+1:Nat):Int),(),()),w,(c.1,(),c.2.2),c.2.1)):=by
 have h8:=I.len
 have wr:=mb (show i≤4611686018427387904 by omega)
 obtain⟨e,he,h1,h2,_⟩:=I5 I hi
 have we:=edw h1 h2
 unfold BQ Ii
 have et:((e:Int)-1).toNat=e-1:=by omega
 have c0:decide ((0:Int)≤((e-1:Nat):Int))=true:=decide_eq_true (by omega)
 have c1:=dnC (n:=w.2.2.2.1.length) h1
 rw[←Ew,he,et]
 unfold z0 at he ⊢
 simp only[Wh.Dt,gl hi,g0,Int.toNat_natCast,he,we,c0,c1,iy,Bool.or_true,Bool.and_self,cond_true,wr]
 exact Cl _ _ _
theorem WZ (w:Wd)(c:Ct)(I:yx c)(i:Nat)(hi:i<c.2.1.length) :
  Wh.D_ (((i:Int),(),(),(c.2.1.length:Int)),w,c.2.1)=if BQ w.2.2.2.1 (c.2.1.getD i z0)=true then some (.inr (.inl (false,()))) else some (.inl ((((i+1:Nat):Int),(),(),(c.2.1.length:Int)),w,c.2.1)):=by
 have h8:=I.len
 have wr:=mb (show i≤4611686018427387904 by omega)
 obtain⟨e,he,h1,h2,_⟩:=I5 I hi
 have we:=edw h1 h2
 unfold BQ Ii
 have et:((e:Int)-1).toNat=e-1:=by omega
 have c0:decide ((0:Int)≤((e-1:Nat):Int))=true:=decide_eq_true (by omega)
 have c1:=dnC (n:=w.2.2.2.1.length) h1
 rw[←Ew,he,et]
 unfold z0 at he ⊢
 simp only[Wh.D_,gl hi,g0,Int.toNat_natCast,he,we,c0,c1,iy,Bool.or_true,Bool.and_self,cond_true,wr]
 exact Cl _ _ _
theorem W9 (w:Wd)(c:Ct)(I:yx c)(i:Nat)(hi:i<c.2.1.length) :
  Wh.Ea (((i:Int),(),c.2.1,(c.2.1.length:Int)),w)=if BQ w.2.2.2.1 (c.2.1.getD i z0)=true then some (.inr (.inl (false,()))) else some (.inl ((((i+1:Nat):Int),(),c.2.1,(c.2.1.length:Int)),w)):=by
 have h8:=I.len
 have wr:=mb (show i≤4611686018427387904 by omega)
 obtain⟨e,he,h1,h2,_⟩:=I5 I hi
 have we:=edw h1 h2
 unfold BQ Ii
 have et:((e:Int)-1).toNat=e-1:=by omega
 have c0:decide ((0:Int)≤((e-1:Nat):Int))=true:=decide_eq_true (by omega)
 have c1:=dnC (n:=w.2.2.2.1.length) h1
 rw[←Ew,he,et]
 unfold z0 at he ⊢
 simp only[Wh.Ea,gl hi,g0,Int.toNat_natCast,he,we,c0,c1,iy,Bool.or_true,Bool.and_self,cond_true,wr]
 exact Cl _ _ _
noncomputable def IX (w:Wd):Bool:=jS w.2.1.length fun i=> !FR w i
def Jr (w:Wd):Bool:=jS w.2.2.1.length fun i=> !Gc (w.2.2.1.getD i zP)
def Ja (w:Wd):Bool:=jS w.2.2.2.1.length fun i=> !FV w.2.2.2.1 i
def F1 (w:Wd):Bool:=jS w.1.2.2.2.1.2.1.length fun i=> !itF w.2.2.2.1 (w.1.2.2.2.1.2.1.getD i z0)
def Cm (w:Wd)(c:Ct):Bool:=jS c.2.1.length fun i=> !BQ w.2.2.2.1 (c.2.1.getD i z0)
noncomputable def yj (w:Wd):Ct:=(zk (x7 w.1).1).1
noncomputable def IZ (w:Wd):Bool:=Cm w (yj w)&&wh (yj w).1 (w.2.2.2.1.length:Int) ((w.2.2.2.1.length:Int)+1)
noncomputable def Jb (w:Wd):Bool:=Ja w&&(F1 w&&(bif w.1.1 then w.1.2.2.2.1.1==(w.2.2.2.1.length:Int) else IZ w))
noncomputable def Im (w:Wd):Bool:=(okV w.1&&w.2.1.length==4&&decide (w.2.2.1.length≤60)&&Jb w)&&(IX w&&Jr w)
theorem Cs (n:Nat):decide ((n:Int)<(n:Int))=false:=decide_eq_false (by omega)
theorem wlen {w:Wd}(S:zX w):IntKind.wrap .i64 ((w.2.2.2.1.length:Int)+1)=(w.2.2.2.1.length:Int)+1:=by
 have:=S.giv
 exact(wi (y:=w.2.2.2.1.length+1) (by omega) (by omega)).trans (by omega)
theorem aa0 {s:ng.D}(ho:okV s=true):yx (zk (x7 s).1).1:=by
 unfold okV at ho
 simp only[Bool.and_eq_true] at ho
 exact Na ho.2.2.1
theorem abN (w:Wd)(S:zX w)(ho:okV w.1=true):Wh.Gg w=some (IZ w,()):=by
 have I:yx (yj w):=aa0 ho
 have hl:=YC ho
 have a:=Xj w.1.2.2.1 (by omega)
 change Wh.B4 w.1.2.2.1=some (((x7 w.1).1,((x7 w.1).2:Int)),()) at a
 obtain⟨r1,r2⟩:=OB w.1 (by omega)
 have b:=aa7 (x7 w.1).1 r1 r2
 have wl:=wlen S
 have q:=xW (r:=Wh.Dt) (fun i=>(((i:Int),(),()),w,((yj w).1,(),(yj w).2.2),(yj w).2.1)) (n:=(yj w).2.1.length) (p:=fun i=> !BQ w.2.2.2.1 ((yj w).2.1.getD i z0)) (yf:=.inl (false,())) (yt:=.inr (((),()),w,((yj w).1,(),(yj w).2.2),(yj w).2.1)) (fun i hi _ hp=>by
   rw[aa9 w (yj w) I i hi,if_neg (by simpa using hp)]) (fun i hi _ hp=>by
   rw[aa9 w (yj w) I i hi,if_pos (by simpa using hp)]) (by simp only[Wh.Dt,Cs,cond_false])
 have q':Comes Wh.Dt (((0:Int),(),()),w,((yj w).1,(),(yj w).2.2),(yj w).2.1) (if Cm w (yj w)=true then _ else _):=q
 unfold IZ
 change Wh.CL (x7 w.1).1=some ((yj w,(zk (x7 w.1).1).2),()) at b
 simp only[Wh.Gg,a,Wh.NV _ _ a,b,Wh.N4 _ _ b,cb q',cv q',nQ,iy,cond_true]
 cases Cm w (yj w) with
 |false=>rfl
 |true=>simp only[if_true,sumC,wl,Ao,Wh.zm _ _ (Ao _ _ _),cond_true,Bool.true_and]
theorem adb (w:Wd)(S:zX w)(ho:okV w.1=true):Wh.q78 w=some (Jb w,()):=by
 have I:=RZ ho
 have q:=xW (r:=Wh.D3) (fun i=>(((i:Int),()),w)) (n:=w.2.2.2.1.length) (p:=fun i=> !FV w.2.2.2.1 i) (yf:=.inl (false,())) (yt:=.inr ((),w)) (fun i hi _ hp=>by
   rw[abb w S i hi,if_neg (by simpa using hp)]) (fun i hi _ hp=>by
   rw[abb w S i hi,if_pos (by simpa using hp)]) (by simp only[Wh.D3,Cs,cond_false])
 have q':Comes Wh.D3 (((0:Int),()),w) (if Ja w=true then _ else _):=q
 have r:=xW (r:=Wh.D4) (fun i=>(((i:Int),()),w)) (n:=w.1.2.2.2.1.2.1.length) (p:=fun i=> !itF w.2.2.2.1 (w.1.2.2.2.1.2.1.getD i z0)) (yf:=.inl (false,())) (yt:=.inr ((),w)) (fun i hi _ hp=>by
   rw[abc w S I i hi,if_neg (by simpa using hp)]) (fun i hi _ hp=>by
   rw[abc w S I i hi,if_pos (by simpa using hp)]) (by simp only[Wh.D4,Cs,cond_false])
 have r':Comes Wh.D4 (((0:Int),()),w) (if F1 w=true then _ else _):=r
 have d:=abN w S ho
 unfold Jb
 simp only[Wh.q78,cb q',cv q',cond_true]
 cases Ja w with
 |false=>rfl
 |true=>
 simp only[if_true,sumC,cb r',cv r',cond_true]
 cases F1 w with
 |false=>rfl
 |true=>
 simp only[if_true,d,Wh.Y0 _ _ d,nQ,iy,cond_true,Bool.true_and]
 cases w.1.1<;>rfl
theorem ai0 (w:Wd)(S:zX w):Wh.EI w=some (Im w,()):=by
 have a:=aiV w.1 S.CU
 have e60:decide ((w.2.2.1.length:Int)>60) = !decide (w.2.2.1.length≤60):=by
  by_cases h:w.2.2.1.length≤60
  ·rw[decide_eq_true h,decide_eq_false (by omega)];rfl
  ·rw[decide_eq_false h,decide_eq_true (by omega)];rfl
 have e4:((w.2.1.length:Int) != 4) = !(w.2.1.length==4):=by rw[←Cu];rfl
 unfold Im
 cases ho:okV w.1 with
 |false=>
  rw[ho] at a
  simp only[Wh.EI,a,Wh.Uy _ _ a,nQ,iy,cond_true,Bool.not_false,Bool.not_true,Bool.true_or,Bool.and_self,Bool.false_and]
 |true=>
 rw[ho] at a
 have g:=adb w S ho
 have q:=xW (r:=Wh.Dn) (fun i=>(((i:Int),()),w)) (n:=w.2.1.length) (p:=fun i=> !FR w i) (yf:=.inl (false,())) (yt:=.inr ((),w)) (fun i hi _ hp=>by
   rw[aa8 w S i hi,if_neg (by simpa using hp)]) (fun i hi _ hp=>by
   rw[aa8 w S i hi,if_pos (by simpa using hp)]) (by simp only[Wh.Dn,Cs,cond_false])
 have q':Comes Wh.Dn (((0:Int),()),w) (if IX w=true then _ else _):=q
 have r:=xW (r:=Wh.Dp) (fun i=>(((i:Int),()),w)) (n:=w.2.2.1.length) (p:=fun i=> !Gc (w.2.2.1.getD i zP)) (yf:=.inl (false,())) (yt:=.inr ((),())) (fun i hi _ hp=>by
   rw[abd w S i hi,if_neg (by simpa using hp)]) (fun i hi _ hp=>by
   rw[abd w S i hi,if_pos (by simpa using hp)]) (by simp only[Wh.Dp,Cs,cond_false])
 have r':Comes Wh.Dp (((0:Int),()),w) (if Jr w=true then _ else _):=r
 simp only[Wh.EI,a,Wh.Uy _ _ a,g,Wh.q78_v _ _ g,e4,e60,nQ,iy,Bool.or_true,Bool.and_self,cond_true,cond_false,Bool.not_true,Bool.true_and,cb q',cv q']
 cases (w.2.1.length==4) with
 |false=>rfl
 |true=>
 cases decide (w.2.2.1.length≤60) with
 |false=>rfl
 |true=>
 cases Jb w with
 |false=>rfl
 |true=>
 simp only[Bool.not_true,cond_false,Bool.true_and]
 cases IX w with
 |false=>rfl
 |true=>
 simp only[if_true,sumC,cb r',cv r',cond_true]
 cases Jr w<;>rfl
noncomputable def Ve (w:Wd):Bool:=bif !w.1.1 then wh (yj w).1 (w.2.2.2.1.length:Int) ((w.2.2.2.1.length:Int)+1)&&Cm w (yj w) else wh w.1.2.2.2.1.1 (w.2.2.2.1.length:Int) (w.2.2.2.1.length:Int)&&Cm w w.1.2.2.2.1
theorem ajv (w:Wd)(ho:okV w.1=true):Ve w=(F1 w&&(bif w.1.1 then w.1.2.2.2.1.1==(w.2.2.2.1.length:Int) else IZ w)):=by
 have I:=RZ ho
 unfold Ve
 cases hu:w.1.1 with
 |false=>
  have he:w.1.2.2.2.1.2.1.length=0:=by
   unfold okV at ho
   simp only[Bool.and_eq_true] at ho
   have:=ho.2.2.2
   rw[hu] at this
   simp only[cond_false,IY,Bool.and_eq_true,beq_iff_eq] at this
   exact this.1.1.1.1.1
  have hi:F1 w=true:=by
   unfold F1
   rw[he];rfl
  rw[hi]
  simp only[Bool.not_false,cond_true,cond_false,Bool.true_and,IZ]
  exact Bool.and_comm _ _
 |true=>
  simp only[Bool.not_true,cond_false,cond_true]
  have hb:wh w.1.2.2.2.1.1 (w.2.2.2.1.length:Int) (w.2.2.2.1.length:Int)=(w.1.2.2.2.1.1==(w.2.2.2.1.length:Int)):=by
   unfold wh
   rw[Bool.eq_iff_iff,decide_eq_true_iff,beq_iff_eq]
   omega
  rw[hb,Bool.and_comm]
  cases hl:w.1.2.2.2.1.1==(w.2.2.2.1.length:Int) with
  |false=>simp only[Bool.and_false]
  |true=>
   have hl':w.1.2.2.2.1.1=(w.2.2.2.1.length:Int):=by simpa using hl
   simp only[Bool.and_true]
   unfold Cm F1
   refine M5 fun i hi=>?_
   obtain⟨e,he,_,_,h4⟩:=I5 I hi
   unfold BQ itF
   rw[he,decide_eq_true (by omega:(e:Int)≤(w.2.2.2.1.length:Int)),decide_eq_false (by omega:¬(e:Int)>(w.2.2.2.1.length:Int))]
   rfl
theorem adp (w:Wd)(S:zX w):Wh.q86 w=some (Im w,()):=by
 have a:=adk w.1 S.CU
 have e60:decide ((w.2.2.1.length:Int)>60) = !decide (w.2.2.1.length≤60):=by
  by_cases h:w.2.2.1.length≤60
  ·rw[decide_eq_true h,decide_eq_false (by omega)];rfl
  ·rw[decide_eq_false h,decide_eq_true (by omega)];rfl
 have e4:((w.2.1.length:Int) != 4) = !(w.2.1.length==4):=by rw[←Cu];rfl
 have wl:=wlen S
 have hg:=S.giv
 have wl0:IntKind.wrap .i64 ((w.2.2.2.1.length:Int)+0)=(w.2.2.2.1.length:Int):=wi (by omega) (by omega)
 unfold Im
 cases ho:okV w.1 with
 |false=>
  rw[ho] at a
  simp only[Wh.q86,a,Wh.Uf _ _ a,nQ,iy,cond_true,Bool.not_false,Bool.false_and]
 |true=>
 rw[ho] at a
 have I:=RZ ho
 have I2:yx (yj w):=aa0 ho
 have hl:=YC ho
 have c:=VS w.1.2.2.1 (by omega)
 change Wh.CR w.1.2.2.1=some (((x7 w.1).1,((x7 w.1).2:Int)),()) at c
 obtain⟨r1,r2⟩:=OB w.1 (by omega)
 have d:=WX (x7 w.1).1 r1 r2
 change Wh.DD (x7 w.1).1=some ((yj w,(zk (x7 w.1).1).2),()) at d
 have q:=xW (r:=Wh.D7) (fun i=>(((i:Int),(),w.2.1,(w.2.1.length:Int)),w)) (n:=w.2.1.length) (p:=fun i=> !FR w i) (yf:=.inl (false,())) (yt:=.inr ((),w)) (fun i hi _ hp=>by
   rw[WY w S i hi,if_neg (by simpa using hp)]) (fun i hi _ hp=>by
   rw[WY w S i hi,if_pos (by simpa using hp)]) (by simp only[Wh.D7,Cs,cond_false])
 have q':Comes Wh.D7 (((0:Int),(),w.2.1,(w.2.1.length:Int)),w) (if IX w=true then _ else _):=q
 have r:=xW (r:=Wh.D8) (fun i=>(((i:Int),w.2.2.1,(),(w.2.2.1.length:Int)),w)) (n:=w.2.2.1.length) (p:=fun i=> !Gc (w.2.2.1.getD i zP)) (yf:=.inl (false,())) (yt:=.inr ((),w)) (fun i hi _ hp=>by
   rw[W6 w S i hi,if_neg (by simpa using hp)]) (fun i hi _ hp=>by
   rw[W6 w S i hi,if_pos (by simpa using hp)]) (by simp only[Wh.D8,Cs,cond_false])
 have r':Comes Wh.D8 (((0:Int),w.2.2.1,(),(w.2.2.1.length:Int)),w) (if Jr w=true then _ else _):=r
 have t:=xW (r:=Wh.D9) (fun i=>(((i:Int),w.2.2.2.1,(),(w.2.2.2.1.length:Int)),w)) (n:=w.2.2.2.1.length) (p:=fun i=> !FV w.2.2.2.1 i) (yf:=.inl (false,())) (yt:=.inr ((),w)) (fun i hi _ hp=>by
   rw[W4 w S i hi,if_neg (by simpa using hp)]) (fun i hi _ hp=>by
   rw[W4 w S i hi,if_pos (by simpa using hp)]) (by simp only[Wh.D9,Cs,cond_false])
 have t':Comes Wh.D9 (((0:Int),w.2.2.2.1,(),(w.2.2.2.1.length:Int)),w) (if Ja w=true then _ else _):=t
 have u:=xW (r:=Wh.D_) (fun i=>(((i:Int),(),(),((yj w).2.1.length:Int)),w,(yj w).2.1)) (n:=(yj w).2.1.length) (p:=fun i=> !BQ w.2.2.2.1 ((yj w).2.1.getD i z0)) (yf:=.inl (false,())) (yt:=.inr ((),())) (fun i hi _ hp=>by
   rw[WZ w (yj w) I2 i hi,if_neg (by simpa using hp)]) (fun i hi _ hp=>by
   rw[WZ w (yj w) I2 i hi,if_pos (by simpa using hp)]) (by simp only[Wh.D_,Cs,cond_false])
 have u':Comes Wh.D_ (((0:Int),(),(),((yj w).2.1.length:Int)),w,(yj w).2.1) (if Cm w (yj w)=true then _ else _):=u
 have v:=xW (r:=Wh.Ea) (fun i=>(((i:Int),(),w.1.2.2.2.1.2.1,(w.1.2.2.2.1.2.1.length:Int)),w)) (n:=w.1.2.2.2.1.2.1.length) (p:=fun i=> !BQ w.2.2.2.1 (w.1.2.2.2.1.2.1.getD i z0)) (yf:=.inl (false,())) (yt:=.inr ((),())) (fun i hi _ hp=>by
   rw[W9 w w.1.2.2.2.1 I i hi,if_neg (by simpa using hp)]) (fun i hi _ hp=>by
   rw[W9 w w.1.2.2.2.1 I i hi,if_pos (by simpa using hp)]) (by simp only[Wh.Ea,Cs,cond_false])
 have v':Comes Wh.Ea (((0:Int),(),w.1.2.2.2.1.2.1,(w.1.2.2.2.1.2.1.length:Int)),w) (if Cm w w.1.2.2.2.1=true then _ else _):=v
 unfold Jb
 rw[←ajv w ho]
 unfold Ve
 simp only[Wh.q86,a,Wh.Uf _ _ a,e4,e60,nQ,iy,cond_true,cond_false,Bool.not_true,Bool.true_and,cb q',cv q']
 cases (w.2.1.length==4) with
 |false=>rfl
 |true=>
 cases decide (w.2.2.1.length≤60) with
 |false=>rfl
 |true=>
 simp only[Bool.not_true,cond_false,Bool.true_and]
 cases IX w with
 |false=>simp only[Bool.false_and,Bool.and_false];rfl
 |true=>
 simp only[if_true,sumC,cb r',cv r',cond_true]
 cases Jr w with
 |false=>simp only[Bool.and_false];rfl
 |true=>
 simp only[if_true,cb t',cv t',cond_true,Bool.and_self,Bool.and_true]
 cases Ja w with
 |false=>rfl
 |true=>
 simp only[if_true,c,Wh.UJ _ _ c,d,Wh.S_ _ _ d,cond_true,wl,wl0,zj,Wh.zK _ _ (zj _ _ _),cb u',cv u',cb v',cv v',Bool.true_and]
 cases w.1.1 with
 |false=>
  simp only[Bool.not_false,cond_true]
  cases wh (yj w).1 (w.2.2.2.1.length:Int) ((w.2.2.2.1.length:Int)+1) with
  |false=>rfl
  |true=>cases Cm w (yj w)<;>rfl
 |true=>
  simp only[Bool.not_true,cond_false]
  cases wh w.1.2.2.2.1.1 (w.2.2.2.1.length:Int) (w.2.2.2.1.length:Int) with
  |false=>rfl
  |true=>cases Cm w w.1.2.2.2.1<;>rfl
theorem adM (w:Wd)(h:fR gv w≤1048576):Wh.q6 w=some (true,()):=by
 have S:=smW_of w h
 obtain⟨v,hv⟩:=aju w 1048576 S
 have e1:=ajR w S
 have e2:=ab7 w S
 have e3:=ai0 w S
 have e4:=adp w S
 have c:(Im w==Im w)=true:=beq_self_eq_true _
 simp only[Wh.q6,hv,Wh.q95_v _ _ hv,e1,Wh.q99_v _ _ e1,e2,Wh.q93_v _ _ e2,e3,Wh.YU _ _ e3,e4,Wh.q86_v _ _ e4,c,nQ,iy,Bool.and_self,cond_true,cond_false,Bool.not_true]
 cases decide (v<0)<;>rfl
end Pl
