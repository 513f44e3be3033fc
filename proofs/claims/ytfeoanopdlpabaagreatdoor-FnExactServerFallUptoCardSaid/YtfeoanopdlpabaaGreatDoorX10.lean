import Derived.Test.YtfeoanopdlpabaaGreatDoorX9
open Go Go.Ab
namespace Pl
theorem VP (w:an.D):Wh.En (w,w)=some (true,()):=by simp[Wh.En]
theorem VO (a:List an.D) (h:a.length≤4611686018427387904):Wh.q81 (a,a)=some (true,()):=by
 have hl:Comes Wh.EU (((0:Int),a,a),()) (.inr ((),())):=by
  refine xQ (st:=fun i=>(((i:Int),a,a),())) (n:=a.length) ?_ ?_ 0 (Nat.zero_le _)
  ·intro i hi
   have h2:=mb (i:=i) (by omega)
   have h4:=VP (a[i])
   simp[Wh.EU,Wh.Tv _ _ h4,iy,h2,hi,h4,nQ]
  ·simp[Wh.EU]
 simp[Wh.q81,cb hl,cv hl]
theorem abU (a:an.D):Wh.FM a=some (a,()):=rfl
theorem abT (a:List an.D) (h:a.length≤1048576):Wh.q87 a=some (a,()):=by
 have hl:Comes Wh.DI (((0:Int),a,()),List.replicate a.length ((0:Int),([]:List UInt8),(0:Int),([]:List UInt8),())) ((),a):=by
  have:=xQ (r:=Wh.DI) (st:=fun i=>(((i:Int),a,()),iB a ((0:Int),([]:List UInt8),(0:Int),([]:List UInt8),()) i)) (n:=a.length) (y:=((),a)) ?_ ?_ 0 (Nat.zero_le _)
  ·rw[Kj] at this;exact this
  ·intro i hi
   have hi':decide ((i:Int)<(a.length:Int))=true:=by simpa using hi
   have h0:decide ((0:Int)≤(i:Int))=true:=by simp
   have he:=abU (List.getD a i ((0:Int),([]:List UInt8),(0:Int),([]:List UInt8),()))
   have hs:(iB a ((0:Int),([]:List UInt8),(0:Int),([]:List UInt8),()) i).set i (List.getD a i ((0:Int),([]:List UInt8),(0:Int),([]:List UInt8),()))=iB a ((0:Int),([]:List UInt8),(0:Int),([]:List UInt8),()) (i+1):=Ki a _ _ i hi
   simp only[Wh.DI,hi',h0,Int.toNat_natCast,Kh a ((0:Int),([]:List UInt8),(0:Int),([]:List UInt8),()) i (by omega),he,Wh.Tz _ _ he,hs,mb (i:=i) (by omega),iy,nQ,cond_true,Bool.and_self]
  ·have hi':decide (((a.length:Nat):Int)<(a.length:Int))=false:=by simp
   simp only[Wh.DI,hi',cond_false,Kg]
 have b0:decide ((0:Int)≤(a.length:Int))=true:=by simp
 have b1:decide ((a.length:Int)≤(dh:Int))=true:=decide_eq_true (by unfold dh;omega)
 simp only[Wh.q87,Int.toNat_natCast,cb hl,cv hl,b0,b1,Int.le_refl,decide_true,iy,cond_true,Bool.and_self]
theorem abI (a:an.D) (n:Int):∃v,Wh.Ep (a,n)=some (v,()):=by
 simp only[Wh.Ep]
 repeat' (first|exact⟨_,rfl⟩|refine Q8 _ ?_ ?_)
theorem abH (a:List an.D) (n:Int) (h:a.length≤1048576):∃v,Wh.q85 (a,n)=some (v,()):=by
 have hl:∀d k:Nat,k+d=a.length→∀m:Int,∃y,Comes Wh.DH (((k:Int),m,a),()) y:=by
  intro d
  induction d with
  |zero=>
   intro k hk m
   have hk':decide ((k:Int)<(a.length:Int))=false:=by simp;omega
   exact⟨_,.out (by simp only[Wh.DH,hk',cond_false];rfl)⟩
  |succ d ih=>
   intro k hk m
   have hk':decide ((k:Int)<(a.length:Int))=true:=by simp;omega
   have h0:decide ((0:Int)≤(k:Int))=true:=by simp
   have w:=mb (i:=k) (by omega)
   obtain⟨v,hv⟩:=abI (List.getD a k ((0:Int),([]:List UInt8),(0:Int),([]:List UInt8),())) m
   cases hd:decide (v<0) with
   |true=>exact⟨_,.out (by simp only[Wh.DH,hk',h0,Int.toNat_natCast,hv,Wh.Oz _ _ hv,hd,iy,nQ,cond_true,Bool.and_self];rfl)⟩
   |false=>
    obtain⟨y,hy⟩:=ih (k+1) (by omega) v
    exact⟨y,.again (by simp only[Wh.DH,hk',h0,w,Int.toNat_natCast,hv,Wh.Oz _ _ hv,hd,iy,nQ,cond_true,cond_false,Bool.and_self]) hy⟩
 simp only[Wh.q85]
 cases decide (IntKind.wrap .i64 (n-(a.length:Int))<0) with
 |true=>exact⟨_,rfl⟩
 |false=>
  obtain⟨y,hy⟩:=hl a.length 0 (by omega) (IntKind.wrap .i64 (n-(a.length:Int)))
  have e1:=cb hy
  have e2:=cv hy Wh.Ql
  rw[show(((0:Nat):Int))=0 from rfl] at e1 e2
  simp only[e1,e2,cond_true,cond_false]
  cases y with
  |inl y=>exact⟨_,rfl⟩
  |inr y=>exact⟨_,rfl⟩
theorem VN (w:e_.D):Wh.q80 (w,w)=some (true,()):=by simp[Wh.q80]
theorem VM (a:List e_.D) (h:a.length≤4611686018427387904):Wh.q53 (a,a)=some (true,()):=by
 have hl:Comes Wh.EP (((0:Int),a,a),()) (.inr ((),())):=by
  refine xQ (st:=fun i=>(((i:Int),a,a),())) (n:=a.length) ?_ ?_ 0 (Nat.zero_le _)
  ·intro i hi
   have h2:=mb (i:=i) (by omega)
   have h4:=VN (a[i])
   simp[Wh.EP,Wh.q80_v _ _ h4,iy,h2,hi,h4,nQ]
  ·simp[Wh.EP]
 simp[Wh.q53,cb hl,cv hl]
theorem abS (a:e_.D):Wh.q86 a=some (a,()):=rfl
theorem abR (a:List e_.D) (h:a.length≤1048576):Wh.q63 a=some (a,()):=by
 have hl:Comes Wh.DD (((0:Int),a,()),List.replicate a.length ((0:Int),(0:Int),(0:Int),(0:Int),false,())) ((),a):=by
  have:=xQ (r:=Wh.DD) (st:=fun i=>(((i:Int),a,()),iB a ((0:Int),(0:Int),(0:Int),(0:Int),false,()) i)) (n:=a.length) (y:=((),a)) ?_ ?_ 0 (Nat.zero_le _)
  ·rw[Kj] at this;exact this
  ·intro i hi
   have hi':decide ((i:Int)<(a.length:Int))=true:=by simpa using hi
   have h0:decide ((0:Int)≤(i:Int))=true:=by simp
   have he:=abS (List.getD a i ((0:Int),(0:Int),(0:Int),(0:Int),false,()))
   have hs:(iB a ((0:Int),(0:Int),(0:Int),(0:Int),false,()) i).set i (List.getD a i ((0:Int),(0:Int),(0:Int),(0:Int),false,()))=iB a ((0:Int),(0:Int),(0:Int),(0:Int),false,()) (i+1):=Ki a _ _ i hi
   simp only[Wh.DD,hi',h0,Int.toNat_natCast,Kh a ((0:Int),(0:Int),(0:Int),(0:Int),false,()) i (by omega),he,Wh.q86_v _ _ he,hs,mb (i:=i) (by omega),iy,nQ,cond_true,Bool.and_self]
  ·have hi':decide (((a.length:Nat):Int)<(a.length:Int))=false:=by simp
   simp only[Wh.DD,hi',cond_false,Kg]
 have b0:decide ((0:Int)≤(a.length:Int))=true:=by simp
 have b1:decide ((a.length:Int)≤(dh:Int))=true:=decide_eq_true (by unfold dh;omega)
 simp only[Wh.q63,Int.toNat_natCast,cb hl,cv hl,b0,b1,Int.le_refl,decide_true,iy,cond_true,Bool.and_self]
theorem abG (a:List e_.D) (n:Int):∃v,Wh.q59 (a,n)=some (v,()):=by
 simp only[Wh.q59]
 cases decide (IntKind.wrap .i64 (n-(a.length:Int))<0)<;>exact⟨_,rfl⟩
theorem VK (w:fN.D):Wh.q52 (w,w)=some (true,()):=by simp[Wh.q52]
theorem VJ (a:List fN.D) (h:a.length≤4611686018427387904):Wh.q35 (a,a)=some (true,()):=by
 have hl:Comes Wh.EL (((0:Int),a,a),()) (.inr ((),())):=by
  refine xQ (st:=fun i=>(((i:Int),a,a),())) (n:=a.length) ?_ ?_ 0 (Nat.zero_le _)
  ·intro i hi
   have h2:=mb (i:=i) (by omega)
   have h4:=VK (a[i])
   simp[Wh.EL,Wh.q52_v _ _ h4,iy,h2,hi,h4,nQ]
  ·simp[Wh.EL]
 simp[Wh.q35,cb hl,cv hl]
theorem abP (a:fN.D):Wh.q62 a=some (a,()):=rfl
theorem abO (a:List fN.D) (h:a.length≤1048576):Wh.q39 a=some (a,()):=by
 have hl:Comes Wh.Dx (((0:Int),a,()),List.replicate a.length ((0:Int),(0:Int),(0:Int),(0:Int),())) ((),a):=by
  have:=xQ (r:=Wh.Dx) (st:=fun i=>(((i:Int),a,()),iB a ((0:Int),(0:Int),(0:Int),(0:Int),()) i)) (n:=a.length) (y:=((),a)) ?_ ?_ 0 (Nat.zero_le _)
  ·rw[Kj] at this;exact this
  ·intro i hi
   have hi':decide ((i:Int)<(a.length:Int))=true:=by simpa using hi
   have h0:decide ((0:Int)≤(i:Int))=true:=by simp
   have he:=abP (List.getD a i ((0:Int),(0:Int),(0:Int),(0:Int),()))
   have hs:(iB a ((0:Int),(0:Int),(0:Int),(0:Int),()) i).set i (List.getD a i ((0:Int),(0:Int),(0:Int),(0:Int),()))=iB a ((0:Int),(0:Int),(0:Int),(0:Int),()) (i+1):=Ki a _ _ i hi
   simp only[Wh.Dx,hi',h0,Int.toNat_natCast,Kh a ((0:Int),(0:Int),(0:Int),(0:Int),()) i (by omega),he,Wh.q62_v _ _ he,hs,mb (i:=i) (by omega),iy,nQ,cond_true,Bool.and_self]
  ·have hi':decide (((a.length:Nat):Int)<(a.length:Int))=false:=by simp
   simp only[Wh.Dx,hi',cond_false,Kg]
 have b0:decide ((0:Int)≤(a.length:Int))=true:=by simp
 have b1:decide ((a.length:Int)≤(dh:Int))=true:=decide_eq_true (by unfold dh;omega)
 simp only[Wh.q39,Int.toNat_natCast,cb hl,cv hl,b0,b1,Int.le_refl,decide_true,iy,cond_true,Bool.and_self]
theorem abF (a:List fN.D) (n:Int):∃v,Wh.q38 (a,n)=some (v,()):=by
 simp only[Wh.q38]
 cases decide (IntKind.wrap .i64 (n-(a.length:Int))<0)<;>exact⟨_,rfl⟩
theorem VS (w:fT.D):Wh.q82 (w,w)=some (true,()):=by simp[Wh.q82]
theorem VR (a:List fT.D) (h:a.length≤4611686018427387904):Wh.q54 (a,a)=some (true,()):=by
 have hl:Comes Wh.ER (((0:Int),a,a),()) (.inr ((),())):=by
  refine xQ (st:=fun i=>(((i:Int),a,a),())) (n:=a.length) ?_ ?_ 0 (Nat.zero_le _)
  ·intro i hi
   have h2:=mb (i:=i) (by omega)
   have h4:=VS (a[i])
   simp[Wh.ER,Wh.q82_v _ _ h4,iy,h2,hi,h4,nQ]
  ·simp[Wh.ER]
 simp[Wh.q54,cb hl,cv hl]
theorem abX (a:fT.D):Wh.q88 a=some (a,()):=rfl
theorem abW (a:List fT.D) (h:a.length≤1048576):Wh.q64 a=some (a,()):=by
 have hl:Comes Wh.DE (((0:Int),a,()),List.replicate a.length ((0:Int),(0:Int),(0:Int),(0:Int),(0:Int),(0:Int),())) ((),a):=by
  have:=xQ (r:=Wh.DE) (st:=fun i=>(((i:Int),a,()),iB a ((0:Int),(0:Int),(0:Int),(0:Int),(0:Int),(0:Int),()) i)) (n:=a.length) (y:=((),a)) ?_ ?_ 0 (Nat.zero_le _)
  ·rw[Kj] at this;exact this
  ·intro i hi
   have hi':decide ((i:Int)<(a.length:Int))=true:=by simpa using hi
   have h0:decide ((0:Int)≤(i:Int))=true:=by simp
   have he:=abX (List.getD a i ((0:Int),(0:Int),(0:Int),(0:Int),(0:Int),(0:Int),()))
   have hs:(iB a ((0:Int),(0:Int),(0:Int),(0:Int),(0:Int),(0:Int),()) i).set i (List.getD a i ((0:Int),(0:Int),(0:Int),(0:Int),(0:Int),(0:Int),()))=iB a ((0:Int),(0:Int),(0:Int),(0:Int),(0:Int),(0:Int),()) (i+1):=Ki a _ _ i hi
   simp only[Wh.DE,hi',h0,Int.toNat_natCast,Kh a ((0:Int),(0:Int),(0:Int),(0:Int),(0:Int),(0:Int),()) i (by omega),he,Wh.q88_v _ _ he,hs,mb (i:=i) (by omega),iy,nQ,cond_true,Bool.and_self]
  ·have hi':decide (((a.length:Nat):Int)<(a.length:Int))=false:=by simp
   simp only[Wh.DE,hi',cond_false,Kg]
 have b0:decide ((0:Int)≤(a.length:Int))=true:=by simp
 have b1:decide ((a.length:Int)≤(dh:Int))=true:=decide_eq_true (by unfold dh;omega)
 simp only[Wh.q64,Int.toNat_natCast,cb hl,cv hl,b0,b1,Int.le_refl,decide_true,iy,cond_true,Bool.and_self]
theorem abJ (a:List fT.D) (n:Int):∃v,Wh.q60 (a,n)=some (v,()):=by
 simp only[Wh.q60]
 cases decide (IntKind.wrap .i64 (n-(a.length:Int))<0)<;>exact⟨_,rfl⟩
def DW (c:cr.D):Prop:=c.2.1.length≤1048576
def DX (p:gd.D):Prop:=p.1.length≤1048576
structure Ae (s:ct.D):Prop where
 log:s.2.2.1.length≤1048576
 cat:DW s.2.2.2.1
 items:∀x∈s.2.2.2.1.2.1,x.2.1.length≤1048576∧x.2.2.2.1.length≤1048576
 C5:DX s.2.2.2.2.1
 bks:s.2.2.2.2.2.1.length≤1048576
 srv:s.2.2.2.2.2.2.1.length≤1048576
theorem VL (c:cr.D) (h:DW c):Wh.EA (c,c)=some (true,()):=by
 have e:=VO c.2.1 (by unfold DW at h;omega)
 simp[Wh.EA,e,Wh.q81_v _ _ e,iy,nQ]
theorem VQ (c:gd.D) (h:DX c):Wh.Eo (c,c)=some (true,()):=by
 have e:=VM c.1 (by unfold DX at h;omega)
 simp[Wh.Eo,e,Wh.q53_v _ _ e,iy,nQ]
theorem VT (s:ct.D) (h:Ae s):Wh.Ba (s,s)=some (true,()):=by
 have e1:=VL _ h.cat
 have e2:=VQ _ h.C5
 have e3:=VJ s.2.2.2.2.2.1 (by have:=h.bks;omega)
 have e4:=VR s.2.2.2.2.2.2.1 (by have:=h.srv;omega)
 simp[Wh.Ba,e1,e2,e3,e4,Wh.TX _ _ e1,Wh.Tw _ _ e2,Wh.q35_v _ _ e3,Wh.q54_v _ _ e4,iy,nQ]
theorem abQ (c:cr.D) (h:DW c):Wh.EC c=some (c,()):=by
 have e:=abT c.2.1 h
 simp only[Wh.EC,e,Wh.q87_v _ _ e,iy,nQ,cond_true]
theorem abV (c:gd.D) (h:DX c):Wh.Es c=some (c,()):=by
 have e:=abR c.1 h
 simp only[Wh.Es,e,Wh.q63_v _ _ e,iy,nQ,cond_true]
theorem abY (s:ct.D) (h:Ae s):Wh.BI s=some (s,()):=by
 have e1:=abQ _ h.cat
 have e2:=abV _ h.C5
 have e3:=abO s.2.2.2.2.2.1 h.bks
 have e4:=abW s.2.2.2.2.2.2.1 h.srv
 simp only[Wh.BI,e1,e2,e3,e4,Wh.TZ _ _ e1,Wh.TA _ _ e2,Wh.q39_v _ _ e3,Wh.q64_v _ _ e4,iy,nQ,cond_true]
theorem abK (s:ct.D) (n:Int) (h:Ae s):∃v,Wh.q61 (s,n)=some (v,()):=by
 have c1:∀n,∃v,Wh.EB (s.2.2.2.1,n)=some (v,()):=by
  intro n
  obtain⟨v,hv⟩:=abH s.2.2.2.1.2.1 n h.cat
  simp only[Wh.EB,hv,Wh.q85_v _ _ hv,iy,nQ,cond_true]
  cases decide (v<0)<;>exact⟨_,rfl⟩
 have c2:∀n,∃v,Wh.Er (s.2.2.2.2.1,n)=some (v,()):=by
  intro n
  obtain⟨v,hv⟩:=abG s.2.2.2.2.1.1 n
  simp only[Wh.Er,hv,Wh.q59_v _ _ hv,iy,nQ,cond_true]
  cases decide (v<0)<;>exact⟨_,rfl⟩
 obtain⟨v1,h1⟩:=c1 (IntKind.wrap .i64 (n-(s.2.2.1.length:Int)))
 obtain⟨v2,h2⟩:=c2 v1
 obtain⟨v3,h3⟩:=abF s.2.2.2.2.2.1 v2
 obtain⟨v4,h4⟩:=abJ s.2.2.2.2.2.2.1 v3
 simp only[Wh.q61,h1,h2,h3,h4,Wh.TY _ _ h1,Wh.Tx _ _ h2,Wh.q38_v _ _ h3,Wh.q60_v _ _ h4,iy,nQ,cond_true]
 repeat' (first|exact⟨_,rfl⟩|refine Q8 _ ?_ ?_)
theorem abl (s:ct.D) (h:fR ct s≤1048576):Ae s:=by
 have e:fR ct s=1+(1+((s.2.2.1.length+1)+((1+(((s.2.2.2.1.2.1.map (fR an)).sum+1)+0))+((((s.2.2.2.2.1.1.map (fR e_)).sum+1)+(1+0))+(((s.2.2.2.2.2.1.map (fR fN)).sum+1)+(((s.2.2.2.2.2.2.1.map (fR fT)).sum+1)+0)))))):=rfl
 rw[e] at h
 have i0:∀x:an.D,fR an x=1+((x.2.1.length+1)+(1+((x.2.2.2.1.length+1)+0))):=fun _=>rfl
 have l1:=vH (fR an) (fun x=>by rw[i0];omega) s.2.2.2.1.2.1
 have l2:=vH (fR e_) (fun x=>by show 1≤1+(1+(1+(1+(1+0))));omega) s.2.2.2.2.1.1
 have l3:=vH (fR fN) (fun x=>by show 1≤1+(1+(1+(1+0)));omega) s.2.2.2.2.2.1
 have l4:=vH (fR fT) (fun x=>by show 1≤1+(1+(1+(1+(1+(1+0)))));omega) s.2.2.2.2.2.2.1
 refine⟨by omega,by show _≤_;omega,fun x hx=>?_,by show _≤_;omega,by omega,by omega⟩
 have:=xg (fR an) _ x hx
 rw[i0] at this
 exact⟨by omega,by omega⟩
end Pl
open Go Go.Ab Go.Lib
namespace Pl
instance itDec:DecidableEq It:=inferInstanceAs (DecidableEq (Int×List UInt8×Int×List UInt8×Unit))
instance ctDec:DecidableEq Ct:=fun a b=>if h1:a.1=b.1 then if h2:a.2.1=b.2.1 then .isTrue (by obtain⟨_,_,_⟩:=a;obtain⟨_,_,_⟩:=b;simp_all) else .isFalse (fun e=>h2 (by rw[e])) else .isFalse (fun e=>h1 (by rw[e]))
theorem Kx (a b:It):(a.1==b.1&&(a.2.1==b.2.1&&(a.2.2.1==b.2.2.1&&(a.2.2.2.1==b.2.2.2.1&&true))))=decide (a=b):=by
 obtain⟨a1,a2,a3,a4,a5⟩:=a
 obtain⟨b1,b2,b3,b4,b5⟩:=b
 rw[Bool.eq_iff_iff]
 simp
theorem Sd (a b:List It) (h:a.length=b.length):jS a.length (fun i=>decide (a.getD i z0=b.getD i z0))=decide (a=b):=by
 rw[Bool.eq_iff_iff,oL,decide_eq_true_iff]
 constructor
 ·intro hh
  refine List.ext_getElem h fun i h1 h2=>?_
  have:=of_decide_eq_true (hh i h1)
  rwa[getD_eq _ _ _ h1,getD_eq _ _ _ h2] at this
 ·rintro rfl i _;exact decide_eq_true rfl
theorem ct_eq (a b:Ct) (hl:a.2.1.length=b.2.1.length):(decide (a.1=b.1)&&decide (a.2.1=b.2.1))=decide (a=b):=by
 obtain⟨a1,a2,a3⟩:=a
 obtain⟨b1,b2,b3⟩:=b
 rw[Bool.eq_iff_iff]
 simp
theorem abw (a b:Ct) (hl:a.2.1.length≤9999999):Wh.CE (a,b)=some (decide (a=b),()):=by
 by_cases h1:a.1=b.1
 ·by_cases h2:a.2.1.length=b.2.1.length
  ·have c1:(a.1 != b.1)=false:=by simp[h1]
   have c2:((a.2.1.length:Int) != (b.2.1.length:Int))=false:=by simp[h2]
   have q:=zQ (r:=Wh.CF) (fun i=>(((i:Int),(),()),b,a)) (n:=a.2.1.length) (p:=fun i=>decide (a.2.1.getD i z0=b.2.1.getD i z0)) (yf:=.inl (false,())) (yt:=.inr ((),())) (fun i hi _ hp=>by
     have hp':=(Kx (a.2.1.getD i z0) (b.2.1.getD i z0)).trans hp
     unfold z0 at hp'
     simp only[Wh.CF,gl hi,gl (show i<b.2.1.length by omega),g0,Int.toNat_natCast,hp',iy,Bool.and_self,Bool.not_true,cond_true,cond_false,mb (show i≤4611686018427387904 by omega)]) (fun i hi _ hp=>by
     have hp':=(Kx (a.2.1.getD i z0) (b.2.1.getD i z0)).trans hp
     unfold z0 at hp'
     simp only[Wh.CF,gl hi,gl (show i<b.2.1.length by omega),g0,Int.toNat_natCast,hp',iy,Bool.and_self,Bool.not_false,cond_true]) (by
     have d1:decide ((a.2.1.length:Int)<(a.2.1.length:Int))=false:=decide_eq_false (by omega)
     simp only[Wh.CF,d1,cond_false])
   rw[Sd _ _ h2] at q
   have q':Comes Wh.CF ((0,(),()),b,a) _:=q
   simp only[Wh.CE,c1,c2,cond_false,cb q',cv q',cond_true]
   rw[←ct_eq a b h2,decide_eq_true h1,Bool.true_and]
   cases decide (a.2.1=b.2.1)<;>rfl
  ·have c1:(a.1 != b.1)=false:=by simp[h1]
   have c2:((a.2.1.length:Int) != (b.2.1.length:Int))=true:=bne_iff_ne.2 (by omega)
   simp only[Wh.CE,c1,c2,cond_false,cond_true]
   rw[decide_eq_false (by rintro rfl;exact h2 rfl)]
 ·have c1:(a.1 != b.1)=true:=bne_iff_ne.2 h1
  simp only[Wh.CE,c1,cond_true]
  rw[decide_eq_false (by rintro rfl;exact h1 rfl)]
theorem WL (a b:Ct) (hl:a.2.1.length≤9999999):Wh.q79 (a,b)=some (decide (a=b),()):=by
 have he:Wh.q10 (a.2.1,b.2.1)=some (decide (a.2.1=b.2.1),()):=by
  by_cases h2:a.2.1.length=b.2.1.length
  ·have c2:((a.2.1.length:Int) != (b.2.1.length:Int))=false:=by simp[h2]
   have q:=zQ (r:=Wh.B9) (fun i=>(((i:Int),b.2.1,a.2.1,(a.2.1.length:Int)),())) (n:=a.2.1.length) (p:=fun i=>decide (a.2.1.getD i z0=b.2.1.getD i z0)) (yf:=.inl (false,())) (yt:=.inr ((),())) (fun i hi _ hp=>by
     have hp':=(Kx (a.2.1.getD i z0) (b.2.1.getD i z0)).trans hp
     unfold z0 at hp'
     simp only[Wh.B9,gl hi,gl (show i<b.2.1.length by omega),g0,Int.toNat_natCast,hp',iy,Bool.and_self,Bool.not_true,cond_true,cond_false,mb (show i≤4611686018427387904 by omega)]) (fun i hi _ hp=>by
     have hp':=(Kx (a.2.1.getD i z0) (b.2.1.getD i z0)).trans hp
     unfold z0 at hp'
     simp only[Wh.B9,gl hi,gl (show i<b.2.1.length by omega),g0,Int.toNat_natCast,hp',iy,Bool.and_self,Bool.not_false,cond_true]) (by
     have d1:decide ((a.2.1.length:Int)<(a.2.1.length:Int))=false:=decide_eq_false (by omega)
     simp only[Wh.B9,d1,cond_false])
   rw[Sd _ _ h2] at q
   have q':Comes Wh.B9 ((0,b.2.1,a.2.1,(a.2.1.length:Int)),()) _:=q
   simp only[Wh.q10,c2,cond_false,cb q',cv q',cond_true]
   cases decide (a.2.1=b.2.1)<;>rfl
  ·have c2:((a.2.1.length:Int) != (b.2.1.length:Int))=true:=bne_iff_ne.2 (by omega)
   simp only[Wh.q10,c2,cond_true]
   rw[decide_eq_false (fun e=>h2 (by rw[e]))]
 have hd:(bif a.1==b.1 then decide (a.2.1=b.2.1) else false)=decide (a=b):=by
  obtain⟨a1,a2,a3⟩:=a
  obtain⟨b1,b2,b3⟩:=b
  by_cases h1:a1=b1
  ·simp[h1]
  ·simp[h1]
 simp only[Wh.q79,he,Wh.q10_v _ _ he,nQ,Bool.or_true,iy,cond_true,hd]
def zR (l:List It) (e:Int):Option Nat:=first l.length fun i=>(l.getD i z0).2.2.1==e
def edI (l:List It):Option Nat→It
 |some i=>l.getD i z0
 |none=>z0
theorem Vf (c:Ct) (e:Int) (hl:c.2.1.length≤9999999):Wh.q42 (c,e)=some ((edI c.2.1 (zR c.2.1 e),(zR c.2.1 e).isSome),()):=by
 obtain⟨ce,l,u⟩:=c
 have hl:l.length≤9999999:=hl
 have q:=Fp (r:=Wh.Cw) (fun i=>(((),(i:Int),(),e),((0:Int),([]:List UInt8),(0:Int),([]:List UInt8),()),(ce,l,u))) (n:=l.length) (p:=fun i=>(l.getD i z0).2.2.1==e) (yt:=fun i=>.inl (((),true),l.getD i z0)) (yn:=.inr ((),(0:Int),[],(0:Int),[],())) (fun i hi hp=>by
   have hp':((l.getD i z0).2.2.1==e)=false:=hp
   unfold z0 at hp'
   simp only[Wh.Cw,gl hi,g0,Int.toNat_natCast,hp',iy,Bool.and_self,cond_true,cond_false,mb (show i≤4611686018427387904 by omega)]) (fun i hi hp=>by
   have hp':((l.getD i z0).2.2.1==e)=true:=hp
   unfold z0 at hp' ⊢
   simp only[Wh.Cw,gl hi,g0,Int.toNat_natCast,hp',iy,Bool.and_self,cond_true]) (by
   have d1:decide ((l.length:Int)<(l.length:Int))=false:=decide_eq_false (by omega)
   simp only[Wh.Cw,d1,cond_false])
 have q':Comes Wh.Cw (((),0,(),e),((0:Int),([]:List UInt8),(0:Int),([]:List UInt8),()),(ce,l,u)) _:=q
 simp only[Wh.q42,cb q',cv q',cond_true,zR]
 cases first l.length (fun i=>(l.getD i z0).2.2.1==e)<;>rfl
theorem RT (c:Ct) (e:Int) (hl:c.2.1.length≤9999999):Wh.Ce (c,e)=some (AM (zR c.2.1 e),()):=by
 obtain⟨ce,l,u⟩:=c
 have hl:l.length≤9999999:=hl
 have f (x:It):Wh.FZ (x,e)=some ((x.2.2.1==e),()):=rfl
 have q:=Fp (r:=Wh.Cq) (fun i=>(((i:Int),l,(e,()),(l.length:Int)),())) (n:=l.length) (p:=fun i=>(l.getD i z0).2.2.1==e) (yt:=fun i=>.inl ((i:Int),())) (yn:=.inr ((),())) (fun i hi hp=>by
   have hp':((l.getD i z0).2.2.1==e)=false:=hp
   unfold z0 at hp'
   simp only[Wh.Cq,gl hi,g0,Int.toNat_natCast,f,Wh.q8_v _ _ (f _),hp',nQ,iy,Bool.and_self,cond_true,cond_false,mb (show i≤4611686018427387904 by omega)]) (fun i hi hp=>by
   have hp':((l.getD i z0).2.2.1==e)=true:=hp
   unfold z0 at hp'
   simp only[Wh.Cq,gl hi,g0,Int.toNat_natCast,f,Wh.q8_v _ _ (f _),hp',nQ,iy,Bool.and_self,cond_true]) (by
   have d1:decide ((l.length:Int)<(l.length:Int))=false:=decide_eq_false (by omega)
   simp only[Wh.Cq,d1,cond_false])
 have q':Comes Wh.Cq ((0,l,(e,()),(l.length:Int)),()) _:=q
 have h:Wh.q2 (l,e,())=some (AM (zR l e),()):=by
  simp only[Wh.q2,cb q',cv q',cond_true,zR]
  cases first l.length (fun i=>(l.getD i z0).2.2.1==e)<;>rfl
 simp only[Wh.Ce,h,Wh.q2_v _ _ h,nQ,iy,cond_true]
theorem Rg:Wh.Cm=Wh.BK:=rfl
theorem Rh:Wh.FW=Wh.F0:=rfl
def Ah (a b:Int):Int:=IntKind.wrap .i64 (Int.tdiv (IntKind.wrap .i64 (IntKind.wrap .i64 (a+b)-1)) b)
theorem count_eq (a b:Int) (x y:List Int) (u:Unit) (h:b≠0):Wh.BK (a,b,x,y,u)=some (Ah a b,()):=by
 have c:(b != 0)=true:=bne_iff_ne.2 h
 simp only[Wh.BK,c,iy,cond_true];rfl
theorem VD (a b:Nat) (ha:a≤100000) (hb:1≤b) (bZ:b≤1000):Ah a b=(((a+b-1) / b:Nat):Int):=by
 have w1:IntKind.wrap .i64 ((a:Int)+(b:Int))=((a+b:Nat):Int):=wi (by omega) (by omega)
 have w2:IntKind.wrap .i64 (((a+b:Nat):Int)-1)=((a+b-1:Nat):Int):=wi (by omega) (by omega)
 have w3:Int.tdiv ((a+b-1:Nat):Int) (b:Int)=(((a+b-1) / b:Nat):Int):=by rw[Int.tdiv_eq_ediv_of_nonneg (by omega)];rfl
 have hle:(a+b-1) / b≤a+b-1:=Nat.div_le_self _ _
 rw[Ah,w1,w2,w3];exact wi rfl (by omega)
theorem Wr (L:Nat) (hL:L≤300):∀d s:Nat,s+d=13→1≤s→∃s':Nat,1≤s'∧s'≤13∧Comes Wh.Ci (((),()),((L:Int),(s:Int),(),(),()),((0:Int),(0:Int),(),(),()),[],[],[],[]) (((),()),((0:Int),(0:Int),(),(),()),((L:Int),(s':Int),(),(),()),[],[],[],[]):=by
 intro d
 induction d with
 |zero=>
  intro s h1 h2
  have:s=13:=by omega
  subst this
  refine⟨13,by omega,by omega,.out ?_⟩
  have a:=count_eq (L:Int) ((13:Nat):Int) [] [] () (by omega)
  rw[VD L 13 (by omega) (by omega) (by omega)] at a
  have c1:decide ((((L+13-1) / 13:Nat):Int)>24)=false:=decide_eq_false (by omega)
  simp only[Wh.Ci,a,Wh.CG _ _ a,c1,nQ,iy,cond_true,cond_false]
 |succ d ih=>
  intro s h1 h2
  have a:=count_eq (L:Int) (s:Int) [] [] () (by omega)
  cases hc:decide (Ah (L:Int) (s:Int)>24) with
  |true=>
   obtain⟨s',g1,g2,g3⟩:=ih (s+1) (by omega) (by omega)
   refine⟨s',g1,g2,.again ?_ g3⟩
   simp only[Wh.Ci,a,Wh.CG _ _ a,hc,nQ,iy,cond_true,mb (show s≤4611686018427387904 by omega)]
  |false=>
   refine⟨s,by omega,by omega,.out ?_⟩
   simp only[Wh.Ci,a,Wh.CG _ _ a,hc,nQ,iy,cond_true,cond_false]
theorem Tn (L:Nat) (h1:1≤L) (hL:L≤300):∃P:yA.D,P.2.1≠0∧Wh.Dk (L:Int)=some (P,())∧Wh.q75 (L:Int)=some (P,()):=by
 obtain⟨s,g1,g2,g3⟩:=Wr L hL 5 8 (by omega) (by omega)
 have g3':Comes Wh.Ci (((),()),((L:Int),(8:Int),(),(),()),((0:Int),(0:Int),(),(),()),[],[],[],[]) _:=g3
 have g4:Comes Wh.Hp (((),()),((L:Int),(8:Int),(),(),()),((0:Int),(0:Int),(),(),()),[],[],[],[]) _:=g3
 have a:=count_eq (L:Int) (s:Int) [] [] () (by omega)
 have wi1:nP (L:Int) 1 300=true:=decide_eq_true (by omega)
 cases hk:decide (IntKind.wrap .i64 (Int.tdiv (IntKind.wrap .i64 (Ah (L:Int) (s:Int)+3)) 4)<Ah (L:Int) (s:Int)) with
 |true=>
  refine⟨((L:Int),(s:Int),[IntKind.wrap .i64 (Int.tdiv (IntKind.wrap .i64 (Ah (L:Int) (s:Int)+3)) 4),Ah (L:Int) (s:Int)],[(2:Int),(3:Int)],()),by simp only;omega,?_,?_⟩
  ·simp only[Wh.Dk,cb g3',cv g3',cond_true,a,Wh.CG _ _ a,hk,nQ,iy]
  ·simp only[Wh.q75,yP,Wh.zg _ _ (yP _ _ _),wi1,cb g4,cv g4,cond_true,cond_false,Bool.not_true,Rg,Rh,a,Wh.CG _ _ a,hk,nQ,iy]
 |false=>
  refine⟨((L:Int),(s:Int),[Ah (L:Int) (s:Int)],[(1:Int)],()),by simp only;omega,?_,?_⟩
  ·simp only[Wh.Dk,cb g3',cv g3',cond_true,a,Wh.CG _ _ a,hk,nQ,iy,cond_false]
  ·simp only[Wh.q75,yP,Wh.zg _ _ (yP _ _ _),wi1,cb g4,cv g4,cond_true,cond_false,Bool.not_true,Rg,Rh,a,Wh.CG _ _ a,hk,nQ,iy]
noncomputable def G3 (L:Int):Int:=Ah (Wh.He L).1.1 (Wh.He L).1.2.1
noncomputable def BX (c:Ct) (f:Fr):Bool:=bif decide (f.2.2.2.1>0) then true else bif decide (f.2.1>0) then(match zR c.2.1 f.2.1 with
 |none=>true
 |some k=>bif(c.2.1.getD k z0).1 != f.1 then true else decide (f.2.2.1≥G3 ((c.2.1.getD k z0).2.2.2.1.length:Int))) else false
theorem Nu {l:List It} {e:Int} {i:Nat} (h:zR l e=some i):i<l.length:=(AN.1 h).1
theorem Vg (s:ct.D) (I:yM s.2.2.2.1) (i:Nat) (hi:i<s.2.2.2.2.1.1.length) (hl:s.2.2.2.2.1.1.length≤9999999) :
  Wh.AF (((i:Int),()),s)=if BX s.2.2.2.1 (s.2.2.2.2.1.1.getD i zF)=true then some (.inr (.inl (false,()))) else some (.inl ((((i+1:Nat):Int),()),s)):=by
 have bI:s.2.2.2.1.2.1.length≤8:=I.len
 have ed:=Vf s.2.2.2.1 (s.2.2.2.2.1.1.getD i zF).2.1 (by omega)
 have w:=mb (show i≤4611686018427387904 by omega)
 unfold BX
 cases hw:decide ((s.2.2.2.2.1.1.getD i zF).2.2.2.1>0) with
 |true=>
  unfold zF at ed hw ⊢
  simp only[Wh.AF,gl hi,g0,Int.toNat_natCast,ed,Wh.Dy _ _ ed,hw,nQ,Bool.not_true,Bool.and_false,Bool.not_false,Bool.true_or,Bool.or_true,iy,Bool.and_self,cond_true,if_true]
 |false=>
  cases he:decide ((s.2.2.2.2.1.1.getD i zF).2.1>0) with
  |false=>
   unfold zF at ed hw he ⊢
   simp only[Wh.AF,gl hi,g0,Int.toNat_natCast,ed,Wh.Dy _ _ ed,hw,he,nQ,Bool.not_true,Bool.and_false,Bool.false_and,Bool.not_false,Bool.true_or,Bool.or_true,iy,Bool.and_self,cond_true,cond_false,w]
   rfl
  |true=>
   cases hk:zR s.2.2.2.1.2.1 (s.2.2.2.2.1.1.getD i zF).2.1 with
   |none=>
    rw[hk] at ed
    unfold zF at ed hw he ⊢
    simp only[Wh.AF,gl hi,g0,Int.toNat_natCast,ed,Wh.Dy _ _ ed,hw,he,edI,Option.isSome,nQ,Bool.not_true,Bool.not_false,Bool.true_or,Bool.or_true,Bool.and_true,iy,Bool.and_self,cond_true,cond_false,if_true]
   |some k=>
    rw[hk] at ed
    have jf:=Nu hk
    have hp:=Ok (I.ok (s.2.2.2.1.2.1.getD k z0) (by rw[getD_eq _ _ _ jf];exact List.getElem_mem jf))
    obtain⟨P,hP,f1,_⟩:=Tn _ hp.2.2.1 hp.2.2.2
    have f3 (x y:List Int) (u:Unit):=count_eq P.1 P.2.1 x y u hP
    have f4 (x y:List Int) (u:Unit):=Wh.CG _ _ (f3 x y u)
    cases hh:((s.2.2.2.1.2.1.getD k z0).1 != (s.2.2.2.2.1.1.getD i zF).1) with
    |true=>
     unfold zF at ed hw he hh ⊢
     simp only[Wh.AF,gl hi,g0,Int.toNat_natCast,ed,Wh.Dy _ _ ed,hw,he,hh,edI,Option.isSome,nQ,Bool.not_true,Bool.not_false,Bool.true_or,Bool.or_true,Bool.and_true,iy,Bool.and_self,cond_true,cond_false,if_true]
    |false=>
     have hc:G3 ((s.2.2.2.1.2.1.getD k z0).2.2.2.1.length:Int)=Ah P.1 P.2.1:=by rw[G3,Wh.Ld _ _ f1]
     unfold zF at ed hw he hh ⊢
     simp only[hc,Wh.AF,gl hi,g0,Int.toNat_natCast,ed,Wh.Dy _ _ ed,hw,he,hh,f1,Wh.Ld _ _ f1,f3,f4,edI,Option.isSome,nQ,Bool.not_true,Bool.not_false,Bool.or_true,iy,Bool.and_self,cond_true,cond_false,w]
     cases decide ((s.2.2.2.2.1.1.getD i ((0:Int),(0:Int),(0:Int),(0:Int),false,())).2.2.1≥Ah P.1 P.2.1)<;>rfl
theorem RU (c:Ct) (I:yM c) (l:List Fr) (i:Nat) (hi:i<l.length) (hl:l.length≤9999999) (hok:okF (l.getD i zF)=true) :
  Wh.AE (((i:Int),(),l,(l.length:Int)),c)=if BX c (l.getD i zF)=true then some (.inr (.inl (false,()))) else some (.inl ((((i+1:Nat):Int),(),l,(l.length:Int)),c)):=by
 have bI:c.2.1.length≤8:=I.len
 have ed:=RT c (l.getD i zF).2.1 (by omega)
 have w:=mb (show i≤4611686018427387904 by omega)
 unfold BX
 cases hz:((l.getD i zF).2.1==0) with
 |true=>
  have h0:(l.getD i zF).2.1=0:=eq_of_beq hz
  have hw:decide ((l.getD i zF).2.2.2.1>0)=false:=by
   unfold okF at hok
   rw[hz,cond_true] at hok
   simp only[Bool.and_eq_true,beq_iff_eq] at hok
   exact decide_eq_false (by omega)
  have he:decide ((l.getD i zF).2.1>0)=false:=decide_eq_false (by omega)
  rw[hw,he]
  unfold zF at hz ⊢
  simp only[Wh.AE,gl hi,g0,Int.toNat_natCast,hz,iy,Bool.and_self,cond_true,cond_false,w]
  rfl
 |false=>
  have he:decide ((l.getD i zF).2.1>0)=true:=by
   unfold okF at hok
   rw[hz,cond_false] at hok
   simp only[Bool.and_eq_true,nP,decide_eq_true_iff] at hok
   exact decide_eq_true (by omega)
  rw[he]
  cases hw:decide ((l.getD i zF).2.2.2.1>0) with
  |true=>
   unfold zF at ed hz hw ⊢
   simp only[Wh.AE,gl hi,g0,Int.toNat_natCast,hz,ed,Wh.EI _ _ ed,hw,nQ,Bool.not_true,Bool.not_false,Bool.true_or,iy,Bool.and_self,cond_true,cond_false,if_true]
  |false=>
   cases hk:zR c.2.1 (l.getD i zF).2.1 with
   |none=>
    rw[hk] at ed
    unfold zF at ed hz hw ⊢
    simp only[Wh.AE,gl hi,g0,Int.toNat_natCast,hz,ed,Wh.EI _ _ ed,hw,Nl,nQ,Bool.not_true,Bool.not_false,Bool.true_or,iy,Bool.and_self,cond_true,cond_false,if_true]
   |some k=>
    rw[hk] at ed
    have jf:=Nu hk
    have hp:=Ok (I.ok (c.2.1.getD k z0) (by rw[getD_eq _ _ _ jf];exact List.getElem_mem jf))
    obtain⟨P,hP,f0,f1⟩:=Tn _ hp.2.2.1 hp.2.2.2
    have f3 (x y:List Int) (u:Unit):Wh.Cm (P.1,P.2.1,x,y,u)=_:=count_eq P.1 P.2.1 x y u hP
    have f4 (x y:List Int) (u:Unit):=Wh.q20_v _ _ (f3 x y u)
    have ed':Wh.Ce (c,(l.getD i zF).2.1)=some ((k:Int),()):=ed
    have e1:decide ((k:Int)<0)=false:=decide_eq_false (by omega)
    cases hh:((c.2.1.getD k z0).1 != (l.getD i zF).1) with
    |true=>
     unfold zF at ed' hz hw hh ⊢
     unfold z0 at hh ⊢
     simp only[Wh.AE,gl hi,gl jf,g0,Int.toNat_natCast,hz,ed',Wh.EI _ _ ed',hw,hh,e1,nQ,Bool.not_true,Bool.not_false,Bool.true_or,Bool.or_true,iy,Bool.and_self,cond_true,cond_false,if_true]
    |false=>
     have hc:G3 ((c.2.1.getD k z0).2.2.2.1.length:Int)=Ah P.1 P.2.1:=by rw[G3,Wh.Ld _ _ f0]
     unfold zF at ed' hz hw hh ⊢
     have hh2:=hh
     unfold z0 at hh2 f1
     simp only[hc,hh2,Wh.AE,gl hi,gl jf,g0,Int.toNat_natCast,hz,ed',Wh.EI _ _ ed',hw,hh,e1,f1,Wh.q75_v _ _ f1,f3,f4,nQ,Bool.not_true,Bool.not_false,Bool.or_true,iy,Bool.and_self,cond_true,cond_false,w]
     cases decide ((l.getD i ((0:Int),(0:Int),(0:Int),(0:Int),false,())).2.2.1≥Ah P.1 P.2.1)<;>rfl
abbrev Bu:Type:=Int×Int×Int×Int×Unit
def D6 (b:Bu):Bool:=nP b.2.1 0 99999&&nP b.1 0 b.2.1&&nP b.2.2.1 0 99999&&nP b.2.2.2.1 0 99999
theorem Vd (b:Bu):Wh.q66 b=some (D6 b,()):=by
 unfold D6
 simp only[Wh.q66,Am,Wh.y9 _ _ (Am _ _ _),nQ,Bool.or_true,iy,Bool.and_self,cond_true]
 cases nP b.2.1 0 99999<;>cases nP b.1 0 b.2.1<;>cases nP b.2.2.1 0 99999<;>cases nP b.2.2.2.1 0 99999<;>rfl
theorem RR (b:Bu):Wh.q44 b=some (D6 b,()):=by
 unfold D6
 simp only[Wh.q44,yP,Wh.zg _ _ (yP _ _ _),nQ,Bool.or_true,iy,Bool.and_self,cond_true]
 cases nP b.2.1 0 99999<;>cases nP b.1 0 b.2.1<;>cases nP b.2.2.1 0 99999<;>cases nP b.2.2.2.1 0 99999<;>rfl
def zB:Bu:=((0:Int),(0:Int),(0:Int),(0:Int),())
def BW (now:Int) (b:Bu):Bool:=bif bif bif !D6 b then true else b.2.1 != 40 then true else b.2.2.1 != 8 then true else decide (b.2.2.2.1>now)
theorem Vc (s:ct.D) (i:Nat) (hi:i<s.2.2.2.2.2.1.length) (hl:s.2.2.2.2.2.1.length≤9999999) :
  Wh.CA (((i:Int),()),s)=if BW s.2.1 (s.2.2.2.2.2.1.getD i zB)=true then some (.inr (.inl (false,()))) else some (.inl ((((i+1:Nat):Int),()),s)):=by
 have w:=mb (show i≤4611686018427387904 by omega)
 unfold BW zB
 simp only[Wh.CA,gl hi,g0,Int.toNat_natCast,Vd,Wh.q66_v _ _ (Vd _),nQ,iy,Bool.and_self,cond_true,w]
 generalize (bif bif bif !D6 _ then true else _ then true else _ then true else _)=b
 cases b<;>rfl
theorem RQ (s:ct.D) (l:List Bu) (i:Nat) (hi:i<l.length) (hl:l.length≤9999999) :
  Wh.Cy (((i:Int),(),l,(l.length:Int)),s)=if BW s.2.1 (l.getD i zB)=true then some (.inr (.inl (false,()))) else some (.inl ((((i+1:Nat):Int),(),l,(l.length:Int)),s)):=by
 have w:=mb (show i≤4611686018427387904 by omega)
 unfold BW zB
 simp only[Wh.Cy,gl hi,g0,Int.toNat_natCast,RR,Wh.q44_v _ _ (RR _),nQ,iy,Bool.and_self,cond_true,w]
 generalize (bif bif bif !D6 _ then true else _ then true else _ then true else _)=b
 cases b<;>rfl
end Pl
open Go Go.Ab Go.Lib
namespace Pl
abbrev Sv:Type:=Int×Int×Int×Int×Int×Int×Unit
def zS:Sv:=((0:Int),(0:Int),(0:Int),(0:Int),(0:Int),(0:Int),())
def G4 (l:List Sv) (i:Nat) (c:Int):Bool:=match i with
 |0=>false
 |m+1=>decide ((l.getD m zS).1≥c)
def GJ (c:Ct) (s:Sv):Bool:=bif(zR c.2.1 s.2.2.1).isSome then(edI c.2.1 (zR c.2.1 s.2.2.1)).1 != Int.tmod s.1 2 else false
def Be (c:Ct) (now:Int) (l:List Sv) (i:Nat):Bool:=
 ((((((!nP (l.getD i zS).1 0 3 || G4 l i (l.getD i zS).1) || !nP (l.getD i zS).2.1 1 99999) || !nP (l.getD i zS).2.2.1 1 c.1) || !nP (l.getD i zS).2.2.2.1 0 9999) || !nP (l.getD i zS).2.2.2.2.1 0 3) || !nP (l.getD i zS).2.2.2.2.2.1 0 now) || GJ c (l.getD i zS)
theorem Kb (a b:Bool):(bif a then true else b)=(a || b):=by cases a<;>rfl
theorem Vi (s:ct.D) (hc:s.2.2.2.1.2.1.length≤9999999) (i:Nat) (hi:i<s.2.2.2.2.2.2.1.length) (hl:s.2.2.2.2.2.2.1.length≤9999999) :
  Wh.BG (((i:Int),()),s)=if Be s.2.2.2.1 s.2.1 s.2.2.2.2.2.2.1 i=true then some (.inr (.inl (false,()))) else some (.inl ((((i+1:Nat):Int),()),s)):=by
 have w:=mb (show i≤4611686018427387904 by omega)
 have ed:=Vf s.2.2.2.1 (s.2.2.2.2.2.2.1.getD i zS).2.2.1 hc
 have hh (x:Int):Wh.q68 x=some (Int.tmod x 2,()):=rfl
 have fin (A B:Bool) (X Y:Option ((((Int)×(Unit))×((ct.D)))⊕((((Bool))×(Unit))⊕((Unit)×(Unit))))):(bif A then X else bif B then X else Y)=if(A || B)=true then X else Y:=by cases A<;>cases B<;>rfl
 rcases Nat.eq_zero_or_pos i with h0|h0
 ·subst h0
  have d1:decide (((0:Nat):Int)>0)=false:=rfl
  unfold Be GJ G4
  unfold zS at ed ⊢
  simp only[Wh.BG,gl hi,g0,Int.toNat_natCast,Am,Wh.y9 _ _ (Am _ _ _),ed,Wh.Dy _ _ ed,hh,Wh.Qb _ _ (hh _),d1,Kb,nQ,Bool.or_true,Bool.false_and,Bool.not_false,Bool.true_or,Bool.or_false,iy,Bool.and_self,cond_true,cond_false,w]
  exact fin _ _ _ _
 ·obtain⟨m,rfl⟩:∃m,i=m+1:=⟨i-1,by omega⟩
  have d1:decide (((m+1:Nat):Int)>0)=true:=decide_eq_true (by omega)
  have w1:IntKind.wrap .i64 (((m+1:Nat):Int)-1)=(m:Int):=wi (by omega) (by omega)
  unfold Be GJ G4
  unfold zS at ed ⊢
  simp only[Wh.BG,gl hi,gl (show m<s.2.2.2.2.2.2.1.length by omega),g0,Int.toNat_natCast,w1,Am,Wh.y9 _ _ (Am _ _ _),ed,Wh.Dy _ _ ed,hh,Wh.Qb _ _ (hh _),d1,Kb,nQ,Bool.or_true,iy,Bool.and_self,cond_true,w]
  exact fin _ _ _ _
theorem Kf (n:Int):Wh.q48 n=some (nP n 0 3,()):=by simp only[Wh.q48,yP,Wh.zg _ _ (yP _ _ _),nQ,iy,cond_true]
theorem RY (s:ct.D) (hc:s.2.2.2.1.2.1.length≤9999999) (i:Nat) (hi:i<s.2.2.2.2.2.2.1.length) (hl:s.2.2.2.2.2.2.1.length≤9999999) :
  Wh.BH (((i:Int),(),s.2.2.2.2.2.2.1,(s.2.2.2.2.2.2.1.length:Int)),s)=if Be s.2.2.2.1 s.2.1 s.2.2.2.2.2.2.1 i=true then some (.inr (.inl (false,()))) else some (.inl ((((i+1:Nat):Int),(),s.2.2.2.2.2.2.1,(s.2.2.2.2.2.2.1.length:Int)),s)):=by
 have w:=mb (show i≤4611686018427387904 by omega)
 have ed:=RT s.2.2.2.1 (s.2.2.2.2.2.2.1.getD i zS).2.2.1 hc
 have hh (x:Int):Wh.q77 x=some (Int.tmod x 2,()):=rfl
 have he:∃v,AM (zR s.2.2.2.1.2.1 (s.2.2.2.2.2.2.1.getD i zS).2.2.1)=v∧decide (v≥0)=(zR s.2.2.2.1.2.1 (s.2.2.2.2.2.2.1.getD i zS).2.2.1).isSome∧(!decide (v≥0) || decide (0≤v))=true∧(!decide (v≥0) || decide (v<(s.2.2.2.1.2.1.length:Int)))=true ∧
   (bif decide (v≥0) then(s.2.2.2.1.2.1.getD (Int.toNat v) z0).1 != Int.tmod (s.2.2.2.2.2.2.1.getD i zS).1 2 else false)=GJ s.2.2.2.1 (s.2.2.2.2.2.2.1.getD i zS):=by
  unfold GJ
  cases e:zR s.2.2.2.1.2.1 (s.2.2.2.2.2.2.1.getD i zS).2.2.1 with
  |none=>exact⟨-1,rfl,rfl,rfl,rfl,rfl⟩
  |some k=>
   have:=Nu e
   have d:decide ((k:Int)≥0)=true:=decide_eq_true (by omega)
   refine⟨(k:Int),rfl,d,by rw[g0,Bool.or_true],by rw[gl this,Bool.or_true],?_⟩
   rw[d];rfl
 obtain⟨v,hv,_,A1,hv3,hv4⟩:=he
 rw[hv] at ed
 have fin (A B C D:Bool) (X Y:Option ((((Int)×(Unit)×(List (fT.D))×(Int))×((ct.D)))⊕((((Bool))×(Unit))⊕((Unit)×(Unit))))) (h:(A || (B || C))=D):(bif A then X else bif B then X else bif C then X else Y)=if D=true then X else Y:=by subst h;cases A<;>cases B<;>cases C<;>rfl
 have bool8 (a b c d e f g h:Bool):((((b || !a) || !c) || !d) || (h || ((!e || !f) || !g)))=(((((((!a || b) || !c) || !d) || !e) || !f) || !g) || h):=by
  cases a<;>cases b<;>cases c<;>cases d<;>cases e<;>cases f<;>cases g<;>cases h<;>rfl
 have bool7 (a c d e f g h:Bool):(((!a || !c) || !d) || (h || ((!e || !f) || !g)))=((((((!a || !c) || !d) || !e) || !f) || !g) || h):=by
  cases a<;>cases c<;>cases d<;>cases e<;>cases f<;>cases g<;>cases h<;>rfl
 rcases Nat.eq_zero_or_pos i with h0|h0
 ·subst h0
  have d1:decide (((0:Nat):Int)>0)=false:=rfl
  unfold Be G4
  unfold z0 at hv4
  unfold zS at ed hv4 ⊢
  simp only[Wh.BH,gl hi,g0,Int.toNat_natCast,Kf,Wh.PU _ _ (Kf _),yP,Wh.zg _ _ (yP _ _ _),ed,Wh.EI _ _ ed,hh,Wh.Qi _ _ (hh _),A1,hv3,hv4,d1,nQ,Bool.or_true,Bool.not_false,Bool.true_or,Bool.or_false,iy,Bool.and_self,cond_true,cond_false,w]
  refine fin _ _ _ _ _ _ ?_
  simp only[Kb]
  exact bool7 _ _ _ _ _ _ _
 ·obtain⟨m,rfl⟩:∃m,i=m+1:=⟨i-1,by omega⟩
  have d1:decide (((m+1:Nat):Int)>0)=true:=decide_eq_true (by omega)
  have w1:IntKind.wrap .i64 (((m+1:Nat):Int)-1)=(m:Int):=wi (by omega) (by omega)
  unfold Be G4
  unfold z0 at hv4
  unfold zS at ed hv4 ⊢
  simp only[Wh.BH,gl hi,gl (show m<s.2.2.2.2.2.2.1.length by omega),g0,Int.toNat_natCast,w1,Kf,Wh.PU _ _ (Kf _),yP,Wh.zg _ _ (yP _ _ _),ed,Wh.EI _ _ ed,hh,Wh.Qi _ _ (hh _),A1,hv3,hv4,d1,nQ,Bool.or_true,iy,Bool.and_self,cond_true,w]
  refine fin _ _ _ _ _ _ ?_
  simp only[Kb]
  exact bool8 _ _ _ _ _ _ _ _
noncomputable def yz (s:ct.D):List (List UInt8)×Nat:=xU hash s.2.2.1
noncomputable def Kl (s:ct.D):Bool:=(s.2.2.2.1.2.1.length==0&&s.2.2.2.1.1==0&&s.2.2.2.2.1.1.length==0&&s.2.2.2.2.1.2.1==0&&s.2.2.2.2.2.1.length==0&&s.2.2.2.2.2.2.1.length==0)
noncomputable def GM (s:ct.D):Bool:=jS s.2.2.2.2.1.1.length (fun i=> !BX s.2.2.2.1 (s.2.2.2.2.1.1.getD i zF))
noncomputable def No (s:ct.D):Bool:=jS s.2.2.2.2.2.1.length (fun i=> !BW s.2.1 (s.2.2.2.2.2.1.getD i zB))
noncomputable def HC (s:ct.D):Bool:=jS s.2.2.2.2.2.2.1.length (fun i=> !Be s.2.2.2.1 s.2.1 s.2.2.2.2.2.2.1 i)
noncomputable def upV (s:ct.D):Bool:=(yz s).2==s.2.2.1.length&&(decide ((zi (yz s).1).1=s.2.2.2.1)&&(Bp s.2.2.2.2.1&&(s.2.2.2.2.2.1.length==2&&(HC s&&(GM s&&No s)))))
noncomputable def okV (s:ct.D):Bool:=nP s.2.1 0 99999&&(decide (s.2.2.1.length≤9000)&&((zi (yz s).1).2&&(bif s.1 then upV s else Kl s)))
theorem Np {l:List (List UInt8)} (h:(zi l).2=true):yM (zi l).1:=by
 unfold zi at h ⊢
 cases e:Ag (0,[],()) l with
 |none=>rw[e] at h;cases h
 |some c=>exact Rd l _ c Ke e
theorem abk (s:ct.D) (hc:s.2.2.2.1.2.1.length≤9999999) (hl:s.2.2.2.2.2.2.1.length≤9999999):Wh.q41 s=some (HC s,()):=by
 have q:=zQ (r:=Wh.BG) (fun i=>(((i:Int),()),s)) (n:=s.2.2.2.2.2.2.1.length) (p:=fun i=> !Be s.2.2.2.1 s.2.1 s.2.2.2.2.2.2.1 i) (yf:=.inl (false,())) (yt:=.inr ((),())) (fun i hi _ hp=>by
   rw[Vi s hc i hi hl,if_neg (by simpa using hp)]) (fun i hi _ hp=>by
   rw[Vi s hc i hi hl,if_pos (by simpa using hp)]) (by
   have d1:decide ((s.2.2.2.2.2.2.1.length:Int)<(s.2.2.2.2.2.2.1.length:Int))=false:=decide_eq_false (by omega)
   simp only[Wh.BG,d1,cond_false])
 have q':Comes Wh.BG ((0,()),s) _:=q
 simp only[Wh.q41,cb q',cv q',cond_true]
 unfold HC
 cases jS s.2.2.2.2.2.2.1.length (fun i=> !Be s.2.2.2.1 s.2.1 s.2.2.2.2.2.2.1 i)<;>rfl
theorem U7 (s:ct.D) (h:s.2.2.1.length≤9999999):(yz s).1.length≤9999999∧∀r∈(yz s).1,r.length≤9999999:=by
 obtain⟨h1,h2,h3⟩:=vQ hash Aj (s.2.2.1.length+1) s.2.2.1 0
 refine⟨?_,fun r hr=>?_⟩
 ·change (eE hash (s.2.2.1.length+1) s.2.2.1 0).1.length≤9999999;omega
 ·have:=h3 r hr;omega
theorem abt (s:ct.D) (S:Ae s):Wh.q67 s=some (okV s,()):=by
 have Av:=S.log
 have hbk:=S.bks
 have hsv:=S.srv
 have hfr:s.2.2.2.2.1.1.length≤1048576:=S.C5
 have hct:s.2.2.2.1.2.1.length≤1048576:=S.cat
 have a:=ND s.2.2.1 (by omega)
 obtain⟨r1,r2⟩:=U7 s (by omega)
 have b:=abo (yz s).1 r1 r2
 unfold okV
 change Wh.A7 s.2.2.1=some (((yz s).1,((yz s).2:Int)),()) at a
 have hle:decide ((s.2.2.1.length:Int)>9000) = !decide (s.2.2.1.length≤9000):=by
  by_cases h:s.2.2.1.length≤9000
  ·rw[decide_eq_true h,decide_eq_false (by omega)];rfl
  ·rw[decide_eq_false h,decide_eq_true (by omega)];rfl
 have Bk (x y:Nat):((x:Int)==(y:Int))=(x==y):=by rw[Bool.eq_iff_iff,beq_iff_eq,beq_iff_eq];omega
 have N_ (x:Nat):((x:Int)==0)=(x==0):=Bk x 0
 have Oa (x:Nat):((x:Int) != 2) = !(x==2):=by rw[←Bk x 2];rfl
 simp only[Wh.q67,Am,Wh.y9 _ _ (Am _ _ _),hle,nQ,iy,cond_true]
 cases nP s.2.1 0 99999 with
 |false=>rfl
 |true=>
 cases decide (s.2.2.1.length≤9000) with
 |false=>rfl
 |true=>
 simp only[Bool.not_true,cond_false,Bool.true_and]
 cases cS:s.1 with
 |false=>
  have sy:Wh.q93 s=some ((zi (yz s).1).2,()):=by
   simp only[Wh.q93,a,Wh.G7 _ _ a,b,Wh.O5 _ _ b,nQ,iy,cond_true]
  simp only[Bool.not_false,cond_true,cond_false,sy,Wh.q93_v _ _ sy,Bool.or_true,N_,Kl]
  congr 2
  cases (zi (yz s).1).2<;>cases (s.2.2.2.1.2.1.length==0)<;>cases (s.2.2.2.1.1==0)<;>cases (s.2.2.2.2.1.1.length==0)<;>cases (s.2.2.2.2.1.2.1==0)<;>cases (s.2.2.2.2.2.1.length==0)<;>cases (s.2.2.2.2.2.2.1.length==0)<;>rfl
 |true=>
  have sm:=abw (zi (yz s).1).1 s.2.2.2.1
  have po:=abu s.2.2.2.2.1 (by omega)
  have sv:=abk s (by omega) (by omega)
  have e1:(((yz s).2:Int) != (s.2.2.1.length:Int)) = !((yz s).2==s.2.2.1.length):=by rw[←Bk];rfl
  simp only[Bool.not_true,cond_false,cond_true,a,Wh.G7 _ _ a,b,Wh.O5 _ _ b,po,Wh.TL _ _ po,sv,Wh.q41_v _ _ sv,Bool.or_true,e1,Oa]
  unfold upV
  cases hcat:(zi (yz s).1).2 with
  |false=>simp only[Bool.not_false,cond_true,Bool.not_true,Bool.true_or,Bool.and_self,Bool.false_and]
  |true=>
  cases hrd:((yz s).2==s.2.2.1.length) with
  |false=>simp only[Bool.not_false,cond_true,cond_false,Bool.not_true,Bool.true_or,Bool.and_self,Bool.false_and,Bool.and_false]
  |true=>
  have I:=Np hcat
  have hI:=I.len
  have sm':=sm (by omega)
  simp only[sm',Wh.q92_v _ _ sm',Bool.not_true,Bool.not_false,cond_false,cond_true,Bool.or_true,Bool.true_and,Bool.and_self]
  by_cases hsame:(zi (yz s).1).1=s.2.2.2.1
  ·rw[decide_eq_true hsame]
   rw[hsame] at I
   cases hpo:Bp s.2.2.2.2.1 with
   |false=>rfl
   |true=>
   cases bZ:(s.2.2.2.2.2.1.length==2) with
   |false=>rfl
   |true=>
   cases hsr:HC s with
   |false=>rfl
   |true=>
    simp only[Bool.not_true,cond_false,Bool.true_and]
    have q:=zQ (r:=Wh.AF) (fun i=>(((i:Int),()),s)) (n:=s.2.2.2.2.1.1.length) (p:=fun i=> !BX s.2.2.2.1 (s.2.2.2.2.1.1.getD i zF)) (yf:=.inl (false,())) (yt:=.inr ((),s)) (fun i hi _ hp=>by
      rw[Vg s I i hi (by omega),if_neg (by simpa using hp)]) (fun i hi _ hp=>by
      rw[Vg s I i hi (by omega),if_pos (by simpa using hp)]) (by
      have d1:decide ((s.2.2.2.2.1.1.length:Int)<(s.2.2.2.2.1.1.length:Int))=false:=decide_eq_false (by omega)
      simp only[Wh.AF,d1,cond_false])
    have q':Comes Wh.AF ((0,()),s) _:=q
    have q2:=zQ (r:=Wh.CA) (fun i=>(((i:Int),()),s)) (n:=s.2.2.2.2.2.1.length) (p:=fun i=> !BW s.2.1 (s.2.2.2.2.2.1.getD i zB)) (yf:=.inl (false,())) (yt:=.inr ((),())) (fun i hi _ hp=>by
      rw[Vc s i hi (by omega),if_neg (by simpa using hp)]) (fun i hi _ hp=>by
      rw[Vc s i hi (by omega),if_pos (by simpa using hp)]) (by
      have d1:decide ((s.2.2.2.2.2.1.length:Int)<(s.2.2.2.2.2.1.length:Int))=false:=decide_eq_false (by omega)
      simp only[Wh.CA,d1,cond_false])
    have Cl:Comes Wh.CA ((0,()),s) _:=q2
    simp only[cb q',cv q',cond_true]
    unfold GM No
    cases hf:jS s.2.2.2.2.1.1.length (fun i=> !BX s.2.2.2.1 (s.2.2.2.2.1.1.getD i zF)) with
    |false=>simp[sumC]
    |true=>
     simp only[if_true,sumC,cb Cl,cv Cl,cond_true,Bool.true_and]
     cases hb:jS s.2.2.2.2.2.1.length (fun i=> !BW s.2.1 (s.2.2.2.2.2.1.getD i zB))<;>rfl
  ·rw[decide_eq_false hsame];rfl
theorem VX (s:ct.D) (I:yM s.2.2.2.1) (hp:s.2.2.2.2.1.1.length≤9999999):Wh.q50 (s.2.2.2.2.1,s.2.2.2.1)=some (Bp s.2.2.2.2.1&&GM s,()):=by
 have a:=WJ s.2.2.2.2.1 hp
 cases hv:Bp s.2.2.2.2.1 with
 |false=>
  rw[hv] at a
  simp only[Wh.q50,a,Wh.Ov _ _ a,nQ,iy,cond_true,Bool.not_false,Bool.false_and]
 |true=>
  have hok:∀i,i<s.2.2.2.2.1.1.length→okF (s.2.2.2.2.1.1.getD i zF)=true:=by
   unfold Bp at hv
   simp only[Bool.and_eq_true,beq_iff_eq] at hv
   intro i hi
   have:=oL.1 hv.2.1 i (by omega)
   unfold z8 at this
   rw[Bool.and_eq_true] at this
   exact this.1
  rw[hv] at a
  have q:=zQ (r:=Wh.AE) (fun i=>(((i:Int),(),s.2.2.2.2.1.1,(s.2.2.2.2.1.1.length:Int)),s.2.2.2.1)) (n:=s.2.2.2.2.1.1.length) (p:=fun i=> !BX s.2.2.2.1 (s.2.2.2.2.1.1.getD i zF)) (yf:=.inl (false,())) (yt:=.inr ((),())) (fun i hi _ hp=>by
    rw[RU s.2.2.2.1 I _ i hi (by omega) (hok i hi),if_neg (by simpa using hp)]) (fun i hi _ hp=>by
    rw[RU s.2.2.2.1 I _ i hi (by omega) (hok i hi),if_pos (by simpa using hp)]) (by
    have d1:decide ((s.2.2.2.2.1.1.length:Int)<(s.2.2.2.2.1.1.length:Int))=false:=decide_eq_false (by omega)
    simp only[Wh.AE,d1,cond_false])
  have q':Comes Wh.AE ((0,(),s.2.2.2.2.1.1,(s.2.2.2.2.1.1.length:Int)),s.2.2.2.1) _:=q
  simp only[Wh.q50,a,Wh.Ov _ _ a,nQ,iy,cond_true,cond_false,Bool.not_true,Bool.true_and,cb q',cv q']
  unfold GM
  cases jS s.2.2.2.2.1.1.length (fun i=> !BX s.2.2.2.1 (s.2.2.2.2.1.1.getD i zF))<;>rfl
theorem WI (s:ct.D) (S:Ae s):Wh.q47 s=some (okV s,()):=by
 have Av:=S.log
 have hbk:=S.bks
 have hsv:=S.srv
 have hfr:s.2.2.2.2.1.1.length≤1048576:=S.C5
 have hct:s.2.2.2.1.2.1.length≤1048576:=S.cat
 have a:=Q1 s.2.2.1 (by omega)
 obtain⟨r1,r2⟩:=U7 s (by omega)
 have b:=WE (yz s).1 r1 r2
 unfold okV
 change Wh.CC s.2.2.1=some (((yz s).1,((yz s).2:Int)),()) at a
 have hle:decide ((s.2.2.1.length:Int)>9000) = !decide (s.2.2.1.length≤9000):=by
  by_cases h:s.2.2.1.length≤9000
  ·rw[decide_eq_true h,decide_eq_false (by omega)];rfl
  ·rw[decide_eq_false h,decide_eq_true (by omega)];rfl
 have Bk (x y:Nat):((x:Int)==(y:Int))=(x==y):=by rw[Bool.eq_iff_iff,beq_iff_eq,beq_iff_eq];omega
 have N_ (x:Nat):((x:Int)==0)=(x==0):=Bk x 0
 have Oa (x:Nat):((x:Int) != 2) = !(x==2):=by rw[←Bk x 2];rfl
 simp only[Wh.q47,yP,Wh.zg _ _ (yP _ _ _),hle,nQ,iy,cond_true]
 cases nP s.2.1 0 99999 with
 |false=>rfl
 |true=>
 cases decide (s.2.2.1.length≤9000) with
 |false=>rfl
 |true=>
 simp only[Bool.not_true,cond_false,Bool.true_and,a,Wh.Qf _ _ a,b,Wh.TU _ _ b,cond_true]
 cases hcat:(zi (yz s).1).2 with
 |false=>rfl
 |true=>
 simp only[Bool.not_true,cond_false,Bool.true_and]
 cases cS:s.1 with
 |false=>
  simp only[Bool.not_false,cond_true,cond_false,N_,Kl]
  congr 2
  cases (s.2.2.2.1.2.1.length==0)<;>cases (s.2.2.2.1.1==0)<;>cases (s.2.2.2.2.1.1.length==0)<;>cases (s.2.2.2.2.1.2.1==0)<;>cases (s.2.2.2.2.2.1.length==0)<;>cases (s.2.2.2.2.2.2.1.length==0)<;>rfl
 |true=>
  have I:=Np hcat
  have hI:=I.len
  have sm:=WL (zi (yz s).1).1 s.2.2.2.1 (by omega)
  have e1:(((yz s).2:Int) != (s.2.2.1.length:Int)) = !((yz s).2==s.2.2.1.length):=by rw[←Bk];rfl
  simp only[Bool.not_true,cond_false,cond_true,sm,Wh.q79_v _ _ sm,Bool.or_true,e1,Oa]
  unfold upV
  cases hrd:((yz s).2==s.2.2.1.length) with
  |false=>simp only[Bool.not_false,cond_true,Bool.not_true,Bool.true_or,Bool.and_self,Bool.false_and]
  |true=>
  by_cases hsame:(zi (yz s).1).1=s.2.2.2.1
  ·rw[decide_eq_true hsame]
   rw[hsame] at I
   have fi:=VX s I (by omega)
   simp only[fi,Wh.q50_v _ _ fi,Bool.not_true,cond_false,Bool.or_true,Bool.and_self,cond_true,Bool.true_and]
   cases hpo:Bp s.2.2.2.2.1 with
   |false=>rfl
   |true=>
   cases hfi:GM s with
   |false=>simp only[Bool.and_false,Bool.not_false,cond_true,Bool.false_and]
   |true=>
   cases bZ:(s.2.2.2.2.2.1.length==2) with
   |false=>rfl
   |true=>
    simp only[Bool.not_true,cond_false,Bool.true_and,Bool.and_self]
    have q:=zQ (r:=Wh.Cy) (fun i=>(((i:Int),(),s.2.2.2.2.2.1,(s.2.2.2.2.2.1.length:Int)),s)) (n:=s.2.2.2.2.2.1.length) (p:=fun i=> !BW s.2.1 (s.2.2.2.2.2.1.getD i zB)) (yf:=.inl (false,())) (yt:=.inr ((),s)) (fun i hi _ hp=>by
      rw[RQ s _ i hi (by omega),if_neg (by simpa using hp)]) (fun i hi _ hp=>by
      rw[RQ s _ i hi (by omega),if_pos (by simpa using hp)]) (by
      have d1:decide ((s.2.2.2.2.2.1.length:Int)<(s.2.2.2.2.2.1.length:Int))=false:=decide_eq_false (by omega)
      simp only[Wh.Cy,d1,cond_false])
    have q':Comes Wh.Cy ((0,(),s.2.2.2.2.2.1,(s.2.2.2.2.2.1.length:Int)),s) _:=q
    have q2:=zQ (r:=Wh.BH) (fun i=>(((i:Int),(),s.2.2.2.2.2.2.1,(s.2.2.2.2.2.2.1.length:Int)),s)) (n:=s.2.2.2.2.2.2.1.length) (p:=fun i=> !Be s.2.2.2.1 s.2.1 s.2.2.2.2.2.2.1 i) (yf:=.inl (false,())) (yt:=.inr ((),())) (fun i hi _ hp=>by
      rw[RY s (by omega) i hi (by omega),if_neg (by simpa using hp)]) (fun i hi _ hp=>by
      rw[RY s (by omega) i hi (by omega),if_pos (by simpa using hp)]) (by
      have d1:decide ((s.2.2.2.2.2.2.1.length:Int)<(s.2.2.2.2.2.2.1.length:Int))=false:=decide_eq_false (by omega)
      simp only[Wh.BH,d1,cond_false])
    have Cl:Comes Wh.BH ((0,(),s.2.2.2.2.2.2.1,(s.2.2.2.2.2.2.1.length:Int)),s) _:=q2
    simp only[cb q',cv q',cond_true]
    unfold No HC
    cases hf:jS s.2.2.2.2.2.1.length (fun i=> !BW s.2.1 (s.2.2.2.2.2.1.getD i zB)) with
    |false=>simp[sumC]
    |true=>
     simp only[if_true,sumC,cb Cl,cv Cl,cond_true,Bool.and_true]
     cases hb:jS s.2.2.2.2.2.2.1.length (fun i=> !Be s.2.2.2.1 s.2.1 s.2.2.2.2.2.2.1 i)<;>rfl
  ·rw[decide_eq_false hsame];rfl
end Pl
open Go Go.Ab
namespace Pl
section
variable {α:Type} (yH:α→Int→α) (n1:α→Nat)
def r_:List α→Int→List α
 | [],_=>[]
 |a::l,k=>yH a k::r_ l (k+n1 a)
def nE (l:List α):Nat:=(l.map n1).sum
def ks (k:Int) (l:List α) (i:Nat):Int:=k+(nE n1 (l.take i):Nat)
def part (k:Int) (l:List α) (i:Nat):List α:=r_ yH n1 (l.take i) k++l.drop i
theorem zl:∀(l:List α) (k:Int),(r_ yH n1 l k).length=l.length
 | [],_=>rfl
 |_::l,k=>by simp[r_,zl l]
theorem N9:∀(p q:List α) (k:Int),r_ yH n1 (p++q) k=r_ yH n1 p k++r_ yH n1 q (k+(nE n1 p:Nat))
 | [],q,k=>by simp[r_,nE]
 |a::p,q,k=>by
  simp only[List.cons_append,r_,N9 p q,nE,List.map_cons,List.sum_cons]
  rw[show k+(n1 a:Int)+((p.map n1).sum:Nat)=k+((n1 a+(p.map n1).sum:Nat):Int) by omega]
theorem abB (l:List α) (i:Nat) (h:i<l.length):l=l.take i++l[i]::l.drop (i+1):=by
 rw[List.getElem_cons_drop,List.take_append_drop]
theorem Vk (l:List α) (i:Nat) (h:i<l.length):l.take (i+1)=l.take i ++ [l[i]]:=by
 rw[List.take_add_one,List.getElem?_eq_getElem h];rfl
theorem CZ (k:Int) (l:List α):ks n1 k l 0=k:=by simp[ks,nE]
theorem BZ (k:Int) (l:List α) (i:Nat) (h:i<l.length):ks n1 k l (i+1)=ks n1 k l i+n1 l[i]:=by
 simp only[ks,Vk l i h,nE,List.map_append,List.sum_append,List.map_cons,List.map_nil,List.sum_cons,List.sum_nil]
 omega
theorem CX (k:Int) (l:List α):ks n1 k l l.length=k+(nE n1 l:Nat):=by simp[ks]
theorem BY (k:Int) (l:List α) (i:Nat):k≤ks n1 k l i∧ks n1 k l i≤k+(nE n1 l:Nat):=by
 have:nE n1 (l.take i)≤nE n1 l:=by
  have e:nE n1 l=nE n1 (l.take i)+nE n1 (l.drop i):=by
   unfold nE
   rw[←List.sum_append,←List.map_append,List.take_append_drop]
  omega
 unfold ks
 omega
theorem CY (k:Int) (l:List α) (i:Nat) (h:i<l.length):ks n1 k l i+n1 l[i]≤k+(nE n1 l:Nat):=by
 rw[←BZ n1 k l i h]
 exact(BY n1 k l (i+1)).2
theorem KT (k:Int) (l:List α):part yH n1 k l 0=l:=by simp[part,r_]
theorem FH (k:Int) (l:List α):part yH n1 k l l.length=r_ yH n1 l k:=by simp[part]
theorem KR (k:Int) (l:List α) (i:Nat) (h:i≤l.length):(part yH n1 k l i).length=l.length:=by simp[part,zl];omega
theorem KQ (k:Int) (l:List α) (i:Nat) (z:α) (h:i<l.length):(part yH n1 k l i).getD i z=l[i]:=by
 have hl:(r_ yH n1 (l.take i) k).length=i:=by rw[zl];simp;omega
 unfold part
 rw[List.getD_eq_getElem?_getD,List.getElem?_append_right (by omega),hl,Nat.sub_self,List.getElem?_drop,List.getElem?_eq_getElem (by omega)]
 simp
theorem KS (k:Int) (l:List α) (i:Nat) (h:i<l.length):(part yH n1 k l i).set i (yH l[i] (ks n1 k l i))=part yH n1 k l (i+1):=by
 have hl:(r_ yH n1 (l.take i) k).length=i:=by rw[zl];simp;omega
 unfold part
 rw[Vk l i h,N9,←List.getElem_cons_drop h,List.set_append_right _ _ (by omega),hl,Nat.sub_self,List.set_cons_zero]
 simp[r_,ks]
theorem KM (k:Int) (l:List α) (i:Nat) (z:α) (h:i<l.length):(r_ yH n1 l k).getD i z=yH l[i] (ks n1 k l i):=by
 rw[←FH,List.getD_eq_getElem?_getD]
 have hl:(r_ yH n1 (l.take i) k).length=i:=by rw[zl];simp;omega
 have e:r_ yH n1 l k=r_ yH n1 (l.take i) k++yH l[i] (ks n1 k l i)::r_ yH n1 (l.drop (i+1)) (ks n1 k l i+n1 l[i]):=by
  conv=>lhs;rw[abB l i h]
  rw[N9]
  rfl
 rw[FH,e,List.getElem?_append_right (by omega),hl,Nat.sub_self]
 rfl
end
noncomputable def mt (k:Int):List UInt8:=(Wh.ES k).1
theorem XR:∀(d:Nat) (k:Int) (out:List UInt8),0≤k→k<(10:Int) ^ d→d≤18→out.length+d≤100→∃s:List UInt8,s.length≤100∧Comes Wh.DC ((k,out),()) (s,()):=by
 intro d
 induction d with
 |zero=>
  intro k out h0 h1 _ h2
  have hk:k=0:=by simp at h1;omega
  subst hk
  exact⟨out,by omega,.out (by simp[Wh.DC])⟩
 |succ d ih=>
  intro k out h0 h1 hd h2
  by_cases hk:k>0
  ·have hq:k.tdiv 10<(10:Int) ^ d:=by
    rw[Int.tdiv_eq_ediv_of_nonneg h0]
    rw[Int.pow_succ] at h1
    omega
   have hq0:0≤k.tdiv 10:=by rw[Int.tdiv_eq_ediv_of_nonneg h0];omega
   have hp:(10:Int) ^ d≤(10:Int) ^ 18:=by
    have:(10:Nat) ^ d≤10 ^ 18:=Nat.pow_le_pow_right (by decide) (by omega)
    exact_mod_cast this
   have hw:IntKind.wrap .i64 (k.tdiv 10)=k.tdiv 10:=by rw[wrap64]<;>omega
   obtain⟨s,hs,hc⟩:=ih (k.tdiv 10) (qp [IntKind.wrap .u8 (IntKind.wrap .i64 (48+k.tmod 10))]++out) hq0 hq (by omega) (by simp[qp];omega)
   refine⟨s,hs,.again (x':=((k.tdiv 10,qp [IntKind.wrap .u8 (IntKind.wrap .i64 (48+k.tmod 10))]++out),())) ?_ hc⟩
   have hl:1+out.length≤dh:=by unfold dh;omega
   simp[Wh.DC,hk,hl,iy,hw]
  ·exact⟨out,by omega,.out (by simp[Wh.DC,hk])⟩
def yX:Int:=1000000000000000000
theorem KN (k:Int) (h0:0≤k) (h1:k<yX):Wh.AV k=some (mt k,()):=by
 have main:∃s,Wh.AV k=some (s,()):=by
  by_cases hk:k≤0
  ·exact⟨[109,48],by simp[Wh.AV,hk]⟩
  ·obtain⟨s,hs,hc⟩:=XR 18 k [] h0 (by simpa[yX] using h1) (by omega) (by simp)
   have hl:1+s.length≤dh:=by unfold dh;omega
   exact⟨109::s,by simp[Wh.AV,hk,cb hc,cv hc,iy,hl]⟩
 obtain⟨s,hs⟩:=main
 rw[hs,mt,Wh.FX _ _ hs]
theorem xd {k:Int} (h0:0≤k) (h1:k≤yX):IntKind.wrap .i64 (k+1)=k+1:=by unfold yX at h1;rw[wrap64]<;>omega
end Pl
open Go Go.Ab
namespace Pl
noncomputable def mkItem (_:an.D) (k:Int):an.D:=(k,mt (k+1),k+2,mt (k+3),())
def wX (_:an.D):Nat:=4
theorem XN (a:List an.D) (k:Int) (h0:0≤k) (h1:k+(nE wX a:Nat)<yX) (hl:a.length≤4611686018427387904):Wh.q37 (a,k)=some (k+(nE wX a:Nat),r_ mkItem wX a k,()):=by
 have hc:Comes Wh.Dw (((0:Int),(),k),a) (k+(nE wX a:Nat),r_ mkItem wX a k):=by
  have:=xQ (r:=Wh.Dw) (st:=fun i=>(((i:Int),(),ks wX k a i),part mkItem wX k a i)) (n:=a.length) (y:=(k+(nE wX a:Nat),r_ mkItem wX a k)) ?_ ?_ 0 (Nat.zero_le _)
  ·simpa[CZ,KT] using this
  ·intro i hi
   have b1:=BY wX k a i
   have b2:=CY wX k a i hi
   have b3:wX a[i]=4:=rfl
   have e2:=mb (i:=i) (by omega)
   have e4:=BZ wX k a i hi
   have e3:=KS mkItem wX k a i hi
   have pl:=KR mkItem wX k a i (Nat.le_of_lt hi)
   have pg:=fun z=>KQ mkItem wX k a i z hi
   have hi':i<(part mkItem wX k a i).length:=by omega
   simp only[mkItem] at e3
   rw[b3] at e4
   generalize ks wX k a i=q at *
   have w0:=xd (k:=q) (by omega) (by omega)
   have w1:=xd (k:=q+1) (by omega) (by omega)
   have w2:=xd (k:=q+2) (by omega) (by omega)
   have w3:=xd (k:=q+3) (by omega) (by omega)
   have a1:q+1+1=q+2:=by omega
   have a2:q+2+1=q+3:=by omega
   have a3:q+3+1=ks wX k a (i+1):=by rw[e4];omega
   rw[a1] at w1
   rw[a2] at w2
   rw[a3] at w3
   have t1:=KN (q+1) (by omega) (by omega)
   have t3:=KN (q+3) (by omega) (by omega)
   have c1:decide ((i:Int)<(a.length:Int))=true:=by simpa using hi
   simp only[Wh.Dw,Int.toNat_natCast,pl,pg,Kr _ _ _ _ hi',LG,List.length_set,c1,cond_true,iy,Bool.and_self,Int.natCast_nonneg,decide_true,nQ,
    w0,a1,w1,a2,w2,a3,w3,Wh.FX _ _ t1,t1,Wh.FX _ _ t3,t3,e2,e3]
  ·simp[Wh.Dw,CX,FH,zl]
 simp[Wh.q37,cb hc,cv hc]
theorem Wx (a:List an.D) (k:Int) (h0:0≤k) (h1:k+(nE wX a:Nat)<yX) (hl:a.length≤4611686018427387904):Wh.q36 (r_ mkItem wX a k,k)=some (k+(nE wX a:Nat),()):=by
 have hc:Comes Wh.Dv (((0:Int),r_ mkItem wX a k,k),()) (.inr (k+(nE wX a:Nat),())):=by
  have:=xQ (r:=Wh.Dv) (st:=fun i=>(((i:Int),r_ mkItem wX a k,ks wX k a i),())) (n:=a.length) (y:=.inr (k+(nE wX a:Nat),())) ?_ ?_ 0 (Nat.zero_le _)
  ·simpa[CZ] using this
  ·intro i hi
   have b1:=BY wX k a i
   have b2:=CY wX k a i hi
   have b3:wX a[i]=4:=rfl
   have e2:=mb (i:=i) (by omega)
   have e4:=BZ wX k a i hi
   have pl:=zl mkItem wX a k
   have pg:=fun z=>KM mkItem wX k a i z hi
   simp only[mkItem] at pg
   rw[b3] at e4
   generalize ks wX k a i=q at *
   have w0:=xd (k:=q) (by omega) (by omega)
   have w1:=xd (k:=q+1) (by omega) (by omega)
   have w2:=xd (k:=q+2) (by omega) (by omega)
   have w3:=xd (k:=q+3) (by omega) (by omega)
   have a1:q+1+1=q+2:=by omega
   have a2:q+2+1=q+3:=by omega
   have a3:q+3+1=ks wX k a (i+1):=by rw[e4];omega
   rw[a1] at w1
   rw[a2] at w2
   rw[a3] at w3
   have t1:=KN (q+1) (by omega) (by omega)
   have t3:=KN (q+3) (by omega) (by omega)
   have c1:decide ((i:Int)<(a.length:Int))=true:=by simpa using hi
   have d1:(mt (q+1)==mt (q+1))=true:=by simp
   have d3:(mt (q+3)==mt (q+3))=true:=by simp
   have bn:∀x:Int,(x != x)=false:=by intro x;simp
   simp only[Wh.Dv,Int.toNat_natCast,pl,pg,c1,cond_true,cond_false,iy,Bool.and_self,Int.natCast_nonneg,decide_true,nQ,bn,
    w0,a1,w1,a2,w2,a3,w3,Wh.FX _ _ t1,t1,Wh.FX _ _ t3,t3,e2,d1,d3,Bool.not_true]
  ·simp[Wh.Dv,zl,CX]
 simp[Wh.q36,cb hc,cv hc,sumC]
def zD (_:fN.D) (k:Int):fN.D:=(k,k+1,k+2,k+3,())
def tn (_:fN.D):Nat:=4
theorem XK (a:List fN.D) (k:Int) (h0:0≤k) (h1:k+(nE tn a:Nat)<yX) (hl:a.length≤4611686018427387904):Wh.q17 (a,k)=some (k+(nE tn a:Nat),r_ zD tn a k,()):=by
 have hc:Comes Wh.Dp (((0:Int),(),k),a) (k+(nE tn a:Nat),r_ zD tn a k):=by
  have:=xQ (r:=Wh.Dp) (st:=fun i=>(((i:Int),(),ks tn k a i),part zD tn k a i)) (n:=a.length) (y:=(k+(nE tn a:Nat),r_ zD tn a k)) ?_ ?_ 0 (Nat.zero_le _)
  ·simpa[CZ,KT] using this
  ·intro i hi
   have b1:=BY tn k a i
   have b2:=CY tn k a i hi
   have b3:tn a[i]=4:=rfl
   have e2:=mb (i:=i) (by omega)
   have e4:=BZ tn k a i hi
   have e3:=KS zD tn k a i hi
   have pl:=KR zD tn k a i (Nat.le_of_lt hi)
   have pg:=fun z=>KQ zD tn k a i z hi
   have hi':i<(part zD tn k a i).length:=by omega
   simp only[zD] at e3
   rw[b3] at e4
   generalize ks tn k a i=q at *
   have w0:=xd (k:=q) (by omega) (by omega)
   have w1:=xd (k:=q+1) (by omega) (by omega)
   have w2:=xd (k:=q+2) (by omega) (by omega)
   have w3:=xd (k:=q+3) (by omega) (by omega)
   have a1:q+1+1=q+2:=by omega
   have a2:q+2+1=q+3:=by omega
   have a3:q+3+1=ks tn k a (i+1):=by rw[e4];omega
   rw[a1] at w1
   rw[a2] at w2
   rw[a3] at w3
   have c1:decide ((i:Int)<(a.length:Int))=true:=by simpa using hi
   simp only[Wh.Dp,Int.toNat_natCast,pl,pg,Kr _ _ _ _ hi',LG,List.length_set,c1,cond_true,iy,Bool.and_self,Int.natCast_nonneg,decide_true,w0,a1,w1,a2,w2,a3,w3,e2,e3]
  ·simp[Wh.Dp,CX,FH,zl]
 simp[Wh.q17,cb hc,cv hc]
theorem Wu (a:List fN.D) (k:Int) (h0:0≤k) (h1:k+(nE tn a:Nat)<yX) (hl:a.length≤4611686018427387904):Wh.q16 (r_ zD tn a k,k)=some (k+(nE tn a:Nat),()):=by
 have hc:Comes Wh.Dn (((0:Int),r_ zD tn a k,k),()) (.inr (k+(nE tn a:Nat),())):=by
  have:=xQ (r:=Wh.Dn) (st:=fun i=>(((i:Int),r_ zD tn a k,ks tn k a i),())) (n:=a.length) (y:=.inr (k+(nE tn a:Nat),())) ?_ ?_ 0 (Nat.zero_le _)
  ·simpa[CZ] using this
  ·intro i hi
   have b1:=BY tn k a i
   have b2:=CY tn k a i hi
   have b3:tn a[i]=4:=rfl
   have e2:=mb (i:=i) (by omega)
   have e4:=BZ tn k a i hi
   have pl:=zl zD tn a k
   have pg:=fun z=>KM zD tn k a i z hi
   simp only[zD] at pg
   rw[b3] at e4
   generalize ks tn k a i=q at *
   have w0:=xd (k:=q) (by omega) (by omega)
   have w1:=xd (k:=q+1) (by omega) (by omega)
   have w2:=xd (k:=q+2) (by omega) (by omega)
   have w3:=xd (k:=q+3) (by omega) (by omega)
   have a1:q+1+1=q+2:=by omega
   have a2:q+2+1=q+3:=by omega
   have a3:q+3+1=ks tn k a (i+1):=by rw[e4];omega
   rw[a1] at w1
   rw[a2] at w2
   rw[a3] at w3
   have c1:decide ((i:Int)<(a.length:Int))=true:=by simpa using hi
   have bn:∀x:Int,(x != x)=false:=by intro x;simp
   simp only[Wh.Dn,Int.toNat_natCast,pl,pg,c1,cond_true,cond_false,iy,Bool.and_self,Int.natCast_nonneg,decide_true,bn,
    w0,a1,w1,a2,w2,a3,w3,e2]
  ·simp[Wh.Dn,zl,CX]
 simp[Wh.q16,cb hc,cv hc,sumC]
def zG (_:fT.D) (k:Int):fT.D:=(k,k+1,k+2,k+3,k+4,k+5,())
def w7 (_:fT.D):Nat:=6
theorem XP (a:List fT.D) (k:Int) (h0:0≤k) (h1:k+(nE w7 a:Nat)<yX) (hl:a.length≤4611686018427387904):Wh.q26 (a,k)=some (k+(nE w7 a:Nat),r_ zG w7 a k,()):=by
 have hc:Comes Wh.Du (((0:Int),(),k),a) (k+(nE w7 a:Nat),r_ zG w7 a k):=by
  have:=xQ (r:=Wh.Du) (st:=fun i=>(((i:Int),(),ks w7 k a i),part zG w7 k a i)) (n:=a.length) (y:=(k+(nE w7 a:Nat),r_ zG w7 a k)) ?_ ?_ 0 (Nat.zero_le _)
  ·simpa[CZ,KT] using this
  ·intro i hi
   have b1:=BY w7 k a i
   have b2:=CY w7 k a i hi
   have b3:w7 a[i]=6:=rfl
   have e2:=mb (i:=i) (by omega)
   have e4:=BZ w7 k a i hi
   have e3:=KS zG w7 k a i hi
   have pl:=KR zG w7 k a i (Nat.le_of_lt hi)
   have pg:=fun z=>KQ zG w7 k a i z hi
   have hi':i<(part zG w7 k a i).length:=by omega
   simp only[zG] at e3
   rw[b3] at e4
   generalize ks w7 k a i=q at *
   have w0:=xd (k:=q) (by omega) (by omega)
   have w1:=xd (k:=q+1) (by omega) (by omega)
   have w2:=xd (k:=q+2) (by omega) (by omega)
   have w3:=xd (k:=q+3) (by omega) (by omega)
   have w4:=xd (k:=q+4) (by omega) (by omega)
   have w5:=xd (k:=q+5) (by omega) (by omega)
   have a1:q+1+1=q+2:=by omega
   have a2:q+2+1=q+3:=by omega
   have a3:q+3+1=q+4:=by omega
   have a4:q+4+1=q+5:=by omega
   have a5:q+5+1=ks w7 k a (i+1):=by rw[e4];omega
   rw[a1] at w1
   rw[a2] at w2
   rw[a3] at w3
   rw[a4] at w4
   rw[a5] at w5
   have c1:decide ((i:Int)<(a.length:Int))=true:=by simpa using hi
   simp only[Wh.Du,Int.toNat_natCast,pl,pg,Kr _ _ _ _ hi',LG,List.length_set,c1,cond_true,iy,Bool.and_self,Int.natCast_nonneg,decide_true,w0,a1,w1,a2,w2,a3,w3,a4,w4,a5,w5,e2,e3]
  ·simp[Wh.Du,CX,FH,zl]
 simp[Wh.q26,cb hc,cv hc]
theorem Wz (a:List fT.D) (k:Int) (h0:0≤k) (h1:k+(nE w7 a:Nat)<yX) (hl:a.length≤4611686018427387904):Wh.q23 (r_ zG w7 a k,k)=some (k+(nE w7 a:Nat),()):=by
 have hc:Comes Wh.Dr (((0:Int),r_ zG w7 a k,k),()) (.inr (k+(nE w7 a:Nat),())):=by
  have:=xQ (r:=Wh.Dr) (st:=fun i=>(((i:Int),r_ zG w7 a k,ks w7 k a i),())) (n:=a.length) (y:=.inr (k+(nE w7 a:Nat),())) ?_ ?_ 0 (Nat.zero_le _)
  ·simpa[CZ] using this
  ·intro i hi
   have b1:=BY w7 k a i
   have b2:=CY w7 k a i hi
   have b3:w7 a[i]=6:=rfl
   have e2:=mb (i:=i) (by omega)
   have e4:=BZ w7 k a i hi
   have pl:=zl zG w7 a k
   have pg:=fun z=>KM zG w7 k a i z hi
   simp only[zG] at pg
   rw[b3] at e4
   generalize ks w7 k a i=q at *
   have w0:=xd (k:=q) (by omega) (by omega)
   have w1:=xd (k:=q+1) (by omega) (by omega)
   have w2:=xd (k:=q+2) (by omega) (by omega)
   have w3:=xd (k:=q+3) (by omega) (by omega)
   have w4:=xd (k:=q+4) (by omega) (by omega)
   have w5:=xd (k:=q+5) (by omega) (by omega)
   have a1:q+1+1=q+2:=by omega
   have a2:q+2+1=q+3:=by omega
   have a3:q+3+1=q+4:=by omega
   have a4:q+4+1=q+5:=by omega
   have a5:q+5+1=ks w7 k a (i+1):=by rw[e4];omega
   rw[a1] at w1
   rw[a2] at w2
   rw[a3] at w3
   rw[a4] at w4
   rw[a5] at w5
   have c1:decide ((i:Int)<(a.length:Int))=true:=by simpa using hi
   have bn:∀x:Int,(x != x)=false:=by intro x;simp
   simp only[Wh.Dr,Int.toNat_natCast,pl,pg,c1,cond_true,cond_false,iy,Bool.and_self,Int.natCast_nonneg,decide_true,bn,
    w0,a1,w1,a2,w2,a3,w3,a4,w4,a5,w5,e2]
  ·simp[Wh.Dr,zl,CX]
 simp[Wh.q23,cb hc,cv hc,sumC]
def zE (_:e_.D) (k:Int):e_.D:=(k,k+1,k+2,k+3,Int.tmod (k+4) 3==0,())
def wh (_:e_.D):Nat:=5
theorem XM (a:List e_.D) (k:Int) (h0:0≤k) (h1:k+(nE wh a:Nat)<yX) (hl:a.length≤4611686018427387904):Wh.q25 (a,k)=some (k+(nE wh a:Nat),r_ zE wh a k,()):=by
 have hc:Comes Wh.Dt (((0:Int),(),k),a) (k+(nE wh a:Nat),r_ zE wh a k):=by
  have:=xQ (r:=Wh.Dt) (st:=fun i=>(((i:Int),(),ks wh k a i),part zE wh k a i)) (n:=a.length) (y:=(k+(nE wh a:Nat),r_ zE wh a k)) ?_ ?_ 0 (Nat.zero_le _)
  ·simpa[CZ,KT] using this
  ·intro i hi
   have b1:=BY wh k a i
   have b2:=CY wh k a i hi
   have b3:wh a[i]=5:=rfl
   have e2:=mb (i:=i) (by omega)
   have e4:=BZ wh k a i hi
   have e3:=KS zE wh k a i hi
   have pl:=KR zE wh k a i (Nat.le_of_lt hi)
   have pg:=fun z=>KQ zE wh k a i z hi
   have hi':i<(part zE wh k a i).length:=by omega
   simp only[zE] at e3
   rw[b3] at e4
   generalize ks wh k a i=q at *
   have w0:=xd (k:=q) (by omega) (by omega)
   have w1:=xd (k:=q+1) (by omega) (by omega)
   have w2:=xd (k:=q+2) (by omega) (by omega)
   have w3:=xd (k:=q+3) (by omega) (by omega)
   have w4:=xd (k:=q+4) (by omega) (by omega)
   have a1:q+1+1=q+2:=by omega
   have a2:q+2+1=q+3:=by omega
   have a3:q+3+1=q+4:=by omega
   have a4:q+4+1=ks wh k a (i+1):=by rw[e4];omega
   rw[a1] at w1
   rw[a2] at w2
   rw[a3] at w3
   rw[a4] at w4
   have c1:decide ((i:Int)<(a.length:Int))=true:=by simpa using hi
   simp only[Wh.Dt,Int.toNat_natCast,pl,pg,Kr _ _ _ _ hi',LG,List.length_set,c1,cond_true,iy,Bool.and_self,Int.natCast_nonneg,decide_true,w0,a1,w1,a2,w2,a3,w3,a4,w4,e2,e3]
  ·simp[Wh.Dt,CX,FH,zl]
 simp[Wh.q25,cb hc,cv hc]
theorem Ww (a:List e_.D) (k:Int) (h0:0≤k) (h1:k+(nE wh a:Nat)<yX) (hl:a.length≤4611686018427387904):Wh.q22 (r_ zE wh a k,k)=some (k+(nE wh a:Nat),()):=by
 have hc:Comes Wh.Dq (((0:Int),r_ zE wh a k,k),()) (.inr (k+(nE wh a:Nat),())):=by
  have:=xQ (r:=Wh.Dq) (st:=fun i=>(((i:Int),r_ zE wh a k,ks wh k a i),())) (n:=a.length) (y:=.inr (k+(nE wh a:Nat),())) ?_ ?_ 0 (Nat.zero_le _)
  ·simpa[CZ] using this
  ·intro i hi
   have b1:=BY wh k a i
   have b2:=CY wh k a i hi
   have b3:wh a[i]=5:=rfl
   have e2:=mb (i:=i) (by omega)
   have e4:=BZ wh k a i hi
   have pl:=zl zE wh a k
   have pg:=fun z=>KM zE wh k a i z hi
   simp only[zE] at pg
   rw[b3] at e4
   generalize ks wh k a i=q at *
   have w0:=xd (k:=q) (by omega) (by omega)
   have w1:=xd (k:=q+1) (by omega) (by omega)
   have w2:=xd (k:=q+2) (by omega) (by omega)
   have w3:=xd (k:=q+3) (by omega) (by omega)
   have w4:=xd (k:=q+4) (by omega) (by omega)
   have a1:q+1+1=q+2:=by omega
   have a2:q+2+1=q+3:=by omega
   have a3:q+3+1=q+4:=by omega
   have a4:q+4+1=ks wh k a (i+1):=by rw[e4];omega
   rw[a1] at w1
   rw[a2] at w2
   rw[a3] at w3
   rw[a4] at w4
   have c1:decide ((i:Int)<(a.length:Int))=true:=by simpa using hi
   have d4:((Int.tmod (q+4) 3==0)==(Int.tmod (q+4) 3==0))=true:=by simp
   have bn:∀x:Int,(x != x)=false:=by intro x;simp
   simp only[Wh.Dq,Int.toNat_natCast,pl,pg,c1,cond_true,cond_false,iy,Bool.and_self,Int.natCast_nonneg,decide_true,bn,
    w0,a1,w1,a2,w2,a3,w3,a4,w4,e2,d4,Bool.not_true]
  ·simp[Wh.Dq,zl,CX]
 simp[Wh.q22,cb hc,cv hc,sumC]
end Pl
open Go Go.Ab
namespace Pl
noncomputable def FC (c:cr.D) (k:Int):cr.D:=(c.1,r_ mkItem wX c.2.1 k,c.2.2)
def yR (c:cr.D):Nat:=nE wX c.2.1
theorem XL (c:cr.D) (k:Int) (h0:0≤k) (h1:k+(yR c:Nat)<yX) (hl:DW c):Wh.q84 (c,k)=some (k+(yR c:Nat),FC c k,()):=by
 have e1:=XN c.2.1 k h0 h1 (Nat.le_trans hl (by omega))
 simp[Wh.q84,e1,Wh.q37_v _ _ e1,iy,nQ,FC,yR]
theorem Wv (c:cr.D) (k:Int) (h0:0≤k) (h1:k+(yR c:Nat)<yX) (hl:DW c):Wh.q83 (FC c k,k)=some (k+(yR c:Nat),()):=by
 have e1:=Wx c.2.1 k h0 h1 (Nat.le_trans hl (by omega))
 have n1:¬(k+(nE wX c.2.1:Nat))<0:=by omega
 simp[Wh.q83,FC,e1,Wh.q36_v _ _ e1,iy,nQ,yR,n1]
def FD (c:gd.D) (k:Int):gd.D:=(r_ zE wh c.1 k,c.2)
def zm (c:gd.D):Nat:=nE wh c.1
theorem XO (c:gd.D) (k:Int) (h0:0≤k) (h1:k+(zm c:Nat)<yX) (hl:DX c):Wh.q57 (c,k)=some (k+(zm c:Nat),FD c k,()):=by
 have e1:=XM c.1 k h0 h1 (Nat.le_trans hl (by omega))
 simp[Wh.q57,e1,Wh.q25_v _ _ e1,iy,nQ,FD,zm]
theorem Wy (c:gd.D) (k:Int) (h0:0≤k) (h1:k+(zm c:Nat)<yX) (hl:DX c):Wh.q56 (FD c k,k)=some (k+(zm c:Nat),()):=by
 have e1:=Ww c.1 k h0 h1 (Nat.le_trans hl (by omega))
 have n1:¬(k+(nE wh c.1:Nat))<0:=by omega
 simp[Wh.q56,FD,e1,Wh.q22_v _ _ e1,iy,nQ,zm,n1]
noncomputable def B5 (s:ct.D) (k:Int):ct.D:=
 (s.1,s.2.1,s.2.2.1,FC s.2.2.2.1 k,FD s.2.2.2.2.1 (k+(yR s.2.2.2.1:Nat)),r_ zD tn s.2.2.2.2.2.1 (k+(yR s.2.2.2.1:Nat)+(zm s.2.2.2.2.1:Nat)),
  r_ zG w7 s.2.2.2.2.2.2.1 (k+(yR s.2.2.2.1:Nat)+(zm s.2.2.2.2.1:Nat)+(nE tn s.2.2.2.2.2.1:Nat)),s.2.2.2.2.2.2.2)
def Ay (s:ct.D):Nat:=yR s.2.2.2.1+zm s.2.2.2.2.1+nE tn s.2.2.2.2.2.1+nE w7 s.2.2.2.2.2.2.1
theorem XQ (s:ct.D) (k:Int) (h0:0≤k) (h1:k+(Ay s:Nat)<yX) (hl:Ae s):Wh.Cp (s,k)=some (k+(Ay s:Nat),B5 s k,()):=by
 unfold Ay at h1
 have e1:=XL s.2.2.2.1 k h0 (by omega) hl.cat
 have e2:=XO s.2.2.2.2.1 (k+(yR s.2.2.2.1:Nat)) (by omega) (by omega) hl.C5
 have e3:=XK s.2.2.2.2.2.1 (k+(yR s.2.2.2.1:Nat)+(zm s.2.2.2.2.1:Nat)) (by omega) (by omega) (Nat.le_trans hl.bks (by omega))
 have e4:=XP s.2.2.2.2.2.2.1 (k+(yR s.2.2.2.1:Nat)+(zm s.2.2.2.2.1:Nat)+(nE tn s.2.2.2.2.2.1:Nat)) (by omega) (by omega) (Nat.le_trans hl.srv (by omega))
 have v1:=Wh.q84_v _ _ e1
 have v2:=Wh.q57_v _ _ e2
 have v3:=Wh.q17_v _ _ e3
 have v4:=Wh.q26_v _ _ e4
 simp only[Wh.Cp,e1,v1,e2,v2,e3,v3,e4,v4,iy,nQ,cond_true]
 simp[B5,Ay,FC,FD]
 omega
theorem WA (s:ct.D) (k:Int) (h0:0≤k) (h1:k+(Ay s:Nat)<yX) (hl:Ae s):Wh.Co (B5 s k,k)=some (k+(Ay s:Nat),()):=by
 unfold Ay at h1
 have e1:=Wv s.2.2.2.1 k h0 (by omega) hl.cat
 have e2:=Wy s.2.2.2.2.1 (k+(yR s.2.2.2.1:Nat)) (by omega) (by omega) hl.C5
 have e3:=Wu s.2.2.2.2.2.1 (k+(yR s.2.2.2.1:Nat)+(zm s.2.2.2.2.1:Nat)) (by omega) (by omega) (Nat.le_trans hl.bks (by omega))
 have e4:=Wz s.2.2.2.2.2.2.1 (k+(yR s.2.2.2.1:Nat)+(zm s.2.2.2.2.1:Nat)+(nE tn s.2.2.2.2.2.1:Nat)) (by omega) (by omega) (Nat.le_trans hl.srv (by omega))
 have v1:=Wh.q83_v _ _ e1
 have v2:=Wh.q56_v _ _ e2
 have v3:=Wh.q16_v _ _ e3
 have v4:=Wh.q23_v _ _ e4
 have n1:decide ((k+(yR s.2.2.2.1:Nat))<0)=false:=by simp;omega
 have n2:decide ((k+(yR s.2.2.2.1:Nat)+(zm s.2.2.2.2.1:Nat))<0)=false:=by simp;omega
 have n3:decide ((k+(yR s.2.2.2.1:Nat)+(zm s.2.2.2.2.1:Nat)+(nE tn s.2.2.2.2.2.1:Nat))<0)=false:=by simp;omega
 have n4:decide ((k+(yR s.2.2.2.1:Nat)+(zm s.2.2.2.2.1:Nat)+(nE tn s.2.2.2.2.2.1:Nat)+(nE w7 s.2.2.2.2.2.2.1:Nat))<0)=false:=by simp;omega
 simp only[Wh.Co,B5,e1,v1,e2,v2,e3,v3,e4,v4,iy,nQ,cond_true,cond_false,n1,n2,n3,n4]
 simp[Ay]
 omega
end Pl
open Go Go.Ab Go.Lib
namespace Pl
theorem Bk (x y:Nat):((x:Int)==(y:Int))=(x==y):=by rw[Bool.eq_iff_iff,beq_iff_eq,beq_iff_eq];omega
noncomputable def D9 (log:List UInt8):Bool:=((xU hash log).2==log.length)&&decide (log.length≤9000)
noncomputable def zq (log r:List UInt8):List UInt8×Bool:=
 if(D9 log&&decide (1≤r.length∧r.length≤500))=true∧(log++line hash (xU hash log).1.length r).length≤9000 then(log++line hash (xU hash log).1.length r,true) else([],false)
theorem U3 (log:List UInt8):(xU hash log).2≤log.length∧20*(xU hash log).1.length≤log.length:=by
 obtain⟨h1,h2,_⟩:=vQ hash Aj (log.length+1) log 0
 exact⟨h1,Nat.le_trans h2 h1⟩
theorem Xf (log:List UInt8) (hl:log.length≤9999999):Wh.EE log=some (D9 log,()):=by
 have a:=ND log hl
 simp only[Wh.EE,a,Wh.G7 _ _ a,nQ,iy,cond_true,Bk,D9]
 cases e:(xU hash log).2==log.length with
 |false=>rfl
 |true=>
  have:(xU hash log).2=log.length:=by simpa using e
  rw[this]
  have:decide ((log.length:Int)≤9000)=decide (log.length≤9000):=by rw[Bool.eq_iff_iff,decide_eq_true_iff,decide_eq_true_iff];omega
  rw[this];rfl
theorem R0 (n a b:Nat):nP (n:Int) (a:Int) (b:Int)=decide (a≤n∧n≤b):=by
 unfold nP;rw[Bool.eq_iff_iff,decide_eq_true_iff,decide_eq_true_iff];omega
theorem Sc (n:Nat) (r:List UInt8) (hn:n≤9999999) (hr:r.length≤9999999):(line hash n r).length≤r.length+40:=by
 rw[vJ hash Aj]
 have:=zj n hn
 have:=zj r.length hr
 omega
theorem NM (x:List UInt8):decide ((x.length:Int)>9000) = !decide (x.length≤9000):=by
 by_cases h:x.length≤9000
 ·rw[decide_eq_true h,decide_eq_false (by omega)];rfl
 ·rw[decide_eq_false h,decide_eq_true (by omega)];rfl
theorem abn (log r:List UInt8) (hl:log.length≤9999999) (hr:r.length≤9999999):Wh.Et (log,r)=some (zq log r,()):=by
 have a:=ND log hl
 have b:=Xf log hl
 obtain⟨r1,r2⟩:=U3 log
 have c:=NK (xU hash log).1.length r (by omega) hr
 have hll:=Sc (xU hash log).1.length r (by omega) hr
 have d:nP (r.length:Int) 1 500=decide (1≤r.length∧r.length≤500):=R0 _ 1 500
 have e:decide (log.length+(line hash (xU hash log).1.length r).length≤dh)=true:=by unfold dh;exact decide_eq_true (by omega)
 simp only[Wh.Et,a,Wh.G7 _ _ a,b,Wh.T6 _ _ b,Am,Wh.y9 _ _ (Am _ _ _),c,Wh.KY _ _ c,d,e,nQ,iy,Bool.or_true,Bool.and_self,cond_true,zq,NM]
 cases D9 log with
 |false=>rfl
 |true=>
 cases decide (1≤r.length∧r.length≤500) with
 |false=>rfl
 |true=>
 by_cases h:(log++line hash (xU hash log).1.length r).length≤9000
 ·rw[decide_eq_true h,if_pos ⟨rfl,h⟩];rfl
 ·rw[decide_eq_false h,if_neg (fun k=>h k.2)];rfl
theorem WC (log r:List UInt8) (hl:log.length≤9999999) (hr:r.length≤9999999):Wh.q99 (log,r)=some (zq log r,()):=by
 have a:=Q1 log hl
 obtain⟨r1,r2⟩:=U3 log
 have c:=NI (xU hash log).1.length r (by omega) hr
 have hll:=Sc (xU hash log).1.length r (by omega) hr
 have d:nP (r.length:Int) 1 500=decide (1≤r.length∧r.length≤500):=R0 _ 1 500
 have e:decide (log.length+(line hash (xU hash log).1.length r).length≤dh)=true:=by unfold dh;exact decide_eq_true (by omega)
 have n1:(((xU hash log).2:Int) != (log.length:Int)) = !((xU hash log).2==log.length):=by rw[←Bk];rfl
 have n2:(bif !((xU hash log).2==log.length) then true else decide (((xU hash log).2:Int)>9000)) = !D9 log:=by
  unfold D9
  cases k:(xU hash log).2==log.length with
  |false=>rfl
  |true=>
   have:(xU hash log).2=log.length:=by simpa using k
   rw[this,NM];rfl
 simp only[Wh.q99,a,Wh.Qf _ _ a,yP,Wh.zg _ _ (yP _ _ _),c,Wh.Lp _ _ c,d,e,nQ,iy,n1,n2,Bool.or_true,Bool.and_self,cond_true,zq,NM]
 cases D9 log with
 |false=>rfl
 |true=>
 cases decide (1≤r.length∧r.length≤500) with
 |false=>rfl
 |true=>
 by_cases h:(log++line hash (xU hash log).1.length r).length≤9000
 ·rw[decide_eq_true h,if_pos ⟨rfl,h⟩];rfl
 ·rw[decide_eq_false h,if_neg (fun k=>h k.2)];rfl
theorem Nf (log r:List UInt8) (h:(zq log r).2=true):(zq log r).1.length≤9000:=by
 unfold zq at h ⊢
 split
 ·rename_i k;exact k.2
 ·rename_i k;rw[if_neg k] at h;cases h
theorem Th {s:ct.D} (h:okV s=true):yM s.2.2.2.1:=by
 unfold okV at h
 simp only[Bool.and_eq_true] at h
 obtain⟨_,_,hc,h⟩:=h
 cases hu:s.1 with
 |true=>
  rw[hu] at h
  simp only[cond_true,upV,Bool.and_eq_true,decide_eq_true_eq] at h
  rw[←h.2.1]
  exact Np hc
 |false=>
  rw[hu] at h
  simp only[cond_false,Kl,Bool.and_eq_true,beq_iff_eq,List.length_eq_zero_iff] at h
  have e:s.2.2.2.1=((0:Int),[],()):=by
   rw[←h.1.1.1.1.2,←h.1.1.1.1.1]
  rw[e]
  exact Ke
theorem Od {s:ct.D} (h:okV s=true):s.2.2.1.length≤9000:=by
 unfold okV at h
 simp only[Bool.and_eq_true,decide_eq_true_eq] at h
 exact h.2.1
def BU:ct.D:=(false,(0:Int),[],((0:Int),[],()),([],(0:Int),()),[],[],())
theorem Ga:Ae BU:=⟨by simp[BU],by unfold DW;simp[BU],by simp[BU],by unfold DX;simp[BU],by simp[BU],by simp[BU]⟩
end Pl
open Go Go.Ab Go.Lib
namespace Pl
theorem LH {α:Type} (n1:α→Nat) (k:Nat) (h:∀a,n1 a=k) (l:List α):nE n1 l=k*l.length:=by
 induction l with
 |nil=>rfl
 |cons a l ih=>simp only[nE,List.map_cons,List.sum_cons,List.length_cons] at ih ⊢;rw[ih,h,Nat.mul_add];omega
theorem Tc (R:ct.D) (S:Ae R):1+((Ay R:Nat):Int)<yX:=by
 have h1:R.2.2.2.1.2.1.length≤1048576:=S.cat
 have h2:R.2.2.2.2.1.1.length≤1048576:=S.C5
 have h3:=S.bks
 have h4:=S.srv
 unfold Ay yR zm
 rw[LH wX 4 (fun _=>rfl),LH wh 5 (fun _=>rfl),LH tn 4 (fun _=>rfl),LH w7 6 (fun _=>rfl)]
 unfold yX
 omega
structure MarkS (R:ct.D):Prop where
 eq:Wh.Ba (R,R)=some (true,())
 mrk:Wh.Cp (R,1)=some (1+((Ay R:Nat):Int),B5 R 1,())
 hd:Wh.Co ((R.1,R.2.1,R.2.2.1,(R.2.2.2.1.1,(B5 R 1).2.2.2.1.2.1,R.2.2.2.1.2.2),((B5 R 1).2.2.2.2.1.1,R.2.2.2.2.1.2),(B5 R 1).2.2.2.2.2.1,(B5 R 1).2.2.2.2.2.2.1,R.2.2.2.2.2.2.2),1)=some (1+((Ay R:Nat):Int),())
 ng:decide (1+((Ay R:Nat):Int)<0)=false
theorem markS (R:ct.D) (S:Ae R):MarkS R:=
 ⟨VT R S,XQ R 1 (by omega) (Tc R S) S,WA R 1 (by omega) (Tc R S) S,decide_eq_false (by omega)⟩
theorem bneS (x:Int):(x != x)=false:=by simp
end Pl
open Go Go.Ab Go.Lib
namespace Pl
end Pl
open Go Go.Ab Go.Lib
namespace Pl
noncomputable def F3 (log r:List UInt8) (b:Int):List UInt8:=
 bif !(zq log r).2 then log else(zq log r).1.take (log.length+min b.toNat ((zq log r).1.length-log.length))
theorem Q2 {log r:List UInt8} (h:(zq log r).2=true):∃q,(zq log r).1=log++q:=by
 unfold zq at h ⊢
 split
 ·exact⟨_,rfl⟩
 ·rename_i k;rw[if_neg k] at h;cases h
theorem aby (log r:List UInt8) (b:Int) (hl:log.length≤9000) (hr:r.length≤9999999) (_hb:I64 b):Wh.q91 (log,r,b)=some (F3 log r b,()):=by
 have a:=abn log r (by omega) hr
 simp only[Wh.q91,a,Wh.TE _ _ a,nQ,iy,cond_true,F3]
 cases h:(zq log r).2 with
 |false=>rfl
 |true=>
  obtain⟨q,hq⟩:=Q2 h
  have h9:=Nf log r h
  rw[hq] at h9 ⊢
  simp only[List.length_append] at h9 ⊢
  have w1:IntKind.wrap .i64 (((log.length+q.length:Nat):Int)-(log.length:Int))=(q.length:Int):=wi (by omega) (by omega)
  rw[w1]
  simp only[Bool.not_true,cond_false]
  by_cases hneg:b<0
  ·rw[decide_eq_true hneg]
   have:b.toNat=0:=by omega
   rw[this,Nat.zero_min,Nat.add_zero,List.take_left]
   rfl
  ·rw[decide_eq_false hneg]
   simp only[cond_false]
   by_cases hbig:b>(q.length:Int)
   ·rw[decide_eq_true hbig]
    have:List.take (log.length+min b.toNat (log.length+q.length-log.length)) (log++q)=log++q:=List.take_of_length_le (by rw[List.length_append];omega)
    rw[this]
    rfl
   ·rw[decide_eq_false hbig]
    have w2:IntKind.wrap .i64 ((log.length:Int)+b)=((log.length+b.toNat:Nat):Int):=wi (by omega) (by omega)
    rw[w2]
    have d1:decide ((0:Int)≤((log.length+b.toNat:Nat):Int))=true:=decide_eq_true (by omega)
    have d2:decide (((log.length+b.toNat:Nat):Int)≤((log.length+q.length:Nat):Int))=true:=decide_eq_true (by omega)
    have e:min b.toNat (log.length+q.length-log.length)=b.toNat:=by omega
    simp only[d1,d2,cond_true,cond_false,Bool.and_self,e,Int.sub_zero,Int.toNat_natCast,show Int.toNat 0=0 from rfl,List.drop_zero]
theorem WN (log r:List UInt8) (b:Int) (hl:log.length≤9000) (hr:r.length≤9999999) (_hb:I64 b):Wh.q74 (log,r,b)=some (F3 log r b,()):=by
 have a:=WC log r (by omega) hr
 simp only[Wh.q74,a,Wh.q99_v _ _ a,nQ,iy,cond_true,F3]
 cases h:(zq log r).2 with
 |false=>rfl
 |true=>
  obtain⟨q,hq⟩:=Q2 h
  have h9:=Nf log r h
  rw[hq] at h9 ⊢
  simp only[List.length_append] at h9 ⊢
  have w1:IntKind.wrap .i64 (((log.length+q.length:Nat):Int)-(log.length:Int))=(q.length:Int):=wi (by omega) (by omega)
  have e5:(if b<(0:Int) then(0:Int) else b)=(b.toNat:Int):=by split<;>omega
  have e6:(if(q.length:Int)<(b.toNat:Int) then(q.length:Int) else(b.toNat:Int))=((min b.toNat q.length:Nat):Int):=by split<;>omega
  have w2:IntKind.wrap .i64 ((log.length:Int)+((min b.toNat q.length:Nat):Int))=((log.length+min b.toNat q.length:Nat):Int):=wi (by omega) (by omega)
  have d1:decide ((0:Int)≤((log.length+min b.toNat q.length:Nat):Int))=true:=decide_eq_true (by omega)
  have d2:decide (((log.length+min b.toNat q.length:Nat):Int)≤((log.length+q.length:Nat):Int))=true:=decide_eq_true (by omega)
  have e7:log.length+q.length-log.length=q.length:=by omega
  simp only[w1,e5,e6,w2,d1,d2,e7,cond_true,cond_false,Bool.not_true,Bool.and_self,Int.sub_zero,Int.toNat_natCast,show Int.toNat 0=0 from rfl,List.drop_zero]
noncomputable def Ft (s:ct.D) (r:List UInt8) (b:Int):List UInt8:=bif(bif s.1 then(zu s.2.2.2.1 r).2 else false) then F3 s.2.2.1 r b else s.2.2.1
noncomputable def D8 (s:ct.D) (r:List UInt8) (b:Int):ct.D:=
 bif !okV s then BU else(false,s.2.1,Ft s r b,((0:Int),[],()),([],(0:Int),()),[],[],())
theorem abp (s:ct.D) (S:Ae s) (r:List UInt8) (b:Int) (hr:r.length≤9999999) (hb:I64 b):Wh.q28 (s,r,b)=some (D8 s r b,()):=by
 have a:=abt s S
 unfold D8
 cases ho:okV s with
 |false=>
  rw[ho] at a
  simp only[Wh.q28,a,Wh.Qa _ _ a,nQ,iy,cond_true,Bool.not_false,BU]
 |true=>
 rw[ho] at a
 have I:=Th ho
 have hl:=Od ho
 have c:=R9 s.2.2.2.1 I r hr
 have d:=aby s.2.2.1 r b hl hr hb
 simp only[Wh.q28,a,Wh.Qa _ _ a,c,Wh.K3 _ _ c,d,Wh.q91_v _ _ d,nQ,iy,cond_true,cond_false,Bool.not_true,Ft]
 cases s.1<;>cases (zu s.2.2.2.1 r).2<;>rfl
theorem WG (s:ct.D) (S:Ae s) (r:List UInt8) (b:Int) (hr:r.length≤9999999) (hb:I64 b):Wh.Cn (s,r,b)=some (D8 s r b,()):=by
 have a:=WI s S
 unfold D8
 cases ho:okV s with
 |false=>
  rw[ho] at a
  simp only[Wh.Cn,a,Wh.PR _ _ a,nQ,iy,cond_true,Bool.not_false,BU]
 |true=>
 rw[ho] at a
 have I:=Th ho
 have hl:=Od ho
 have c:=RO s.2.2.2.1 I r hr
 have d:=WN s.2.2.1 r b hl hr hb
 have e:Wh.q14 (s,r,b)=some ((false,s.2.1,Ft s r b,((0:Int),[],()),([],(0:Int),()),[],[],()),()):=by
  simp only[Wh.q14,c,Wh.Li _ _ c,d,Wh.q74_v _ _ d,nQ,iy,cond_true,Ft]
  cases s.1<;>cases (zu s.2.2.2.1 r).2<;>rfl
 simp only[Wh.Cn,a,Wh.PR _ _ a,e,Wh.q14_v _ _ e,nQ,iy,cond_true,cond_false,Bool.not_true]
theorem VU (s:ct.D) (r:List UInt8) (b:Int):Ae (D8 s r b):=by
 unfold D8
 cases ho:okV s with
 |false=>exact Ga
 |true=>
  have hl:=Od ho
  refine⟨?_,Ga.cat,Ga.items,Ga.C5,Ga.bks,Ga.srv⟩
  change (Ft s r b).length≤_
  unfold Ft F3
  cases (bif s.1 then(zu s.2.2.2.1 r).2 else false) with
  |false=>change s.2.2.1.length≤_;omega
  |true=>
  cases h:(zq s.2.2.1 r).2 with
  |false=>change s.2.2.1.length≤_;omega
  |true=>
   have:=Nf _ _ h
   simp only[cond_true,Bool.not_true,cond_false,List.length_take]
   omega
theorem WX (s:ct.D) (r:List UInt8) (b:Int) (hs:fR ct s≤1048576) (hr:r.length≤9999999) (hb:I64 b):Wh.q5 (s,r,b)=some (true,()):=by
 have S:=abl s hs
 obtain⟨v,hv⟩:=abK s 1048576 S
 have e1:=abY s S
 have e3:=abp s S r b hr hb
 have e4:=WG s S r b hr hb
 have SR:=VU s r b
 generalize D8 s r b=R at *
 have M0:=markS s S
 have M:=markS R SR
 have v3:=Wh.q28_v _ _ e3
 have v4:=Wh.q21_v _ _ e4
 simp only[Wh.q5,hv,Wh.q61_v _ _ hv,e1,Wh.q65_v _ _ e1,e3,v3,e4,v4,M0.eq,Wh.P5 _ _ M0.eq,M0.mrk,Wh.Pz _ _ M0.mrk,M0.ng,M.eq,Wh.P5 _ _ M.eq,M.mrk,Wh.Pz _ _ M.mrk,M.hd,Wh.q24_v _ _ M.hd,M.ng,bneS,nQ,iy,Bool.or_true,Bool.and_self,Bool.not_true,Bool.not_false,cond_true,cond_false]
 cases decide ((r.length:Int)>1048576) with
 |true=>rfl
 |false=>
 cases decide (v<0)<;>rfl
end Pl
