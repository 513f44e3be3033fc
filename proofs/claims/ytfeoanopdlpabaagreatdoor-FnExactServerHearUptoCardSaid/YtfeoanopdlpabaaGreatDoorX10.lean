import Derived.Test.YtfeoanopdlpabaaGreatDoorX9
open Go Go.Ab
namespace Pl
theorem ZX (w:an.D):Wh.Iy (w,w)=some (true,()):=by simp[Wh.Iy]
theorem ZW (a:List an.D)(h:a.length≤4611686018427387904):Wh.Ii (a,a)=some (true,()):=by
 have hl:Comes Wh.GQ (((0:Int),a,a),()) (.inr ((),())):=by
  refine x7 (st:=fun i=>(((i:Int),a,a),())) (n:=a.length) ?_ ?_ 0 (Nat.zero_le _)
  ·intro i hi
   have h2:=mw (i:=i) (by omega)
   have h4:=ZX (a[i])
   simp[Wh.GQ,Wh.Xs _ _ h4,iy,h2,hi,h4,nQ]
  ·simp[Wh.GQ]
 simp[Wh.Ii,cb hl,cv hl]
theorem af8 (a:an.D):Wh.J8 a=some (a,()):=rfl
theorem af7 (a:List an.D)(h:a.length≤1048576):Wh.Io a=some (a,()):=by
 have hl:Comes Wh.Fj (((0:Int),a,()),List.replicate a.length ((0:Int),([]:List UInt8),(0:Int),([]:List UInt8),())) ((),a):=by
  have:=x7 (r:=Wh.Fj) (st:=fun i=>(((i:Int),a,()),iB a ((0:Int),([]:List UInt8),(0:Int),([]:List UInt8),()) i)) (n:=a.length) (y:=((),a)) ?_ ?_ 0 (Nat.zero_le _)
  ·rw[Lj] at this;exact this
  ·intro i hi
   have hi':decide ((i:Int)<(a.length:Int))=true:=by simpa using hi
   have h0:decide ((0:Int)≤(i:Int))=true:=by simp
   have he:=af8 (List.getD a i ((0:Int),([]:List UInt8),(0:Int),([]:List UInt8),()))
   have hs:(iB a ((0:Int),([]:List UInt8),(0:Int),([]:List UInt8),()) i).set i (List.getD a i ((0:Int),([]:List UInt8),(0:Int),([]:List UInt8),()))=iB a ((0:Int),([]:List UInt8),(0:Int),([]:List UInt8),()) (i+1):=Li a _ _ i hi
   simp only[Wh.Fj,hi',h0,Int.toNat_natCast,Lh a ((0:Int),([]:List UInt8),(0:Int),([]:List UInt8),()) i (by omega),he,Wh.Xw _ _ he,hs,mw (i:=i) (by omega),iy,nQ,cond_true,Bool.and_self]
  ·have hi':decide (((a.length:Nat):Int)<(a.length:Int))=false:=by simp
   simp only[Wh.Fj,hi',cond_false,Lg]
 have b0:decide ((0:Int)≤(a.length:Int))=true:=by simp
 have b1:decide ((a.length:Int)≤(dh:Int))=true:=decide_eq_true (by unfold dh;omega)
 simp only[Wh.Io,Int.toNat_natCast,cb hl,cv hl,b0,b1,Int.le_refl,decide_true,iy,cond_true,Bool.and_self]
theorem afV (a:an.D)(n:Int):∃v,Wh.IB (a,n)=some (v,()):=by
 simp only[Wh.IB]
 repeat' (first|exact⟨_,rfl⟩|refine Ui _ ?_ ?_)
theorem afU (a:List an.D)(n:Int)(h:a.length≤1048576):∃v,Wh.Im (a,n)=some (v,()):=by
 have hl:∀d k:Nat,k+d=a.length→∀m:Int,∃y,Comes Wh.Fi (((k:Int),m,a),()) y:=by
  intro d
  induction d with
  |zero=>
   intro k hk m
   have hk':decide ((k:Int)<(a.length:Int))=false:=by simp;omega
   exact⟨_,.out (by simp only[Wh.Fi,hk',cond_false];rfl)⟩
  |succ d ih=>
   intro k hk m
   have hk':decide ((k:Int)<(a.length:Int))=true:=by simp;omega
   have h0:decide ((0:Int)≤(k:Int))=true:=by simp
   have w:=mw (i:=k) (by omega)
   obtain⟨v,hv⟩:=afV (List.getD a k ((0:Int),([]:List UInt8),(0:Int),([]:List UInt8),())) m
   cases hd:decide (v<0) with
   |true=>exact⟨_,.out (by simp only[Wh.Fi,hk',h0,Int.toNat_natCast,hv,Wh.PA _ _ hv,hd,iy,nQ,cond_true,Bool.and_self];rfl)⟩
   |false=>
    obtain⟨y,hy⟩:=ih (k+1) (by omega) v
    exact⟨y,.again (by simp only[Wh.Fi,hk',h0,w,Int.toNat_natCast,hv,Wh.PA _ _ hv,hd,iy,nQ,cond_true,cond_false,Bool.and_self]) hy⟩
 simp only[Wh.Im]
 cases decide (IntKind.wrap .i64 (n-(a.length:Int))<0) with
 |true=>exact⟨_,rfl⟩
 |false=>
  obtain⟨y,hy⟩:=hl a.length 0 (by omega) (IntKind.wrap .i64 (n-(a.length:Int)))
  have e1:=cb hy
  have e2:=cv hy Wh.OT
  rw[show(((0:Nat):Int))=0 from rfl] at e1 e2
  simp only[e1,e2,cond_true,cond_false]
  cases y with
  |inl y=>exact⟨_,rfl⟩
  |inr y=>exact⟨_,rfl⟩
theorem ZV (w:e_.D):Wh.q99 (w,w)=some (true,()):=by simp[Wh.q99]
theorem ZU (a:List e_.D)(h:a.length≤4611686018427387904):Wh.q73 (a,a)=some (true,()):=by
 have hl:Comes Wh.Ho (((0:Int),a,a),()) (.inr ((),())):=by
  refine x7 (st:=fun i=>(((i:Int),a,a),())) (n:=a.length) ?_ ?_ 0 (Nat.zero_le _)
  ·intro i hi
   have h2:=mw (i:=i) (by omega)
   have h4:=ZV (a[i])
   simp[Wh.Ho,Wh.q99_v _ _ h4,iy,h2,hi,h4,nQ]
  ·simp[Wh.Ho]
 simp[Wh.q73,cb hl,cv hl]
theorem af6 (a:e_.D):Wh.J3 a=some (a,()):=rfl
theorem af5 (a:List e_.D)(h:a.length≤1048576):Wh.q83 a=some (a,()):=by
 have hl:Comes Wh.FY (((0:Int),a,()),List.replicate a.length ((0:Int),(0:Int),(0:Int),(0:Int),false,())) ((),a):=by
  have:=x7 (r:=Wh.FY) (st:=fun i=>(((i:Int),a,()),iB a ((0:Int),(0:Int),(0:Int),(0:Int),false,()) i)) (n:=a.length) (y:=((),a)) ?_ ?_ 0 (Nat.zero_le _)
  ·rw[Lj] at this;exact this
  ·intro i hi
   have hi':decide ((i:Int)<(a.length:Int))=true:=by simpa using hi
   have h0:decide ((0:Int)≤(i:Int))=true:=by simp
   have he:=af6 (List.getD a i ((0:Int),(0:Int),(0:Int),(0:Int),false,()))
   have hs:(iB a ((0:Int),(0:Int),(0:Int),(0:Int),false,()) i).set i (List.getD a i ((0:Int),(0:Int),(0:Int),(0:Int),false,()))=iB a ((0:Int),(0:Int),(0:Int),(0:Int),false,()) (i+1):=Li a _ _ i hi
   simp only[Wh.FY,hi',h0,Int.toNat_natCast,Lh a ((0:Int),(0:Int),(0:Int),(0:Int),false,()) i (by omega),he,Wh.W5 _ _ he,hs,mw (i:=i) (by omega),iy,nQ,cond_true,Bool.and_self]
  ·have hi':decide (((a.length:Nat):Int)<(a.length:Int))=false:=by simp
   simp only[Wh.FY,hi',cond_false,Lg]
 have b0:decide ((0:Int)≤(a.length:Int))=true:=by simp
 have b1:decide ((a.length:Int)≤(dh:Int))=true:=decide_eq_true (by unfold dh;omega)
 simp only[Wh.q83,Int.toNat_natCast,cb hl,cv hl,b0,b1,Int.le_refl,decide_true,iy,cond_true,Bool.and_self]
theorem afT (a:List e_.D)(n:Int):∃v,Wh.q79 (a,n)=some (v,()):=by
 simp only[Wh.q79]
 cases decide (IntKind.wrap .i64 (n-(a.length:Int))<0)<;>exact⟨_,rfl⟩
theorem ZS (w:eA.D):Wh.q72 (w,w)=some (true,()):=by simp[Wh.q72]
theorem ZR (a:List eA.D)(h:a.length≤4611686018427387904):Wh.q51 (a,a)=some (true,()):=by
 have hl:Comes Wh.Hi (((0:Int),a,a),()) (.inr ((),())):=by
  refine x7 (st:=fun i=>(((i:Int),a,a),())) (n:=a.length) ?_ ?_ 0 (Nat.zero_le _)
  ·intro i hi
   have h2:=mw (i:=i) (by omega)
   have h4:=ZS (a[i])
   simp[Wh.Hi,Wh.q72_v _ _ h4,iy,h2,hi,h4,nQ]
  ·simp[Wh.Hi]
 simp[Wh.q51,cb hl,cv hl]
theorem af3 (a:eA.D):Wh.q82 a=some (a,()):=rfl
theorem af2 (a:List eA.D)(h:a.length≤1048576):Wh.q57 a=some (a,()):=by
 have hl:Comes Wh.FP (((0:Int),a,()),List.replicate a.length ((0:Int),(0:Int),(0:Int),(0:Int),())) ((),a):=by
  have:=x7 (r:=Wh.FP) (st:=fun i=>(((i:Int),a,()),iB a ((0:Int),(0:Int),(0:Int),(0:Int),()) i)) (n:=a.length) (y:=((),a)) ?_ ?_ 0 (Nat.zero_le _)
  ·rw[Lj] at this;exact this
  ·intro i hi
   have hi':decide ((i:Int)<(a.length:Int))=true:=by simpa using hi
   have h0:decide ((0:Int)≤(i:Int))=true:=by simp
   have he:=af3 (List.getD a i ((0:Int),(0:Int),(0:Int),(0:Int),()))
   have hs:(iB a ((0:Int),(0:Int),(0:Int),(0:Int),()) i).set i (List.getD a i ((0:Int),(0:Int),(0:Int),(0:Int),()))=iB a ((0:Int),(0:Int),(0:Int),(0:Int),()) (i+1):=Li a _ _ i hi
   simp only[Wh.FP,hi',h0,Int.toNat_natCast,Lh a ((0:Int),(0:Int),(0:Int),(0:Int),()) i (by omega),he,Wh.q82_v _ _ he,hs,mw (i:=i) (by omega),iy,nQ,cond_true,Bool.and_self]
  ·have hi':decide (((a.length:Nat):Int)<(a.length:Int))=false:=by simp
   simp only[Wh.FP,hi',cond_false,Lg]
 have b0:decide ((0:Int)≤(a.length:Int))=true:=by simp
 have b1:decide ((a.length:Int)≤(dh:Int))=true:=decide_eq_true (by unfold dh;omega)
 simp only[Wh.q57,Int.toNat_natCast,cb hl,cv hl,b0,b1,Int.le_refl,decide_true,iy,cond_true,Bool.and_self]
theorem afS (a:List eA.D)(n:Int):∃v,Wh.q56 (a,n)=some (v,()):=by
 simp only[Wh.q56]
 cases decide (IntKind.wrap .i64 (n-(a.length:Int))<0)<;>exact⟨_,rfl⟩
theorem Z0 (w:cr.D):Wh.Ij (w,w)=some (true,()):=by simp[Wh.Ij]
theorem ZZ (a:List cr.D)(h:a.length≤4611686018427387904):Wh.q74 (a,a)=some (true,()):=by
 have hl:Comes Wh.Hp (((0:Int),a,a),()) (.inr ((),())):=by
  refine x7 (st:=fun i=>(((i:Int),a,a),())) (n:=a.length) ?_ ?_ 0 (Nat.zero_le _)
  ·intro i hi
   have h2:=mw (i:=i) (by omega)
   have h4:=Z0 (a[i])
   simp[Wh.Hp,Wh.WX _ _ h4,iy,h2,hi,h4,nQ]
  ·simp[Wh.Hp]
 simp[Wh.q74,cb hl,cv hl]
theorem aga (a:cr.D):Wh.J4 a=some (a,()):=rfl
theorem af_ (a:List cr.D)(h:a.length≤1048576):Wh.q84 a=some (a,()):=by
 have hl:Comes Wh.FZ (((0:Int),a,()),List.replicate a.length ((0:Int),(0:Int),(0:Int),(0:Int),(0:Int),(0:Int),())) ((),a):=by
  have:=x7 (r:=Wh.FZ) (st:=fun i=>(((i:Int),a,()),iB a ((0:Int),(0:Int),(0:Int),(0:Int),(0:Int),(0:Int),()) i)) (n:=a.length) (y:=((),a)) ?_ ?_ 0 (Nat.zero_le _)
  ·rw[Lj] at this;exact this
  ·intro i hi
   have hi':decide ((i:Int)<(a.length:Int))=true:=by simpa using hi
   have h0:decide ((0:Int)≤(i:Int))=true:=by simp
   have he:=aga (List.getD a i ((0:Int),(0:Int),(0:Int),(0:Int),(0:Int),(0:Int),()))
   have hs:(iB a ((0:Int),(0:Int),(0:Int),(0:Int),(0:Int),(0:Int),()) i).set i (List.getD a i ((0:Int),(0:Int),(0:Int),(0:Int),(0:Int),(0:Int),()))=iB a ((0:Int),(0:Int),(0:Int),(0:Int),(0:Int),(0:Int),()) (i+1):=Li a _ _ i hi
   simp only[Wh.FZ,hi',h0,Int.toNat_natCast,Lh a ((0:Int),(0:Int),(0:Int),(0:Int),(0:Int),(0:Int),()) i (by omega),he,Wh.W8 _ _ he,hs,mw (i:=i) (by omega),iy,nQ,cond_true,Bool.and_self]
  ·have hi':decide (((a.length:Nat):Int)<(a.length:Int))=false:=by simp
   simp only[Wh.FZ,hi',cond_false,Lg]
 have b0:decide ((0:Int)≤(a.length:Int))=true:=by simp
 have b1:decide ((a.length:Int)≤(dh:Int))=true:=decide_eq_true (by unfold dh;omega)
 simp only[Wh.q84,Int.toNat_natCast,cb hl,cv hl,b0,b1,Int.le_refl,decide_true,iy,cond_true,Bool.and_self]
theorem afW (a:List cr.D)(n:Int):∃v,Wh.q80 (a,n)=some (v,()):=by
 simp only[Wh.q80]
 cases decide (IntKind.wrap .i64 (n-(a.length:Int))<0)<;>exact⟨_,rfl⟩
def Ge (c:fN.D):Prop:=c.2.1.length≤1048576
def DW (p:lg.D):Prop:=p.1.length≤1048576
structure Al (s:fk.D):Prop where
 log:s.2.2.1.length≤1048576
 cat:Ge s.2.2.2.1
 items:∀x∈s.2.2.2.1.2.1,x.2.1.length≤1048576∧x.2.2.2.1.length≤1048576
 CK:DW s.2.2.2.2.1
 B6:s.2.2.2.2.2.1.length≤1048576
 Cr:s.2.2.2.2.2.2.1.length≤1048576
theorem ZT (c:fN.D)(h:Ge c):Wh.IN (c,c)=some (true,()):=by
 have e:=ZW c.2.1 (by unfold Ge at h;omega)
 simp[Wh.IN,e,Wh.WW _ _ e,iy,nQ]
theorem ZY (c:lg.D)(h:DW c):Wh.Iz (c,c)=some (true,()):=by
 have e:=ZU c.1 (by unfold DW at h;omega)
 simp[Wh.Iz,e,Wh.q73_v _ _ e,iy,nQ]
theorem Z3 (s:fk.D)(h:Al s):Wh.DG (s,s)=some (true,()):=by
 have e1:=ZT _ h.cat
 have e2:=ZY _ h.CK
 have e3:=ZR s.2.2.2.2.2.1 (by have:=h.B6;omega)
 have e4:=ZZ s.2.2.2.2.2.2.1 (by have:=h.Cr;omega)
 simp[Wh.DG,e1,e2,e3,e4,Wh.XS _ _ e1,Wh.Xt _ _ e2,Wh.q51_v _ _ e3,Wh.q74_v _ _ e4,iy,nQ]
theorem af4 (c:fN.D)(h:Ge c):Wh.IQ c=some (c,()):=by
 have e:=af7 c.2.1 h
 simp only[Wh.IQ,e,Wh.W7 _ _ e,iy,nQ,cond_true]
theorem af9 (c:lg.D)(h:DW c):Wh.IE c=some (c,()):=by
 have e:=af5 c.1 h
 simp only[Wh.IE,e,Wh.q83_v _ _ e,iy,nQ,cond_true]
theorem agb (s:fk.D)(h:Al s):Wh.EL s=some (s,()):=by
 have e1:=af4 _ h.cat
 have e2:=af9 _ h.CK
 have e3:=af2 s.2.2.2.2.2.1 h.B6
 have e4:=af_ s.2.2.2.2.2.2.1 h.Cr
 simp only[Wh.EL,e1,e2,e3,e4,Wh.XU _ _ e1,Wh.Xx _ _ e2,Wh.q57_v _ _ e3,Wh.q84_v _ _ e4,iy,nQ,cond_true]
theorem afX (s:fk.D)(n:Int)(h:Al s):∃v,Wh.q81 (s,n)=some (v,()):=by
 have c1:∀n,∃v,Wh.IP (s.2.2.2.1,n)=some (v,()):=by
  intro n
  obtain⟨v,hv⟩:=afU s.2.2.2.1.2.1 n h.cat
  simp only[Wh.IP,hv,Wh.W4 _ _ hv,iy,nQ,cond_true]
  cases decide (v<0)<;>exact⟨_,rfl⟩
 have c2:∀n,∃v,Wh.IC (s.2.2.2.2.1,n)=some (v,()):=by
  intro n
  obtain⟨v,hv⟩:=afT s.2.2.2.2.1.1 n
  simp only[Wh.IC,hv,Wh.q79_v _ _ hv,iy,nQ,cond_true]
  cases decide (v<0)<;>exact⟨_,rfl⟩
 obtain⟨v1,h1⟩:=c1 (IntKind.wrap .i64 (n-(s.2.2.1.length:Int)))
 obtain⟨v2,h2⟩:=c2 v1
 obtain⟨v3,h3⟩:=afS s.2.2.2.2.2.1 v2
 obtain⟨v4,h4⟩:=afW s.2.2.2.2.2.2.1 v3
 simp only[Wh.q81,h1,h2,h3,h4,Wh.XT _ _ h1,Wh.Xu _ _ h2,Wh.q56_v _ _ h3,Wh.q80_v _ _ h4,iy,nQ,cond_true]
 repeat' (first|exact⟨_,rfl⟩|refine Ui _ ?_ ?_)
theorem afu (s:fk.D)(h:fR fk s≤1048576):Al s:=by
 have e:fR fk s=1+(1+((s.2.2.1.length+1)+((1+(((s.2.2.2.1.2.1.map (fR an)).sum+1)+0))+((((s.2.2.2.2.1.1.map (fR e_)).sum+1)+(1+0))+(((s.2.2.2.2.2.1.map (fR eA)).sum+1)+(((s.2.2.2.2.2.2.1.map (fR cr)).sum+1)+0)))))):=rfl
 rw[e] at h
 have i0:∀x:an.D,fR an x=1+((x.2.1.length+1)+(1+((x.2.2.2.1.length+1)+0))):=fun _=>rfl
 have l1:=vH (fR an) (fun x=>by rw[i0];omega) s.2.2.2.1.2.1
 have l2:=vH (fR e_) (fun x=>by show 1≤1+(1+(1+(1+(1+0))));omega) s.2.2.2.2.1.1
 have l3:=vH (fR eA) (fun x=>by show 1≤1+(1+(1+(1+0)));omega) s.2.2.2.2.2.1
 have l4:=vH (fR cr) (fun x=>by show 1≤1+(1+(1+(1+(1+(1+0)))));omega) s.2.2.2.2.2.2.1
 refine⟨by omega,by show _≤_;omega,fun x hx=>?_,by show _≤_;omega,by omega,by omega⟩
 have:=xg (fR an) _ x hx
 rw[i0] at this
 exact⟨by omega,by omega⟩
end Pl
open Go Go.Ab Go.Lib
namespace Pl
instance itDec:DecidableEq It:=inferInstanceAs (DecidableEq (Int×List UInt8×Int×List UInt8×Unit))
instance ctDec:DecidableEq Ct:=fun a b=>if h1:a.1=b.1 then if h2:a.2.1=b.2.1 then .isTrue (by obtain⟨_,_,_⟩:=a;obtain⟨_,_,_⟩:=b;simp_all) else .isFalse (fun e=>h2 (by rw[e])) else .isFalse (fun e=>h1 (by rw[e]))
theorem LA (a b:It):(a.1==b.1&&(a.2.1==b.2.1&&(a.2.2.1==b.2.2.1&&(a.2.2.2.1==b.2.2.2.1&&true))))=decide (a=b):=by
 obtain⟨a1,a2,a3,a4,a5⟩:=a
 obtain⟨b1,b2,b3,b4,b5⟩:=b
 rw[Bool.eq_iff_iff]
 simp
theorem Vt (a b:List It)(h:a.length=b.length):jS a.length (fun i=>decide (a.getD i z0=b.getD i z0))=decide (a=b):=by
 rw[Bool.eq_iff_iff,oL,decide_eq_true_iff]
 constructor
 ·intro hh
  refine List.ext_getElem h fun i h1 h2=>?_
  have:=of_decide_eq_true (hh i h1)
  rwa[getD_eq _ _ _ h1,getD_eq _ _ _ h2] at this
 ·rintro rfl i _;exact decide_eq_true rfl
theorem ct_eq (a b:Ct)(hl:a.2.1.length=b.2.1.length):(decide (a.1=b.1)&&decide (a.2.1=b.2.1))=decide (a=b):=by
 obtain⟨a1,a2,a3⟩:=a
 obtain⟨b1,b2,b3⟩:=b
 rw[Bool.eq_iff_iff]
 simp
theorem afF (a b:Ct)(hl:a.2.1.length≤9999999):Wh.Fl (a,b)=some (decide (a=b),()):=by
 by_cases h1:a.1=b.1
 ·by_cases h2:a.2.1.length=b.2.1.length
  ·have c1:(a.1 != b.1)=false:=by simp[h1]
   have c2:((a.2.1.length:Int) != (b.2.1.length:Int))=false:=by simp[h2]
   have q:=Ac (r:=Wh.Ee) (fun i=>(((i:Int),(),()),b,a)) (n:=a.2.1.length) (p:=fun i=>decide (a.2.1.getD i z0=b.2.1.getD i z0)) (yf:=.inl (false,())) (yt:=.inr ((),())) (fun i hi _ hp=>by
     have hp':=(LA (a.2.1.getD i z0) (b.2.1.getD i z0)).trans hp
     unfold z0 at hp'
     simp only[Wh.Ee,gl hi,gl (show i<b.2.1.length by omega),g0,Int.toNat_natCast,hp',iy,Bool.and_self,Bool.not_true,cond_true,cond_false,mw (show i≤4611686018427387904 by omega)]) (fun i hi _ hp=>by
     have hp':=(LA (a.2.1.getD i z0) (b.2.1.getD i z0)).trans hp
     unfold z0 at hp'
     simp only[Wh.Ee,gl hi,gl (show i<b.2.1.length by omega),g0,Int.toNat_natCast,hp',iy,Bool.and_self,Bool.not_false,cond_true]) (by
     have d1:decide ((a.2.1.length:Int)<(a.2.1.length:Int))=false:=decide_eq_false (by omega)
     simp only[Wh.Ee,d1,cond_false])
   rw[Vt _ _ h2] at q
   have q':Comes Wh.Ee ((0,(),()),b,a) _:=q
   simp only[Wh.Fl,c1,c2,cond_false,cb q',cv q',cond_true]
   rw[←ct_eq a b h2,decide_eq_true h1,Bool.true_and]
   cases decide (a.2.1=b.2.1)<;>rfl
  ·have c1:(a.1 != b.1)=false:=by simp[h1]
   have c2:((a.2.1.length:Int) != (b.2.1.length:Int))=true:=bne_iff_ne.2 (by omega)
   simp only[Wh.Fl,c1,c2,cond_false,cond_true]
   rw[decide_eq_false (by rintro rfl;exact h2 rfl)]
 ·have c1:(a.1 != b.1)=true:=bne_iff_ne.2 h1
  simp only[Wh.Fl,c1,cond_true]
  rw[decide_eq_false (by rintro rfl;exact h1 rfl)]
theorem abo (a b:Ct)(hl:a.2.1.length≤9999999):Wh.q98 (a,b)=some (decide (a=b),()):=by
 have he:Wh.q20 (a.2.1,b.2.1)=some (decide (a.2.1=b.2.1),()):=by
  by_cases h2:a.2.1.length=b.2.1.length
  ·have c2:((a.2.1.length:Int) != (b.2.1.length:Int))=false:=by simp[h2]
   have q:=Ac (r:=Wh.Ew) (fun i=>(((i:Int),b.2.1,a.2.1,(a.2.1.length:Int)),())) (n:=a.2.1.length) (p:=fun i=>decide (a.2.1.getD i z0=b.2.1.getD i z0)) (yf:=.inl (false,())) (yt:=.inr ((),())) (fun i hi _ hp=>by
     have hp':=(LA (a.2.1.getD i z0) (b.2.1.getD i z0)).trans hp
     unfold z0 at hp'
     simp only[Wh.Ew,gl hi,gl (show i<b.2.1.length by omega),g0,Int.toNat_natCast,hp',iy,Bool.and_self,Bool.not_true,cond_true,cond_false,mw (show i≤4611686018427387904 by omega)]) (fun i hi _ hp=>by
     have hp':=(LA (a.2.1.getD i z0) (b.2.1.getD i z0)).trans hp
     unfold z0 at hp'
     simp only[Wh.Ew,gl hi,gl (show i<b.2.1.length by omega),g0,Int.toNat_natCast,hp',iy,Bool.and_self,Bool.not_false,cond_true]) (by
     have d1:decide ((a.2.1.length:Int)<(a.2.1.length:Int))=false:=decide_eq_false (by omega)
     simp only[Wh.Ew,d1,cond_false])
   rw[Vt _ _ h2] at q
   have q':Comes Wh.Ew ((0,b.2.1,a.2.1,(a.2.1.length:Int)),()) _:=q
   simp only[Wh.q20,c2,cond_false,cb q',cv q',cond_true]
   cases decide (a.2.1=b.2.1)<;>rfl
  ·have c2:((a.2.1.length:Int) != (b.2.1.length:Int))=true:=bne_iff_ne.2 (by omega)
   simp only[Wh.q20,c2,cond_true]
   rw[decide_eq_false (fun e=>h2 (by rw[e]))]
 have hd:(bif a.1==b.1 then decide (a.2.1=b.2.1) else false)=decide (a=b):=by
  obtain⟨a1,a2,a3⟩:=a
  obtain⟨b1,b2,b3⟩:=b
  by_cases h1:a1=b1
  ·simp[h1]
  ·simp[h1]
 simp only[Wh.q98,he,Wh.q20_v _ _ he,nQ,Bool.or_true,iy,cond_true,hd]
def AW (l:List It)(e:Int):Option Nat:=first l.length fun i=>(l.getD i z0).2.2.1==e
def edI (l:List It):Option Nat→It
 |some i=>l.getD i z0
 |none=>z0
theorem Y8 (c:Ct)(e:Int)(hl:c.2.1.length≤9999999):Wh.q61 (c,e)=some ((edI c.2.1 (AW c.2.1 e),(AW c.2.1 e).isSome),()):=by
 obtain⟨ce,l,u⟩:=c
 have hl:l.length≤9999999:=hl
 have q:=DZ (r:=Wh.EH) (fun i=>(((),(i:Int),(),e),((0:Int),([]:List UInt8),(0:Int),([]:List UInt8),()),(ce,l,u))) (n:=l.length) (p:=fun i=>(l.getD i z0).2.2.1==e) (yt:=fun i=>.inl (((),true),l.getD i z0)) (yn:=.inr ((),(0:Int),[],(0:Int),[],())) (fun i hi hp=>by
   have hp':((l.getD i z0).2.2.1==e)=false:=hp
   unfold z0 at hp'
   simp only[Wh.EH,gl hi,g0,Int.toNat_natCast,hp',iy,Bool.and_self,cond_true,cond_false,mw (show i≤4611686018427387904 by omega)]) (fun i hi hp=>by
   have hp':((l.getD i z0).2.2.1==e)=true:=hp
   unfold z0 at hp' ⊢
   simp only[Wh.EH,gl hi,g0,Int.toNat_natCast,hp',iy,Bool.and_self,cond_true]) (by
   have d1:decide ((l.length:Int)<(l.length:Int))=false:=decide_eq_false (by omega)
   simp only[Wh.EH,d1,cond_false])
 have q':Comes Wh.EH (((),0,(),e),((0:Int),([]:List UInt8),(0:Int),([]:List UInt8),()),(ce,l,u)) _:=q
 simp only[Wh.q61,cb q',cv q',cond_true,AW]
 cases first l.length (fun i=>(l.getD i z0).2.2.1==e)<;>rfl
theorem U4 (c:Ct)(e:Int)(hl:c.2.1.length≤9999999):Wh.q23 (c,e)=some (yC (AW c.2.1 e),()):=by
 obtain⟨ce,l,u⟩:=c
 have hl:l.length≤9999999:=hl
 have f (x:It):Wh.q15 (x,e)=some ((x.2.2.1==e),()):=rfl
 have q:=DZ (r:=Wh.EG) (fun i=>(((i:Int),l,(e,()),(l.length:Int)),())) (n:=l.length) (p:=fun i=>(l.getD i z0).2.2.1==e) (yt:=fun i=>.inl ((i:Int),())) (yn:=.inr ((),())) (fun i hi hp=>by
   have hp':((l.getD i z0).2.2.1==e)=false:=hp
   unfold z0 at hp'
   simp only[Wh.EG,gl hi,g0,Int.toNat_natCast,f,Wh.Qh _ _ (f _),hp',nQ,iy,Bool.and_self,cond_true,cond_false,mw (show i≤4611686018427387904 by omega)]) (fun i hi hp=>by
   have hp':((l.getD i z0).2.2.1==e)=true:=hp
   unfold z0 at hp'
   simp only[Wh.EG,gl hi,g0,Int.toNat_natCast,f,Wh.Qh _ _ (f _),hp',nQ,iy,Bool.and_self,cond_true]) (by
   have d1:decide ((l.length:Int)<(l.length:Int))=false:=decide_eq_false (by omega)
   simp only[Wh.EG,d1,cond_false])
 have q':Comes Wh.EG ((0,l,(e,()),(l.length:Int)),()) _:=q
 have h:Wh.q5 (l,e,())=some (yC (AW l e),()):=by
  simp only[Wh.q5,cb q',cv q',cond_true,AW]
  cases first l.length (fun i=>(l.getD i z0).2.2.1==e)<;>rfl
 simp only[Wh.q23,h,Wh.q5_v _ _ h,nQ,iy,cond_true]
theorem Ll:Wh.BU=Wh.Bp:=rfl
theorem Lm:Wh.zL=Wh.zJ:=rfl
def AU (a b:Int):Int:=IntKind.wrap .i64 (Int.tdiv (IntKind.wrap .i64 (IntKind.wrap .i64 (a+b)-1)) b)
theorem count_eq (a b:Int)(x y:List Int)(u:Unit)(h:b≠0):Wh.Bp (a,b,x,y,u)=some (AU a b,()):=by
 have c:(b != 0)=true:=bne_iff_ne.2 h
 simp only[Wh.Bp,c,iy,cond_true];rfl
theorem Lf (a b:Nat)(ha:a≤100000)(hb:1≤b)(bZ:b≤1000):AU a b=(((a+b-1) / b:Nat):Int):=by
 have w1:IntKind.wrap .i64 ((a:Int)+(b:Int))=((a+b:Nat):Int):=wi (by omega) (by omega)
 have w2:IntKind.wrap .i64 (((a+b:Nat):Int)-1)=((a+b-1:Nat):Int):=wi (by omega) (by omega)
 have w3:Int.tdiv ((a+b-1:Nat):Int) (b:Int)=(((a+b-1) / b:Nat):Int):=by rw[Int.tdiv_eq_ediv_of_nonneg (by omega)];rfl
 have hle:(a+b-1) / b≤a+b-1:=Nat.div_le_self _ _
 rw[AU,w1,w2,w3];exact wi rfl (by omega)
theorem aa2 (L:Nat)(hL:L≤300):∀d s:Nat,s+d=13→1≤s→∃s':Nat,1≤s'∧s'≤13∧Comes Wh.Bx (((),()),((L:Int),(s:Int),(),(),()),((0:Int),(0:Int),(),(),()),[],[],[],[]) (((),()),((0:Int),(0:Int),(),(),()),((L:Int),(s':Int),(),(),()),[],[],[],[]):=by
 intro d
 induction d with
 |zero=>
  intro s h1 h2
  have:s=13:=by omega
  subst this
  refine⟨13,by omega,by omega,.out ?_⟩
  have a:=count_eq (L:Int) ((13:Nat):Int) [] [] () (by omega)
  rw[Lf L 13 (by omega) (by omega) (by omega)] at a
  have c1:decide ((((L+13-1) / 13:Nat):Int)>24)=false:=decide_eq_false (by omega)
  simp only[Wh.Bx,a,Wh.AJ _ _ a,c1,nQ,iy,cond_true,cond_false]
 |succ d ih=>
  intro s h1 h2
  have a:=count_eq (L:Int) (s:Int) [] [] () (by omega)
  cases hc:decide (AU (L:Int) (s:Int)>24) with
  |true=>
   obtain⟨s',g1,g2,g3⟩:=ih (s+1) (by omega) (by omega)
   refine⟨s',g1,g2,.again ?_ g3⟩
   simp only[Wh.Bx,a,Wh.AJ _ _ a,hc,nQ,iy,cond_true,mw (show s≤4611686018427387904 by omega)]
  |false=>
   refine⟨s,by omega,by omega,.out ?_⟩
   simp only[Wh.Bx,a,Wh.AJ _ _ a,hc,nQ,iy,cond_true,cond_false]
theorem WN (L:Nat)(h1:1≤L)(hL:L≤300):∃P:s_.D,P.2.1≠0∧Wh.BT (L:Int)=some (P,())∧Wh.Co (L:Int)=some (P,()):=by
 obtain⟨s,g1,g2,g3⟩:=aa2 L hL 5 8 (by omega) (by omega)
 have g3':Comes Wh.Bx (((),()),((L:Int),(8:Int),(),(),()),((0:Int),(0:Int),(),(),()),[],[],[],[]) _:=g3
 have g4:Comes Wh.I4 (((),()),((L:Int),(8:Int),(),(),()),((0:Int),(0:Int),(),(),()),[],[],[],[]) _:=g3
 have a:=count_eq (L:Int) (s:Int) [] [] () (by omega)
 have wi1:nS (L:Int) 1 300=true:=decide_eq_true (by omega)
 cases hk:decide (IntKind.wrap .i64 (Int.tdiv (IntKind.wrap .i64 (AU (L:Int) (s:Int)+3)) 4)<AU (L:Int) (s:Int)) with
 |true=>
  refine⟨((L:Int),(s:Int),[IntKind.wrap .i64 (Int.tdiv (IntKind.wrap .i64 (AU (L:Int) (s:Int)+3)) 4),AU (L:Int) (s:Int)],[(2:Int),(3:Int)],()),by simp only;omega,?_,?_⟩
  ·simp only[Wh.BT,cb g3',cv g3',cond_true,a,Wh.AJ _ _ a,hk,nQ,iy]
  ·simp only[Wh.Co,yV,Wh.zK _ _ (yV _ _ _),wi1,cb g4,cv g4,cond_true,cond_false,Bool.not_true,Ll,Lm,a,Wh.AJ _ _ a,hk,nQ,iy]
 |false=>
  refine⟨((L:Int),(s:Int),[AU (L:Int) (s:Int)],[(1:Int)],()),by simp only;omega,?_,?_⟩
  ·simp only[Wh.BT,cb g3',cv g3',cond_true,a,Wh.AJ _ _ a,hk,nQ,iy,cond_false]
  ·simp only[Wh.Co,yV,Wh.zK _ _ (yV _ _ _),wi1,cb g4,cv g4,cond_true,cond_false,Bool.not_true,Ll,Lm,a,Wh.AJ _ _ a,hk,nQ,iy]
noncomputable def J0 (L:Int):Int:=AU (Wh.G_ L).1.1 (Wh.G_ L).1.2.1
noncomputable def D0 (c:Ct) (f:Fr):Bool:=bif decide (f.2.2.2.1>0) then true else bif decide (f.2.1>0) then(match AW c.2.1 f.2.1 with
 |none=>true
 |some k=>bif(c.2.1.getD k z0).1 != f.1 then true else decide (f.2.2.1≥J0 ((c.2.1.getD k z0).2.2.2.1.length:Int))) else false
theorem NB {l:List It}{e:Int}{i:Nat}(h:AW l e=some i):i<l.length:=(Ap.1 h).1
theorem Y9 (s:fk.D)(I:yJ s.2.2.2.1)(i:Nat)(hi:i<s.2.2.2.2.1.1.length)(hl:s.2.2.2.2.1.1.length≤9999999) :
  Wh.BX (((i:Int),()),s)=if D0 s.2.2.2.1 (s.2.2.2.2.1.1.getD i zF)=true then some (.inr (.inl (false,()))) else some (.inl ((((i+1:Nat):Int),()),s)):=by
 have bI:s.2.2.2.1.2.1.length≤8:=I.len
 have ed:=Y8 s.2.2.2.1 (s.2.2.2.2.1.1.getD i zF).2.1 (by omega)
 have w:=mw (show i≤4611686018427387904 by omega)
 unfold D0
 cases hw:decide ((s.2.2.2.2.1.1.getD i zF).2.2.2.1>0) with
 |true=>
  unfold zF at ed hw ⊢
  simp only[Wh.BX,gl hi,g0,Int.toNat_natCast,ed,Wh.FQ _ _ ed,hw,nQ,Bool.not_true,Bool.and_false,Bool.not_false,Bool.true_or,Bool.or_true,iy,Bool.and_self,cond_true,if_true]
 |false=>
  cases he:decide ((s.2.2.2.2.1.1.getD i zF).2.1>0) with
  |false=>
   unfold zF at ed hw he ⊢
   simp only[Wh.BX,gl hi,g0,Int.toNat_natCast,ed,Wh.FQ _ _ ed,hw,he,nQ,Bool.not_true,Bool.and_false,Bool.false_and,Bool.not_false,Bool.true_or,Bool.or_true,iy,Bool.and_self,cond_true,cond_false,w]
   rfl
  |true=>
   cases hk:AW s.2.2.2.1.2.1 (s.2.2.2.2.1.1.getD i zF).2.1 with
   |none=>
    rw[hk] at ed
    unfold zF at ed hw he ⊢
    simp only[Wh.BX,gl hi,g0,Int.toNat_natCast,ed,Wh.FQ _ _ ed,hw,he,edI,Option.isSome,nQ,Bool.not_true,Bool.not_false,Bool.true_or,Bool.or_true,Bool.and_true,iy,Bool.and_self,cond_true,cond_false,if_true]
   |some k=>
    rw[hk] at ed
    have jf:=NB hk
    have hp:=LY (I.ok (s.2.2.2.1.2.1.getD k z0) (by rw[getD_eq _ _ _ jf];exact List.getElem_mem jf))
    obtain⟨P,hP,f1,_⟩:=WN _ hp.2.2.1 hp.2.2.2
    have f3 (x y:List Int) (u:Unit):=count_eq P.1 P.2.1 x y u hP
    have f4 (x y:List Int) (u:Unit):=Wh.AJ _ _ (f3 x y u)
    cases hh:((s.2.2.2.1.2.1.getD k z0).1 != (s.2.2.2.2.1.1.getD i zF).1) with
    |true=>
     unfold zF at ed hw he hh ⊢
     simp only[Wh.BX,gl hi,g0,Int.toNat_natCast,ed,Wh.FQ _ _ ed,hw,he,hh,edI,Option.isSome,nQ,Bool.not_true,Bool.not_false,Bool.true_or,Bool.or_true,Bool.and_true,iy,Bool.and_self,cond_true,cond_false,if_true]
    |false=>
     have hc:J0 ((s.2.2.2.1.2.1.getD k z0).2.2.2.1.length:Int)=AU P.1 P.2.1:=by rw[J0,Wh.He _ _ f1]
     unfold zF at ed hw he hh ⊢
     simp only[hc,Wh.BX,gl hi,g0,Int.toNat_natCast,ed,Wh.FQ _ _ ed,hw,he,hh,f1,Wh.He _ _ f1,f3,f4,edI,Option.isSome,nQ,Bool.not_true,Bool.not_false,Bool.or_true,iy,Bool.and_self,cond_true,cond_false,w]
     cases decide ((s.2.2.2.2.1.1.getD i ((0:Int),(0:Int),(0:Int),(0:Int),false,())).2.2.1≥AU P.1 P.2.1)<;>rfl
theorem U5 (c:Ct)(I:yJ c)(l:List Fr)(i:Nat)(hi:i<l.length)(hl:l.length≤9999999)(hok:okF (l.getD i zF)=true) :
  Wh.BW (((i:Int),(),l,(l.length:Int)),c)=if D0 c (l.getD i zF)=true then some (.inr (.inl (false,()))) else some (.inl ((((i+1:Nat):Int),(),l,(l.length:Int)),c)):=by
 have bI:c.2.1.length≤8:=I.len
 have ed:=U4 c (l.getD i zF).2.1 (by omega)
 have w:=mw (show i≤4611686018427387904 by omega)
 unfold D0
 cases hz:((l.getD i zF).2.1==0) with
 |true=>
  have h0:(l.getD i zF).2.1=0:=eq_of_beq hz
  have hw:decide ((l.getD i zF).2.2.2.1>0)=false:=by
   unfold okF at hok
   rw[hz,cond_true] at hok
   simp only[Bool.and_eq_true,beq_iff_eq] at hok
   exact decide_eq_false (by omega)
  have he:decide ((l.getD i zF).2.1>0)=false:=decide_eq_false (by omega)
  rw[hw,he]
  unfold zF at hz ⊢
  simp only[Wh.BW,gl hi,g0,Int.toNat_natCast,hz,iy,Bool.and_self,cond_true,cond_false,w]
  rfl
 |false=>
  have he:decide ((l.getD i zF).2.1>0)=true:=by
   unfold okF at hok
   rw[hz,cond_false] at hok
   simp only[Bool.and_eq_true,nS,decide_eq_true_iff] at hok
   exact decide_eq_true (by omega)
  rw[he]
  cases hw:decide ((l.getD i zF).2.2.2.1>0) with
  |true=>
   unfold zF at ed hz hw ⊢
   simp only[Wh.BW,gl hi,g0,Int.toNat_natCast,hz,ed,Wh.Hh _ _ ed,hw,nQ,Bool.not_true,Bool.not_false,Bool.true_or,iy,Bool.and_self,cond_true,cond_false,if_true]
  |false=>
   cases hk:AW c.2.1 (l.getD i zF).2.1 with
   |none=>
    rw[hk] at ed
    unfold zF at ed hz hw ⊢
    simp only[Wh.BW,gl hi,g0,Int.toNat_natCast,hz,ed,Wh.Hh _ _ ed,hw,Nu,nQ,Bool.not_true,Bool.not_false,Bool.true_or,iy,Bool.and_self,cond_true,cond_false,if_true]
   |some k=>
    rw[hk] at ed
    have jf:=NB hk
    have hp:=LY (I.ok (c.2.1.getD k z0) (by rw[getD_eq _ _ _ jf];exact List.getElem_mem jf))
    obtain⟨P,hP,f0,f1⟩:=WN _ hp.2.2.1 hp.2.2.2
    have f3 (x y:List Int) (u:Unit):Wh.BU (P.1,P.2.1,x,y,u)=_:=count_eq P.1 P.2.1 x y u hP
    have f4 (x y:List Int) (u:Unit):=Wh.q32_v _ _ (f3 x y u)
    have ed':Wh.q23 (c,(l.getD i zF).2.1)=some ((k:Int),()):=ed
    have e1:decide ((k:Int)<0)=false:=decide_eq_false (by omega)
    cases hh:((c.2.1.getD k z0).1 != (l.getD i zF).1) with
    |true=>
     unfold zF at ed' hz hw hh ⊢
     unfold z0 at hh ⊢
     simp only[Wh.BW,gl hi,gl jf,g0,Int.toNat_natCast,hz,ed',Wh.Hh _ _ ed',hw,hh,e1,nQ,Bool.not_true,Bool.not_false,Bool.true_or,Bool.or_true,iy,Bool.and_self,cond_true,cond_false,if_true]
    |false=>
     have hc:J0 ((c.2.1.getD k z0).2.2.2.1.length:Int)=AU P.1 P.2.1:=by rw[J0,Wh.He _ _ f0]
     unfold zF at ed' hz hw hh ⊢
     have hh2:=hh
     unfold z0 at hh2 f1
     simp only[hc,hh2,Wh.BW,gl hi,gl jf,g0,Int.toNat_natCast,hz,ed',Wh.Hh _ _ ed',hw,hh,e1,f1,Wh.ME _ _ f1,f3,f4,nQ,Bool.not_true,Bool.not_false,Bool.or_true,iy,Bool.and_self,cond_true,cond_false,w]
     cases decide ((l.getD i ((0:Int),(0:Int),(0:Int),(0:Int),false,())).2.2.1≥AU P.1 P.2.1)<;>rfl
abbrev Bu:Type:=Int×Int×Int×Int×Unit
def Gr (b:Bu):Bool:=nS b.2.1 0 99999&&nS b.1 0 b.2.1&&nS b.2.2.1 0 99999&&nS b.2.2.2.1 0 99999
theorem Y6 (b:Bu):Wh.q86 b=some (Gr b,()):=by
 unfold Gr
 simp only[Wh.q86,Bh,Wh.zY _ _ (Bh _ _ _),nQ,Bool.or_true,iy,Bool.and_self,cond_true]
 cases nS b.2.1 0 99999<;>cases nS b.1 0 b.2.1<;>cases nS b.2.2.1 0 99999<;>cases nS b.2.2.2.1 0 99999<;>rfl
theorem U2 (b:Bu):Wh.q63 b=some (Gr b,()):=by
 unfold Gr
 simp only[Wh.q63,yV,Wh.zK _ _ (yV _ _ _),nQ,Bool.or_true,iy,Bool.and_self,cond_true]
 cases nS b.2.1 0 99999<;>cases nS b.1 0 b.2.1<;>cases nS b.2.2.1 0 99999<;>cases nS b.2.2.2.1 0 99999<;>rfl
def zB:Bu:=((0:Int),(0:Int),(0:Int),(0:Int),())
def DY (now:Int)(b:Bu):Bool:=bif bif bif !Gr b then true else b.2.1 != 40 then true else b.2.2.1 != 8 then true else decide (b.2.2.2.1>now)
theorem Y5 (s:fk.D)(i:Nat)(hi:i<s.2.2.2.2.2.1.length)(hl:s.2.2.2.2.2.1.length≤9999999) :
  Wh.EM (((i:Int),()),s)=if DY s.2.1 (s.2.2.2.2.2.1.getD i zB)=true then some (.inr (.inl (false,()))) else some (.inl ((((i+1:Nat):Int),()),s)):=by
 have w:=mw (show i≤4611686018427387904 by omega)
 unfold DY zB
 simp only[Wh.EM,gl hi,g0,Int.toNat_natCast,Y6,Wh.q86_v _ _ (Y6 _),nQ,iy,Bool.and_self,cond_true,w]
 generalize (bif bif bif !Gr _ then true else _ then true else _ then true else _)=b
 cases b<;>rfl
theorem U1 (s:fk.D)(l:List Bu)(i:Nat)(hi:i<l.length)(hl:l.length≤9999999) :
  Wh.EI (((i:Int),(),l,(l.length:Int)),s)=if DY s.2.1 (l.getD i zB)=true then some (.inr (.inl (false,()))) else some (.inl ((((i+1:Nat):Int),(),l,(l.length:Int)),s)):=by
 have w:=mw (show i≤4611686018427387904 by omega)
 unfold DY zB
 simp only[Wh.EI,gl hi,g0,Int.toNat_natCast,U2,Wh.q63_v _ _ (U2 _),nQ,iy,Bool.and_self,cond_true,w]
 generalize (bif bif bif !Gr _ then true else _ then true else _ then true else _)=b
 cases b<;>rfl
end Pl
open Go Go.Ab Go.Lib
namespace Pl
abbrev Sv:Type:=Int×Int×Int×Int×Int×Int×Unit
def zS:Sv:=((0:Int),(0:Int),(0:Int),(0:Int),(0:Int),(0:Int),())
def Ih (l:List Sv)(i:Nat)(c:Int):Bool:=match i with
 |0=>false
 |m+1=>decide ((l.getD m zS).1≥c)
def Jt (c:Ct)(s:Sv):Bool:=bif(AW c.2.1 s.2.2.1).isSome then(edI c.2.1 (AW c.2.1 s.2.2.1)).1 != Int.tmod s.1 2 else false
def Ba (c:Ct)(now:Int)(l:List Sv)(i:Nat):Bool:=
 ((((((!nS (l.getD i zS).1 0 3 || Ih l i (l.getD i zS).1) || !nS (l.getD i zS).2.1 1 99999) || !nS (l.getD i zS).2.2.1 1 c.1) || !nS (l.getD i zS).2.2.2.1 0 9999) || !nS (l.getD i zS).2.2.2.2.1 0 3) || !nS (l.getD i zS).2.2.2.2.2.1 0 now) || Jt c (l.getD i zS)
theorem K9 (a b:Bool):(bif a then true else b)=(a || b):=by cases a<;>rfl
theorem Zd (s:fk.D)(hc:s.2.2.2.1.2.1.length≤9999999)(i:Nat)(hi:i<s.2.2.2.2.2.2.1.length)(hl:s.2.2.2.2.2.2.1.length≤9999999) :
  Wh.DE (((i:Int),()),s)=if Ba s.2.2.2.1 s.2.1 s.2.2.2.2.2.2.1 i=true then some (.inr (.inl (false,()))) else some (.inl ((((i+1:Nat):Int),()),s)):=by
 have w:=mw (show i≤4611686018427387904 by omega)
 have ed:=Y8 s.2.2.2.1 (s.2.2.2.2.2.2.1.getD i zS).2.2.1 hc
 have hh (x:Int):Wh.q88 x=some (Int.tmod x 2,()):=rfl
 have fin (A B:Bool) (X Y:Option ((((Int)×(Unit))×((fk.D)))⊕((((Bool))×(Unit))⊕((Unit)×(Unit))))):(bif A then X else bif B then X else Y)=if(A || B)=true then X else Y:=by cases A<;>cases B<;>rfl
 rcases Nat.eq_zero_or_pos i with h0|h0
 ·subst h0
  have d1:decide (((0:Nat):Int)>0)=false:=rfl
  unfold Ba Jt Ih
  unfold zS at ed ⊢
  simp only[Wh.DE,gl hi,g0,Int.toNat_natCast,Bh,Wh.zY _ _ (Bh _ _ _),ed,Wh.FQ _ _ ed,hh,Wh.Cn _ _ (hh _),d1,K9,nQ,Bool.or_true,Bool.false_and,Bool.not_false,Bool.true_or,Bool.or_false,iy,Bool.and_self,cond_true,cond_false,w]
  exact fin _ _ _ _
 ·obtain⟨m,rfl⟩:∃m,i=m+1:=⟨i-1,by omega⟩
  have d1:decide (((m+1:Nat):Int)>0)=true:=decide_eq_true (by omega)
  have w1:IntKind.wrap .i64 (((m+1:Nat):Int)-1)=(m:Int):=wi (by omega) (by omega)
  unfold Ba Jt Ih
  unfold zS at ed ⊢
  simp only[Wh.DE,gl hi,gl (show m<s.2.2.2.2.2.2.1.length by omega),g0,Int.toNat_natCast,w1,Bh,Wh.zY _ _ (Bh _ _ _),ed,Wh.FQ _ _ ed,hh,Wh.Cn _ _ (hh _),d1,K9,nQ,Bool.or_true,iy,Bool.and_self,cond_true,w]
  exact fin _ _ _ _
theorem Jr (n:Int):Wh.q67 n=some (nS n 0 3,()):=by simp only[Wh.q67,yV,Wh.zK _ _ (yV _ _ _),nQ,iy,cond_true]
theorem U9 (s:fk.D)(hc:s.2.2.2.1.2.1.length≤9999999)(i:Nat)(hi:i<s.2.2.2.2.2.2.1.length)(hl:s.2.2.2.2.2.2.1.length≤9999999) :
  Wh.DF (((i:Int),(),s.2.2.2.2.2.2.1,(s.2.2.2.2.2.2.1.length:Int)),s)=if Ba s.2.2.2.1 s.2.1 s.2.2.2.2.2.2.1 i=true then some (.inr (.inl (false,()))) else some (.inl ((((i+1:Nat):Int),(),s.2.2.2.2.2.2.1,(s.2.2.2.2.2.2.1.length:Int)),s)):=by
 have w:=mw (show i≤4611686018427387904 by omega)
 have ed:=U4 s.2.2.2.1 (s.2.2.2.2.2.2.1.getD i zS).2.2.1 hc
 have hh (x:Int):Wh.q96 x=some (Int.tmod x 2,()):=rfl
 have he:∃v,yC (AW s.2.2.2.1.2.1 (s.2.2.2.2.2.2.1.getD i zS).2.2.1)=v∧decide (v≥0)=(AW s.2.2.2.1.2.1 (s.2.2.2.2.2.2.1.getD i zS).2.2.1).isSome∧(!decide (v≥0) || decide (0≤v))=true∧(!decide (v≥0) || decide (v<(s.2.2.2.1.2.1.length:Int)))=true ∧
   (bif decide (v≥0) then(s.2.2.2.1.2.1.getD (Int.toNat v) z0).1 != Int.tmod (s.2.2.2.2.2.2.1.getD i zS).1 2 else false)=Jt s.2.2.2.1 (s.2.2.2.2.2.2.1.getD i zS):=by
  unfold Jt
  cases e:AW s.2.2.2.1.2.1 (s.2.2.2.2.2.2.1.getD i zS).2.2.1 with
  |none=>exact⟨-1,rfl,rfl,rfl,rfl,rfl⟩
  |some k=>
   have:=NB e
   have d:decide ((k:Int)≥0)=true:=decide_eq_true (by omega)
   refine⟨(k:Int),rfl,d,by rw[g0,Bool.or_true],by rw[gl this,Bool.or_true],?_⟩
   rw[d];rfl
 obtain⟨v,hv,_,y9,hv3,hv4⟩:=he
 rw[hv] at ed
 have fin (A B C D:Bool) (X Y:Option ((((Int)×(Unit)×(List (cr.D))×(Int))×((fk.D)))⊕((((Bool))×(Unit))⊕((Unit)×(Unit))))) (h:(A || (B || C))=D):(bif A then X else bif B then X else bif C then X else Y)=if D=true then X else Y:=by subst h;cases A<;>cases B<;>cases C<;>rfl
 have bool8 (a b c d e f g h:Bool):((((b || !a) || !c) || !d) || (h || ((!e || !f) || !g)))=(((((((!a || b) || !c) || !d) || !e) || !f) || !g) || h):=by
  cases a<;>cases b<;>cases c<;>cases d<;>cases e<;>cases f<;>cases g<;>cases h<;>rfl
 have bool7 (a c d e f g h:Bool):(((!a || !c) || !d) || (h || ((!e || !f) || !g)))=((((((!a || !c) || !d) || !e) || !f) || !g) || h):=by
  cases a<;>cases c<;>cases d<;>cases e<;>cases f<;>cases g<;>cases h<;>rfl
 rcases Nat.eq_zero_or_pos i with h0|h0
 ·subst h0
  have d1:decide (((0:Nat):Int)>0)=false:=rfl
  unfold Ba Ih
  unfold z0 at hv4
  unfold zS at ed hv4 ⊢
  simp only[Wh.DF,gl hi,g0,Int.toNat_natCast,Jr,Wh.CR _ _ (Jr _),yV,Wh.zK _ _ (yV _ _ _),ed,Wh.Hh _ _ ed,hh,Wh.CV _ _ (hh _),y9,hv3,hv4,d1,nQ,Bool.or_true,Bool.not_false,Bool.true_or,Bool.or_false,iy,Bool.and_self,cond_true,cond_false,w]
  refine fin _ _ _ _ _ _ ?_
  simp only[K9]
  exact bool7 _ _ _ _ _ _ _
 ·obtain⟨m,rfl⟩:∃m,i=m+1:=⟨i-1,by omega⟩
  have d1:decide (((m+1:Nat):Int)>0)=true:=decide_eq_true (by omega)
  have w1:IntKind.wrap .i64 (((m+1:Nat):Int)-1)=(m:Int):=wi (by omega) (by omega)
  unfold Ba Ih
  unfold z0 at hv4
  unfold zS at ed hv4 ⊢
  simp only[Wh.DF,gl hi,gl (show m<s.2.2.2.2.2.2.1.length by omega),g0,Int.toNat_natCast,w1,Jr,Wh.CR _ _ (Jr _),yV,Wh.zK _ _ (yV _ _ _),ed,Wh.Hh _ _ ed,hh,Wh.CV _ _ (hh _),y9,hv3,hv4,d1,nQ,Bool.or_true,iy,Bool.and_self,cond_true,w]
  refine fin _ _ _ _ _ _ ?_
  simp only[K9]
  exact bool8 _ _ _ _ _ _ _ _
noncomputable def yZ (s:fk.D):List (List UInt8)×Nat:=CE hash s.2.2.1
noncomputable def Lo (s:fk.D):Bool:=(s.2.2.2.1.2.1.length==0&&s.2.2.2.1.1==0&&s.2.2.2.2.1.1.length==0&&s.2.2.2.2.1.2.1==0&&s.2.2.2.2.2.1.length==0&&s.2.2.2.2.2.2.1.length==0)
noncomputable def Ju (s:fk.D):Bool:=jS s.2.2.2.2.1.1.length (fun i=> !D0 s.2.2.2.1 (s.2.2.2.2.1.1.getD i zF))
noncomputable def Nw (s:fk.D):Bool:=jS s.2.2.2.2.2.1.length (fun i=> !DY s.2.1 (s.2.2.2.2.2.1.getD i zB))
noncomputable def KB (s:fk.D):Bool:=jS s.2.2.2.2.2.2.1.length (fun i=> !Ba s.2.2.2.1 s.2.1 s.2.2.2.2.2.2.1 i)
noncomputable def upV (s:fk.D):Bool:=(yZ s).2==s.2.2.1.length&&(decide ((An (yZ s).1).1=s.2.2.2.1)&&(Ci s.2.2.2.2.1&&(s.2.2.2.2.2.1.length==2&&(KB s&&(Ju s&&Nw s)))))
noncomputable def okV (s:fk.D):Bool:=nS s.2.1 0 99999&&(decide (s.2.2.1.length≤9000)&&((An (yZ s).1).2&&(bif s.1 then upV s else Lo s)))
theorem Nx {l:List (List UInt8)}(h:(An l).2=true):yJ (An l).1:=by
 unfold An at h ⊢
 cases e:Bd (0,[],()) l with
 |none=>rw[e] at h;cases h
 |some c=>exact Uo l _ c Lc e
theorem aft (s:fk.D)(hc:s.2.2.2.1.2.1.length≤9999999)(hl:s.2.2.2.2.2.2.1.length≤9999999):Wh.q60 s=some (KB s,()):=by
 have q:=Ac (r:=Wh.DE) (fun i=>(((i:Int),()),s)) (n:=s.2.2.2.2.2.2.1.length) (p:=fun i=> !Ba s.2.2.2.1 s.2.1 s.2.2.2.2.2.2.1 i) (yf:=.inl (false,())) (yt:=.inr ((),())) (fun i hi _ hp=>by
   rw[Zd s hc i hi hl,if_neg (by simpa using hp)]) (fun i hi _ hp=>by
   rw[Zd s hc i hi hl,if_pos (by simpa using hp)]) (by
   have d1:decide ((s.2.2.2.2.2.2.1.length:Int)<(s.2.2.2.2.2.2.1.length:Int))=false:=decide_eq_false (by omega)
   simp only[Wh.DE,d1,cond_false])
 have q':Comes Wh.DE ((0,()),s) _:=q
 simp only[Wh.q60,cb q',cv q',cond_true]
 unfold KB
 cases jS s.2.2.2.2.2.2.1.length (fun i=> !Ba s.2.2.2.1 s.2.1 s.2.2.2.2.2.2.1 i)<;>rfl
theorem Y0 (s:fk.D)(h:s.2.2.1.length≤9999999):(yZ s).1.length≤9999999∧∀r∈(yZ s).1,r.length≤9999999:=by
 obtain⟨h1,h2,h3⟩:=vQ hash B9 (s.2.2.1.length+1) s.2.2.1 0
 refine⟨?_,fun r hr=>?_⟩
 ·change (eE hash (s.2.2.1.length+1) s.2.2.1 0).1.length≤9999999;omega
 ·have:=h3 r hr;omega
theorem afB (s:fk.D)(S:Al s):Wh.q87 s=some (okV s,()):=by
 have BG:=S.log
 have hbk:=S.B6
 have hsv:=S.Cr
 have hfr:s.2.2.2.2.1.1.length≤1048576:=S.CK
 have hct:s.2.2.2.1.2.1.length≤1048576:=S.cat
 have a:=abD s.2.2.1 (by omega)
 obtain⟨r1,r2⟩:=Y0 s (by omega)
 have b:=afx (yZ s).1 r1 r2
 unfold okV
 change Wh.Ft s.2.2.1=some (((yZ s).1,((yZ s).2:Int)),()) at a
 have hle:decide ((s.2.2.1.length:Int)>9000) = !decide (s.2.2.1.length≤9000):=by
  by_cases h:s.2.2.1.length≤9000
  ·rw[decide_eq_true h,decide_eq_false (by omega)];rfl
  ·rw[decide_eq_false h,decide_eq_true (by omega)];rfl
 have Ff (x y:Nat):((x:Int)==(y:Int))=(x==y):=by rw[Bool.eq_iff_iff,beq_iff_eq,beq_iff_eq];omega
 have Oo (x:Nat):((x:Int)==0)=(x==0):=Ff x 0
 have Oq (x:Nat):((x:Int) != 2) = !(x==2):=by rw[←Ff x 2];rfl
 simp only[Wh.q87,Bh,Wh.zY _ _ (Bh _ _ _),hle,nQ,iy,cond_true]
 cases nS s.2.1 0 99999 with
 |false=>rfl
 |true=>
 cases decide (s.2.2.1.length≤9000) with
 |false=>rfl
 |true=>
 simp only[Bool.not_true,cond_false,Bool.true_and]
 cases cS:s.1 with
 |false=>
  have sy:Wh.Iu s=some ((An (yZ s).1).2,()):=by
   simp only[Wh.Iu,a,Wh.P8 _ _ a,b,Wh.Qm _ _ b,nQ,iy,cond_true]
  simp only[Bool.not_false,cond_true,cond_false,sy,Wh.Xe _ _ sy,Bool.or_true,Oo,Lo]
  congr 2
  cases (An (yZ s).1).2<;>cases (s.2.2.2.1.2.1.length==0)<;>cases (s.2.2.2.1.1==0)<;>cases (s.2.2.2.2.1.1.length==0)<;>cases (s.2.2.2.2.1.2.1==0)<;>cases (s.2.2.2.2.2.1.length==0)<;>cases (s.2.2.2.2.2.2.1.length==0)<;>rfl
 |true=>
  have sm:=afF (An (yZ s).1).1 s.2.2.2.1
  have po:=afD s.2.2.2.2.1 (by omega)
  have sv:=aft s (by omega) (by omega)
  have e1:(((yZ s).2:Int) != (s.2.2.1.length:Int)) = !((yZ s).2==s.2.2.1.length):=by rw[←Ff];rfl
  simp only[Bool.not_true,cond_false,cond_true,a,Wh.P8 _ _ a,b,Wh.Qm _ _ b,po,Wh.XG _ _ po,sv,Wh.q60_v _ _ sv,Bool.or_true,e1,Oq]
  unfold upV
  cases hcat:(An (yZ s).1).2 with
  |false=>simp only[Bool.not_false,cond_true,Bool.not_true,Bool.true_or,Bool.and_self,Bool.false_and]
  |true=>
  cases hrd:((yZ s).2==s.2.2.1.length) with
  |false=>simp only[Bool.not_false,cond_true,cond_false,Bool.not_true,Bool.true_or,Bool.and_self,Bool.false_and,Bool.and_false]
  |true=>
  have I:=Nx hcat
  have hI:=I.len
  have sm':=sm (by omega)
  simp only[sm',Wh.Xd _ _ sm',Bool.not_true,Bool.not_false,cond_false,cond_true,Bool.or_true,Bool.true_and,Bool.and_self]
  by_cases hsame:(An (yZ s).1).1=s.2.2.2.1
  ·rw[decide_eq_true hsame]
   rw[hsame] at I
   cases hpo:Ci s.2.2.2.2.1 with
   |false=>rfl
   |true=>
   cases bZ:(s.2.2.2.2.2.1.length==2) with
   |false=>rfl
   |true=>
   cases hsr:KB s with
   |false=>rfl
   |true=>
    simp only[Bool.not_true,cond_false,Bool.true_and]
    have q:=Ac (r:=Wh.BX) (fun i=>(((i:Int),()),s)) (n:=s.2.2.2.2.1.1.length) (p:=fun i=> !D0 s.2.2.2.1 (s.2.2.2.2.1.1.getD i zF)) (yf:=.inl (false,())) (yt:=.inr ((),s)) (fun i hi _ hp=>by
      rw[Y9 s I i hi (by omega),if_neg (by simpa using hp)]) (fun i hi _ hp=>by
      rw[Y9 s I i hi (by omega),if_pos (by simpa using hp)]) (by
      have d1:decide ((s.2.2.2.2.1.1.length:Int)<(s.2.2.2.2.1.1.length:Int))=false:=decide_eq_false (by omega)
      simp only[Wh.BX,d1,cond_false])
    have q':Comes Wh.BX ((0,()),s) _:=q
    have q2:=Ac (r:=Wh.EM) (fun i=>(((i:Int),()),s)) (n:=s.2.2.2.2.2.1.length) (p:=fun i=> !DY s.2.1 (s.2.2.2.2.2.1.getD i zB)) (yf:=.inl (false,())) (yt:=.inr ((),())) (fun i hi _ hp=>by
      rw[Y5 s i hi (by omega),if_neg (by simpa using hp)]) (fun i hi _ hp=>by
      rw[Y5 s i hi (by omega),if_pos (by simpa using hp)]) (by
      have d1:decide ((s.2.2.2.2.2.1.length:Int)<(s.2.2.2.2.2.1.length:Int))=false:=decide_eq_false (by omega)
      simp only[Wh.EM,d1,cond_false])
    have Ev:Comes Wh.EM ((0,()),s) _:=q2
    simp only[cb q',cv q',cond_true]
    unfold Ju Nw
    cases hf:jS s.2.2.2.2.1.1.length (fun i=> !D0 s.2.2.2.1 (s.2.2.2.2.1.1.getD i zF)) with
    |false=>simp[sumC]
    |true=>
     simp only[if_true,sumC,cb Ev,cv Ev,cond_true,Bool.true_and]
     cases hb:jS s.2.2.2.2.2.1.length (fun i=> !DY s.2.1 (s.2.2.2.2.2.1.getD i zB))<;>rfl
  ·rw[decide_eq_false hsame];rfl
theorem Z7 (s:fk.D)(I:yJ s.2.2.2.1)(hp:s.2.2.2.2.1.1.length≤9999999):Wh.q70 (s.2.2.2.2.1,s.2.2.2.1)=some (Ci s.2.2.2.2.1&&Ju s,()):=by
 have a:=abm s.2.2.2.2.1 hp
 cases hv:Ci s.2.2.2.2.1 with
 |false=>
  rw[hv] at a
  simp only[Wh.q70,a,Wh.Pu _ _ a,nQ,iy,cond_true,Bool.not_false,Bool.false_and]
 |true=>
  have hok:∀i,i<s.2.2.2.2.1.1.length→okF (s.2.2.2.2.1.1.getD i zF)=true:=by
   unfold Ci at hv
   simp only[Bool.and_eq_true,beq_iff_eq] at hv
   intro i hi
   have:=oL.1 hv.2.1 i (by omega)
   unfold Ay at this
   rw[Bool.and_eq_true] at this
   exact this.1
  rw[hv] at a
  have q:=Ac (r:=Wh.BW) (fun i=>(((i:Int),(),s.2.2.2.2.1.1,(s.2.2.2.2.1.1.length:Int)),s.2.2.2.1)) (n:=s.2.2.2.2.1.1.length) (p:=fun i=> !D0 s.2.2.2.1 (s.2.2.2.2.1.1.getD i zF)) (yf:=.inl (false,())) (yt:=.inr ((),())) (fun i hi _ hp=>by
    rw[U5 s.2.2.2.1 I _ i hi (by omega) (hok i hi),if_neg (by simpa using hp)]) (fun i hi _ hp=>by
    rw[U5 s.2.2.2.1 I _ i hi (by omega) (hok i hi),if_pos (by simpa using hp)]) (by
    have d1:decide ((s.2.2.2.2.1.1.length:Int)<(s.2.2.2.2.1.1.length:Int))=false:=decide_eq_false (by omega)
    simp only[Wh.BW,d1,cond_false])
  have q':Comes Wh.BW ((0,(),s.2.2.2.2.1.1,(s.2.2.2.2.1.1.length:Int)),s.2.2.2.1) _:=q
  simp only[Wh.q70,a,Wh.Pu _ _ a,nQ,iy,cond_true,cond_false,Bool.not_true,Bool.true_and,cb q',cv q']
  unfold Ju
  cases jS s.2.2.2.2.1.1.length (fun i=> !D0 s.2.2.2.1 (s.2.2.2.2.1.1.getD i zF))<;>rfl
theorem abk (s:fk.D)(S:Al s):Wh.q66 s=some (okV s,()):=by
 have BG:=S.log
 have hbk:=S.B6
 have hsv:=S.Cr
 have hfr:s.2.2.2.2.1.1.length≤1048576:=S.CK
 have hct:s.2.2.2.1.2.1.length≤1048576:=S.cat
 have a:=Zp s.2.2.1 (by omega)
 obtain⟨r1,r2⟩:=Y0 s (by omega)
 have b:=abh (yZ s).1 r1 r2
 unfold okV
 change Wh.q93 s.2.2.1=some (((yZ s).1,((yZ s).2:Int)),()) at a
 have hle:decide ((s.2.2.1.length:Int)>9000) = !decide (s.2.2.1.length≤9000):=by
  by_cases h:s.2.2.1.length≤9000
  ·rw[decide_eq_true h,decide_eq_false (by omega)];rfl
  ·rw[decide_eq_false h,decide_eq_true (by omega)];rfl
 have Ff (x y:Nat):((x:Int)==(y:Int))=(x==y):=by rw[Bool.eq_iff_iff,beq_iff_eq,beq_iff_eq];omega
 have Oo (x:Nat):((x:Int)==0)=(x==0):=Ff x 0
 have Oq (x:Nat):((x:Int) != 2) = !(x==2):=by rw[←Ff x 2];rfl
 simp only[Wh.q66,yV,Wh.zK _ _ (yV _ _ _),hle,nQ,iy,cond_true]
 cases nS s.2.1 0 99999 with
 |false=>rfl
 |true=>
 cases decide (s.2.2.1.length≤9000) with
 |false=>rfl
 |true=>
 simp only[Bool.not_true,cond_false,Bool.true_and,a,Wh.q93_v _ _ a,b,Wh.XP _ _ b,cond_true]
 cases hcat:(An (yZ s).1).2 with
 |false=>rfl
 |true=>
 simp only[Bool.not_true,cond_false,Bool.true_and]
 cases cS:s.1 with
 |false=>
  simp only[Bool.not_false,cond_true,cond_false,Oo,Lo]
  congr 2
  cases (s.2.2.2.1.2.1.length==0)<;>cases (s.2.2.2.1.1==0)<;>cases (s.2.2.2.2.1.1.length==0)<;>cases (s.2.2.2.2.1.2.1==0)<;>cases (s.2.2.2.2.2.1.length==0)<;>cases (s.2.2.2.2.2.2.1.length==0)<;>rfl
 |true=>
  have I:=Nx hcat
  have hI:=I.len
  have sm:=abo (An (yZ s).1).1 s.2.2.2.1 (by omega)
  have e1:(((yZ s).2:Int) != (s.2.2.1.length:Int)) = !((yZ s).2==s.2.2.1.length):=by rw[←Ff];rfl
  simp only[Bool.not_true,cond_false,cond_true,sm,Wh.q98_v _ _ sm,Bool.or_true,e1,Oq]
  unfold upV
  cases hrd:((yZ s).2==s.2.2.1.length) with
  |false=>simp only[Bool.not_false,cond_true,Bool.not_true,Bool.true_or,Bool.and_self,Bool.false_and]
  |true=>
  by_cases hsame:(An (yZ s).1).1=s.2.2.2.1
  ·rw[decide_eq_true hsame]
   rw[hsame] at I
   have fi:=Z7 s I (by omega)
   simp only[fi,Wh.q70_v _ _ fi,Bool.not_true,cond_false,Bool.or_true,Bool.and_self,cond_true,Bool.true_and]
   cases hpo:Ci s.2.2.2.2.1 with
   |false=>rfl
   |true=>
   cases hfi:Ju s with
   |false=>simp only[Bool.and_false,Bool.not_false,cond_true,Bool.false_and]
   |true=>
   cases bZ:(s.2.2.2.2.2.1.length==2) with
   |false=>rfl
   |true=>
    simp only[Bool.not_true,cond_false,Bool.true_and,Bool.and_self]
    have q:=Ac (r:=Wh.EI) (fun i=>(((i:Int),(),s.2.2.2.2.2.1,(s.2.2.2.2.2.1.length:Int)),s)) (n:=s.2.2.2.2.2.1.length) (p:=fun i=> !DY s.2.1 (s.2.2.2.2.2.1.getD i zB)) (yf:=.inl (false,())) (yt:=.inr ((),s)) (fun i hi _ hp=>by
      rw[U1 s _ i hi (by omega),if_neg (by simpa using hp)]) (fun i hi _ hp=>by
      rw[U1 s _ i hi (by omega),if_pos (by simpa using hp)]) (by
      have d1:decide ((s.2.2.2.2.2.1.length:Int)<(s.2.2.2.2.2.1.length:Int))=false:=decide_eq_false (by omega)
      simp only[Wh.EI,d1,cond_false])
    have q':Comes Wh.EI ((0,(),s.2.2.2.2.2.1,(s.2.2.2.2.2.1.length:Int)),s) _:=q
    have q2:=Ac (r:=Wh.DF) (fun i=>(((i:Int),(),s.2.2.2.2.2.2.1,(s.2.2.2.2.2.2.1.length:Int)),s)) (n:=s.2.2.2.2.2.2.1.length) (p:=fun i=> !Ba s.2.2.2.1 s.2.1 s.2.2.2.2.2.2.1 i) (yf:=.inl (false,())) (yt:=.inr ((),())) (fun i hi _ hp=>by
      rw[U9 s (by omega) i hi (by omega),if_neg (by simpa using hp)]) (fun i hi _ hp=>by
      rw[U9 s (by omega) i hi (by omega),if_pos (by simpa using hp)]) (by
      have d1:decide ((s.2.2.2.2.2.2.1.length:Int)<(s.2.2.2.2.2.2.1.length:Int))=false:=decide_eq_false (by omega)
      simp only[Wh.DF,d1,cond_false])
    have Ev:Comes Wh.DF ((0,(),s.2.2.2.2.2.2.1,(s.2.2.2.2.2.2.1.length:Int)),s) _:=q2
    simp only[cb q',cv q',cond_true]
    unfold Nw KB
    cases hf:jS s.2.2.2.2.2.1.length (fun i=> !DY s.2.1 (s.2.2.2.2.2.1.getD i zB)) with
    |false=>simp[sumC]
    |true=>
     simp only[if_true,sumC,cb Ev,cv Ev,cond_true,Bool.and_true]
     cases hb:jS s.2.2.2.2.2.2.1.length (fun i=> !Ba s.2.2.2.1 s.2.1 s.2.2.2.2.2.2.1 i)<;>rfl
  ·rw[decide_eq_false hsame];rfl
end Pl
open Go Go.Ab
namespace Pl
section
variable {α:Type} (zb:α→Int→α) (n1:α→Nat)
def vT:List α→Int→List α
 | [],_=>[]
 |a::l,k=>zb a k::vT l (k+n1 a)
def nP (l:List α):Nat:=(l.map n1).sum
def ks (k:Int)(l:List α)(i:Nat):Int:=k+(nP n1 (l.take i):Nat)
def part (k:Int)(l:List α)(i:Nat):List α:=vT zb n1 (l.take i) k++l.drop i
theorem zG:∀(l:List α) (k:Int),(vT zb n1 l k).length=l.length
 | [],_=>rfl
 |_::l,k=>by simp[vT,zG l]
theorem On:∀(p q:List α) (k:Int),vT zb n1 (p++q) k=vT zb n1 p k++vT zb n1 q (k+(nP n1 p:Nat))
 | [],q,k=>by simp[vT,nP]
 |a::p,q,k=>by
  simp only[List.cons_append,vT,On p q,nP,List.map_cons,List.sum_cons]
  rw[show k+(n1 a:Int)+((p.map n1).sum:Nat)=k+((n1 a+(p.map n1).sum:Nat):Int) by omega]
theorem afN (l:List α)(i:Nat)(h:i<l.length):l=l.take i++l[i]::l.drop (i+1):=by
 rw[List.getElem_cons_drop,List.take_append_drop]
theorem Zh (l:List α)(i:Nat)(h:i<l.length):l.take (i+1)=l.take i ++ [l[i]]:=by
 rw[List.take_add_one,List.getElem?_eq_getElem h];rfl
theorem Dj (k:Int)(l:List α):ks n1 k l 0=k:=by simp[ks,nP]
theorem CD (k:Int)(l:List α)(i:Nat)(h:i<l.length):ks n1 k l (i+1)=ks n1 k l i+n1 l[i]:=by
 simp only[ks,Zh l i h,nP,List.map_append,List.sum_append,List.map_cons,List.map_nil,List.sum_cons,List.sum_nil]
 omega
theorem Dg (k:Int)(l:List α):ks n1 k l l.length=k+(nP n1 l:Nat):=by simp[ks]
theorem CC (k:Int)(l:List α)(i:Nat):k≤ks n1 k l i∧ks n1 k l i≤k+(nP n1 l:Nat):=by
 have:nP n1 (l.take i)≤nP n1 l:=by
  have e:nP n1 l=nP n1 (l.take i)+nP n1 (l.drop i):=by
   unfold nP
   rw[←List.sum_append,←List.map_append,List.take_append_drop]
  omega
 unfold ks
 omega
theorem Dh (k:Int)(l:List α)(i:Nat)(h:i<l.length):ks n1 k l i+n1 l[i]≤k+(nP n1 l:Nat):=by
 rw[←CD n1 k l i h]
 exact(CC n1 k l (i+1)).2
theorem JU (k:Int)(l:List α):part zb n1 k l 0=l:=by simp[part,vT]
theorem GM (k:Int)(l:List α):part zb n1 k l l.length=vT zb n1 l k:=by simp[part]
theorem JS (k:Int)(l:List α)(i:Nat)(h:i≤l.length):(part zb n1 k l i).length=l.length:=by simp[part,zG];omega
theorem JR (k:Int)(l:List α)(i:Nat)(z:α)(h:i<l.length):(part zb n1 k l i).getD i z=l[i]:=by
 have hl:(vT zb n1 (l.take i) k).length=i:=by rw[zG];simp;omega
 unfold part
 rw[List.getD_eq_getElem?_getD,List.getElem?_append_right (by omega),hl,Nat.sub_self,List.getElem?_drop,List.getElem?_eq_getElem (by omega)]
 simp
theorem JT (k:Int)(l:List α)(i:Nat)(h:i<l.length):(part zb n1 k l i).set i (zb l[i] (ks n1 k l i))=part zb n1 k l (i+1):=by
 have hl:(vT zb n1 (l.take i) k).length=i:=by rw[zG];simp;omega
 unfold part
 rw[Zh l i h,On,←List.getElem_cons_drop h,List.set_append_right _ _ (by omega),hl,Nat.sub_self,List.set_cons_zero]
 simp[vT,ks]
theorem JO (k:Int)(l:List α)(i:Nat)(z:α)(h:i<l.length):(vT zb n1 l k).getD i z=zb l[i] (ks n1 k l i):=by
 rw[←GM,List.getD_eq_getElem?_getD]
 have hl:(vT zb n1 (l.take i) k).length=i:=by rw[zG];simp;omega
 have e:vT zb n1 l k=vT zb n1 (l.take i) k++zb l[i] (ks n1 k l i)::vT zb n1 (l.drop (i+1)) (ks n1 k l i+n1 l[i]):=by
  conv=>lhs;rw[afN l i h]
  rw[On]
  rfl
 rw[GM,e,List.getElem?_append_right (by omega),hl,Nat.sub_self]
 rfl
end
noncomputable def mt (k:Int):List UInt8:=(Wh.CU k).1
theorem ab6:∀(d:Nat) (k:Int) (out:List UInt8),0≤k→k<(10:Int) ^ d→d≤18→out.length+d≤100→∃s:List UInt8,s.length≤100∧Comes Wh.FX ((k,out),()) (s,()):=by
 intro d
 induction d with
 |zero=>
  intro k out h0 h1 _ h2
  have hk:k=0:=by simp at h1;omega
  subst hk
  exact⟨out,by omega,.out (by simp[Wh.FX])⟩
 |succ d ih=>
  intro k out h0 h1 hd h2
  by_cases hk:k>0
  ·have hq:k.tdiv 10<(10:Int) ^ d:=by
    rw[Int.tdiv_eq_ediv_of_nonneg h0]
    rw[Int.pow_succ] at h1
    omega
   have hq0:0≤k.tdiv 10:=by rw[Int.tdiv_eq_ediv_of_nonneg h0];omega
   have hp:(10:Int) ^ d≤(10:Int) ^ 18:=by
    have:(10:Nat) ^ d≤10 ^ 18:=Nat.pow_le_pow_right (by decide) (by omega)
    exact_mod_cast this
   have hw:IntKind.wrap .i64 (k.tdiv 10)=k.tdiv 10:=by rw[wrap64]<;>omega
   obtain⟨s,hs,hc⟩:=ih (k.tdiv 10) (qp [IntKind.wrap .u8 (IntKind.wrap .i64 (48+k.tmod 10))]++out) hq0 hq (by omega) (by simp[qp];omega)
   refine⟨s,hs,.again (x':=((k.tdiv 10,qp [IntKind.wrap .u8 (IntKind.wrap .i64 (48+k.tmod 10))]++out),())) ?_ hc⟩
   have hl:1+out.length≤dh:=by unfold dh;omega
   simp[Wh.FX,hk,hl,iy,hw]
  ·exact⟨out,by omega,.out (by simp[Wh.FX,hk])⟩
def y2:Int:=1000000000000000000
theorem Fe (k:Int)(h0:0≤k)(h1:k<y2):Wh.A8 k=some (mt k,()):=by
 have main:∃s,Wh.A8 k=some (s,()):=by
  by_cases hk:k≤0
  ·exact⟨[109,48],by simp[Wh.A8,hk]⟩
  ·obtain⟨s,hs,hc⟩:=ab6 18 k [] h0 (by simpa[y2] using h1) (by omega) (by simp)
   have hl:1+s.length≤dh:=by unfold dh;omega
   exact⟨109::s,by simp[Wh.A8,hk,cb hc,cv hc,iy,hl]⟩
 obtain⟨s,hs⟩:=main
 rw[hs,mt,Wh.DH _ _ hs]
theorem w8 {k:Int}(h0:0≤k)(h1:k≤y2):IntKind.wrap .i64 (k+1)=k+1:=by unfold y2 at h1;rw[wrap64]<;>omega
end Pl
open Go Go.Ab
namespace Pl
noncomputable def mkItem (_:an.D) (k:Int):an.D:=(k,mt (k+1),k+2,mt (k+3),())
def xY (_:an.D):Nat:=4
theorem ab2 (a:List an.D)(k:Int)(h0:0≤k)(h1:k+(nP xY a:Nat)<y2)(hl:a.length≤4611686018427387904):Wh.q54 (a,k)=some (k+(nP xY a:Nat),vT mkItem xY a k,()):=by
 have hc:Comes Wh.FN (((0:Int),(),k),a) (k+(nP xY a:Nat),vT mkItem xY a k):=by
  have:=x7 (r:=Wh.FN) (st:=fun i=>(((i:Int),(),ks xY k a i),part mkItem xY k a i)) (n:=a.length) (y:=(k+(nP xY a:Nat),vT mkItem xY a k)) ?_ ?_ 0 (Nat.zero_le _)
  ·simpa[Dj,JU] using this
  ·intro i hi
   have b1:=CC xY k a i
   have b2:=Dh xY k a i hi
   have b3:xY a[i]=4:=rfl
   have e2:=mw (i:=i) (by omega)
   have e4:=CD xY k a i hi
   have e3:=JT mkItem xY k a i hi
   have pl:=JS mkItem xY k a i (Nat.le_of_lt hi)
   have pg:=fun z=>JR mkItem xY k a i z hi
   have hi':i<(part mkItem xY k a i).length:=by omega
   simp only[mkItem] at e3
   rw[b3] at e4
   generalize ks xY k a i=q at *
   have w0:=w8 (k:=q) (by omega) (by omega)
   have w1:=w8 (k:=q+1) (by omega) (by omega)
   have w2:=w8 (k:=q+2) (by omega) (by omega)
   have w3:=w8 (k:=q+3) (by omega) (by omega)
   have a1:q+1+1=q+2:=by omega
   have a2:q+2+1=q+3:=by omega
   have a3:q+3+1=ks xY k a (i+1):=by rw[e4];omega
   rw[a1] at w1
   rw[a2] at w2
   rw[a3] at w3
   have t1:=Fe (q+1) (by omega) (by omega)
   have t3:=Fe (q+3) (by omega) (by omega)
   have c1:decide ((i:Int)<(a.length:Int))=true:=by simpa using hi
   simp only[Wh.FN,Int.toNat_natCast,pl,pg,Jw _ _ _ _ hi',KA,List.length_set,c1,cond_true,iy,Bool.and_self,Int.natCast_nonneg,decide_true,nQ,
    w0,a1,w1,a2,w2,a3,w3,Wh.DH _ _ t1,t1,Wh.DH _ _ t3,t3,e2,e3]
  ·simp[Wh.FN,Dg,GM,zG]
 simp[Wh.q54,cb hc,cv hc]
theorem aa_ (a:List an.D)(k:Int)(h0:0≤k)(h1:k+(nP xY a:Nat)<y2)(hl:a.length≤4611686018427387904):Wh.q52 (vT mkItem xY a k,k)=some (k+(nP xY a:Nat),()):=by
 have hc:Comes Wh.FL (((0:Int),vT mkItem xY a k,k),()) (.inr (k+(nP xY a:Nat),())):=by
  have:=x7 (r:=Wh.FL) (st:=fun i=>(((i:Int),vT mkItem xY a k,ks xY k a i),())) (n:=a.length) (y:=.inr (k+(nP xY a:Nat),())) ?_ ?_ 0 (Nat.zero_le _)
  ·simpa[Dj] using this
  ·intro i hi
   have b1:=CC xY k a i
   have b2:=Dh xY k a i hi
   have b3:xY a[i]=4:=rfl
   have e2:=mw (i:=i) (by omega)
   have e4:=CD xY k a i hi
   have pl:=zG mkItem xY a k
   have pg:=fun z=>JO mkItem xY k a i z hi
   simp only[mkItem] at pg
   rw[b3] at e4
   generalize ks xY k a i=q at *
   have w0:=w8 (k:=q) (by omega) (by omega)
   have w1:=w8 (k:=q+1) (by omega) (by omega)
   have w2:=w8 (k:=q+2) (by omega) (by omega)
   have w3:=w8 (k:=q+3) (by omega) (by omega)
   have a1:q+1+1=q+2:=by omega
   have a2:q+2+1=q+3:=by omega
   have a3:q+3+1=ks xY k a (i+1):=by rw[e4];omega
   rw[a1] at w1
   rw[a2] at w2
   rw[a3] at w3
   have t1:=Fe (q+1) (by omega) (by omega)
   have t3:=Fe (q+3) (by omega) (by omega)
   have c1:decide ((i:Int)<(a.length:Int))=true:=by simpa using hi
   have d1:(mt (q+1)==mt (q+1))=true:=by simp
   have d3:(mt (q+3)==mt (q+3))=true:=by simp
   have bn:∀x:Int,(x != x)=false:=by intro x;simp
   simp only[Wh.FL,Int.toNat_natCast,pl,pg,c1,cond_true,cond_false,iy,Bool.and_self,Int.natCast_nonneg,decide_true,nQ,bn,
    w0,a1,w1,a2,w2,a3,w3,Wh.DH _ _ t1,t1,Wh.DH _ _ t3,t3,e2,d1,d3,Bool.not_true]
  ·simp[Wh.FL,zG,Dg]
 simp[Wh.q52,cb hc,cv hc,sumC]
def AF (_:eA.D)(k:Int):eA.D:=(k,k+1,k+2,k+3,())
def xQ (_:eA.D):Nat:=4
theorem abZ (a:List eA.D)(k:Int)(h0:0≤k)(h1:k+(nP xQ a:Nat)<y2)(hl:a.length≤4611686018427387904):Wh.q29 (a,k)=some (k+(nP xQ a:Nat),vT AF xQ a k,()):=by
 have hc:Comes Wh.FF (((0:Int),(),k),a) (k+(nP xQ a:Nat),vT AF xQ a k):=by
  have:=x7 (r:=Wh.FF) (st:=fun i=>(((i:Int),(),ks xQ k a i),part AF xQ k a i)) (n:=a.length) (y:=(k+(nP xQ a:Nat),vT AF xQ a k)) ?_ ?_ 0 (Nat.zero_le _)
  ·simpa[Dj,JU] using this
  ·intro i hi
   have b1:=CC xQ k a i
   have b2:=Dh xQ k a i hi
   have b3:xQ a[i]=4:=rfl
   have e2:=mw (i:=i) (by omega)
   have e4:=CD xQ k a i hi
   have e3:=JT AF xQ k a i hi
   have pl:=JS AF xQ k a i (Nat.le_of_lt hi)
   have pg:=fun z=>JR AF xQ k a i z hi
   have hi':i<(part AF xQ k a i).length:=by omega
   simp only[AF] at e3
   rw[b3] at e4
   generalize ks xQ k a i=q at *
   have w0:=w8 (k:=q) (by omega) (by omega)
   have w1:=w8 (k:=q+1) (by omega) (by omega)
   have w2:=w8 (k:=q+2) (by omega) (by omega)
   have w3:=w8 (k:=q+3) (by omega) (by omega)
   have a1:q+1+1=q+2:=by omega
   have a2:q+2+1=q+3:=by omega
   have a3:q+3+1=ks xQ k a (i+1):=by rw[e4];omega
   rw[a1] at w1
   rw[a2] at w2
   rw[a3] at w3
   have c1:decide ((i:Int)<(a.length:Int))=true:=by simpa using hi
   simp only[Wh.FF,Int.toNat_natCast,pl,pg,Jw _ _ _ _ hi',KA,List.length_set,c1,cond_true,iy,Bool.and_self,Int.natCast_nonneg,decide_true,w0,a1,w1,a2,w2,a3,w3,e2,e3]
  ·simp[Wh.FF,Dg,GM,zG]
 simp[Wh.q29,cb hc,cv hc]
theorem aa7 (a:List eA.D)(k:Int)(h0:0≤k)(h1:k+(nP xQ a:Nat)<y2)(hl:a.length≤4611686018427387904):Wh.q28 (vT AF xQ a k,k)=some (k+(nP xQ a:Nat),()):=by
 have hc:Comes Wh.FE (((0:Int),vT AF xQ a k,k),()) (.inr (k+(nP xQ a:Nat),())):=by
  have:=x7 (r:=Wh.FE) (st:=fun i=>(((i:Int),vT AF xQ a k,ks xQ k a i),())) (n:=a.length) (y:=.inr (k+(nP xQ a:Nat),())) ?_ ?_ 0 (Nat.zero_le _)
  ·simpa[Dj] using this
  ·intro i hi
   have b1:=CC xQ k a i
   have b2:=Dh xQ k a i hi
   have b3:xQ a[i]=4:=rfl
   have e2:=mw (i:=i) (by omega)
   have e4:=CD xQ k a i hi
   have pl:=zG AF xQ a k
   have pg:=fun z=>JO AF xQ k a i z hi
   simp only[AF] at pg
   rw[b3] at e4
   generalize ks xQ k a i=q at *
   have w0:=w8 (k:=q) (by omega) (by omega)
   have w1:=w8 (k:=q+1) (by omega) (by omega)
   have w2:=w8 (k:=q+2) (by omega) (by omega)
   have w3:=w8 (k:=q+3) (by omega) (by omega)
   have a1:q+1+1=q+2:=by omega
   have a2:q+2+1=q+3:=by omega
   have a3:q+3+1=ks xQ k a (i+1):=by rw[e4];omega
   rw[a1] at w1
   rw[a2] at w2
   rw[a3] at w3
   have c1:decide ((i:Int)<(a.length:Int))=true:=by simpa using hi
   have bn:∀x:Int,(x != x)=false:=by intro x;simp
   simp only[Wh.FE,Int.toNat_natCast,pl,pg,c1,cond_true,cond_false,iy,Bool.and_self,Int.natCast_nonneg,decide_true,bn,
    w0,a1,w1,a2,w2,a3,w3,e2]
  ·simp[Wh.FE,zG,Dg]
 simp[Wh.q28,cb hc,cv hc,sumC]
def AH (_:cr.D)(k:Int):cr.D:=(k,k+1,k+2,k+3,k+4,k+5,())
def xZ (_:cr.D):Nat:=6
theorem ab4 (a:List cr.D)(k:Int)(h0:0≤k)(h1:k+(nP xZ a:Nat)<y2)(hl:a.length≤4611686018427387904):Wh.q38 (a,k)=some (k+(nP xZ a:Nat),vT AH xZ a k,()):=by
 have hc:Comes Wh.FJ (((0:Int),(),k),a) (k+(nP xZ a:Nat),vT AH xZ a k):=by
  have:=x7 (r:=Wh.FJ) (st:=fun i=>(((i:Int),(),ks xZ k a i),part AH xZ k a i)) (n:=a.length) (y:=(k+(nP xZ a:Nat),vT AH xZ a k)) ?_ ?_ 0 (Nat.zero_le _)
  ·simpa[Dj,JU] using this
  ·intro i hi
   have b1:=CC xZ k a i
   have b2:=Dh xZ k a i hi
   have b3:xZ a[i]=6:=rfl
   have e2:=mw (i:=i) (by omega)
   have e4:=CD xZ k a i hi
   have e3:=JT AH xZ k a i hi
   have pl:=JS AH xZ k a i (Nat.le_of_lt hi)
   have pg:=fun z=>JR AH xZ k a i z hi
   have hi':i<(part AH xZ k a i).length:=by omega
   simp only[AH] at e3
   rw[b3] at e4
   generalize ks xZ k a i=q at *
   have w0:=w8 (k:=q) (by omega) (by omega)
   have w1:=w8 (k:=q+1) (by omega) (by omega)
   have w2:=w8 (k:=q+2) (by omega) (by omega)
   have w3:=w8 (k:=q+3) (by omega) (by omega)
   have w4:=w8 (k:=q+4) (by omega) (by omega)
   have w5:=w8 (k:=q+5) (by omega) (by omega)
   have a1:q+1+1=q+2:=by omega
   have a2:q+2+1=q+3:=by omega
   have a3:q+3+1=q+4:=by omega
   have a4:q+4+1=q+5:=by omega
   have a5:q+5+1=ks xZ k a (i+1):=by rw[e4];omega
   rw[a1] at w1
   rw[a2] at w2
   rw[a3] at w3
   rw[a4] at w4
   rw[a5] at w5
   have c1:decide ((i:Int)<(a.length:Int))=true:=by simpa using hi
   simp only[Wh.FJ,Int.toNat_natCast,pl,pg,Jw _ _ _ _ hi',KA,List.length_set,c1,cond_true,iy,Bool.and_self,Int.natCast_nonneg,decide_true,w0,a1,w1,a2,w2,a3,w3,a4,w4,a5,w5,e2,e3]
  ·simp[Wh.FJ,Dg,GM,zG]
 simp[Wh.q38,cb hc,cv hc]
theorem abb (a:List cr.D)(k:Int)(h0:0≤k)(h1:k+(nP xZ a:Nat)<y2)(hl:a.length≤4611686018427387904):Wh.q35 (vT AH xZ a k,k)=some (k+(nP xZ a:Nat),()):=by
 have hc:Comes Wh.FH (((0:Int),vT AH xZ a k,k),()) (.inr (k+(nP xZ a:Nat),())):=by
  have:=x7 (r:=Wh.FH) (st:=fun i=>(((i:Int),vT AH xZ a k,ks xZ k a i),())) (n:=a.length) (y:=.inr (k+(nP xZ a:Nat),())) ?_ ?_ 0 (Nat.zero_le _)
  ·simpa[Dj] using this
  ·intro i hi
   have b1:=CC xZ k a i
   have b2:=Dh xZ k a i hi
   have b3:xZ a[i]=6:=rfl
   have e2:=mw (i:=i) (by omega)
   have e4:=CD xZ k a i hi
   have pl:=zG AH xZ a k
   have pg:=fun z=>JO AH xZ k a i z hi
   simp only[AH] at pg
   rw[b3] at e4
   generalize ks xZ k a i=q at *
   have w0:=w8 (k:=q) (by omega) (by omega)
   have w1:=w8 (k:=q+1) (by omega) (by omega)
   have w2:=w8 (k:=q+2) (by omega) (by omega)
   have w3:=w8 (k:=q+3) (by omega) (by omega)
   have w4:=w8 (k:=q+4) (by omega) (by omega)
   have w5:=w8 (k:=q+5) (by omega) (by omega)
   have a1:q+1+1=q+2:=by omega
   have a2:q+2+1=q+3:=by omega
   have a3:q+3+1=q+4:=by omega
   have a4:q+4+1=q+5:=by omega
   have a5:q+5+1=ks xZ k a (i+1):=by rw[e4];omega
   rw[a1] at w1
   rw[a2] at w2
   rw[a3] at w3
   rw[a4] at w4
   rw[a5] at w5
   have c1:decide ((i:Int)<(a.length:Int))=true:=by simpa using hi
   have bn:∀x:Int,(x != x)=false:=by intro x;simp
   simp only[Wh.FH,Int.toNat_natCast,pl,pg,c1,cond_true,cond_false,iy,Bool.and_self,Int.natCast_nonneg,decide_true,bn,
    w0,a1,w1,a2,w2,a3,w3,a4,w4,a5,w5,e2]
  ·simp[Wh.FH,zG,Dg]
 simp[Wh.q35,cb hc,cv hc,sumC]
def AG (_:e_.D)(k:Int):e_.D:=(k,k+1,k+2,k+3,Int.tmod (k+4) 3==0,())
def xX (_:e_.D):Nat:=5
theorem ab1 (a:List e_.D)(k:Int)(h0:0≤k)(h1:k+(nP xX a:Nat)<y2)(hl:a.length≤4611686018427387904):Wh.q37 (a,k)=some (k+(nP xX a:Nat),vT AG xX a k,()):=by
 have hc:Comes Wh.FI (((0:Int),(),k),a) (k+(nP xX a:Nat),vT AG xX a k):=by
  have:=x7 (r:=Wh.FI) (st:=fun i=>(((i:Int),(),ks xX k a i),part AG xX k a i)) (n:=a.length) (y:=(k+(nP xX a:Nat),vT AG xX a k)) ?_ ?_ 0 (Nat.zero_le _)
  ·simpa[Dj,JU] using this
  ·intro i hi
   have b1:=CC xX k a i
   have b2:=Dh xX k a i hi
   have b3:xX a[i]=5:=rfl
   have e2:=mw (i:=i) (by omega)
   have e4:=CD xX k a i hi
   have e3:=JT AG xX k a i hi
   have pl:=JS AG xX k a i (Nat.le_of_lt hi)
   have pg:=fun z=>JR AG xX k a i z hi
   have hi':i<(part AG xX k a i).length:=by omega
   simp only[AG] at e3
   rw[b3] at e4
   generalize ks xX k a i=q at *
   have w0:=w8 (k:=q) (by omega) (by omega)
   have w1:=w8 (k:=q+1) (by omega) (by omega)
   have w2:=w8 (k:=q+2) (by omega) (by omega)
   have w3:=w8 (k:=q+3) (by omega) (by omega)
   have w4:=w8 (k:=q+4) (by omega) (by omega)
   have a1:q+1+1=q+2:=by omega
   have a2:q+2+1=q+3:=by omega
   have a3:q+3+1=q+4:=by omega
   have a4:q+4+1=ks xX k a (i+1):=by rw[e4];omega
   rw[a1] at w1
   rw[a2] at w2
   rw[a3] at w3
   rw[a4] at w4
   have c1:decide ((i:Int)<(a.length:Int))=true:=by simpa using hi
   simp only[Wh.FI,Int.toNat_natCast,pl,pg,Jw _ _ _ _ hi',KA,List.length_set,c1,cond_true,iy,Bool.and_self,Int.natCast_nonneg,decide_true,w0,a1,w1,a2,w2,a3,w3,a4,w4,e2,e3]
  ·simp[Wh.FI,Dg,GM,zG]
 simp[Wh.q37,cb hc,cv hc]
theorem aa9 (a:List e_.D)(k:Int)(h0:0≤k)(h1:k+(nP xX a:Nat)<y2)(hl:a.length≤4611686018427387904):Wh.q34 (vT AG xX a k,k)=some (k+(nP xX a:Nat),()):=by
 have hc:Comes Wh.FG (((0:Int),vT AG xX a k,k),()) (.inr (k+(nP xX a:Nat),())):=by
  have:=x7 (r:=Wh.FG) (st:=fun i=>(((i:Int),vT AG xX a k,ks xX k a i),())) (n:=a.length) (y:=.inr (k+(nP xX a:Nat),())) ?_ ?_ 0 (Nat.zero_le _)
  ·simpa[Dj] using this
  ·intro i hi
   have b1:=CC xX k a i
   have b2:=Dh xX k a i hi
   have b3:xX a[i]=5:=rfl
   have e2:=mw (i:=i) (by omega)
   have e4:=CD xX k a i hi
   have pl:=zG AG xX a k
   have pg:=fun z=>JO AG xX k a i z hi
   simp only[AG] at pg
   rw[b3] at e4
   generalize ks xX k a i=q at *
   have w0:=w8 (k:=q) (by omega) (by omega)
   have w1:=w8 (k:=q+1) (by omega) (by omega)
   have w2:=w8 (k:=q+2) (by omega) (by omega)
   have w3:=w8 (k:=q+3) (by omega) (by omega)
   have w4:=w8 (k:=q+4) (by omega) (by omega)
   have a1:q+1+1=q+2:=by omega
   have a2:q+2+1=q+3:=by omega
   have a3:q+3+1=q+4:=by omega
   have a4:q+4+1=ks xX k a (i+1):=by rw[e4];omega
   rw[a1] at w1
   rw[a2] at w2
   rw[a3] at w3
   rw[a4] at w4
   have c1:decide ((i:Int)<(a.length:Int))=true:=by simpa using hi
   have d4:((Int.tmod (q+4) 3==0)==(Int.tmod (q+4) 3==0))=true:=by simp
   have bn:∀x:Int,(x != x)=false:=by intro x;simp
   simp only[Wh.FG,Int.toNat_natCast,pl,pg,c1,cond_true,cond_false,iy,Bool.and_self,Int.natCast_nonneg,decide_true,bn,
    w0,a1,w1,a2,w2,a3,w3,a4,w4,e2,d4,Bool.not_true]
  ·simp[Wh.FG,zG,Dg]
 simp[Wh.q34,cb hc,cv hc,sumC]
end Pl
open Go Go.Ab
namespace Pl
noncomputable def H9 (c:fN.D) (k:Int):fN.D:=(c.1,vT mkItem xY c.2.1 k,c.2.2)
def zk (c:fN.D):Nat:=nP xY c.2.1
theorem ab0 (c:fN.D)(k:Int)(h0:0≤k)(h1:k+(zk c:Nat)<y2)(hl:Ge c):Wh.Il (c,k)=some (k+(zk c:Nat),H9 c k,()):=by
 have e1:=ab2 c.2.1 k h0 h1 (Nat.le_trans hl (by omega))
 simp[Wh.Il,e1,Wh.q54_v _ _ e1,iy,nQ,H9,zk]
theorem aa8 (c:fN.D)(k:Int)(h0:0≤k)(h1:k+(zk c:Nat)<y2)(hl:Ge c):Wh.Ik (H9 c k,k)=some (k+(zk c:Nat),()):=by
 have e1:=aa_ c.2.1 k h0 h1 (Nat.le_trans hl (by omega))
 have n1:¬(k+(nP xY c.2.1:Nat))<0:=by omega
 simp[Wh.Ik,H9,e1,Wh.q52_v _ _ e1,iy,nQ,zk,n1]
def H_ (c:lg.D)(k:Int):lg.D:=(vT AG xX c.1 k,c.2)
def Ah (c:lg.D):Nat:=nP xX c.1
theorem ab3 (c:lg.D)(k:Int)(h0:0≤k)(h1:k+(Ah c:Nat)<y2)(hl:DW c):Wh.q77 (c,k)=some (k+(Ah c:Nat),H_ c k,()):=by
 have e1:=ab1 c.1 k h0 h1 (Nat.le_trans hl (by omega))
 simp[Wh.q77,e1,Wh.q37_v _ _ e1,iy,nQ,H_,Ah]
theorem aba (c:lg.D)(k:Int)(h0:0≤k)(h1:k+(Ah c:Nat)<y2)(hl:DW c):Wh.q76 (H_ c k,k)=some (k+(Ah c:Nat),()):=by
 have e1:=aa9 c.1 k h0 h1 (Nat.le_trans hl (by omega))
 have n1:¬(k+(nP xX c.1:Nat))<0:=by omega
 simp[Wh.q76,H_,e1,Wh.q34_v _ _ e1,iy,nQ,Ah,n1]
noncomputable def D9 (s:fk.D) (k:Int):fk.D:=
 (s.1,s.2.1,s.2.2.1,H9 s.2.2.2.1 k,H_ s.2.2.2.2.1 (k+(zk s.2.2.2.1:Nat)),vT AF xQ s.2.2.2.2.2.1 (k+(zk s.2.2.2.1:Nat)+(Ah s.2.2.2.2.1:Nat)),
  vT AH xZ s.2.2.2.2.2.2.1 (k+(zk s.2.2.2.1:Nat)+(Ah s.2.2.2.2.1:Nat)+(nP xQ s.2.2.2.2.2.1:Nat)),s.2.2.2.2.2.2.2)
def zT (s:fk.D):Nat:=zk s.2.2.2.1+Ah s.2.2.2.2.1+nP xQ s.2.2.2.2.2.1+nP xZ s.2.2.2.2.2.2.1
theorem ab5 (s:fk.D)(k:Int)(h0:0≤k)(h1:k+(zT s:Nat)<y2)(hl:Al s):Wh.q39 (s,k)=some (k+(zT s:Nat),D9 s k,()):=by
 unfold zT at h1
 have e1:=ab0 s.2.2.2.1 k h0 (by omega) hl.cat
 have e2:=ab3 s.2.2.2.2.1 (k+(zk s.2.2.2.1:Nat)) (by omega) (by omega) hl.CK
 have e3:=abZ s.2.2.2.2.2.1 (k+(zk s.2.2.2.1:Nat)+(Ah s.2.2.2.2.1:Nat)) (by omega) (by omega) (Nat.le_trans hl.B6 (by omega))
 have e4:=ab4 s.2.2.2.2.2.2.1 (k+(zk s.2.2.2.1:Nat)+(Ah s.2.2.2.2.1:Nat)+(nP xQ s.2.2.2.2.2.1:Nat)) (by omega) (by omega) (Nat.le_trans hl.Cr (by omega))
 have v1:=Wh.W3 _ _ e1
 have v2:=Wh.q77_v _ _ e2
 have v3:=Wh.q29_v _ _ e3
 have v4:=Wh.q38_v _ _ e4
 simp only[Wh.q39,e1,v1,e2,v2,e3,v3,e4,v4,iy,nQ,cond_true]
 simp[D9,zT,H9,H_]
 omega
theorem abc (s:fk.D)(k:Int)(h0:0≤k)(h1:k+(zT s:Nat)<y2)(hl:Al s):Wh.q36 (D9 s k,k)=some (k+(zT s:Nat),()):=by
 unfold zT at h1
 have e1:=aa8 s.2.2.2.1 k h0 (by omega) hl.cat
 have e2:=aba s.2.2.2.2.1 (k+(zk s.2.2.2.1:Nat)) (by omega) (by omega) hl.CK
 have e3:=aa7 s.2.2.2.2.2.1 (k+(zk s.2.2.2.1:Nat)+(Ah s.2.2.2.2.1:Nat)) (by omega) (by omega) (Nat.le_trans hl.B6 (by omega))
 have e4:=abb s.2.2.2.2.2.2.1 (k+(zk s.2.2.2.1:Nat)+(Ah s.2.2.2.2.1:Nat)+(nP xQ s.2.2.2.2.2.1:Nat)) (by omega) (by omega) (Nat.le_trans hl.Cr (by omega))
 have v1:=Wh.W0 _ _ e1
 have v2:=Wh.q76_v _ _ e2
 have v3:=Wh.q28_v _ _ e3
 have v4:=Wh.q35_v _ _ e4
 have n1:decide ((k+(zk s.2.2.2.1:Nat))<0)=false:=by simp;omega
 have n2:decide ((k+(zk s.2.2.2.1:Nat)+(Ah s.2.2.2.2.1:Nat))<0)=false:=by simp;omega
 have n3:decide ((k+(zk s.2.2.2.1:Nat)+(Ah s.2.2.2.2.1:Nat)+(nP xQ s.2.2.2.2.2.1:Nat))<0)=false:=by simp;omega
 have n4:decide ((k+(zk s.2.2.2.1:Nat)+(Ah s.2.2.2.2.1:Nat)+(nP xQ s.2.2.2.2.2.1:Nat)+(nP xZ s.2.2.2.2.2.2.1:Nat))<0)=false:=by simp;omega
 simp only[Wh.q36,D9,e1,v1,e2,v2,e3,v3,e4,v4,iy,nQ,cond_true,cond_false,n1,n2,n3,n4]
 simp[zT]
 omega
end Pl
open Go Go.Ab Go.Lib
namespace Pl
theorem Ff (x y:Nat):((x:Int)==(y:Int))=(x==y):=by rw[Bool.eq_iff_iff,beq_iff_eq,beq_iff_eq];omega
theorem I9 {n:Nat}(h:n≤1048576):decide (0+n≤dh)=true:=by unfold dh;exact decide_eq_true (by omega)
theorem afC (p:lg.D)(h:DW p):Wh.Iq p=some (p,()):=by
 have:p.1.length≤1048576:=h
 simp only[Wh.Iq,iy,I9 this,cond_true,List.nil_append]
theorem abl (p:lg.D)(h:DW p):Wh.q49 p=some (p,()):=by
 have:p.1.length≤1048576:=h
 simp only[Wh.q49,iy,I9 this,cond_true,List.nil_append]
theorem afy (s:fk.D)(S:Al s)(h0:s.2.2.2.1.2.1.length≤99999):Wh.Ir s=some (s,()):=by
 have a:=copy_eq s.2.2.2.1 h0
 have b:=afC s.2.2.2.2.1 S.CK
 simp only[Wh.Ir,a,Wh.II _ _ a,b,Wh.Xa _ _ b,iy,nQ,I9 S.B6,I9 S.Cr,cond_true,List.nil_append]
theorem abi (s:fk.D)(S:Al s)(h0:s.2.2.2.1.2.1.length≤99999):Wh.q26 s=some (s,()):=by
 have a:=Ld s.2.2.2.1 h0
 have b:=abl s.2.2.2.2.1 S.CK
 simp only[Wh.q26,a,Wh.FR _ _ a,b,Wh.q49_v _ _ b,iy,nQ,I9 S.B6,I9 S.Cr,cond_true,List.nil_append]
theorem ok_cat {s:fk.D}(h:okV s=true):yJ s.2.2.2.1:=by
 unfold okV at h
 simp only[Bool.and_eq_true] at h
 obtain⟨_,_,hc,h⟩:=h
 cases hu:s.1 with
 |true=>
  rw[hu] at h
  simp only[cond_true,upV,Bool.and_eq_true,decide_eq_true_eq] at h
  rw[←h.2.1]
  exact Nx hc
 |false=>
  rw[hu] at h
  simp only[cond_false,Lo,Bool.and_eq_true,beq_iff_eq,List.length_eq_zero_iff] at h
  have e:s.2.2.2.1=((0:Int),[],()):=by
   rw[←h.1.1.1.1.2,←h.1.1.1.1.1]
  rw[e]
  exact Lc
def DU:fk.D:=(false,(0:Int),[],((0:Int),[],()),([],(0:Int),()),[],[],())
theorem ago:Al DU:=⟨by simp[DU],by unfold Ge;simp[DU],by simp[DU],by unfold DW;simp[DU],by simp[DU],by simp[DU]⟩
end Pl
open Go Go.Ab Go.Lib
namespace Pl
theorem EO {α:Type}(n1:α→Nat)(k:Nat)(h:∀a,n1 a=k)(l:List α):nP n1 l=k*l.length:=by
 induction l with
 |nil=>rfl
 |cons a l ih=>simp only[nP,List.map_cons,List.sum_cons,List.length_cons] at ih ⊢;rw[ih,h,Nat.mul_add];omega
theorem WB (R:fk.D)(S:Al R):1+((zT R:Nat):Int)<y2:=by
 have h1:R.2.2.2.1.2.1.length≤1048576:=S.cat
 have h2:R.2.2.2.2.1.1.length≤1048576:=S.CK
 have h3:=S.B6
 have h4:=S.Cr
 unfold zT zk Ah
 rw[EO xY 4 (fun _=>rfl),EO xX 5 (fun _=>rfl),EO xQ 4 (fun _=>rfl),EO xZ 6 (fun _=>rfl)]
 unfold y2
 omega
structure MarkS (R:fk.D):Prop where
 eq:Wh.DG (R,R)=some (true,())
 mrk:Wh.q39 (R,1)=some (1+((zT R:Nat):Int),D9 R 1,())
 hd:Wh.q36 ((R.1,R.2.1,R.2.2.1,(R.2.2.2.1.1,(D9 R 1).2.2.2.1.2.1,R.2.2.2.1.2.2),((D9 R 1).2.2.2.2.1.1,R.2.2.2.2.1.2),(D9 R 1).2.2.2.2.2.1,(D9 R 1).2.2.2.2.2.2.1,R.2.2.2.2.2.2.2),1)=some (1+((zT R:Nat):Int),())
 ng:decide (1+((zT R:Nat):Int)<0)=false
theorem markS (R:fk.D)(S:Al R):MarkS R:=
 ⟨Z3 R S,ab5 R 1 (by omega) (WB R S) S,abc R 1 (by omega) (WB R S) S,decide_eq_false (by omega)⟩
theorem bneS (x:Int):(x != x)=false:=by simp
end Pl
open Go Go.Ab Go.Lib
namespace Pl
theorem tdivN (a b:Nat):Int.tdiv (a:Int) (b:Int)=((a / b:Nat):Int):=rfl
def RJ (n:Nat):Nat:=(n*1103515245+12345) % 2147483648
def pickN (s n:Nat):Nat:=s / 256 % n
theorem wNat {x:Int}{y:Nat}(h:x=(y:Int))(hy:y≤4611686018427387904):IntKind.wrap .i64 x=(y:Int):=wi h hy
section
variable {c d:Nat}
end
end Pl
open Go Go.Ab Go.Lib
namespace Pl
end Pl
open Go Go.Ab Go.Lib
namespace Pl
def fm (n:Nat):List Int:=(List.range n).map fun(i:Nat)=>(i:Int)
def dr (s0:Nat)(l0:List Int):Nat→Nat×List Int×List Int
 |0=>(s0,l0,[])
 |i+1=>(RJ (dr s0 l0 i).1,(dr s0 l0 i).2.1.eraseIdx (pickN (RJ (dr s0 l0 i).1) (dr s0 l0 i).2.1.length),
  (dr s0 l0 i).2.2 ++ [(dr s0 l0 i).2.1.getD (pickN (RJ (dr s0 l0 i).1) (dr s0 l0 i).2.1.length) 0])
section
variable (s0:Nat) (l0:List Int)
end
end Pl
open Go Go.Ab Go.Lib
namespace Pl
theorem aa3 (L:Nat)(hL:L≤300):∀d s:Nat,s+d=13→1≤s→∃s':Nat,1≤s'∧s'≤13∧(L+s'-1) / s'≤24∧Comes Wh.Bx (((),()),((L:Int),(s:Int),(),(),()),((0:Int),(0:Int),(),(),()),[],[],[],[]) (((),()),((0:Int),(0:Int),(),(),()),((L:Int),(s':Int),(),(),()),[],[],[],[]):=by
 intro d
 induction d with
 |zero=>
  intro s h1 h2
  have:s=13:=by omega
  subst this
  refine⟨13,by omega,by omega,by omega,.out ?_⟩
  have a:=count_eq (L:Int) ((13:Nat):Int) [] [] () (by omega)
  rw[Lf L 13 (by omega) (by omega) (by omega)] at a
  have c1:decide ((((L+13-1) / 13:Nat):Int)>24)=false:=decide_eq_false (by omega)
  simp only[Wh.Bx,a,Wh.AJ _ _ a,c1,nQ,iy,cond_true,cond_false]
 |succ d ih=>
  intro s h1 h2
  have a:=count_eq (L:Int) (s:Int) [] [] () (by omega)
  cases hc:decide (AU (L:Int) (s:Int)>24) with
  |true=>
   obtain⟨s',g1,g2,g0,g3⟩:=ih (s+1) (by omega) (by omega)
   refine⟨s',g1,g2,g0,.again ?_ g3⟩
   simp only[Wh.Bx,a,Wh.AJ _ _ a,hc,nQ,iy,cond_true,mw (show s≤4611686018427387904 by omega)]
  |false=>
   refine⟨s,by omega,by omega,by
    have:=of_decide_eq_false hc
    rw[Lf L s (by omega) (by omega) (by omega)] at this
    generalize (L+s-1) / s=q at *
    omega,.out ?_⟩
   simp only[Wh.Bx,a,Wh.AJ _ _ a,hc,nQ,iy,cond_true,cond_false]
def Dq (L s c:Nat):s_.D:=bif decide ((c+3) / 4<c) then((L:Int),(s:Int),[(((c+3) / 4:Nat):Int),(c:Int)],[(2:Int),(3:Int)],()) else((L:Int),(s:Int),[(c:Int)],[(1:Int)],())
theorem acw (L:Nat)(h1:1≤L)(hL:L≤300):∃s c:Nat,1≤s∧s≤13∧(L+s-1) / s=c∧1≤c∧c≤24∧Wh.BT (L:Int)=some (Dq L s c,())∧Wh.Co (L:Int)=some (Dq L s c,()):=by
 obtain⟨s,g1,g2,g0,g3⟩:=aa3 L hL 5 8 (by omega) (by omega)
 have eK:1≤(L+s-1) / s:=Nat.div_pos (by omega) (by omega)
 have hcv:=Lf L s (by omega) (by omega) (by omega)
 refine⟨s,(L+s-1) / s,g1,g2,rfl,eK,g0,?_⟩
 generalize (L+s-1) / s=c at *
 have g3':Comes Wh.Bx (((),()),((L:Int),(8:Int),(),(),()),((0:Int),(0:Int),(),(),()),[],[],[],[]) _:=g3
 have g4:Comes Wh.I4 (((),()),((L:Int),(8:Int),(),(),()),((0:Int),(0:Int),(),(),()),[],[],[],[]) _:=g3
 have a:=count_eq (L:Int) (s:Int) [] [] () (by omega)
 rw[hcv] at a
 have wi1:nS (L:Int) 1 300=true:=decide_eq_true (by omega)
 have w4:IntKind.wrap .i64 (Int.tdiv (IntKind.wrap .i64 ((c:Int)+3)) 4)=(((c+3) / 4:Nat):Int):=by
  rw[wNat (x:=(c:Int)+3) (y:=c+3) (by omega) (by omega)]
  exact wNat (tdivN (c+3) 4) (by omega)
 have hk':decide (((((c+3) / 4:Nat)):Int)<(c:Int))=decide ((c+3) / 4<c):=by
  by_cases h:(c+3) / 4<c
  ·rw[decide_eq_true h,decide_eq_true (by omega)]
  ·rw[decide_eq_false h,decide_eq_false (by omega)]
 unfold Dq
 cases hk:decide ((c+3) / 4<c) with
 |true=>
  rw[hk] at hk'
  refine⟨?_,?_⟩
  ·simp only[Wh.BT,cb g3',cv g3',cond_true,a,Wh.AJ _ _ a,w4,hk',nQ,iy]
  ·simp only[Wh.Co,yV,Wh.zK _ _ (yV _ _ _),wi1,cb g4,cv g4,cond_true,cond_false,Bool.not_true,Ll,Lm,a,Wh.AJ _ _ a,w4,hk',nQ,iy]
 |false=>
  rw[hk] at hk'
  refine⟨?_,?_⟩
  ·simp only[Wh.BT,cb g3',cv g3',cond_true,a,Wh.AJ _ _ a,w4,hk',nQ,iy,cond_false]
  ·simp only[Wh.Co,yV,Wh.zK _ _ (yV _ _ _),wi1,cb g4,cv g4,cond_true,cond_false,Bool.not_true,Ll,Lm,a,Wh.AJ _ _ a,w4,hk',nQ,iy]
end Pl
open Go Go.Ab
namespace Pc
theorem wrap64 {n:Int}(h1: -9223372036854775808≤n)(h2:n≤9223372036854775807):IntKind.wrap .i64 n=n:=by
 simp[IntKind.wrap,IntKind.signed,IntKind.bits]
 omega
theorem x7 {X Y:Type}{r:X→Option (X⊕Y)}(st:Nat→X){n:Nat}{y:Y}(hs:∀i,i<n→r (st i)=some (.inl (st (i+1))))(he:r (st n)=some (.inr y)):∀k,k≤n→Comes r (st k) y:=by
 intro k hk
 have:∀d k,k+d=n→Comes r (st k) y:=by
  intro d
  induction d with
  |zero=>intro k hk;have:k=n:=by omega
         subst this;exact .out he
  |succ d ih=>intro k hk;exact .again (hs k (by omega)) (ih (k+1) (by omega))
 exact this (n-k) k (by omega)
theorem cb {X Y:Type}{r:X→Option (X⊕Y)}{x:X}{y:Y}(h:Comes r x y):lF r x=true:=(h.is (y0:=y)).1
theorem cv {X Y:Type}{r:X→Option (X⊕Y)}{x:X}{y:Y}(h:Comes r x y)(y0:Y):kG r y0 x=y:=h.is.2
theorem n_ {α:Type}(x:α):nQ (some x)=true:=rfl
theorem getD_eq {α:Type}(l:List α)(i:Nat)(z:α)(h:i<l.length):l.getD i z=l[i]:=by simp[h]
end Pc
open Go Go.Ab
namespace Pc
theorem za (n lo hi:Int):Wh.xV (n,lo,hi)=some (decide (lo≤n∧n≤hi),()):=by
 by_cases h:lo≤n<;>simp[Wh.xV,h]
theorem zq (n lo hi:Int):Wh.ye (n,lo,hi)=some (decide (lo≤n∧n≤hi),()):=by
 by_cases h:lo≤n<;>simp[Wh.ye,h]
def jS:Nat→(Nat→Bool)→Bool
 |0,_=>true
 |n+1,p=>jS n p&&p n
theorem oL {p:Nat→Bool}:∀{n:Nat},jS n p=true↔∀i,i<n→p i=true
 |0=>by simp[jS]
 |n+1=>by
  rw[jS,Bool.and_eq_true,oL]
  constructor
  ·rintro⟨h1,h2⟩ i hi
   by_cases e:i=n
   ·subst e;exact h2
   ·exact h1 i (by omega)
  ·intro h
   exact⟨fun i hi=>h i (by omega),h n (by omega)⟩
theorem Ac {X Y:Type}{r:X→Option (X⊕Y)}(st:Nat→X){n:Nat}{p:Nat→Bool}{yf yt:Y}(hs:∀i,i<n→(∀j,j<i→p j=true)→p i=true→r (st i)=some (.inl (st (i+1))))
  (hf:∀i,i<n→(∀j,j<i→p j=true)→p i=false→r (st i)=some (.inr yf)) (he:r (st n)=some (.inr yt)):Comes r (st 0) (if jS n p=true then yt else yf):=by
 have main:∀d k,k+d=n→(∀j,j<k→p j=true)→Comes r (st k) (if jS n p=true then yt else yf):=by
  intro d
  induction d with
  |zero=>
   intro k hk hp
   have:k=n:=by omega
   subst this
   rw[if_pos (oL.2 hp)]
   exact .out he
  |succ d ih=>
   intro k hk hp
   cases hpk:p k with
   |true=>
    refine .again (hs k (by omega) hp hpk) (ih (k+1) (by omega) fun j hj=>?_)
    by_cases e:j=k
    ·subst e;exact hpk
    ·exact hp j (by omega)
   |false=>
    have:¬jS n p=true:=by
     intro h
     have:=oL.1 h k (by omega)
     rw[hpk] at this;cases this
    rw[if_neg this]
    exact .out (hf k (by omega) hp hpk)
 exact main n 0 (by omega) (fun j hj=>by omega)
theorem mw {i:Nat}(h:i≤4611686018427387904):IntKind.wrap .i64 ((i:Int)+1)=((i+1:Nat):Int):=by rw[wrap64]<;>omega
theorem HF {i:Nat}(h:i≤4611686018427387904):IntKind.wrap .i64 ((i:Int)-1)=(i:Int)-1:=by rw[wrap64]<;>omega
theorem RW:IntKind.wrap .i64 1=1:=by decide
end Pc
open Go Go.Ab
namespace Pc
end Pc
open Go Go.Ab
namespace Pc
def cnt (p:s_.D):Int:=(p.1+p.2.1-1).tdiv p.2.1
theorem Le (p:s_.D)(h1:1≤p.1∧p.1≤300)(h2:1≤p.2.1∧p.2.1≤16):1≤cnt p∧cnt p≤400:=by
 unfold cnt
 rw[Int.tdiv_eq_ediv_of_nonneg (by omega)]
 constructor
 ·exact(Int.le_ediv_iff_mul_le (by omega)).2 (by omega)
 ·have:(p.1+p.2.1-1) / p.2.1≤(p.1+p.2.1-1):=Int.ediv_le_self _ (by omega)
  omega
theorem Zf (p:s_.D)(h1:1≤p.1∧p.1≤300)(h2:1≤p.2.1∧p.2.1≤16):Wh.Bp p=some (cnt p,()):=by
 have hb:=Le p h1 h2
 have e1:IntKind.wrap .i64 (p.1+p.2.1)=p.1+p.2.1:=by rw[wrap64]<;>omega
 have e2:IntKind.wrap .i64 (p.1+p.2.1-1)=p.1+p.2.1-1:=by rw[wrap64]<;>omega
 have e3:IntKind.wrap .i64 ((p.1+p.2.1-1).tdiv p.2.1)=(p.1+p.2.1-1).tdiv p.2.1:=by unfold cnt at hb;rw[wrap64]<;>omega
 have hz:(p.2.1 != 0)=true:=by simp;omega
 simp[Wh.Bp,e1,e2,e3,iy,cnt,hz]
theorem Vb (p:s_.D)(h1:1≤p.1∧p.1≤300)(h2:1≤p.2.1∧p.2.1≤16):Wh.BU p=some (cnt p,()):=by
 have hb:=Le p h1 h2
 have e1:IntKind.wrap .i64 (p.1+p.2.1)=p.1+p.2.1:=by rw[wrap64]<;>omega
 have e2:IntKind.wrap .i64 (p.1+p.2.1-1)=p.1+p.2.1-1:=by rw[wrap64]<;>omega
 have e3:IntKind.wrap .i64 ((p.1+p.2.1-1).tdiv p.2.1)=(p.1+p.2.1-1).tdiv p.2.1:=by unfold cnt at hb;rw[wrap64]<;>omega
 have hz:(p.2.1 != 0)=true:=by simp;omega
 simp[Wh.BU,e1,e2,e3,iy,cnt,hz]
def CJ (p:s_.D)(i:Nat):Bool:=
 decide (1≤p.2.2.1.getD i 0∧p.2.2.1.getD i 0≤cnt p)&&(decide (i=0) || decide (p.2.2.1.getD (i-1) 0<p.2.2.1.getD i 0))&&decide (1≤p.2.2.2.1.getD i 0∧p.2.2.2.1.getD i 0≤99)
def zy (p:s_.D):Bool:=decide (1≤p.1∧p.1≤300)&&decide (1≤p.2.1∧p.2.1≤16)&&decide (cnt p≤24)&&decide (1≤p.2.2.1.length∧p.2.2.1.length≤3)&&decide (p.2.2.2.1.length=p.2.2.1.length)
def zI (p:s_.D):Bool:=zy p&&jS p.2.2.1.length (CJ p)&&decide (p.2.2.1.getD (p.2.2.1.length-1) 0=cnt p)
theorem afK (p:s_.D)(h:zy p=true):Comes Wh.Ck (((0:Int),()),p) (if jS p.2.2.1.length (CJ p)=true then .inr ((),p) else .inl (false,())):=by
 simp only[zy,Bool.and_eq_true,decide_eq_true_eq] at h
 obtain⟨⟨⟨⟨a1,a2⟩,a3⟩,a4⟩,a5⟩:=h
 have hc:=Zf p a1 a2
 refine Ac (fun i=>(((i:Int),()),p)) ?_ ?_ ?_
 ·intro i hi _ hp
  have hi2:i<p.2.2.2.1.length:=by omega
  have e0:p.2.2.1.getD i 0=p.2.2.1[i]:=by simp[hi]
  have e1:p.2.2.2.1.getD i 0=p.2.2.2.1[i]:=by simp[hi2]
  simp only[CJ,Bool.and_eq_true,Bool.or_eq_true,decide_eq_true_eq,e0,e1] at hp
  obtain⟨⟨hp1,hp2⟩,BH⟩:=hp
  have h3:=mw (i:=i) (by omega)
  have h5:=HF (i:=i) (by omega)
  by_cases hz:i=0
  ·subst hz
   simp[Wh.Ck,hi,hi2,iy,RW,Wh.s4,en,Wh.zJ,en,hc,za,nQ,hp1,BH]
  ·have h6:(0:Int)<i:=by omega
   have h8:((i:Int)-1).toNat=i-1:=by omega
   have h10:i-1<p.2.2.1.length:=by omega
   have h9:¬p.2.2.1[i]≤p.2.2.1[i-1]:=by
    have:p.2.2.1.getD (i-1) 0=p.2.2.1[i-1]:=by simp[h10]
    have:=hp2.resolve_left hz
    omega
   have h11:(0:Int)≤(i:Int)-1:=by omega
   have h12:(i:Int)-1<p.2.2.1.length:=by omega
   have D3:(1:Int)≤i:=by omega
   simp[Wh.Ck,hi,hi2,iy,h3,h5,h8,h9,h10,h12,D3,Wh.s4,en,Wh.zJ,en,hc,za,nQ,hp1,BH,show 0<i by omega]
 ·intro i hi _ hp
  have hi2:i<p.2.2.2.1.length:=by omega
  have e0:p.2.2.1.getD i 0=p.2.2.1[i]:=by simp[hi]
  have e1:p.2.2.2.1.getD i 0=p.2.2.2.1[i]:=by simp[hi2]
  simp only[CJ,Bool.and_eq_false_iff,Bool.or_eq_false_iff,decide_eq_false_iff_not,e0,e1] at hp
  have h5:=HF (i:=i) (by omega)
  by_cases hp1:1≤p.2.2.1[i]∧p.2.2.1[i]≤cnt p
  ·by_cases hz:i=0
   ·subst hz
    have BH:¬((1:Int)≤p.2.2.2.1[0]∧p.2.2.2.1[0]≤(99:Int)):=by
     rcases hp with(hp|hp)|hp
     ·exact absurd hp1 hp
     ·exact absurd rfl hp.1
     ·exact hp
    simp[Wh.Ck,hi,hi2,iy,Wh.s4,en,Wh.zJ,en,hc,za,nQ,hp1,BH]
   ·have h6:(0:Int)<i:=by omega
    have h8:((i:Int)-1).toNat=i-1:=by omega
    have h10:i-1<p.2.2.1.length:=by omega
    have e2:p.2.2.1.getD (i-1) 0=p.2.2.1[i-1]:=by simp[h10]
    rw[e2] at hp
    have h11:(0:Int)≤(i:Int)-1:=by omega
    have h12:(i:Int)-1<p.2.2.1.length:=by omega
    have D3:(1:Int)≤i:=by omega
    by_cases h9:p.2.2.1[i]≤p.2.2.1[i-1]
    ·simp[Wh.Ck,hi,iy,h5,h8,h9,h10,h12,D3,Wh.s4,en,Wh.zJ,en,hc,za,nQ,hp1,show 0<i by omega]
    ·have BH:¬(1≤p.2.2.2.1[i]∧p.2.2.2.1[i]≤99):=by
      rcases hp with(hp|hp)|hp
      ·exact absurd hp1 hp
      ·exact absurd hp.2 (by omega)
      ·exact hp
     simp[Wh.Ck,hi,hi2,iy,h5,h8,h9,h10,h12,D3,Wh.s4,en,Wh.zJ,en,hc,za,nQ,hp1,BH,show 0<i by omega]
  ·simp[Wh.Ck,hi,iy,Wh.s4,en,Wh.zJ,en,hc,za,nQ,hp1]
 ·simp[Wh.Ck]
theorem afJ (p:s_.D):Wh.BR p=some (zI p,()):=by
 by_cases a1:1≤p.1∧p.1≤300
 case neg=>simp[Wh.BR,Wh.s4,en,za,iy,nQ,a1,zI,zy]
 by_cases a2:1≤p.2.1∧p.2.1≤16
 case neg=>simp[Wh.BR,Wh.s4,en,za,iy,nQ,a1,a2,zI,zy]
 have hc:=Zf p a1 a2
 have hb:=Le p a1 a2
 by_cases a3:cnt p≤24
 case neg=>simp[Wh.BR,Wh.s4,en,Wh.zJ,en,hc,za,iy,nQ,a1,a2,a3,zI,zy]
 by_cases a4:1≤p.2.2.1.length∧p.2.2.1.length≤3
 case neg=>
  have Am:¬((1:Int)≤(p.2.2.1.length:Int)∧(p.2.2.1.length:Int)≤3):=by omega
  simp only[Wh.BR,Wh.s4,en,Wh.zJ,en,hc,za,iy,nQ,a1,a2,a3,a4,Am,hb.1,zI,zy,and_self,decide_true,decide_false,Bool.not_true,Bool.not_false,cond_true,cond_false,Bool.false_and,Bool.and_false,Bool.or_true,Bool.and_self]
 by_cases a5:p.2.2.2.1.length=p.2.2.1.length
 case neg=>
  have Am:((1:Int)≤(p.2.2.1.length:Int)∧(p.2.2.1.length:Int)≤3):=by omega
  have Da:((p.2.2.2.1.length:Int) != (p.2.2.1.length:Int))=true:=by simp;omega
  simp only[Wh.BR,Wh.s4,en,Wh.zJ,en,hc,za,iy,nQ,a1,a2,a3,a4,Am,a5,Da,hb.1,zI,zy,and_self,decide_true,decide_false,Bool.not_true,Bool.not_false,cond_true,cond_false,Bool.false_and,Bool.and_false,Bool.or_true,Bool.and_self]
 have hA:zy p=true:=by simp only[zy,a1,a2,a3,a4,a5,and_self,decide_true,Bool.and_self]
 have hl:=afK p hA
 have Am:((1:Int)≤(p.2.2.1.length:Int)∧(p.2.2.1.length:Int)≤3):=by omega
 have Da:((p.2.2.2.1.length:Int) != (p.2.2.1.length:Int))=false:=by simp;omega
 have w1:IntKind.wrap .i64 ((p.2.2.1.length:Int)-1)=(p.2.2.1.length:Int)-1:=HF (by omega)
 have w2:((p.2.2.1.length:Int)-1).toNat=p.2.2.1.length-1:=by omega
 have w3:(0:Int)≤(p.2.2.1.length:Int)-1:=by omega
 have w4:(p.2.2.1.length:Int)-1<(p.2.2.1.length:Int):=by omega
 cases hp:jS p.2.2.1.length (CJ p) with
 |true=>
  rw[hp,if_pos rfl] at hl
  simp only[Wh.BR,cb hl,cv hl,Wh.s4,en,Wh.zJ,en,hc,za,iy,nQ,a1,a2,a3,Am,Da,hb.1,zI,hA,hp,and_self,decide_true,Bool.not_true,Bool.not_false,cond_true,cond_false,Bool.true_and,Bool.or_true,Bool.and_self]
  dsimp only[sumC]
  simp only[hc,w1,w2,w3,w4,decide_true,Bool.and_self,cond_true]
  rfl
 |false=>
  rw[hp,if_neg (by simp)] at hl
  simp only[Wh.BR,cb hl,cv hl,Wh.s4,en,Wh.zJ,en,hc,za,iy,nQ,a1,a2,a3,Am,Da,hb.1,zI,hA,hp,and_self,decide_true,Bool.not_true,Bool.not_false,cond_true,cond_false,Bool.false_and,Bool.and_false,Bool.or_true,Bool.and_self]
theorem abt (p:s_.D)(h:zy p=true):Comes Wh.Cj (((0:Int),(),p.2.2.1,(p.2.2.1.length:Int)),p) (if jS p.2.2.1.length (CJ p)=true then .inr ((),()) else .inl (false,())):=by
 simp only[zy,Bool.and_eq_true,decide_eq_true_eq] at h
 obtain⟨⟨⟨⟨a1,a2⟩,a3⟩,a4⟩,a5⟩:=h
 have hc:=Vb p a1 a2
 refine Ac (fun i=>(((i:Int),(),p.2.2.1,(p.2.2.1.length:Int)),p)) ?_ ?_ ?_
 ·intro i hi _ hp
  have hi2:i<p.2.2.2.1.length:=by omega
  have e0:p.2.2.1.getD i 0=p.2.2.1[i]:=by simp[hi]
  have e1:p.2.2.2.1.getD i 0=p.2.2.2.1[i]:=by simp[hi2]
  simp only[CJ,Bool.and_eq_true,Bool.or_eq_true,decide_eq_true_eq,e0,e1] at hp
  obtain⟨⟨hp1,hp2⟩,BH⟩:=hp
  have h3:=mw (i:=i) (by omega)
  have h5:=HF (i:=i) (by omega)
  by_cases hz:i=0
  ·subst hz
   simp[Wh.Cj,hi,hi2,iy,RW,Wh.wh,en,Wh.zL,en,hc,zq,nQ,hp1,BH]
  ·have h6:(0:Int)<i:=by omega
   have h8:((i:Int)-1).toNat=i-1:=by omega
   have h10:i-1<p.2.2.1.length:=by omega
   have h9:¬p.2.2.1[i]≤p.2.2.1[i-1]:=by
    have:p.2.2.1.getD (i-1) 0=p.2.2.1[i-1]:=by simp[h10]
    have:=hp2.resolve_left hz
    omega
   have h11:(0:Int)≤(i:Int)-1:=by omega
   have h12:(i:Int)-1<p.2.2.1.length:=by omega
   have D3:(1:Int)≤i:=by omega
   simp[Wh.Cj,hi,hi2,iy,h3,h5,h8,h9,h10,h12,D3,Wh.wh,en,Wh.zL,en,hc,zq,nQ,hp1,BH,show 0<i by omega]
 ·intro i hi _ hp
  have hi2:i<p.2.2.2.1.length:=by omega
  have e0:p.2.2.1.getD i 0=p.2.2.1[i]:=by simp[hi]
  have e1:p.2.2.2.1.getD i 0=p.2.2.2.1[i]:=by simp[hi2]
  simp only[CJ,Bool.and_eq_false_iff,Bool.or_eq_false_iff,decide_eq_false_iff_not,e0,e1] at hp
  have h5:=HF (i:=i) (by omega)
  by_cases hp1:1≤p.2.2.1[i]∧p.2.2.1[i]≤cnt p
  ·by_cases hz:i=0
   ·subst hz
    have BH:¬((1:Int)≤p.2.2.2.1[0]∧p.2.2.2.1[0]≤(99:Int)):=by
     rcases hp with(hp|hp)|hp
     ·exact absurd hp1 hp
     ·exact absurd rfl hp.1
     ·exact hp
    simp[Wh.Cj,hi,hi2,iy,Wh.wh,en,Wh.zL,en,hc,zq,nQ,hp1,BH]
   ·have h6:(0:Int)<i:=by omega
    have h8:((i:Int)-1).toNat=i-1:=by omega
    have h10:i-1<p.2.2.1.length:=by omega
    have e2:p.2.2.1.getD (i-1) 0=p.2.2.1[i-1]:=by simp[h10]
    rw[e2] at hp
    have h11:(0:Int)≤(i:Int)-1:=by omega
    have h12:(i:Int)-1<p.2.2.1.length:=by omega
    have D3:(1:Int)≤i:=by omega
    by_cases h9:p.2.2.1[i]≤p.2.2.1[i-1]
    ·simp[Wh.Cj,hi,iy,h5,h8,h9,h10,h12,D3,Wh.wh,en,Wh.zL,en,hc,zq,nQ,hp1,show 0<i by omega]
    ·have BH:¬(1≤p.2.2.2.1[i]∧p.2.2.2.1[i]≤99):=by
      rcases hp with(hp|hp)|hp
      ·exact absurd hp1 hp
      ·exact absurd hp.2 (by omega)
      ·exact hp
     simp[Wh.Cj,hi,hi2,iy,h5,h8,h9,h10,h12,D3,Wh.wh,en,Wh.zL,en,hc,zq,nQ,hp1,BH,show 0<i by omega]
  ·simp[Wh.Cj,hi,iy,Wh.wh,en,Wh.zL,en,hc,zq,nQ,hp1]
 ·simp[Wh.Cj]
theorem abr (p:s_.D):Wh.Bq p=some (zI p,()):=by
 by_cases a1:1≤p.1∧p.1≤300
 case neg=>simp[Wh.Bq,Wh.wh,en,zq,iy,nQ,a1,zI,zy]
 by_cases a2:1≤p.2.1∧p.2.1≤16
 case neg=>simp[Wh.Bq,Wh.wh,en,zq,iy,nQ,a1,a2,zI,zy]
 have hc:=Vb p a1 a2
 have hb:=Le p a1 a2
 by_cases a3:cnt p≤24
 case neg=>
  have a3':cnt p>24:=by omega
  simp[Wh.Bq,Wh.wh,en,Wh.zL,en,hc,zq,iy,nQ,a1,a2,a3,a3',zI,zy]
 have a3':¬cnt p>24:=by omega
 by_cases a4:1≤p.2.2.1.length∧p.2.2.1.length≤3
 case neg=>
  have Am:¬((1:Int)≤(p.2.2.1.length:Int)∧(p.2.2.1.length:Int)≤3):=by omega
  simp only[Wh.Bq,Wh.wh,en,Wh.zL,en,hc,zq,iy,nQ,a1,a2,a3,a3',a4,Am,zI,zy,and_self,decide_true,decide_false,Bool.not_true,Bool.not_false,cond_true,cond_false,Bool.false_and,Bool.and_false,Bool.true_or,Bool.or_true,Bool.and_self]
 by_cases a5:p.2.2.2.1.length=p.2.2.1.length
 case neg=>
  have Am:((1:Int)≤(p.2.2.1.length:Int)∧(p.2.2.1.length:Int)≤3):=by omega
  have Da:((p.2.2.2.1.length:Int) != (p.2.2.1.length:Int))=true:=by simp;omega
  simp only[Wh.Bq,Wh.wh,en,Wh.zL,en,hc,zq,iy,nQ,a1,a2,a3,a3',a4,Am,a5,Da,zI,zy,and_self,decide_true,decide_false,Bool.not_true,Bool.not_false,cond_true,cond_false,Bool.false_and,Bool.and_false,Bool.true_or,Bool.or_true,Bool.and_self]
 have hA:zy p=true:=by simp only[zy,a1,a2,a3,a4,a5,and_self,decide_true,Bool.and_self]
 have hl:=abt p hA
 have Am:((1:Int)≤(p.2.2.1.length:Int)∧(p.2.2.1.length:Int)≤3):=by omega
 have Da:((p.2.2.2.1.length:Int) != (p.2.2.1.length:Int))=false:=by simp;omega
 have w1:IntKind.wrap .i64 ((p.2.2.1.length:Int)-1)=(p.2.2.1.length:Int)-1:=HF (by omega)
 have w2:((p.2.2.1.length:Int)-1).toNat=p.2.2.1.length-1:=by omega
 have w3:(0:Int)≤(p.2.2.1.length:Int)-1:=by omega
 have w4:(p.2.2.1.length:Int)-1<(p.2.2.1.length:Int):=by omega
 by_cases a6:p.2.2.1.getD (p.2.2.1.length-1) 0=cnt p
 case neg=>
  have a6':(p.2.2.1.getD (p.2.2.1.length-1) 0 != cnt p)=true:=by simpa using a6
  simp only[Wh.Bq,Wh.wh,en,Wh.zL,en,hc,zq,iy,nQ,a1,a2,a3',Am,Da,a6,a6',zI,hA,w1,w2,w3,w4,and_self,decide_true,decide_false,Bool.not_true,Bool.not_false,cond_true,cond_false,Bool.true_and,Bool.and_false,Bool.or_true,Bool.and_self]
 have a6':(p.2.2.1.getD (p.2.2.1.length-1) 0 != cnt p)=false:=by simpa using a6
 have a7:decide (p.2.2.1.getD (p.2.2.1.length-1) 0=cnt p)=true:=by simpa using a6
 cases hp:jS p.2.2.1.length (CJ p) with
 |true=>
  rw[hp,if_pos rfl] at hl
  simp only[Wh.Bq,cb hl,cv hl,Wh.wh,en,Wh.zL,en,hc,zq,iy,nQ,a1,a2,a3',Am,Da,a6',a7,zI,hA,hp,w1,w2,w3,w4,and_self,decide_true,decide_false,Bool.not_true,Bool.not_false,cond_true,cond_false,Bool.or_true,Bool.and_self]
 |false=>
  rw[hp,if_neg (by simp)] at hl
  simp only[Wh.Bq,cb hl,cv hl,Wh.wh,en,Wh.zL,en,hc,zq,iy,nQ,a1,a2,a3',Am,Da,a6',a7,zI,hA,hp,w1,w2,w3,w4,and_self,decide_true,decide_false,Bool.not_true,Bool.not_false,cond_true,cond_false,Bool.false_and,Bool.and_false,Bool.or_true,Bool.and_self]
end Pc
open Go Go.Ab Go.Lib
namespace Pl
theorem acv (L s c:Nat)(h1:1≤L)(h2:L≤300)(h3:1≤s)(h4:s≤13)(h5:(L+s-1) / s=c)(h6:1≤c)(h7:c≤24):Pc.zI (Dq L s c)=true:=by
 have hc:∀W ws:List Int,Pc.cnt ((L:Int),(s:Int),W,ws,())=(c:Int):=by
  intro W ws
  unfold Pc.cnt
  rw[show(L:Int)+(s:Int)-1=((L+s-1:Nat):Int) by omega]
  rw[←h5];exact tdivN _ _
 unfold Dq
 by_cases hk:(c+3) / 4<c
 ·rw[decide_eq_true hk,cond_true]
  simp[Pc.zI,Pc.zy,Pc.CJ,Pc.jS,hc]
  omega
 ·rw[decide_eq_false hk,cond_false]
  simp[Pc.zI,Pc.zy,Pc.CJ,Pc.jS,hc]
  omega
end Pl
open Go Go.Ab Go.Lib
namespace Pl
end Pl
open Go Go.Ab Go.Lib
namespace Pl
end Pl
open Go Go.Ab Go.Lib
namespace Pl
structure Bls (s:Nat) (bl:List (List UInt8)) (row:List Int):Prop where
 s1:1≤s
 s2:s≤13
 sz:∀x∈bl,x.length=s
 n1:1≤bl.length
 n2:bl.length≤24
 mem:∀x∈row,0≤x∧x<(bl.length:Int)
 AR:row.Pairwise (· < ·)
 len:row.length≤24
theorem Bls.at {s:Nat}{bl:List (List UInt8)}{row:List Int}(B:Bls s bl row){i:Nat}(h:i<row.length):0≤row.getD i 0∧row.getD i 0<(bl.length:Int)∧(bl.getD (row.getD i 0).toNat []).length=s:=by
 have m:=B.mem (row.getD i 0) (by rw[getD_eq _ _ _ h];exact List.getElem_mem h)
 refine⟨m.1,m.2,?_⟩
 have hk:(row.getD i 0).toNat<bl.length:=by omega
 rw[getD_eq _ _ _ hk]
 exact B.sz _ (List.getElem_mem hk)
end Pl
open Go Go.Ab Go.Lib
namespace Pl
end Pl
open Go Go.Ab Go.Lib
namespace Pl
theorem Zy {l:List It}{h:Int}{n:List UInt8}{i:Nat}(e:zD l h n=some i):i<l.length∧(l.getD i z0).1=h∧(l.getD i z0).2.1=n:=by
 obtain⟨h1,h2,_⟩:=Ap.1 e
 simp only[Bool.and_eq_true,beq_iff_eq] at h2
 exact⟨h1,h2.1,h2.2⟩
end Pl
open Go Go.Ab Go.Lib
namespace Pl
def cE (hd n:Nat):Nat:=(hd+n) % 8
end Pl
open Go Go.Ab Go.Lib
namespace Pl
end Pl
open Go Go.Ab Go.Lib
namespace Pl
structure C_ (l:List Fr) (hd:Nat):Prop where
 len:l.length=8
 hd:hd<8
 ok:∀i,i<8→okF (l.getD i zF)=true
 tw:∀i,i<8→∀k,k<i→yN l i k=false
 c0:we l 0 8≤5
 c1:we l 1 8≤5
theorem C_.v {l:List Fr}{hd:Nat}(G:C_ l hd):Ci (l,(hd:Int),())=true:=by
 have h:=G.hd
 have e:nS (hd:Int) 0 7=true:=decide_eq_true (by omega)
 have r:jS 8 (Ay l)=true:=oL.2 fun i hi=>by
  unfold Ay
  rw[G.ok i hi,Bool.true_and]
  exact oL.2 fun k hk=>by rw[G.tw i hi k hk];rfl
 unfold Ci
 simp only[G.len,beq_self_eq_true,e,r,decide_eq_true G.c0,decide_eq_true G.c1,Bool.and_self]
theorem C_.at {l:List Fr}{hd:Nat}(G:C_ l hd){hd':Nat}(h:hd'<8):C_ l hd':=⟨G.len,h,G.ok,G.tw,G.c0,G.c1⟩
theorem C_.held {l:List Fr}{hd:Nat}(G:C_ l hd)(k:Nat)(hk:k<8):0≤(l.getD k zF).2.2.2.1∧(l.getD k zF).2.2.2.1≤99999:=by
 have o:=G.ok k hk
 unfold okF at o
 cases e:((l.getD k zF).2.1==0) with
 |true=>
  rw[e,cond_true] at o
  simp only[Bool.and_eq_true,beq_iff_eq] at o
  omega
 |false=>
  rw[e,cond_false] at o
  simp only[Bool.and_eq_true] at o
  have:=of_decide_eq_true o.2
  omega
theorem Lw (l:List Fr)(k i:Nat)(f:Fr)(hk:k<l.length):(l.set k f).getD i zF=if i=k then f else l.getD i zF:=by
 rw[List.getD_eq_getElem?_getD,List.getElem?_set]
 by_cases h:k=i
 ·subst h;simp[hk]
 ·rw[if_neg h,if_neg (Ne.symm h),←List.getD_eq_getElem?_getD]
def HS (h:Int)(f:Fr):Nat:=if(bif decide (f.2.1>0) then f.1==h else false)=true then 1 else 0
theorem LU (l:List Fr)(h:Int)(i:Nat):we l h (i+1)=we l h i+HS h (l.getD i zF):=rfl
theorem WH (l:List Fr)(h:Int)(v:Nat)(f:Fr)(hv:v<l.length):∀i,i≤v→we (l.set v f) h i=we l h i
 |0,_=>rfl
 |i+1,hi=>by rw[LU,LU,WH l h v f hv i (by omega),Lw _ _ _ _ hv,if_neg (by omega)]
theorem Ov (l:List Fr)(h:Int)(v:Nat)(f:Fr)(hv:v<l.length):∀i,v<i→we (l.set v f) h i+HS h (l.getD v zF)=we l h i+HS h f
 |0,hi=>by omega
 |i+1,hi=>by
  rw[LU,LU,Lw _ _ _ _ hv]
  by_cases e:i=v
  ·subst e;rw[if_pos rfl,WH l h i f hv i (Nat.le_refl _)];omega
  ·rw[if_neg e]
   have:=Ov l h v f hv i (by omega)
   omega
def SK (f g:Fr):Prop:=f.1=g.1∧f.2.1=g.2.1∧f.2.2.1=g.2.2.1
theorem Vc {h:Int}{f g:Fr}(s:SK f g):HS h f=HS h g:=by unfold HS;rw[s.1,s.2.1]
theorem age {l m:List Fr}{i k:Nat}(a:SK (l.getD i zF) (m.getD i zF))(b:SK (l.getD k zF) (m.getD k zF)):yN l i k=yN m i k:=by
 unfold yN;rw[a.2.1,a.2.2,b.2.1,b.2.2]
theorem C_.same {l:List Fr}{hd:Nat}(G:C_ l hd){k:Nat}(hk:k<8){f:Fr}(ho:okF f=true)(s:SK f (l.getD k zF)):C_ (l.set k f) hd:=by
 have hk':k<l.length:=by rw[G.len];exact hk
 have sk:∀i,SK ((l.set k f).getD i zF) (l.getD i zF):=fun i=>by
  rw[Lw _ _ _ _ hk']
  by_cases e:i=k
  ·subst e;rw[if_pos rfl];exact s
  ·rw[if_neg e];exact⟨rfl,rfl,rfl⟩
 refine⟨by rw[List.length_set];exact G.len,G.hd,fun i hi=>?_,fun i hi j hj=>?_,?_,?_⟩
 ·rw[Lw _ _ _ _ hk']
  by_cases e:i=k
  ·rw[if_pos e];exact ho
  ·rw[if_neg e];exact G.ok i hi
 ·rw[age (sk i) (sk j)];exact G.tw i hi j hj
 ·have:=Ov l 0 k f hk' 8 hk;rw[Vc s] at this;have:=G.c0;omega
 ·have:=Ov l 1 k f hk' 8 hk;rw[Vc s] at this;have:=G.c1;omega
end Pl
open Go Go.Ab Go.Lib
namespace Pl
section
variable (up:Bool) (now:Int) (log:List UInt8) (cl:Int) (row:List Int) (t:an.D) (P1 P2:Int) (v:cr.D) (its:List an.D) (B6:List eA.D) (Cr:List cr.D) (W ws:List Int) (k:Int)
variable (up0:Bool) (now0:Int) (log0:List UInt8) (cl0 hd0:Int) (w:fT.D) (its0:List an.D) (fr0:List Fr) (bks0:List eA.D) (srv0:List cr.D)
end
end Pl
open Go Go.Ab Go.Lib
namespace Pl
def sv (v:Sv):Int:=3-v.2.2.2.2.1-v.2.2.2.2.2.1
structure Cu (S:List Sv) (now:Int):Prop where
 len:S.length≤100000
 nw:now≤99999
 cl:∀i,i<S.length→0≤(S.getD i zS).1∧(S.getD i zS).1≤3
 AR:∀i j,i<j→j<S.length→(S.getD i zS).1<(S.getD j zS).1
 wd:∀i,i<S.length→0≤(S.getD i zS).2.2.2.2.1∧(S.getD i zS).2.2.2.2.1≤3
 agq:∀i,i<S.length→0≤(S.getD i zS).2.2.2.2.2.1∧(S.getD i zS).2.2.2.2.2.1≤now
theorem Cu.inj {S:List Sv}{now:Int}(I:Cu S now){i j:Nat}(hi:i<S.length)(hj:j<S.length)(h:(S.getD i zS).1=(S.getD j zS).1):i=j:=by
 rcases Nat.lt_trichotomy i j with q|q|q
 ·have:=I.AR i j q hj;omega
 ·exact q
 ·have:=I.AR j i q hi;omega
def hs (S:List Sv)(k:Nat):Int:=Int.tmod (S.getD k zS).1 2
def own (S:List Sv)(h:Int)(i:Nat):List Nat:=(List.range i).filter fun k=>hs S k==h
end Pl
open Go Go.Ab Go.Lib
namespace Pl
theorem abA {c:Ct}(I:yJ c){i:Nat}(h:i<c.2.1.length):(0≤(c.2.1.getD i z0).1∧(c.2.1.getD i z0).1≤1)∧1≤(c.2.1.getD i z0).2.2.2.1.length∧(c.2.1.getD i z0).2.2.2.1.length≤300:=by
 have m:c.2.1.getD i z0∈c.2.1:=by rw[getD_eq _ _ _ h];exact List.getElem_mem h
 have:=LY (I.ok _ m)
 exact⟨this.1,this.2.2⟩
end Pl
open Go Go.Ab Go.Lib
namespace Pl
section
variable (now:Int) (log:List UInt8) (cl hd:Int) (its:List It) (fr:List Fr) (S:List Sv)
variable (up0:Bool) (now0:Int) (log0:List UInt8) (cl0 hd0:Int) (its0:List It) (fr0:List Fr) (bks0:List Bu) (srv0:List Sv) (rd:List Int) (B:List Bu)
end
def yh (S:List Sv)(c:Int)(i:Nat):List Sv:=(S.take i).filter fun v=>v.1 != c
theorem agk (S:List Sv)(c:Int)(i:Nat)(h:i<S.length):yh S c (i+1)=yh S c i++(bif(S.getD i zS).1 != c then [S.getD i zS] else []):=by
 unfold yh
 rw[List.take_succ_eq_append_getElem h,List.filter_append,getD_eq _ _ _ h]
 cases e:(S[i].1 != c)<;>simp[e]
theorem Zn (S:List Sv)(c:Int)(i:Nat):(yh S c i).length≤i:=by
 have:=List.length_filter_le (fun v:Sv=>v.1 != c) (S.take i)
 rw[List.length_take] at this
 unfold yh;omega
theorem wo_all {S:List Sv}{now:Int}(I:Cu S now)(k:Nat)(hk:k<S.length):yh S (S.getD k zS).1 S.length=S.eraseIdx k:=by
 have sp:S=S.take k++S.getD k zS::S.drop (k+1):=by
  rw[getD_eq _ _ _ hk,←List.drop_eq_getElem_cons hk,List.take_append_drop]
 have f1:∀v∈S.take k,(v.1 != (S.getD k zS).1)=true:=fun v hv=>by
  obtain⟨i,hi,rfl⟩:=List.mem_iff_getElem.1 hv
  rw[List.length_take] at hi
  have:=I.AR i k (by omega) hk
  rw[getD_eq _ _ _ (show i<S.length by omega)] at this
  rw[List.getElem_take]
  simp only[bne_iff_ne];omega
 have f2:∀v∈S.drop (k+1),(v.1 != (S.getD k zS).1)=true:=fun v hv=>by
  obtain⟨i,hi,rfl⟩:=List.mem_iff_getElem.1 hv
  rw[List.length_drop] at hi
  have:=I.AR k (k+1+i) (by omega) (by omega)
  rw[getD_eq S (k+1+i) _ (show k+1+i<S.length by omega)] at this
  rw[List.getElem_drop]
  simp only[bne_iff_ne];omega
 unfold yh
 rw[List.take_length,List.eraseIdx_eq_take_drop_succ]
 generalize (S.getD k zS)=x at *
 conv=>lhs;rw[sp]
 rw[List.filter_append,List.filter_cons,List.filter_eq_self.2 f1,List.filter_eq_self.2 f2]
 simp
theorem MU (s:fk.D)(hS:s.2.2.2.2.2.2.1.length≤100000)(c:Int):Wh.q42 (s,c)=some ((s.1,s.2.1,s.2.2.1,s.2.2.2.1,s.2.2.2.2.1,s.2.2.2.2.2.1,yh s.2.2.2.2.2.2.1 c s.2.2.2.2.2.2.1.length,s.2.2.2.2.2.2.2),()):=by
 have q:=x7 (r:=Wh.EB) (fun i=>(((i:Int),(),(),c,()),s,yh s.2.2.2.2.2.2.1 c i,(false,(0:Int),[],((0:Int),(),()),((),(0:Int),()),(),(),()),[],[],[],[])) (n:=s.2.2.2.2.2.2.1.length)
  (y:=(((),(),()),(false,(0:Int),[],((0:Int),(),()),((),(0:Int),()),(),(),()),s,yh s.2.2.2.2.2.2.1 c s.2.2.2.2.2.2.1.length,[],[],[],[])) (fun i hi=>by
  have wl:=Zn s.2.2.2.2.2.2.1 c i
  have hm:decide ((yh s.2.2.2.2.2.2.1 c i).length+1≤dh)=true:=by unfold dh;exact decide_eq_true (by omega)
  rw[agk _ _ _ hi]
  generalize yh s.2.2.2.2.2.2.1 c i=L at *
  unfold zS
  cases e:((List.getD s.2.2.2.2.2.2.1 i ((0:Int),(0:Int),(0:Int),(0:Int),(0:Int),(0:Int),())).1 != c) with
  |true=>simp only[Wh.EB,gl hi,g0,Int.toNat_natCast,e,hm,iy,Bool.and_self,cond_true,mw (show i≤4611686018427387904 by omega)]
  |false=>simp only[Wh.EB,gl hi,g0,Int.toNat_natCast,e,iy,Bool.and_self,cond_true,cond_false,List.append_nil,mw (show i≤4611686018427387904 by omega)]) (by
  have d1:decide ((s.2.2.2.2.2.2.1.length:Int)<(s.2.2.2.2.2.2.1.length:Int))=false:=decide_eq_false (by omega)
  simp only[Wh.EB,d1,cond_false]) 0 (Nat.zero_le _)
 have q':Comes Wh.EB ((0,(),(),c,()),s,[],(false,(0:Int),[],((0:Int),(),()),((),(0:Int),()),(),(),()),[],[],[],[]) _:=q
 simp only[Wh.q42,cb q',cv q',cond_true]
theorem ZO (L:List Sv)(K:Nat)(h:K<L.length)(_hl:L.length≤100000):Wh.q13 (L,(K:Int),((K+1:Nat):Int))=some (L.eraseIdx K,()):=by
 have t2:List.take (Int.toNat ((L.length:Int)-((K+1:Nat):Int))) (List.drop (K+1) L)=List.drop (K+1) L:=List.take_of_length_le (by rw[List.length_drop];omega)
 have t1:Int.toNat ((K:Int)-0)=K:=by omega
 have b2:decide (((K+1:Nat):Int)≤(L.length:Int))=true:=decide_eq_true (by omega)
 have b5:decide ((L.length:Int)≤(L.length:Int))=true:=decide_eq_true (by omega)
 have Zz:decide ((K:Int)≤(L.length:Int))=true:=decide_eq_true (by omega)
 have ZA:decide ((K:Int)≤((K+1:Nat):Int))=true:=decide_eq_true (by omega)
 have ZB:((K:Int)==((K+1:Nat):Int))=false:=beq_eq_false_iff_ne.2 (by omega)
 have hd:(L.drop (K+1)).length=L.length-(K+1):=List.length_drop
 have ZC:decide (0+K+(L.length-(K+1))≤L.length)=true:=decide_eq_true (by omega)
 have b10:decide (((K+(L.length-(K+1)):Nat):Int)≤(L.length:Int))=true:=decide_eq_true (by omega)
 have hlen:(L.take (0+K)++(L.drop (K+1)++L.drop (0+K+(L.length-(K+1))))).length=L.length:=by
  simp only[List.length_append,List.length_take,List.length_drop];omega
 have b11:decide (((0:Nat):Int)+(L.length:Int)≤(L.length:Int))=true:=decide_eq_true (by omega)
 simp only[Wh.q13,g0,ZA,b2,b5,iy,Bool.and_self,cond_true,ZB,cond_false,t1,Int.toNat_natCast,Int.toNat_zero,t2,hd,ZC,Zz,b10,hlen,b11]
 congr 2
 rw[List.eraseIdx_eq_take_drop_succ,List.take_append_of_le_length (by rw[List.length_take,hlen];omega),List.take_take,Nat.zero_add,Nat.zero_add,Nat.min_self]
 rw[←List.append_assoc,List.take_append_of_le_length (by rw[List.length_append,List.length_take,List.length_drop];omega),List.take_of_length_le (by rw[List.length_append,List.length_take,List.length_drop];omega)]
theorem NU (s:fk.D)(K:Nat)(h:K<s.2.2.2.2.2.2.1.length)(hl:s.2.2.2.2.2.2.1.length≤100000) :
  Wh.q18 (s,(K:Int))=some ((),(s.1,s.2.1,s.2.2.1,s.2.2.2.1,s.2.2.2.2.1,s.2.2.2.2.2.1,s.2.2.2.2.2.2.1.eraseIdx K,s.2.2.2.2.2.2.2),()):=by
 have w:IntKind.wrap .i64 ((K:Int)+1)=((K+1:Nat):Int):=mw (by omega)
 have d:=ZO _ _ h hl
 have el:(s.2.2.2.2.2.2.1.eraseIdx K).length≤100000:=by rw[List.length_eraseIdx_of_lt h];omega
 have m:decide (0+(s.2.2.2.2.2.2.1.eraseIdx K).length≤dh)=true:=by unfold dh;exact decide_eq_true (by omega)
 simp only[Wh.q18,w,d,Wh.q13_v _ _ d,m,n_,iy,Bool.and_self,cond_true,List.nil_append]
end Pl
open Go Go.Ab Go.Lib
namespace Pl
section
variable {now cl hd:Int} {log:List UInt8} {its:List It} {l:List Fr} {h:Nat} {S:List Sv} {B:List Bu}
end
end Pl
open Go Go.Ab Go.Lib
namespace Pl
noncomputable def A4 (_:fT.D) (k:Int):fT.D:=(k,k+1,k+2,k+3,k+4,mt (k+5),mt (k+6),())
def nW (_:fT.D):Nat:=7
theorem Uu (w:fT.D):Wh.IA (w,w)=some (true,()):=by simp[Wh.IA]
theorem Z4 (a:List fT.D)(h:a.length≤4611686018427387904):Wh.Fh (a,a)=some (true,()):=by
 have hl:Comes Wh.GR (((0:Int),a,a),()) (.inr ((),())):=by
  refine x7 (st:=fun i=>(((i:Int),a,a),())) (n:=a.length) ?_ ?_ 0 (Nat.zero_le _)
  ·intro i hi
   have h2:=mw (i:=i) (by omega)
   have h4:=Uu (a[i])
   simp[Wh.GR,Wh.L7,en,iy,h2,hi,h4,nQ]
  ·simp[Wh.GR]
 simp[Wh.Fh,cb hl,cv hl]
theorem ab7 (a:List fT.D)(k:Int)(h0:0≤k)(h1:k+(nP nW a:Nat)<y2)(hl:a.length≤4611686018427387904):Wh.q55 (a,k)=some (k+(nP nW a:Nat),vT A4 nW a k,()):=by
 have hc:Comes Wh.FO (((0:Int),(),k),a) (k+(nP nW a:Nat),vT A4 nW a k):=by
  have:=x7 (r:=Wh.FO) (st:=fun i=>(((i:Int),(),ks nW k a i),part A4 nW k a i)) (n:=a.length) (y:=(k+(nP nW a:Nat),vT A4 nW a k)) ?_ ?_ 0 (Nat.zero_le _)
  ·simpa[Dj,JU] using this
  ·intro i hi
   have b1:=CC nW k a i
   have b2:=Dh nW k a i hi
   have b3:nW a[i]=7:=rfl
   have e2:=mw (i:=i) (by omega)
   have e3:=JT A4 nW k a i hi
   have e4:=CD nW k a i hi
   have pl:=JS A4 nW k a i (Nat.le_of_lt hi)
   have pg:=JR A4 nW k a i ((0:Int),(0:Int),(0:Int),(0:Int),(0:Int),[],[],()) hi
   have hi':i<(part A4 nW k a i).length:=by omega
   simp only[A4] at e3
   rw[b3] at e4
   generalize ks nW k a i=q at *
   have w0:=w8 (k:=q) (by omega) (by omega)
   have w1:=w8 (k:=q+1) (by omega) (by omega)
   have w2:=w8 (k:=q+2) (by omega) (by omega)
   have w3:=w8 (k:=q+3) (by omega) (by omega)
   have w4:=w8 (k:=q+4) (by omega) (by omega)
   have w5:=w8 (k:=q+5) (by omega) (by omega)
   have w6:=w8 (k:=q+6) (by omega) (by omega)
   rw[show q+1+1=q+2 by omega] at w1
   rw[show q+2+1=q+3 by omega] at w2
   rw[show q+3+1=q+4 by omega] at w3
   rw[show q+4+1=q+5 by omega] at w4
   rw[show q+5+1=q+6 by omega] at w5
   rw[show q+6+1=ks nW k a (i+1) by rw[e4];omega] at w6
   have t5:=Fe (q+5) (by omega) (by omega)
   have t6:=Fe (q+6) (by omega) (by omega)
   have c1:decide ((i:Int)<(a.length:Int))=true:=by simpa using hi
   have a1:q+1+1=q+2:=by omega
   have a2:q+2+1=q+3:=by omega
   have a3:q+3+1=q+4:=by omega
   have a4:q+4+1=q+5:=by omega
   have a5:q+5+1=q+6:=by omega
   have a6:q+6+1=ks nW k a (i+1):=by rw[e4];omega
   simp only[Wh.FO,Int.toNat_natCast,pl,pg,Jw _ _ _ _ hi',KA,List.length_set,c1,cond_true,iy,Bool.and_self,Int.natCast_nonneg,decide_true,nQ,
    w0,a1,w1,a2,w2,a3,w3,a4,w4,a5,w5,a6,w6,Wh.DH _ _ t5,t5,Wh.DH _ _ t6,t6,e2,e3]
  ·simp[Wh.FO,Dg,GM,zG]
 simp[Wh.q55,cb hc,cv hc]
theorem abd (a:List fT.D)(k:Int)(h0:0≤k)(h1:k+(nP nW a:Nat)<y2)(hl:a.length≤4611686018427387904):Wh.q53 (vT A4 nW a k,k)=some (k+(nP nW a:Nat),()):=by
 have hc:Comes Wh.FM (((0:Int),vT A4 nW a k,k),()) (.inr (k+(nP nW a:Nat),())):=by
  have:=x7 (r:=Wh.FM) (st:=fun i=>(((i:Int),vT A4 nW a k,ks nW k a i),())) (n:=a.length) (y:=.inr (k+(nP nW a:Nat),())) ?_ ?_ 0 (Nat.zero_le _)
  ·simpa[Dj] using this
  ·intro i hi
   have b1:=CC nW k a i
   have b2:=Dh nW k a i hi
   have b3:nW a[i]=7:=rfl
   have e2:=mw (i:=i) (by omega)
   have e4:=CD nW k a i hi
   have pl:=zG A4 nW a k
   have pg:=JO A4 nW k a i ((0:Int),(0:Int),(0:Int),(0:Int),(0:Int),[],[],()) hi
   simp only[A4] at pg
   rw[b3] at e4
   generalize ks nW k a i=q at *
   have w0:=w8 (k:=q) (by omega) (by omega)
   have w1:=w8 (k:=q+1) (by omega) (by omega)
   have w2:=w8 (k:=q+2) (by omega) (by omega)
   have w3:=w8 (k:=q+3) (by omega) (by omega)
   have w4:=w8 (k:=q+4) (by omega) (by omega)
   have w5:=w8 (k:=q+5) (by omega) (by omega)
   have w6:=w8 (k:=q+6) (by omega) (by omega)
   have a1:q+1+1=q+2:=by omega
   have a2:q+2+1=q+3:=by omega
   have a3:q+3+1=q+4:=by omega
   have a4:q+4+1=q+5:=by omega
   have a5:q+5+1=q+6:=by omega
   have a6:q+6+1=ks nW k a (i+1):=by rw[e4];omega
   rw[a1] at w1;rw[a2] at w2;rw[a3] at w3;rw[a4] at w4;rw[a5] at w5;rw[a6] at w6
   have t5:=Fe (q+5) (by omega) (by omega)
   have t6:=Fe (q+6) (by omega) (by omega)
   have c1:decide ((i:Int)<(a.length:Int))=true:=by simpa using hi
   have d5:(mt (q+5)==mt (q+5))=true:=by simp
   have d6:(mt (q+6)==mt (q+6))=true:=by simp
   have bn:∀x:Int,(x != x)=false:=by intro x;simp
   simp only[Wh.FM,Int.toNat_natCast,pl,pg,c1,cond_true,cond_false,iy,Bool.and_self,Int.natCast_nonneg,decide_true,nQ,bn,
    w0,a1,w1,a2,w2,a3,w3,a4,w4,a5,w5,a6,w6,Wh.DH _ _ t5,t5,Wh.DH _ _ t6,t6,e2,d5,d6,Bool.not_true]
  ·simp[Wh.FM,zG,Dg]
 simp[Wh.q53,cb hc,cv hc,sumC]
end Pl
open Go Go.Ab Go.Lib
namespace Pl
theorem sumW (a:List fT.D):nP nW a=7*a.length:=EO nW 7 (fun _=>rfl) a
end Pl
open Go Go.Ab Go.Lib
namespace Pl
def EW (w:fT.D):Bool:=
 ((((nS w.2.1 0 99999&&nS w.2.2.1 1 99999)&&nS w.2.2.2.1 0 99999)&&nS w.2.2.2.2.1 0 99999) && !decide ((w.2.2.2.2.2.2.1.length:Int)>80)) &&
 (bif w.1==1 then zU w.2.2.2.2.2.1&&(w.2.2.2.2.1==0&&w.2.2.2.2.2.2.1 == []) else(w.2.2.2.2.2.1 == [] &&
  (bif w.1==6 then w.2.2.2.2.1==0&&w.2.2.2.2.2.2.1 == [] else bif w.1==2 then decide (w.2.2.2.1>0)&&(w.2.2.2.2.1==0 && !(w.2.2.2.2.2.2.1 == [])) else bif w.1==3 then decide (w.2.2.2.1>0) && !(w.2.2.2.2.2.2.1 == []) else
   bif w.1==4 then decide (w.2.2.2.1>0)&&w.2.2.2.2.2.2.1 == [] else bif w.1==5 then decide (w.2.2.2.1>0)&&w.2.2.2.2.2.2.1 == [] else false)))
theorem afI (w:fT.D)(hn:w.2.2.2.2.2.1.length≤9999999):Wh.IF w=some (EW w,()):=by
 have nm:=Zb w.2.2.2.2.2.1 hn
 unfold EW
 simp only[Wh.IF,Bh,Wh.zY _ _ (Bh _ _ _),nm,Wh.PJ _ _ nm,n_,Bool.or_true,iy,Bool.and_self,cond_true]
 cases nS w.2.1 0 99999
 ·rfl
 cases nS w.2.2.1 1 99999
 ·rfl
 cases nS w.2.2.2.1 0 99999
 ·rfl
 cases nS w.2.2.2.2.1 0 99999
 ·rfl
 cases decide ((w.2.2.2.2.2.2.1.length:Int)>80)
 ·simp only[Bool.not_true,Bool.not_false,cond_false,Bool.and_self,Bool.true_and]
  cases (w.1==(1:Int))
  ·simp only[cond_false,cond_true,Bool.not_false]
   cases (w.2.2.2.2.2.1 == [])
   ·rfl
   ·simp only[Bool.not_true,cond_false,Bool.true_and]
    cases (w.1==(6:Int))
    ·cases (w.1==(2:Int))
     ·cases (w.1==(3:Int))
      ·cases (w.1==(4:Int))
       ·cases (w.1==(5:Int))
        ·rfl
        ·cases decide (w.2.2.2.1>0)<;>rfl
       ·cases decide (w.2.2.2.1>0)<;>rfl
      ·cases decide (w.2.2.2.1>0)<;>rfl
     ·cases decide (w.2.2.2.1>0)<;>cases (w.2.2.2.2.1==0)<;>rfl
    ·cases (w.2.2.2.2.1==0)<;>rfl
  ·simp only[cond_true,Bool.not_true,cond_false]
   cases zU w.2.2.2.2.2.1
   ·rfl
   ·cases (w.2.2.2.2.1==0)<;>rfl
 ·rfl
theorem abq (w:fT.D)(hn:w.2.2.2.2.2.1.length≤9999999):Wh.G0 w=some (EW w,()):=by
 have nm:=NV w.2.2.2.2.2.1 hn
 unfold EW
 simp only[Wh.G0,yV,Wh.zK _ _ (yV _ _ _),nm,Wh.L6 _ _ nm,n_,Bool.or_true,iy,Bool.and_self,cond_true]
 cases nS w.2.1 0 99999
 ·rfl
 cases nS w.2.2.1 1 99999
 ·cases nS w.2.2.2.1 0 99999<;>cases nS w.2.2.2.2.1 0 99999<;>rfl
 cases nS w.2.2.2.1 0 99999
 ·rfl
 cases hq:nS w.2.2.2.2.1 0 99999
 ·rfl
 have n0:decide (w.2.2.2.2.1>0) = !(w.2.2.2.2.1==0):=by
  have:=of_decide_eq_true hq
  by_cases q:w.2.2.2.2.1=0
  ·rw[beq_iff_eq.2 q,decide_eq_false (by omega)];rfl
  ·rw[beq_eq_false_iff_ne.2 q,decide_eq_true (by omega)];rfl
 rw[n0]
 cases decide ((w.2.2.2.2.2.2.1.length:Int)>80)
 ·simp only[Bool.not_true,Bool.not_false,cond_false,Bool.and_self,Bool.true_and]
  by_cases k1:w.1=1
  ·simp only[beq_iff_eq.2 k1,cond_true]
   cases zU w.2.2.2.2.2.1<;>cases (w.2.2.2.2.1==0)<;>cases (w.2.2.2.2.2.2.1 == [])<;>rfl
  ·simp only[beq_eq_false_iff_ne.2 k1,cond_false]
   by_cases k2:w.1=2
   ·rw[k2]
    cases decide (w.2.2.2.1>0)<;>cases (w.2.2.2.2.1==0)<;>cases (w.2.2.2.2.2.2.1 == [])<;>cases (w.2.2.2.2.2.1 == [])<;>rfl
   ·simp only[beq_eq_false_iff_ne.2 k2,cond_false]
    by_cases k3:w.1=3
    ·rw[k3]
     cases decide (w.2.2.2.1>0)<;>cases (w.2.2.2.2.2.2.1 == [])<;>cases (w.2.2.2.2.2.1 == [])<;>rfl
    ·simp only[beq_eq_false_iff_ne.2 k3,cond_false]
     by_cases k4:w.1=4
     ·rw[k4]
      cases decide (w.2.2.2.1>0)<;>cases (w.2.2.2.2.2.2.1 == [])<;>cases (w.2.2.2.2.2.1 == [])<;>rfl
     ·simp only[beq_eq_false_iff_ne.2 k4,cond_false]
      by_cases k5:w.1=5
      ·rw[k5]
       cases decide (w.2.2.2.1>0)<;>cases (w.2.2.2.2.2.2.1 == [])<;>cases (w.2.2.2.2.2.1 == [])<;>rfl
      ·simp only[beq_eq_false_iff_ne.2 k5,cond_false]
       cases (w.1==(6:Int))<;>cases (w.2.2.2.2.1==0)<;>cases (w.2.2.2.2.2.2.1 == [])<;>cases (w.2.2.2.2.2.1 == [])<;>rfl
 ·rfl
theorem agl {w:fT.D}(h:EW w=true):(0≤w.2.1∧w.2.1≤99999)∧(1≤w.2.2.1∧w.2.2.1≤99999)∧(0≤w.2.2.2.1∧w.2.2.2.1≤99999):=by
 unfold EW at h
 simp only[Bool.and_eq_true] at h
 exact⟨of_decide_eq_true h.1.1.1.1.1,of_decide_eq_true h.1.1.1.1.2,of_decide_eq_true h.1.1.1.2⟩
theorem BB {n:Nat}(h:n≤9999):(decDigits n).length≤4:=uE (by omega) (by omega)
theorem mr (n:Nat)(h:n≤100000):decide (n≤dh)=true:=by unfold dh;exact decide_eq_true (by omega)
def two (a b:Nat):List UInt8:=decDigits a ++ [44]++decDigits b
theorem Y_ (a:Nat)(h:a≤9999):Wh.CM [(a:Int)]=some (decDigits a,()):=by
 have ea:=E8 a (by omega)
 have la:=BB h
 have c:Comes Wh.Ek ((0,[(a:Int)],[]),()) (decDigits a,()):=by
  refine .again (x':=((1,[(a:Int)],decDigits a),())) ?_ (.out rfl)
  have g:List.getD [(a:Int)] (Int.toNat 0) 0=(a:Int):=rfl
  have m:decide (List.length ([]:List UInt8)+(decDigits a).length≤dh)=true:=by rw[List.length_nil];exact mr _ (by omega)
  simp only[Wh.Ek,g,ea,Wh.Er _ _ ea,m,n_,List.nil_append]
  rfl
 simp only[Wh.CM,cb c,cv c,cond_true]
theorem Za (a b:Nat)(h:a≤9999)(h':b≤9999):Wh.CM [(a:Int),(b:Int)]=some (two a b,()):=by
 have ea:=E8 a (by omega)
 have eb:=E8 b (by omega)
 have la:=BB h
 have lb:=BB h'
 have c:Comes Wh.Ek ((0,[(a:Int),(b:Int)],[]),()) (two a b,()):=by
  refine .again (x':=((1,[(a:Int),(b:Int)],decDigits a),())) ?_ (.again (x':=((2,[(a:Int),(b:Int)],two a b),())) ?_ (.out rfl))
  ·have g:List.getD [(a:Int),(b:Int)] (Int.toNat 0) 0=(a:Int):=rfl
   have m:decide (List.length ([]:List UInt8)+(decDigits a).length≤dh)=true:=by rw[List.length_nil];exact mr _ (by omega)
   simp only[Wh.Ek,g,ea,Wh.Er _ _ ea,m,n_,List.nil_append]
   rfl
  ·have g:List.getD [(a:Int),(b:Int)] (Int.toNat 1) 0=(b:Int):=rfl
   have m:decide ((decDigits a).length+1≤dh)=true:=mr _ (by omega)
   have m2:decide ((decDigits a ++ [(44:UInt8)]).length+(decDigits b).length≤dh)=true:=mr _ (by rw[List.length_append];simp;omega)
   simp only[Wh.Ek,g,eb,Wh.Er _ _ eb,m,m2,n_,two]
   rfl
 simp only[Wh.CM,cb c,cv c,cond_true]
theorem U6 (a:Nat)(h:a≤9999):Wh.CS [(a:Int)]=some (decDigits a,()):=by
 have ea:=D4 a (by omega)
 have la:=BB h
 have c:Comes Wh.CT ((0,(),[(a:Int)],1),[]) ((),[decDigits a]):=by
  refine .again (x':=((1,(),[(a:Int)],1),[decDigits a])) ?_ (.out rfl)
  have g:List.getD [(a:Int)] (Int.toNat 0) 0=(a:Int):=rfl
  simp only[Wh.CT,g,ea,Wh.xL _ _ ea,n_,List.nil_append]
  rfl
 have c':Comes Wh.CT ((0,(),[(a:Int)],(([(a:Int)]:List Int).length:Int)),[]) _:=c
 have j:Wh.strings_Join ([decDigits a],[(44:UInt8)])=some (decDigits a,()):=by
  have d1:decide ((decDigits a).length≤281474976710656)=true:=decide_eq_true (by omega)
  have d2:decide (([decDigits a]:List (List UInt8)).length≤140737488355328)=true:=by rw[List.length_singleton];decide
  simp only[Wh.strings_Join,join_one,d1,d2,Bool.and_self,cond_true]
 simp only[Wh.CS,cb c',cv c',cond_true,j,Wh.RM _ _ j,n_,iy]
theorem U7 (a b:Nat)(h:a≤9999)(h':b≤9999):Wh.CS [(a:Int),(b:Int)]=some (two a b,()):=by
 have ea:=D4 a (by omega)
 have eb:=D4 b (by omega)
 have la:=BB h
 have lb:=BB h'
 have c:Comes Wh.CT ((0,(),[(a:Int),(b:Int)],2),[]) ((),[decDigits a,decDigits b]):=by
  refine .again (x':=((1,(),[(a:Int),(b:Int)],2),[decDigits a])) ?_ (.again (x':=((2,(),[(a:Int),(b:Int)],2),[decDigits a,decDigits b])) ?_ (.out rfl))
  ·have g:List.getD [(a:Int),(b:Int)] (Int.toNat 0) 0=(a:Int):=rfl
   simp only[Wh.CT,g,ea,Wh.xL _ _ ea,n_,List.nil_append]
   rfl
  ·have g:List.getD [(a:Int),(b:Int)] (Int.toNat 1) 0=(b:Int):=rfl
   simp only[Wh.CT,g,eb,Wh.xL _ _ eb,n_]
   rfl
 have c':Comes Wh.CT ((0,(),[(a:Int),(b:Int)],(([(a:Int),(b:Int)]:List Int).length:Int)),[]) _:=c
 have abB:join [decDigits a,decDigits b] [44]=two a b:=by
  rw[join_cons];simp[joinTail,two]
 have tl:(two a b).length≤9:=by unfold two;simp only[List.length_append,List.length_singleton];omega
 have j:Wh.strings_Join ([decDigits a,decDigits b],[(44:UInt8)])=some (two a b,()):=by
  have d1:decide ((two a b).length≤281474976710656)=true:=decide_eq_true (by omega)
  have d2:decide (([decDigits a,decDigits b]:List (List UInt8)).length≤140737488355328)=true:=by rw[List.length_cons,List.length_singleton];decide
  simp only[Wh.strings_Join,abB,d1,d2,Bool.and_self,cond_true]
 simp only[Wh.CS,cb c',cv c',cond_true,j,Wh.RM _ _ j,n_,iy]
theorem acu (L s c:Nat)(h1:1≤L)(h2:L≤300)(h3:1≤s)(h4:s≤13)(h5:(L+s-1) / s=c)(h6:1≤c)(h7:c≤24) :
  ∃t:List UInt8,t.length≤80∧Wh.EE (Dq L s c)=some (t,())∧Wh.q47 (Dq L s c)=some (t,()):=by
 have ok1:=Pc.abr (Dq L s c)
 have ok2:=Pc.afJ (Dq L s c)
 rw[acv L s c h1 h2 h3 h4 h5 h6 h7] at ok1 ok2
 have Ur:=E8 L (by omega)
 have es:=E8 s (by omega)
 have U0:=D4 L (by omega)
 have is_:=D4 s (by omega)
 have lL:=BB (n:=L) (by omega)
 have ls:=BB (n:=s) (by omega)
 have one:∀(x y:List UInt8) (W ws:List Int),x.length≤9→y.length≤9→Wh.CM W=some (x,())→Wh.CM ws=some (y,())→Wh.CS W=some (x,())→Wh.CS ws=some (y,())→Wh.Bq ((L:Int),(s:Int),W,ws,())=some (true,())→Wh.BR ((L:Int),(s:Int),W,ws,())=some (true,()) →
   ∃t:List UInt8,t.length≤80∧Wh.EE ((L:Int),(s:Int),W,ws,())=some (t,())∧Wh.q47 ((L:Int),(s:Int),W,ws,())=some (t,()):=by
  intro x y W ws lx ly s1 s2 i1 i2 o1 o2
  generalize decDigits L=a at *
  generalize decDigits s=b at *
  have m1:decide (a.length+1≤dh)=true:=mr _ (by omega)
  have m2:decide ((a ++ [(47:UInt8)]).length+b.length≤dh)=true:=mr _ (by simp only[List.length_append,List.length_singleton];omega)
  have m3:decide ((a ++ [(47:UInt8)]++b).length+1≤dh)=true:=mr _ (by simp only[List.length_append,List.length_singleton];omega)
  have m4:decide ((a ++ [(47:UInt8)]++b ++ [(58:UInt8)]).length+x.length≤dh)=true:=mr _ (by simp only[List.length_append,List.length_singleton];omega)
  have m5:decide ((a ++ [(47:UInt8)]++b ++ [(58:UInt8)]++x).length+1≤dh)=true:=mr _ (by simp only[List.length_append,List.length_singleton];omega)
  have m6:decide ((a ++ [(47:UInt8)]++b ++ [(58:UInt8)]++x ++ [(58:UInt8)]).length+y.length≤dh)=true:=mr _ (by simp only[List.length_append,List.length_singleton];omega)
  refine⟨a ++ [47]++b ++ [58]++x ++ [58]++y,by simp only[List.length_append,List.length_singleton];omega,?_,?_⟩
  ·simp only[Wh.EE,o2,Wh.XC _ _ o2,Ur,Wh.Er _ _ Ur,es,Wh.Er _ _ es,s1,Wh.PZ _ _ s1,s2,Wh.PZ _ _ s2,m1,m2,m3,m4,m5,m6,n_,iy,Bool.and_self,Bool.not_true,cond_true,cond_false]
  ·simp only[Wh.q47,o1,Wh.Xp _ _ o1,U0,Wh.xL _ _ U0,is_,Wh.xL _ _ is_,i1,Wh.Rh _ _ i1,i2,Wh.Rh _ _ i2,m1,m2,m3,m4,m5,m6,n_,iy,Bool.and_self,Bool.not_true,cond_true,cond_false]
 have lk:=BB (n:=(c+3) / 4) (by omega)
 have lc:=BB (n:=c) (by omega)
 have l2:=BB (n:=2) (by omega)
 have l3:=BB (n:=3) (by omega)
 have l1:=BB (n:=1) (by omega)
 unfold Dq at *
 revert ok1 ok2
 cases decide ((c+3) / 4<c) with
 |true=>intro ok1 ok2;exact one (two ((c+3) / 4) c) (two 2 3) _ _ (by unfold two;simp only[List.length_append,List.length_singleton];omega) (by unfold two;simp only[List.length_append,List.length_singleton];omega) (Za _ _ (by omega) (by omega)) (Za 2 3 (by omega) (by omega)) (U7 _ _ (by omega) (by omega)) (U7 2 3 (by omega) (by omega)) ok1 ok2
 |false=>intro ok1 ok2;exact one (decDigits c) (decDigits 1) _ _ (by omega) (by omega) (Y_ _ (by omega)) (Y_ 1 (by omega)) (U6 _ (by omega)) (U6 1 (by omega)) ok1 ok2
end Pl
open Go Go.Ab Go.Lib
namespace Pl
def Dk (a b:Sv):Bool:=decide (a.1<b.1)
theorem Vp {a b:Sv}(h:Dk a b=true):Dk b a=false:=by
 unfold Dk at *
 have:=of_decide_eq_true h
 exact decide_eq_false (by omega)
theorem Ow {a b:Sv}(ha:0≤a.1∧a.1≤3)(hb:0≤b.1∧b.1≤3):∃v,Wh.q16 (a,b)=some (v,())∧decide (v<0)=Dk a b:=by
 refine⟨a.1-b.1,?_,?_⟩
 ·simp only[Wh.q16,wrap64 (n:=a.1-b.1) (by omega) (by omega)]
 ·unfold Dk
  by_cases h:a.1<b.1
  ·rw[decide_eq_true h,decide_eq_true (by omega)]
  ·rw[decide_eq_false h,decide_eq_false (by omega)]
def J1 (S:List Sv)(c:Int):Option Nat:=first S.length (fun i=> !decide ((S.getD i zS).1<c))
def y5 (S:List Sv)(c:Int):Nat:=match J1 S c with
 |some i=>i
 |none=>S.length
theorem J2 (S:List Sv)(c:Int):y5 S c≤S.length:=by
 unfold y5
 cases e:J1 S c with
 |none=>exact Nat.le_refl _
 |some i=>have:=(Ap.1 e).1;dsimp only;omega
theorem WS (S:List Sv)(c:Int)(j:Nat)(h:j<y5 S c):decide ((S.getD j zS).1<c)=true:=by
 unfold y5 at h
 cases e:J1 S c with
 |none=>
  rw[e] at h
  have:=EZ.1 e j h
  simpa using this
 |some i=>
  rw[e] at h
  have:=(Ap.1 e).2.2 j h
  simpa using this
theorem WO (S:List Sv)(c:Int)(h:y5 S c<S.length):c≤(S.getD (y5 S c) zS).1:=by
 unfold y5 at *
 cases e:J1 S c with
 |none=>rw[e] at h;dsimp only at h;omega
 |some i=>
  have:=(Ap.1 e).2.1
  dsimp only
  simp at this
  simp[List.getD_eq_getElem?_getD]
  omega
theorem acy (S:List Sv)(t:Sv)(hs:∀i j,i<j→j<S.length→(S.getD i zS).1<(S.getD j zS).1)(hk:∀i,i<S.length→(S.getD i zS).1≠t.1):∀j,y5 S t.1≤j→j<S.length→Dk t (S.getD j zS)=true:=fun j h1 h2=>by
 have g:=WO S t.1 (by omega)
 have n:=hk (y5 S t.1) (by omega)
 unfold Dk
 rcases Nat.lt_or_ge (y5 S t.1) j with h|h
 ·have:=hs _ j h h2;exact decide_eq_true (by omega)
 ·have e:j=y5 S t.1:=by omega
  rw[e];exact decide_eq_true (by omega)
def Ae (S:List Sv)(v:Sv):List Sv:=S.take (y5 S v.1)++v::S.drop (y5 S v.1)
theorem afR (A B:List Sv)(x t:Sv)(n:Nat)(hn:A.length=n):((A++x::t::B).set (n+1) x).set n t=A++t::x::B:=by
 subst hn
 rw[List.set_append_right _ _ (by omega),show A.length+1-A.length=1 by omega,List.set_cons_succ,List.set_cons_zero,List.set_append_right _ _ (Nat.le_refl _),Nat.sub_self,List.set_cons_zero]
theorem NO (A B:List Sv)(x:Sv)(n:Nat)(hn:A.length=n):(A++x::B).getD n zS=x:=by
 subst hn;simp[List.getD]
theorem UU (A B:List Sv)(x t:Sv)(n:Nat)(hn:A.length=n):(A++x::t::B).getD (n+1) zS=t:=by
 subst hn
 have:=NO (A ++ [x]) B t (A.length+1) (by simp)
 rw[List.append_assoc] at this
 exact this
theorem Ve (l:List Sv)(t:Sv)(ht:0≤t.1∧t.1≤3)(hlb:∀j,j<l.length→0≤(l.getD j zS).1∧(l.getD j zS).1≤3)(k:Nat)(b i:Int)(hgt:∀j,k≤j→j<l.length→Dk t (l.getD j zS)=true)(hst:k=0∨Dk t (l.getD (k-1) zS)=false)(hl:l.length≤99999999) :
  ∀d,k+d≤l.length→Comes Wh.Dt ((((k+d:Nat):Int),(),(),0,b,i),l.take (k+d)++t::l.drop (k+d)) (((),(),0,b,i),l.take k++t::l.drop k)
 |0,hd=>by
  refine .out ?_
  rcases Nat.eq_zero_or_pos k with rfl|hk
  ·have c1:decide (((0+0:Nat):Int)>0)=false:=rfl
   simp only[Wh.Dt,c1,Bool.not_false,Bool.true_or,iy,Bool.and_self,cond_true,cond_false,Nat.add_zero]
  ·obtain⟨m,rfl⟩:∃m,k=m+1:=⟨k-1,by omega⟩
   have hs:Dk t (l.getD m zS)=false:=by rcases hst with h|h;omega;exact h
   have hlen:(l.take m).length=m:=by rw[List.length_take];omega
   have e:l.take (m+1)++t::l.drop (m+1)=l.take m++l.getD m zS::t::l.drop (m+1):=by
    rw[List.take_succ_eq_append_getElem (by omega),List.append_assoc,getD_eq _ _ _ (by omega)];rfl
   have e1:(l.take m++l.getD m zS::t::l.drop (m+1)).getD (m+1) zS=t:=UU _ _ _ _ _ hlen
   have e2:(l.take m++l.getD m zS::t::l.drop (m+1)).getD m zS=l.getD m zS:=NO _ _ _ _ hlen
   obtain⟨v,hv1,y9⟩:=Ow ht (hlb m (by omega))
   rw[hs] at y9
   have w1:IntKind.wrap .i64 (((m+1:Nat):Int)-1)=(m:Int):=wi (by omega) (by omega)
   have c1:decide (((m+1:Nat):Int)>0)=true:=decide_eq_true (by omega)
   have ll:(l.take m++l.getD m zS::t::l.drop (m+1)).length=l.length+1:=by
    simp only[List.length_append,List.length_cons,List.length_drop,hlen];omega
   rw[Nat.add_zero,e]
   unfold zS at e1 e2 hv1 ll ⊢
   simp only[Wh.Dt,c1,w1,Int.toNat_natCast,e1,e2,hv1,Wh.Mk _ _ hv1,y9,ll,g0,gl (show m<l.length+1 by omega),gl (show m+1<l.length+1 by omega),nQ,Bool.or_true,iy,Bool.and_self,cond_true,cond_false]
 |d+1,hd=>by
  have ih:=Ve l t ht hlb k b i hgt hst hl d (by omega)
  refine .again ?_ ih
  have hs:=hgt (k+d) (by omega) (by omega)
  generalize hm:k+d=m at *
  have hm':k+(d+1)=m+1:=by omega
  rw[hm']
  have hlen:(l.take m).length=m:=by rw[List.length_take];omega
  have e:l.take (m+1)++t::l.drop (m+1)=l.take m++l.getD m zS::t::l.drop (m+1):=by
   rw[List.take_succ_eq_append_getElem (by omega),List.append_assoc,getD_eq _ _ _ (by omega)];rfl
  have e1:(l.take m++l.getD m zS::t::l.drop (m+1)).getD (m+1) zS=t:=UU _ _ _ _ _ hlen
  have e2:(l.take m++l.getD m zS::t::l.drop (m+1)).getD m zS=l.getD m zS:=NO _ _ _ _ hlen
  have e3:((l.take m++l.getD m zS::t::l.drop (m+1)).set (m+1) (l.getD m zS)).set m t=l.take m++t::l.drop m:=by
   rw[afR _ _ _ _ _ hlen,getD_eq _ _ _ (show m<l.length by omega),List.drop_eq_getElem_cons (show m<l.length by omega)]
  obtain⟨v,hv1,y9⟩:=Ow ht (hlb m (by omega))
  rw[hs] at y9
  have w1:IntKind.wrap .i64 (((m+1:Nat):Int)-1)=(m:Int):=wi (by omega) (by omega)
  have c1:decide (((m+1:Nat):Int)>0)=true:=decide_eq_true (by omega)
  have ll:(l.take m++l.getD m zS::t::l.drop (m+1)).length=l.length+1:=by
   simp only[List.length_append,List.length_cons,List.length_drop,hlen];omega
  rw[e]
  unfold zS at e1 e2 e3 hv1 ll ⊢
  simp only[Wh.Dt,c1,w1,Int.toNat_natCast,e1,e2,e3,hv1,Wh.Mk _ _ hv1,y9,ll,List.length_set,g0,gl (show m<l.length+1 by omega),gl (show m+1<l.length+1 by omega),nQ,Bool.or_true,iy,Bool.and_self,cond_true]
theorem afw (l:List Sv)(t:Sv)(ht:0≤t.1∧t.1≤3)(hlb:∀j,j<l.length→0≤(l.getD j zS).1∧(l.getD j zS).1≤3)(hs:∀i j,i<j→j<l.length→(l.getD i zS).1<(l.getD j zS).1)(hk:∀i,i<l.length→(l.getD i zS).1≠t.1)(hl:l.length≤8) :
  Wh.q6 (l ++ [t],())=some ((),Ae l t,()):=by
 have hlen:(l ++ [t]).length=l.length+1:=by simp
 have hout:Comes Wh.CL (((),1,(),0,((l.length+1:Nat):Int)),l ++ [t]) ((),Ae l t):=by
  rcases Nat.eq_zero_or_pos l.length with h0|hpos
  ·have:l = []:=List.length_eq_zero_iff.1 h0
   subst this
   exact .out rfl
  ·have hend:Comes Wh.CL (((),((l.length+1:Nat):Int),(),0,((l.length+1:Nat):Int)),Ae l t) ((),Ae l t):=by
    have c1:decide (((l.length+1:Nat):Int)<((l.length+1:Nat):Int))=false:=decide_eq_false (by omega)
    exact .out (by simp only[Wh.CL,c1,cond_false])
   have NS:Comes Wh.CL (((),(l.length:Int),(),0,((l.length+1:Nat):Int)),l ++ [t]) ((),Ae l t):=by
    have q:=Ve l t ht hlb (y5 l t.1) ((l.length+1:Nat):Int) (l.length:Int) (acy l t hs hk) (by
     rcases Nat.eq_zero_or_pos (y5 l t.1) with h1|h1
     ·exact .inl h1
     ·right
      have h2:=WS l t.1 (y5 l t.1-1) (by omega)
      exact Vp h2) (by omega) (l.length-y5 l t.1) (by have:=J2 l t.1;omega)
    have hp:=J2 l t.1
    rw[show y5 l t.1+(l.length-y5 l t.1)=l.length by omega,List.take_length,List.drop_length] at q
    have c1:decide ((l.length:Int)<((l.length+1:Nat):Int))=true:=decide_eq_true (by omega)
    refine .again ?_ hend
    simp only[Wh.CL,c1,cond_true,cb q,cv q,mw (show l.length≤4611686018427387904 by omega)]
    rfl
   have hmid:∀d i,1≤i→i+d=l.length→Comes Wh.CL (((),(i:Int),(),0,((l.length+1:Nat):Int)),l ++ [t]) ((),Ae l t):=by
    intro d
    induction d with
    |zero=>intro i h1 h2;have:i=l.length:=by omega
           subst this;exact NS
    |succ d ih=>
     intro i h1 h2
     refine .again ?_ (ih (i+1) (by omega) (by omega))
     obtain⟨m,rfl⟩:∃m,i=m+1:=⟨i-1,by omega⟩
     have hlt:=hs m (m+1) (by omega) (by omega)
     obtain⟨v,hv1,y9⟩:=Ow (hlb (m+1) (by omega)) (hlb m (by omega))
     rw[Vp (decide_eq_true hlt)] at y9
     have w1:IntKind.wrap .i64 (((m+1:Nat):Int)-1)=(m:Int):=wi (by omega) (by omega)
     have c0:decide (((m+1:Nat):Int)>0)=true:=decide_eq_true (by omega)
     have e1:(l ++ [t]).getD (m+1) zS=l.getD (m+1) zS:=by simp[List.getD,List.getElem?_append_left (show m+1<l.length by omega)]
     have e2:(l ++ [t]).getD m zS=l.getD m zS:=by simp[List.getD,List.getElem?_append_left (show m<l.length by omega)]
     have q:Comes Wh.Dt ((((m+1:Nat):Int),(),(),0,((l.length+1:Nat):Int),((m+1:Nat):Int)),l ++ [t]) (((),(),0,((l.length+1:Nat):Int),((m+1:Nat):Int)),l ++ [t]):=by
      refine .out ?_
      unfold zS at e1 e2 hv1
      simp only[Wh.Dt,c0,w1,Int.toNat_natCast,e1,e2,hv1,Wh.Mk _ _ hv1,y9,hlen,g0,gl (show m<l.length+1 by omega),gl (show m+1<l.length+1 by omega),nQ,Bool.or_true,iy,Bool.and_self,cond_true,cond_false]
     have c1:decide (((m+1:Nat):Int)<((l.length+1:Nat):Int))=true:=decide_eq_true (by omega)
     simp only[Wh.CL,c1,cond_true,cb q,cv q,mw (show m+1≤4611686018427387904 by omega)]
   exact hmid (l.length-1) 1 (Nat.le_refl _) (by omega)
 have hins:Wh.q0 (l ++ [t],0,((l.length+1:Nat):Int),())=some ((),Ae l t,()):=by
  have w:IntKind.wrap .i64 ((0:Int)+1)=1:=by decide
  simp only[Wh.q0,w,cb hout,cv hout,cond_true]
 have w2:IntKind.wrap .i64 (((l.length+1:Nat):Int)-0)=((l.length+1:Nat):Int):=wi (by omega) (by omega)
 have c12:decide (((l.length+1:Nat):Int)≤12)=true:=decide_eq_true (by omega)
 have hp:∀lim,Wh.q2 (l ++ [t],0,((l.length+1:Nat):Int),lim,())=some ((),Ae l t,()):=by
  intro lim
  have q:Comes Wh.IX (((),((l.length+1:Nat):Int),0,(),true,true,lim),l ++ [t]) ((),Ae l t):=by
   refine .out ?_
   simp only[Wh.IX,w2,c12,hins,Wh.q0_v _ _ hins,nQ,iy,cond_true]
  simp only[Wh.q2,cb q,cv q,cond_true]
 have w3:IntKind.wrap .u64 ((l.length+1:Nat):Int)=((l.length+1:Nat):Int):=by simp[IntKind.wrap,IntKind.signed,IntKind.bits];omega
 have hb:Wh.bits_Len ((l.length+1:Nat):Int)=some ((bitLen (l.length+1):Int),()):=by
  have d1:decide (((l.length+1:Nat):Int)≤18446744073709551615)=true:=decide_eq_true (by omega)
  simp only[Wh.bits_Len,g0,d1,Bool.and_self,cond_true,Int.toNat_natCast]
 simp only[Wh.q6,hlen,w3,hb,hp,Wh.q2_v _ _ (hp _),nQ,iy,Bool.and_self,cond_true]
theorem MV {S:List Sv}{now:Int}(I:Cu S now):S.length≤4:=by
 have st:∀d i,i+d<S.length→(S.getD i zS).1+(d:Int)≤(S.getD (i+d) zS).1:=by
  intro d
  induction d with
  |zero=>intro i hi;simp
  |succ d ih=>
   intro i hi
   have a:=ih i (by omega)
   have b:=I.AR (i+d) (i+(d+1)) (by omega) hi
   omega
 by_cases q:S.length≤4
 ·exact q
 ·exfalso
  have h:=st 4 0 (by omega)
  have h0:=(I.cl 0 (by omega)).1
  have h4:=(I.cl (0+4) (by omega)).2
  omega
def Bb (S:List Sv)(c:Int):Option Nat:=first S.length (fun i=>(S.getD i zS).1==c)
theorem Ze (s:fk.D)(hS:s.2.2.2.2.2.2.1.length≤100000)(c:Int):Wh.G8 (s,c)=some (yC (Bb s.2.2.2.2.2.2.1 c),()):=by
 have q:=DZ (r:=Wh.Ep) (fun i=>(((i:Int),c,()),s)) (n:=s.2.2.2.2.2.2.1.length) (p:=fun i=>(s.2.2.2.2.2.2.1.getD i zS).1==c) (yt:=fun i=>.inl ((i:Int),())) (yn:=.inr ((),())) (fun i hi hp=>by
   unfold zS at hp
   simp only[Wh.Ep,gl hi,g0,Int.toNat_natCast,hp,iy,Bool.and_self,cond_true,cond_false,mw (show i≤4611686018427387904 by omega)]) (fun i hi hp=>by
   unfold zS at hp
   simp only[Wh.Ep,gl hi,g0,Int.toNat_natCast,hp,iy,Bool.and_self,cond_true]) (by
   have d1:decide ((s.2.2.2.2.2.2.1.length:Int)<(s.2.2.2.2.2.2.1.length:Int))=false:=decide_eq_false (by omega)
   simp only[Wh.Ep,d1,cond_false])
 have q':Comes Wh.Ep ((0,c,()),s) _:=q
 simp only[Wh.G8,cb q',cv q',cond_true,Bb]
 cases first s.2.2.2.2.2.2.1.length (fun i=>(s.2.2.2.2.2.2.1.getD i zS).1==c)<;>rfl
theorem U_ (s:fk.D)(hS:s.2.2.2.2.2.2.1.length≤100000)(c:Int):Wh.q19 (s,c)=some (yC (Bb s.2.2.2.2.2.2.1 c),()):=by
 have f (x:Sv):Wh.q12 (x,c)=some ((x.1==c),()):=rfl
 generalize hL:s.2.2.2.2.2.2.1=L at *
 have q:=DZ (r:=Wh.Ez) (fun i=>(((i:Int),L,(c,()),(L.length:Int)),())) (n:=L.length) (p:=fun i=>(L.getD i zS).1==c) (yt:=fun i=>.inl ((i:Int),())) (yn:=.inr ((),())) (fun i hi hp=>by
   unfold zS at hp
   simp only[Wh.Ez,gl hi,g0,Int.toNat_natCast,f,Wh.Pw _ _ (f _),hp,n_,iy,Bool.and_self,cond_true,cond_false,mw (show i≤4611686018427387904 by omega)]) (fun i hi hp=>by
   unfold zS at hp
   simp only[Wh.Ez,gl hi,g0,Int.toNat_natCast,f,Wh.Pw _ _ (f _),hp,n_,iy,Bool.and_self,cond_true]) (by
   have d1:decide ((L.length:Int)<(L.length:Int))=false:=decide_eq_false (by omega)
   simp only[Wh.Ez,d1,cond_false])
 have q':Comes Wh.Ez ((0,L,(c,()),(L.length:Int)),()) _:=q
 have h:Wh.q3 (L,c,())=some (yC (Bb L c),()):=by
  simp only[Wh.q3,cb q',cv q',cond_true,Bb]
  cases first L.length (fun i=>(L.getD i zS).1==c)<;>rfl
 simp only[Wh.q19,hL,h,Wh.q3_v _ _ h,n_,iy,cond_true]
theorem agj {S:List Sv}{c:Int}(h:Bb S c=none):yh S c S.length=S:=by
 unfold yh
 rw[List.take_length]
 refine List.filter_eq_self.2 fun v hv=>?_
 obtain⟨i,hi,rfl⟩:=List.mem_iff_getElem.1 hv
 have:=EZ.1 h i hi
 rw[getD_eq _ _ _ hi] at this
 simpa using this
theorem Je {S:List Sv}{now c:Int}(I:Cu S now){k:Nat}(h:Bb S c=some k):k<S.length∧(S.getD k zS).1=c∧yh S c S.length=S.eraseIdx k:=by
 obtain⟨h1,h2,_⟩:=Ap.1 h
 have h2:=eq_of_beq h2
 refine⟨h1,h2,?_⟩
 rw[←h2]
 exact wo_all I k h1
theorem ins_in {S:List Sv}{now:Int}(I:Cu S now){k:Nat}(hk:k<S.length)(v:Sv)(hv:v.1=(S.getD k zS).1):Ae (S.eraseIdx k) v=S.set k v:=by
 have el:(S.eraseIdx k).length=S.length-1:=List.length_eraseIdx_of_lt hk
 have g1:∀j,j<k→(S.eraseIdx k).getD j zS=S.getD j zS:=fun j hj=>by
  rw[List.getD_eq_getElem?_getD,List.getElem?_eraseIdx_of_lt hj,←List.getD_eq_getElem?_getD]
 have g2:∀j,k≤j→(S.eraseIdx k).getD j zS=S.getD (j+1) zS:=fun j hj=>by
  rw[List.getD_eq_getElem?_getD,List.getElem?_eraseIdx_of_ge hj,←List.getD_eq_getElem?_getD]
 have p:y5 (S.eraseIdx k) v.1=k:=by
  have le:=J2 (S.eraseIdx k) v.1
  rcases Nat.lt_trichotomy (y5 (S.eraseIdx k) v.1) k with q|q|q
  ·have t:=WO (S.eraseIdx k) v.1 (by omega)
   have g:=g1 _ q
   rw[g] at t
   have:=I.AR _ k q hk
   omega
  ·exact q
  ·have:=of_decide_eq_true (WS (S.eraseIdx k) v.1 k q)
   rw[g2 k (Nat.le_refl _),hv] at this
   have:=I.AR k (k+1) (by omega) (by omega)
   omega
 unfold Ae
 rw[p,List.eraseIdx_eq_take_drop_succ,List.set_eq_take_append_cons_drop,if_pos hk]
 rw[List.take_append_of_le_length (by rw[List.length_take];omega),List.take_take,Nat.min_self]
 congr 2
 rw[List.drop_append_of_le_length (by rw[List.length_take];omega),List.drop_eq_nil_of_le (by rw[List.length_take];omega),List.nil_append]
theorem afH (s:fk.D)(hS:s.2.2.2.2.2.2.1.length≤1000)(v:Sv):Wh.Iv (s,v)=some ((s.1,s.2.1,s.2.2.1,s.2.2.2.1,s.2.2.2.2.1,s.2.2.2.2.2.1,Ae (yh s.2.2.2.2.2.2.1 v.1 s.2.2.2.2.2.2.1.length) v,s.2.2.2.2.2.2.2),()):=by
 have w:=MU s (by omega) v.1
 have wl:=Zn s.2.2.2.2.2.2.1 v.1 s.2.2.2.2.2.2.1.length
 generalize yh s.2.2.2.2.2.2.1 v.1 s.2.2.2.2.2.2.1.length=L at *
 have q:=DZ (r:=Wh.Ef) (fun i=>(((i:Int),(),(),()),(false,(0:Int),[],((0:Int),(),()),((),(0:Int),()),(),(),()),(s.1,s.2.1,s.2.2.1,s.2.2.2.1,s.2.2.2.2.1,s.2.2.2.2.2.1,(),s.2.2.2.2.2.2.2),v,[],[],[],[],L)) (n:=L.length) (p:=fun i=> !decide ((L.getD i zS).1<v.1))
  (yt:=fun i=>(((),(),(i:Int),()),(false,(0:Int),[],((0:Int),(),()),((),(0:Int),()),(),(),()),(s.1,s.2.1,s.2.2.1,s.2.2.2.1,s.2.2.2.2.1,s.2.2.2.2.2.1,(),s.2.2.2.2.2.2.2),v,[],[],[],[],L)) (yn:=(((),(),(L.length:Int),()),(false,(0:Int),[],((0:Int),(),()),((),(0:Int),()),(),(),()),(s.1,s.2.1,s.2.2.1,s.2.2.2.1,s.2.2.2.2.1,s.2.2.2.2.2.1,(),s.2.2.2.2.2.2.2),v,[],[],[],[],L)) (fun i hi hp=>by
   have hp':decide ((L.getD i zS).1<v.1)=true:=by simpa using hp
   unfold zS at hp'
   simp only[Wh.Ef,gl hi,g0,Int.toNat_natCast,hp',Bool.or_true,iy,Bool.and_self,cond_true,mw (show i≤4611686018427387904 by omega)]) (fun i hi hp=>by
   have hp':decide ((L.getD i zS).1<v.1)=false:=by simpa using hp
   unfold zS at hp'
   simp only[Wh.Ef,gl hi,g0,Int.toNat_natCast,hp',Bool.or_true,iy,Bool.and_self,cond_true,cond_false]) (by
   have d1:decide ((L.length:Int)<(L.length:Int))=false:=decide_eq_false (by omega)
   simp only[Wh.Ef,d1,g0,Bool.or_true,Bool.not_false,Bool.true_or,iy,Bool.and_self,cond_true,cond_false])
 have pl:=J2 L v.1
 have q':Comes Wh.Ef ((0,(),(),()),(false,(0:Int),[],((0:Int),(),()),((),(0:Int),()),(),(),()),(s.1,s.2.1,s.2.2.1,s.2.2.2.1,s.2.2.2.2.1,s.2.2.2.2.2.1,(),s.2.2.2.2.2.2.2),v,[],[],[],[],L) (((),(),(y5 L v.1:Int),()),(false,(0:Int),[],((0:Int),(),()),((),(0:Int),()),(),(),()),(s.1,s.2.1,s.2.2.1,s.2.2.2.1,s.2.2.2.2.1,s.2.2.2.2.2.1,(),s.2.2.2.2.2.2.2),v,[],[],[],[],L):=by
  unfold y5 J1
  revert q
  cases first L.length (fun i=> !decide ((L.getD i zS).1<v.1))<;>exact fun q=>q
 unfold Ae
 generalize y5 L v.1=p at *
 have t0:Int.toNat ((p:Int)-0)=p:=by omega
 have t1:List.take (Int.toNat ((L.length:Int)-(p:Int))) (List.drop p L)=List.drop p L:=List.take_of_length_le (by rw[List.length_drop];omega)
 have t2:List.drop (Int.toNat (0:Int)) L=L:=rfl
 have b1:decide ((p:Int)≤(L.length:Int))=true:=decide_eq_true (by omega)
 have b2:decide ((L.length:Int)≤(L.length:Int))=true:=decide_eq_true (by omega)
 have m1:decide ((List.take p L ++ [v]).length+(List.drop p L).length≤dh)=true:=mr _ (by simp only[List.length_append,List.length_singleton,List.length_take,List.length_drop];omega)
 have m2:decide ((List.take p L).length+1≤dh)=true:=mr _ (by rw[List.length_take];omega)
 have m3:decide (0+(List.take p L).length≤dh)=true:=mr _ (by rw[List.length_take];omega)
 simp only[Wh.Iv,w,Wh.Kg _ _ w,n_,cb q',cv q',cond_true,t0,t1,t2,Int.toNat_natCast,List.nil_append,b1,b2,m1,m2,m3,g0,iy,Bool.and_self,List.append_assoc,List.singleton_append]
end Pl
open Go Go.Ab Go.Lib
namespace Pl
theorem ZI {c:Ct}(I:yJ c){h:Int}{n:List UInt8}(ha:zD c.2.1 h n=none):Wh.Fo (c,h,n)=some ((z0,false),()):=by
 have c1:=MT c h n (by have:=I.len;omega)
 have c2:=Lb c I
 rw[ha] at c1
 have B7:decide ((-1:Int)<0)=true:=by decide
 dsimp only[yC] at c1
 simp only[Wh.Fo,c1,Wh.Hg _ _ c1,c2,Wh.Fz _ _ c2,n_,iy,cond_true,Bool.not_true,cond_false,B7,z0]
theorem ZJ {c:Ct}(I:yJ c){h:Int}{n:List UInt8}{i:Nat}(ha:zD c.2.1 h n=some i):i<c.2.1.length∧Wh.Fo (c,h,n)=some ((c.2.1.getD i z0,true),()):=by
 have c1:=MT c h n (by have:=I.len;omega)
 have c2:=Lb c I
 rw[ha] at c1
 obtain⟨hi,_,_⟩:=Zy ha
 refine⟨hi,?_⟩
 have p3:decide ((i:Int)<0)=false:=decide_eq_false (by omega)
 dsimp only[yC] at c1
 simp only[Wh.Fo,c1,Wh.Hg _ _ c1,c2,Wh.Fz _ _ c2,n_,iy,cond_true,Bool.not_true,cond_false,gl hi,g0,p3,Int.toNat_natCast,Bool.and_self,z0]
theorem accept {L:Nat}(h1:1≤L)(h2:L≤300):∃(P:s_.D) (t:List UInt8),Wh.BT (L:Int)=some (P,())∧Wh.Co (L:Int)=some (P,())∧Wh.EE P=some (t,())∧Wh.q47 P=some (t,())∧t.length≤80:=by
 obtain⟨s,c,q1,q2,q3,q4,q5,q6,q7⟩:=acw L h1 h2
 obtain⟨t,t1,t2,t3⟩:=acu L s c h1 h2 q1 q2 q3 q4 q5
 exact⟨_,t,q6,q7,t2,t3,t1⟩
section
variable {up:Bool} {now cl:Int} {log:List UInt8} {its:List It} {p:Po} {bk:List Bu} {S:List Sv} {w:fT.D}
def BE (w:fT.D)(e now:Int):Sv:=(w.2.1,w.2.2.1,e,0,0,now,())
def BF (w:fT.D):fT.D:=(6,w.2.1,w.2.2.1,w.2.2.2.1,0,[],[],())
def Gk (w:fT.D)(e:Int)(t:List UInt8):fT.D:=(2,w.2.1,w.2.2.1,e,0,[],t,())
theorem acn (I:Cu S now)(hw:0≤w.2.1∧w.2.1≤3)(it:It)(w':fT.D)(_hwe:w'=w) :
  ∃S':List Sv,S'.length≤10 ∧
   (∀o,o=yC (Bb S w.2.1)→Wh.q11 (((),(),(),(),o),(up,now,log,(cl,(),()),((),p.2),(),(),()),it,w,(w.2.1,w.2.2.1,it.2.2.1,(0:Int),(0:Int),now,()),its,p.1,bk,S)
    = some (((),()),(up,now,log,(cl,(),()),((),p.2),(),(),()),it,w,its,p.1,bk,S')) ∧
   (match Bb S w.2.1 with
    |none=>Ae (yh S w.2.1 S.length) (BE w it.2.2.1 now)=S'
    |some k=>S'=(bif(bif decide ((S.getD k zS).2.1<w.2.2.1) then true else(S.getD k zS).2.2.1 != it.2.2.1) then Ae (yh S w.2.1 S.length) (BE w it.2.2.1 now) else S)):=by
 have l4:=MV I
 cases e:Bb S w.2.1 with
 |none=>
  have ne:∀i,i<S.length→(S.getD i zS).1≠w.2.1:=fun i hi=>by
   have:=EZ.1 e i hi
   simpa using this
  have so:=afw S (BE w it.2.2.1 now) hw I.cl I.AR ne (by omega)
  have il:(Ae S (BE w it.2.2.1 now)).length≤10:=by
   have:=J2 S (BE w it.2.2.1 now).1
   unfold Ae
   simp only[List.length_append,List.length_cons,List.length_take,List.length_drop];omega
  refine⟨Ae S (BE w it.2.2.1 now),il,fun o ho=>?_,?_⟩
  ·subst ho
   have B7:decide ((-1:Int)<0)=true:=by decide
   have m:decide (S.length+1≤dh)=true:=mr _ (by omega)
   unfold BE at so ⊢
   dsimp only[yC]
   simp only[Wh.q11,B7,m,so,Wh.q6_v _ _ so,n_,iy,cond_true]
  ·dsimp only
   rw[agj e]
 |some k=>
  obtain⟨hk,hc,Dc⟩:=Je I e
  have dk:decide ((k:Int)<0)=false:=decide_eq_false (by omega)
  have ins:=ins_in I hk (BE w it.2.2.1 now) hc.symm
  refine⟨_,?_,fun o ho=>?_,rfl⟩
  ·cases (bif decide ((S.getD k zS).2.1<w.2.2.1) then true else(S.getD k zS).2.2.1 != it.2.2.1)
   ·dsimp only[cond_false];omega
   ·dsimp only[cond_true];rw[Dc,ins,List.length_set];omega
  ·subst ho
   rw[Dc,ins]
   unfold BE
   unfold zS
   dsimp only[yC]
   simp only[Wh.q11,dk,Int.toNat_natCast,gl hk,g0,Bool.or_true,iy,Bool.and_self,cond_true,cond_false]
   cases (bif decide ((List.getD S k ((0:Int),(0:Int),(0:Int),(0:Int),(0:Int),(0:Int),())).2.1<w.2.2.1) then true else(List.getD S k ((0:Int),(0:Int),(0:Int),(0:Int),(0:Int),(0:Int),())).2.2.1 != it.2.2.1)<;>rfl
theorem acm (I:Cu S now)(C:yJ (cl,its,()))(hw:0≤w.2.1∧w.2.1≤3) :
  ∃(S':List Sv) (W:List fT.D),S'.length≤10∧W.length≤1 ∧
   Wh.As ((up,now,log,(cl,its,()),p,bk,S,()),w)=some (((up,now,log,(cl,its,()),p,bk,S',()),W),()) ∧
   Wh.AK ((up,now,log,(cl,its,()),p,bk,S,()),w)=some (W,(up,now,log,(cl,its,()),p,bk,S',()),()):=by
 have l4:=MV I
 have s1:=Ze (up,now,log,(cl,its,()),p,bk,S,()) (by show S.length≤_;omega) w.2.1
 have i1:=U_ (up,now,log,(cl,its,()),p,bk,S,()) (by show S.length≤_;omega) w.2.1
 have hh (x:Int):Wh.q88 x=some (Int.tmod x 2,()):=rfl
 have hi (x:Int):Wh.q96 x=some (Int.tmod x 2,()):=rfl
 have zv:=NT (cl,its,()) (Int.tmod w.2.1 2) w.2.2.2.2.2.1 (by have:=C.len;omega)
 have go:Wh.Is (w.2.1,w.2.2.1,w.2.2.2.1)=some ([BF w],()):=rfl
 dsimp only at s1 i1 zv
 cases ea:zD its (Int.tmod w.2.1 2) w.2.2.2.2.2.1 with
 |none=>
  have cg:=ZI C ea
  rw[ea] at zv
  dsimp only[yC] at zv
  have B7:decide ((-1:Int)<0)=true:=by decide
  have dp:decide ((-1:Int)≥0)=false:=by decide
  cases e:Bb S w.2.1 with
  |none=>
   rw[e] at s1 i1
   dsimp only[yC] at s1 i1
   refine⟨S,[BF w],by omega,by simp,?_,?_⟩
   ·simp only[Wh.As,s1,Wh.zX _ _ s1,dp,n_,Bool.not_false,Bool.true_or,iy,Bool.and_self,cond_true,cond_false,hh,Wh.Cn _ _ (hh _),cg,Wh.Dw _ _ cg,go,Wh.GU _ _ go]
   ·simp only[Wh.AK,i1,Wh.Aj _ _ i1,dp,B7,n_,Bool.not_true,Bool.and_false,Bool.not_false,Bool.true_or,iy,Bool.and_self,cond_true,cond_false,hi,Wh.CV _ _ (hi _),zv,Wh.BV _ _ zv,BF]
  |some k=>
   obtain⟨hk,hc,Dc⟩:=Je I e
   rw[e] at s1 i1
   dsimp only[yC] at s1 i1
   have dk:decide ((k:Int)≥0)=true:=decide_eq_true (by omega)
   have w1:=MU (up,now,log,(cl,its,()),p,bk,S,()) (by show S.length≤_;omega) w.2.1
   have lv:=NU (up,now,log,(cl,its,()),p,bk,S,()) k hk (by show S.length≤_;omega)
   dsimp only at w1 lv
   rw[Dc] at w1
   cases q1:decide ((S.getD k zS).2.1>w.2.2.1) with
   |true=>
    unfold zS at q1
    refine⟨S,[],by omega,by simp,?_,?_⟩
    ·simp only[Wh.As,s1,Wh.zX _ _ s1,dk,n_,Int.toNat_natCast,gl hk,q1,Bool.not_true,Bool.or_true,iy,Bool.and_self,cond_true]
    ·simp only[Wh.AK,i1,Wh.Aj _ _ i1,dk,n_,Int.toNat_natCast,gl hk,q1,Bool.not_true,Bool.or_true,iy,Bool.and_self,cond_true]
   |false=>
    cases q2:decide ((S.getD k zS).2.1<w.2.2.1) with
    |true=>
     unfold zS at q1 q2
     refine⟨S.eraseIdx k,[BF w],by rw[List.length_eraseIdx_of_lt hk];omega,by simp,?_,?_⟩
     ·simp only[Wh.As,s1,Wh.zX _ _ s1,dk,n_,Int.toNat_natCast,gl hk,q1,q2,Bool.not_true,Bool.not_false,Bool.or_true,iy,Bool.and_self,cond_true,cond_false,hh,Wh.Cn _ _ (hh _),cg,Wh.Dw _ _ cg,go,Wh.GU _ _ go,w1,Wh.Kg _ _ w1]
     ·simp only[Wh.AK,i1,Wh.Aj _ _ i1,dk,B7,n_,Int.toNat_natCast,gl hk,q1,q2,Bool.not_true,Bool.and_false,Bool.not_false,Bool.true_or,Bool.or_true,iy,Bool.and_self,cond_true,cond_false,hi,Wh.CV _ _ (hi _),zv,Wh.BV _ _ zv,BF,lv,Wh.Mm _ _ lv]
    |false=>
     unfold zS at q1 q2
     refine⟨S,[BF w],by omega,by simp,?_,?_⟩
     ·simp only[Wh.As,s1,Wh.zX _ _ s1,dk,n_,Int.toNat_natCast,gl hk,q1,q2,Bool.not_true,Bool.not_false,Bool.or_true,iy,Bool.and_self,cond_true,cond_false,hh,Wh.Cn _ _ (hh _),cg,Wh.Dw _ _ cg,go,Wh.GU _ _ go]
     ·simp only[Wh.AK,i1,Wh.Aj _ _ i1,dk,B7,n_,Int.toNat_natCast,gl hk,q1,q2,Bool.not_true,Bool.and_false,Bool.not_false,Bool.true_or,Bool.or_true,iy,Bool.and_self,cond_true,cond_false,hi,Wh.CV _ _ (hi _),zv,Wh.BV _ _ zv,BF]
 |some i=>
  obtain⟨il,cg⟩:=ZJ C ea
  have il:i<its.length:=il
  rw[ea] at zv
  dsimp only[yC] at zv cg
  have Js:decide ((i:Int)<0)=false:=decide_eq_false (by omega)
  obtain⟨_,b1,b2⟩:=abA C il
  have b1:1≤(its.getD i z0).2.2.2.1.length:=b1
  have b2:(its.getD i z0).2.2.2.1.length≤300:=b2
  generalize hit:its.getD i z0=it at *
  obtain⟨P,t,p1,p2,p3,p4,tl⟩:=accept b1 b2
  obtain⟨S',sl,bx,bm⟩:=acn (up:=up) (log:=log) (cl:=cl) (its:=its) (p:=p) (bk:=bk) I hw it w rfl
  have wt:=afH (up,now,log,(cl,its,()),p,bk,S,()) (by show S.length≤_;omega) (BE w it.2.2.1 now)
  have wf:(BE w it.2.2.1 now).1=w.2.1:=rfl
  dsimp only at wt
  rw[wf] at wt
  unfold z0 at hit
  have bn:((w.2.2.2.1 != it.2.2.1))=(it.2.2.1 != w.2.2.2.1):=by rw[bne_comm]
  cases CW:(bif decide (w.2.2.2.1>0) then it.2.2.1 != w.2.2.2.1 else false) with
  |true=>
   cases e:Bb S w.2.1 with
   |none=>
    rw[e] at s1 i1
    dsimp only[yC] at s1 i1
    have dp:decide ((-1:Int)≥0)=false:=by decide
    refine⟨S,[BF w],by omega,by simp,?_,?_⟩
    ·simp only[Wh.As,s1,Wh.zX _ _ s1,dp,n_,Bool.not_true,Bool.not_false,Bool.true_or,iy,Bool.and_self,cond_true,cond_false,hh,Wh.Cn _ _ (hh _),cg,Wh.Dw _ _ cg,CW,go,Wh.GU _ _ go]
    ·simp only[Wh.AK,i1,Wh.Aj _ _ i1,dp,Js,n_,Int.toNat_natCast,gl il,g0,hit,bn,CW,Bool.or_true,Bool.not_false,Bool.true_or,iy,Bool.and_self,cond_true,cond_false,hi,Wh.CV _ _ (hi _),zv,Wh.BV _ _ zv,BF]
   |some k=>
    obtain⟨hk,hc,Dc⟩:=Je I e
    rw[e] at s1 i1
    dsimp only[yC] at s1 i1
    have dk:decide ((k:Int)≥0)=true:=decide_eq_true (by omega)
    have w1:=MU (up,now,log,(cl,its,()),p,bk,S,()) (by show S.length≤_;omega) w.2.1
    have lv:=NU (up,now,log,(cl,its,()),p,bk,S,()) k hk (by show S.length≤_;omega)
    dsimp only at w1 lv
    rw[Dc] at w1
    cases q1:decide ((S.getD k zS).2.1>w.2.2.1) with
    |true=>
     unfold zS at q1
     refine⟨S,[],by omega,by simp,?_,?_⟩
     ·simp only[Wh.As,s1,Wh.zX _ _ s1,dk,n_,Int.toNat_natCast,gl hk,q1,Bool.not_true,Bool.or_true,iy,Bool.and_self,cond_true]
     ·simp only[Wh.AK,i1,Wh.Aj _ _ i1,dk,n_,Int.toNat_natCast,gl hk,q1,Bool.not_true,Bool.or_true,iy,Bool.and_self,cond_true]
    |false=>
     cases q2:decide ((S.getD k zS).2.1<w.2.2.1) with
     |true=>
      unfold zS at q1 q2
      refine⟨S.eraseIdx k,[BF w],by rw[List.length_eraseIdx_of_lt hk];omega,by simp,?_,?_⟩
      ·simp only[Wh.As,s1,Wh.zX _ _ s1,dk,n_,Int.toNat_natCast,gl hk,q1,q2,CW,Bool.not_true,Bool.or_true,iy,Bool.and_self,cond_true,cond_false,hh,Wh.Cn _ _ (hh _),cg,Wh.Dw _ _ cg,go,Wh.GU _ _ go,w1,Wh.Kg _ _ w1]
      ·simp only[Wh.AK,i1,Wh.Aj _ _ i1,dk,Js,n_,Int.toNat_natCast,gl hk,gl il,g0,hit,bn,CW,q1,q2,Bool.or_true,iy,Bool.and_self,cond_true,cond_false,hi,Wh.CV _ _ (hi _),zv,Wh.BV _ _ zv,BF,lv,Wh.Mm _ _ lv]
     |false=>
      unfold zS at q1 q2
      refine⟨S,[BF w],by omega,by simp,?_,?_⟩
      ·simp only[Wh.As,s1,Wh.zX _ _ s1,dk,n_,Int.toNat_natCast,gl hk,q1,q2,CW,Bool.not_true,Bool.or_true,iy,Bool.and_self,cond_true,cond_false,hh,Wh.Cn _ _ (hh _),cg,Wh.Dw _ _ cg,go,Wh.GU _ _ go]
      ·simp only[Wh.AK,i1,Wh.Aj _ _ i1,dk,Js,n_,Int.toNat_natCast,gl hk,gl il,g0,hit,bn,CW,q1,q2,Bool.or_true,iy,Bool.and_self,cond_true,cond_false,hi,Wh.CV _ _ (hi _),zv,Wh.BV _ _ zv,BF]
  |false=>
   have bx:=bx _ rfl
   cases e:Bb S w.2.1 with
   |none=>
    rw[e] at s1 i1 bm bx
    dsimp only[yC] at s1 i1 bm bx
    rw[bm] at wt
    have dp:decide ((-1:Int)≥0)=false:=by decide
    have B7:decide ((-1:Int)<0)=true:=by decide
    refine⟨S',[Gk w it.2.2.1 t],by omega,by simp,?_,?_⟩
    ·unfold BE at wt
     simp only[Wh.As,s1,Wh.zX _ _ s1,dp,B7,n_,Bool.not_true,Bool.not_false,Bool.true_or,iy,Bool.and_self,cond_true,cond_false,hh,Wh.Cn _ _ (hh _),cg,Wh.Dw _ _ cg,CW,wt,Wh.O9 _ _ wt,p1,Wh.He _ _ p1,p3,Wh.Mw _ _ p3,Gk]
    ·have bx':=Wh.Pf _ _ bx
     simp only[Wh.AK,i1,Wh.Aj _ _ i1,dp,Js,n_,Int.toNat_natCast,gl il,g0,hit,bn,CW,Bool.or_true,Bool.not_false,Bool.true_or,iy,Bool.and_self,cond_true,cond_false,hi,Wh.CV _ _ (hi _),zv,Wh.BV _ _ zv,bx,bx',p2,Wh.ME _ _ p2,p4,Wh.Q1 _ _ p4,Gk]
   |some k=>
    obtain⟨hk,hc,Dc⟩:=Je I e
    rw[e] at s1 i1 bm bx
    dsimp only[yC] at s1 i1 bm bx
    have dk:decide ((k:Int)≥0)=true:=decide_eq_true (by omega)
    have dl:decide ((k:Int)<0)=false:=decide_eq_false (by omega)
    cases q1:decide ((S.getD k zS).2.1>w.2.2.1) with
    |true=>
     unfold zS at q1
     refine⟨S,[],by omega,by simp,?_,?_⟩
     ·simp only[Wh.As,s1,Wh.zX _ _ s1,dk,n_,Int.toNat_natCast,gl hk,q1,Bool.not_true,Bool.or_true,iy,Bool.and_self,cond_true]
     ·simp only[Wh.AK,i1,Wh.Aj _ _ i1,dk,n_,Int.toNat_natCast,gl hk,q1,Bool.not_true,Bool.or_true,iy,Bool.and_self,cond_true]
    |false=>
     refine⟨S',[Gk w it.2.2.1 t],by omega,by simp,?_,?_⟩
     ·cases q3:(bif decide ((S.getD k zS).2.1<w.2.2.1) then true else(S.getD k zS).2.2.1 != it.2.2.1) with
      |true=>
       rw[q3] at bm
       dsimp only[cond_true] at bm
       rw[←bm] at wt
       unfold zS at q1 q3
       unfold BE at wt
       simp only[Wh.As,s1,Wh.zX _ _ s1,dk,dl,n_,Int.toNat_natCast,gl hk,q1,q3,Bool.not_true,Bool.not_false,Bool.or_true,iy,Bool.and_self,cond_true,cond_false,hh,Wh.Cn _ _ (hh _),cg,Wh.Dw _ _ cg,CW,wt,Wh.O9 _ _ wt,p1,Wh.He _ _ p1,p3,Wh.Mw _ _ p3,Gk]
      |false=>
       rw[q3] at bm
       dsimp only[cond_false] at bm
       rw[bm]
       unfold zS at q1 q3
       simp only[Wh.As,s1,Wh.zX _ _ s1,dk,dl,n_,Int.toNat_natCast,gl hk,q1,q3,Bool.not_true,Bool.not_false,Bool.or_true,iy,Bool.and_self,cond_true,cond_false,hh,Wh.Cn _ _ (hh _),cg,Wh.Dw _ _ cg,CW,p1,Wh.He _ _ p1,p3,Wh.Mw _ _ p3,Gk]
     ·have bx':=Wh.Pf _ _ bx
      unfold zS at q1
      simp only[Wh.AK,i1,Wh.Aj _ _ i1,dk,Js,n_,Int.toNat_natCast,gl hk,gl il,g0,hit,bn,CW,q1,Bool.or_true,iy,Bool.and_self,cond_true,cond_false,hi,Wh.CV _ _ (hi _),zv,Wh.BV _ _ zv,bx,bx',p2,Wh.ME _ _ p2,p4,Wh.Q1 _ _ p4,Gk]
end
end Pl
open Go Go.Ab Go.Lib
namespace Pl
def HU (v:Sv)(n:Int):Sv:=(v.1,v.2.1,v.2.2.1,v.2.2.2.1,n,v.2.2.2.2.2)
section
variable {up:Bool} {now cl:Int} {log:List UInt8} {its:List It} {p:Po} {bk:List Bu} {S:List Sv} {w:fT.D}
theorem afz (I:Cu S now)(k:Nat)(e:Bb S w.2.1=some k) :
  Wh.q41 (((),(),(),(k:Int)),(false,(0:Int),[],((0:Int),(),()),((),(0:Int),()),(),(),()),(up,now,log,(cl,(),()),((),p.2),(),(),()),w,[],[],[],[],its,p.1,bk,S)
   = some (bif w.1==5 then .inl (((),()),(false,(0:Int),[],((0:Int),(),()),((),(0:Int),()),(),(),()),(up,now,log,(cl,its,()),(p.1,p.2),bk,(),()),[],[],[],[],S.eraseIdx k)
    else .inr (((),()),(false,(0:Int),[],((0:Int),(),()),((),(0:Int),()),(),(),()),(up,now,log,(cl,(),()),((),p.2),(),(),()),[],[],[],[],its,p.1,bk,
     bif(bif(bif w.1==4 then decide (w.2.2.2.2.1≤3) else false) then decide (w.2.2.2.2.1>(S.getD k zS).2.2.2.2.1) else false) then S.set k (HU (S.getD k zS) w.2.2.2.2.1) else S)):=by
 obtain⟨hk,hc,Dc⟩:=Je I e
 have l4:=MV I
 have w1:=MU (up,now,log,(cl,its,()),p,bk,S,()) (by show S.length≤_;omega) w.2.1
 dsimp only at w1
 rw[Dc] at w1
 obtain⟨fr,hd⟩:=p
 unfold HU
 unfold zS
 cases k5:(w.1==(5:Int)) with
 |true=>simp only[Wh.q41,k5,cond_true,w1,Wh.Kg _ _ w1,n_,iy]
 |false=>
  simp only[Wh.q41,k5,cond_false,Int.toNat_natCast,gl hk,g0,Bool.or_true,iy,Bool.and_self,cond_true]
  cases (bif(bif w.1==(4:Int) then decide (w.2.2.2.2.1≤3) else false) then decide (w.2.2.2.2.1>(List.getD S k ((0:Int),(0:Int),(0:Int),(0:Int),(0:Int),(0:Int),())).2.2.2.2.1) else false)<;>rfl
theorem aa6 (I:Cu S now)(_C:yJ (cl,its,()))(_hw:0≤w.2.1∧w.2.1≤3)(kd:(w.1==(1:Int))=false) :
  ∃S':List Sv,S'.length≤10∧Wh.BO ((up,now,log,(cl,its,()),p,bk,S,()),w)=some (((up,now,log,(cl,its,()),p,bk,S',()),[]),()) ∧
   ∀(s:fk.D),s=(up,now,log,(cl,its,()),p,bk,S,())→s.1=true→Wh.q26 s=some (s,())→Wh.G0 w=some (true,())→Wh.q67 w.2.1=some (true,()) →
    Wh.A7 (s,w)=some (((up,now,log,(cl,its,()),p,bk,S',()),[]),()):=by
 have l4:=MV I
 have s1:=Ze (up,now,log,(cl,its,()),p,bk,S,()) (by show S.length≤_;omega) w.2.1
 have i1:=U_ (up,now,log,(cl,its,()),p,bk,S,()) (by show S.length≤_;omega) w.2.1
 dsimp only at s1 i1
 cases e:Bb S w.2.1 with
 |none=>
  rw[e] at s1 i1
  dsimp only[yC] at s1 i1
  have B7:decide ((-1:Int)<0)=true:=by decide
  refine⟨S,by omega,?_,?_⟩
  ·simp only[Wh.BO,kd,cond_false,s1,Wh.zX _ _ s1,n_,B7,cond_true,Bool.not_true,Bool.not_false,Bool.true_or,iy,Bool.and_self]
  ·rintro s rfl hu Ao yh co
   have hu:up=true:=hu
   subst hu
   simp only[Wh.A7,Ao,Wh.Ey _ _ Ao,n_,yh,Wh.Ei _ _ yh,co,Wh.CR _ _ co,kd,i1,Wh.Aj _ _ i1,B7,Bool.not_true,Bool.not_false,Bool.or_true,Bool.true_or,iy,Bool.and_self,cond_true,cond_false]
 |some k=>
  obtain⟨hk,hc,Dc⟩:=Je I e
  have hb:=afz (up:=up) (log:=log) (cl:=cl) (its:=its) (p:=p) (bk:=bk) I k e
  rw[e] at s1 i1
  dsimp only[yC] at s1 i1
  have dk:decide ((k:Int)<0)=false:=decide_eq_false (by omega)
  have lv:=NU (up,now,log,(cl,its,()),p,bk,S,()) k hk (by show S.length≤_;omega)
  dsimp only at lv
  have el:(S.eraseIdx k).length≤10:=by rw[List.length_eraseIdx_of_lt hk];omega
  cases q1:(bif((S.getD k zS).2.1 != w.2.2.1) then true else(S.getD k zS).2.2.1 != w.2.2.2.1) with
  |true=>
   unfold zS at q1
   refine⟨S,by omega,?_,?_⟩
   ·simp only[Wh.BO,kd,cond_false,s1,Wh.zX _ _ s1,n_,dk,Int.toNat_natCast,gl hk,g0,q1,cond_true,Bool.or_true,iy,Bool.and_self]
   ·rintro s rfl hu Ao yh co
    have hu:up=true:=hu
    subst hu
    simp only[Wh.A7,Ao,Wh.Ey _ _ Ao,n_,yh,Wh.Ei _ _ yh,co,Wh.CR _ _ co,kd,i1,Wh.Aj _ _ i1,dk,Int.toNat_natCast,gl hk,g0,q1,Bool.not_true,Bool.or_true,iy,Bool.and_self,cond_true,cond_false]
  |false=>
   cases k5:(w.1==(5:Int)) with
   |true=>
    rw[k5] at hb
    dsimp only[cond_true] at hb
    have hb':=Wh.QW _ _ hb
    have k4:(w.1==(4:Int))=false:=by rw[eq_of_beq k5];rfl
    unfold zS at q1
    refine⟨S.eraseIdx k,el,?_,?_⟩
    ·simp only[Wh.BO,kd,cond_false,s1,Wh.zX _ _ s1,n_,dk,Int.toNat_natCast,gl hk,g0,q1,cond_true,Bool.or_true,iy,Bool.and_self,hb,hb']
    ·rintro s rfl hu Ao yh co
     have hu:up=true:=hu
     subst hu
     simp only[Wh.A7,Ao,Wh.Ey _ _ Ao,n_,yh,Wh.Ei _ _ yh,co,Wh.CR _ _ co,kd,i1,Wh.Aj _ _ i1,dk,Int.toNat_natCast,gl hk,g0,q1,k4,k5,lv,Wh.Mm _ _ lv,Bool.not_true,Bool.or_true,iy,Bool.and_self,cond_true,cond_false]
   |false=>
    rw[k5] at hb
    dsimp only[cond_false] at hb
    have hb':=Wh.QW _ _ hb
    cases k4:(w.1==(4:Int)) with
    |false=>
     simp only[k4,cond_false] at hb hb'
     unfold zS at q1
     refine⟨S,by omega,?_,?_⟩
     ·simp only[Wh.BO,kd,cond_false,s1,Wh.zX _ _ s1,n_,dk,Int.toNat_natCast,gl hk,g0,q1,cond_true,Bool.or_true,iy,Bool.and_self,hb,hb']
     ·rintro s rfl hu Ao yh co
      have hu:up=true:=hu
      subst hu
      simp only[Wh.A7,Ao,Wh.Ey _ _ Ao,n_,yh,Wh.Ei _ _ yh,co,Wh.CR _ _ co,kd,i1,Wh.Aj _ _ i1,dk,Int.toNat_natCast,gl hk,g0,q1,k4,k5,Bool.not_true,Bool.or_true,iy,Bool.and_self,cond_true,cond_false]
    |true=>
     simp only[k4,cond_true] at hb hb'
     cases a1:decide (w.2.2.2.2.1≤3)<;>cases a2:decide (w.2.2.2.2.1>(S.getD k zS).2.2.2.2.1)
     all_goals simp only[a1,a2,cond_true,cond_false] at hb hb'
     all_goals try unfold HU at hb
     all_goals try unfold HU at hb'
     all_goals unfold zS at q1 a2
     all_goals try unfold zS at hb
     all_goals try unfold zS at hb'
     case true.true=>
      refine⟨S.set k (HU (S.getD k zS) w.2.2.2.2.1),?_,?_,?_⟩
      all_goals unfold HU
      all_goals unfold zS
      rotate_left
      ·simp only[Wh.BO,kd,cond_false,s1,Wh.zX _ _ s1,n_,dk,Int.toNat_natCast,gl hk,g0,q1,cond_true,Bool.or_true,iy,Bool.and_self,hb,hb']
      ·rintro s rfl hu Ao yh co
       have hu:up=true:=hu
       subst hu
       simp only[Wh.A7,Ao,Wh.Ey _ _ Ao,n_,yh,Wh.Ei _ _ yh,co,Wh.CR _ _ co,kd,i1,Wh.Aj _ _ i1,dk,Int.toNat_natCast,gl hk,g0,q1,k4,k5,a1,a2,Bool.not_true,Bool.or_true,iy,Bool.and_self,cond_true,cond_false]
      ·rw[List.length_set];omega
     all_goals refine⟨S,by omega,?_,?_⟩
     all_goals try (simp only[Wh.BO,kd,cond_false,s1,Wh.zX _ _ s1,n_,dk,Int.toNat_natCast,gl hk,g0,q1,cond_true,Bool.or_true,iy,Bool.and_self,hb,hb'];done)
     all_goals
      rintro s rfl hu Ao yh co
      have hu:up=true:=hu
      subst hu
      simp only[Wh.A7,Ao,Wh.Ey _ _ Ao,n_,yh,Wh.Ei _ _ yh,co,Wh.CR _ _ co,kd,i1,Wh.Aj _ _ i1,dk,Int.toNat_natCast,gl hk,g0,q1,k4,k5,a1,a2,Bool.not_true,Bool.or_true,iy,Bool.and_self,cond_true,cond_false]
end
structure HearR (s:fk.D) (w:fT.D) (R:fk.D×List fT.D):Prop where
 sp:Wh.EA (s,w)=some (R,())
 im:Wh.DD (s,w)=some (R,())
 sm:Al R.1
 ln:R.2.length≤1
theorem ok_srv {now cl:Int}{log:List UInt8}{its:List It}{p:Po}{bk:List Bu}{S:List Sv}(ok:okV (true,now,log,(cl,its,()),p,bk,S,())=true)(hl:S.length≤9999999):Cu S now:=by
 have n0:0≤now∧now≤99999:=by
  have q:=ok
  unfold okV at q
  simp only[Bool.and_eq_true] at q
  exact of_decide_eq_true q.1
 unfold okV at ok
 simp only[Bool.and_eq_true] at ok
 obtain⟨_,_,_,up⟩:=ok
 simp only[cond_true,upV,Bool.and_eq_true,beq_iff_eq] at up
 obtain⟨_,_,_,_,sv,_,_⟩:=up
 have sq:=oL.1 sv
 have sx:∀i,i<S.length→Ba (cl,its,()) now S i=false:=fun i hi=>by
  have:=sq i hi
  cases e:Ba (cl,its,()) now S i with
  |false=>rfl
  |true=>have this:(!Ba (cl,its,()) now S i)=true:=this;rw[e] at this;cases this
 have sy:∀i,i<S.length→(0≤(S.getD i zS).1∧(S.getD i zS).1≤3)∧Ih S i (S.getD i zS).1=false∧(0≤(S.getD i zS).2.2.2.2.1∧(S.getD i zS).2.2.2.2.1≤3)∧(0≤(S.getD i zS).2.2.2.2.2.1∧(S.getD i zS).2.2.2.2.2.1≤now):=fun i hi=>by
  have q:=sx i hi
  unfold Ba at q
  simp only[Bool.or_eq_false_iff,Bool.not_eq_false'] at q
  obtain⟨⟨⟨⟨⟨⟨⟨q1,q2⟩,_⟩,_⟩,_⟩,q5⟩,q6⟩,_⟩:=q
  exact⟨of_decide_eq_true q1,q2,of_decide_eq_true q5,of_decide_eq_true q6⟩
 have AR:∀d i,i+1+d<S.length→(S.getD i zS).1<(S.getD (i+1+d) zS).1:=by
  intro d
  induction d with
  |zero=>
   intro i hi
   have q:=of_decide_eq_false (sy (i+1) hi).2.1
   rw[Nat.add_zero];omega
  |succ d ih=>
   intro i hi
   have a:=ih i (by omega)
   have b:=of_decide_eq_false (sy (i+1+d+1) (by omega)).2.1
   rw[show i+1+(d+1)=i+1+d+1 by omega]
   omega
 have cl3:S.length≤100000:=by
  by_cases q:S.length≤100000
  ·exact q
  ·exfalso
   have h1:=AR 0 0 (by omega)
   have h2:=AR 0 1 (by omega)
   have h3:=AR 0 2 (by omega)
   have h4:=AR 0 3 (by omega)
   have:=(sy 0 (by omega)).1
   have:=(sy 4 (by omega)).1
   simp only[Nat.reduceAdd] at h1 h2 h3 h4
   omega
 refine⟨cl3,n0.2,fun i hi=>(sy i hi).1,fun i j hij hj=>?_,fun i hi=>(sy i hi).2.2.1,fun i hi=>(sy i hi).2.2.2⟩
 have:=AR (j-i-1) i (by omega)
 rwa[show i+1+(j-i-1)=j by omega] at this
theorem aa5 (s:fk.D)(w:fT.D)(Sm:Al s)(hn:w.2.2.2.2.2.1.length≤9999999):∃R,HearR s w R:=by
 have so:=afB s Sm
 have io:=abk s Sm
 have wo1:=afI w hn
 have wo2:=abq w hn
 have co:=Jr w.2.1
 cases ok:okV s with
 |false=>
  rw[ok] at so io
  refine⟨(DU,[]),?_,?_,ago,by simp⟩
  ·simp only[Wh.EA,so,Wh.Kl _ _ so,n_,iy,cond_true,Bool.not_false,DU]
  ·simp only[Wh.DD,io,Wh.Ki _ _ io,n_,iy,cond_true,Bool.not_false,DU]
 |true=>
  rw[ok] at so io
  have Cc:=ok_cat ok
  have C:=Cc.len
  have sc:=afy s Sm (by omega)
  have JA:=abi s Sm (by omega)
  obtain⟨up,now,log,⟨cl,its,cu⟩,p,bk,S,u⟩:=s
  have still:∀(x y:Bool),(bif bif(!up) then true else !EW w then true else decide (w.2.1≥4))=true→(bif bif(!up) then true else !EW w then true else !nS w.2.1 0 3)=true→∃R,HearR (up,now,log,(cl,its,cu),p,bk,S,u) w R:=by
   intro _ _ h1 h2
   have ih:Wh.A7 ((up,now,log,(cl,its,cu),p,bk,S,u),w)=some (((up,now,log,(cl,its,cu),p,bk,S,u),[]),()):=by
    simp only[Wh.A7,JA,Wh.Ey _ _ JA,n_,wo2,Wh.Ei _ _ wo2,co,Wh.CR _ _ co,h2,Bool.or_true,iy,Bool.and_self,cond_true]
   refine⟨((up,now,log,(cl,its,cu),p,bk,S,u),[]),?_,?_,Sm,by simp⟩
   ·simp only[Wh.EA,so,Wh.Kl _ _ so,n_,iy,cond_true,Bool.not_true,cond_false,sc,Wh.L1 _ _ sc,wo1,Wh.L_ _ _ wo1,Bool.or_true,h1]
   ·simp only[Wh.DD,io,Wh.Ki _ _ io,n_,Bool.not_true,iy,cond_true,cond_false,ih,Wh.Mq _ _ ih]
  cases up with
  |false=>exact still true true rfl rfl
  |true=>
   cases Jf:EW w with
   |false=>exact still true true (by rw[Jf];rfl) (by rw[Jf];rfl)
   |true=>
    have wp:=agl Jf
    by_cases h4:w.2.1≥4
    ·refine still true true ?_ ?_
     ·rw[Jf,decide_eq_true h4];rfl
     ·rw[Jf,show nS w.2.1 0 3=false from decide_eq_false (by omega)];rfl
    ·have I:=ok_srv ok (by have:S.length≤1048576:=Sm.Cr;omega)
     have hw:0≤w.2.1∧w.2.1≤3:=⟨wp.1.1,by omega⟩
     rw[Jf] at wo1 wo2
     rw[show nS w.2.1 0 3=true from decide_eq_true hw] at co
     have d4:decide (w.2.1≥4)=false:=decide_eq_false h4
     have fin:∀S':List Sv,S'.length≤10→Al (true,now,log,(cl,its,()),p,bk,S',()):=fun S' hs=>⟨Sm.log,Sm.cat,Sm.items,Sm.CK,Sm.B6,by show S'.length≤_;omega⟩
     cases kd:(w.1==(1:Int)) with
     |true=>
      obtain⟨S',W,sl,wl,h1,h2⟩:=acm (up:=true) (log:=log) (cl:=cl) (its:=its) (p:=p) (bk:=bk) (w:=w) I Cc hw
      have lh:Wh.BO ((true,now,log,(cl,its,()),p,bk,S,()),w)=some (((true,now,log,(cl,its,()),p,bk,S',()),W),()):=by
       simp only[Wh.BO,kd,cond_true,h1,Wh.Xb _ _ h1,n_,iy]
      have ih:Wh.A7 ((true,now,log,(cl,its,()),p,bk,S,()),w)=some (((true,now,log,(cl,its,()),p,bk,S',()),W),()):=by
       simp only[Wh.A7,JA,Wh.Ey _ _ JA,n_,wo2,Wh.Ei _ _ wo2,co,Wh.CR _ _ co,kd,h2,Wh.q25_v _ _ h2,Bool.not_true,Bool.or_true,iy,Bool.and_self,cond_true,cond_false]
      refine⟨((true,now,log,(cl,its,()),p,bk,S',()),W),?_,?_,fin S' sl,wl⟩
      ·simp only[Wh.EA,so,Wh.Kl _ _ so,n_,iy,cond_true,Bool.not_true,cond_false,sc,Wh.L1 _ _ sc,wo1,Wh.L_ _ _ wo1,Bool.or_true,d4,lh,Wh.O2 _ _ lh]
      ·simp only[Wh.DD,io,Wh.Ki _ _ io,n_,Bool.not_true,iy,cond_true,cond_false,ih,Wh.Mq _ _ ih]
     |false=>
      obtain⟨S',sl,lh,ih⟩:=aa6 (up:=true) (log:=log) (cl:=cl) (its:=its) (p:=p) (bk:=bk) (w:=w) I Cc hw kd
      have ih:=ih _ rfl rfl JA wo2 co
      refine⟨((true,now,log,(cl,its,()),p,bk,S',()),[]),?_,?_,fin S' sl,by simp⟩
      ·simp only[Wh.EA,so,Wh.Kl _ _ so,n_,iy,cond_true,Bool.not_true,cond_false,sc,Wh.L1 _ _ sc,wo1,Wh.L_ _ _ wo1,Bool.or_true,d4,lh,Wh.O2 _ _ lh]
      ·simp only[Wh.DD,io,Wh.Ki _ _ io,n_,Bool.not_true,iy,cond_true,cond_false,ih,Wh.Mq _ _ ih]
theorem afY (w:fT.D)(n:Int):∃v,Wh.ID (w,n)=some (v,()):=by
 simp only[Wh.ID]
 cases decide (IntKind.wrap .i64 (n-(w.2.2.2.2.2.1.length:Int))<0)
 ·simp only[cond_false]
  cases decide (IntKind.wrap .i64 (IntKind.wrap .i64 (n-(w.2.2.2.2.2.1.length:Int))-(w.2.2.2.2.2.2.1.length:Int))<0)<;>exact⟨_,rfl⟩
 ·exact⟨_,rfl⟩
theorem agc (w:fT.D):Wh.G1 w=some (w,()):=rfl
theorem abG (s:fk.D)(w:fT.D)(hb:fR fk s+fR fT w≤1048576):Wh.Km (s,w)=some (true,()):=by
 have S:=afu s (by omega)
 have hwb:fR fT w=1+(1+(1+(1+(1+((w.2.2.2.2.2.1.length+1)+((w.2.2.2.2.2.2.1.length+1)+0)))))):=rfl
 obtain⟨v,hv⟩:=afX s 1048576 S
 obtain⟨v2,y9⟩:=afY w v
 have e1:=agb s S
 have e2:=agc w
 obtain⟨R,e3,e4,SR,ln⟩:=aa5 s w S (by omega)
 obtain⟨R,W⟩:=R
 have ln:W.length≤1:=ln
 have SR:Al R:=SR
 have M0:=markS s S
 have M:=markS R SR
 have v3:=Wh.q40_v _ _ e3
 have v4:=Wh.q33_v _ _ e4
 have hn:((zT R:Nat):Int)≤60000000:=by
  have h1:R.2.2.2.1.2.1.length≤1048576:=SR.cat
  have h2:R.2.2.2.2.1.1.length≤1048576:=SR.CK
  have h3:=SR.B6
  have h4:=SR.Cr
  unfold zT zk Ah
  rw[EO xY 4 (fun _=>rfl),EO xX 5 (fun _=>rfl),EO xQ 4 (fun _=>rfl),EO xZ 6 (fun _=>rfl)]
  omega
 have wb:1+((zT R:Nat):Int)+(nP nW W:Nat)<y2:=by rw[sumW];unfold y2;omega
 have w0:=Uu w
 have w1:=Z4 W (by omega)
 have w2:=ab7 W (1+((zT R:Nat):Int)) (by omega) wb (by omega)
 have w3:=abd W (1+((zT R:Nat):Int)) (by omega) wb (by omega)
 have ng:decide (1+((zT R:Nat):Int)+(nP nW W:Nat)<0)=false:=decide_eq_false (by omega)
 simp only[Wh.Km,hv,Wh.q81_v _ _ hv,y9,Wh.Xv _ _ y9,e1,Wh.q85_v _ _ e1,e2,Wh.Xy _ _ e2,e3,v3,e4,v4,M0.eq,Wh.Rs _ _ M0.eq,M0.mrk,Wh.QU _ _ M0.mrk,M0.ng,M.eq,Wh.Rs _ _ M.eq,M.mrk,Wh.QU _ _ M.mrk,M.hd,Wh.q36_v _ _ M.hd,M.ng,w1,Wh.WZ _ _ w1,w2,Wh.q55_v _ _ w2,w3,Wh.q53_v _ _ w3,ng,bneS,nQ,iy,Bool.or_true,Bool.and_self,Bool.not_true,Bool.not_false,cond_true,cond_false]
 cases decide (v<0) with
 |true=>rfl
 |false=>cases decide (v2<0)<;>rfl
end Pl
