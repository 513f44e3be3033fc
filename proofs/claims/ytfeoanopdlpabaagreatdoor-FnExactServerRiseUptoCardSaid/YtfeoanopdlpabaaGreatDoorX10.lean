import Derived.Test.YtfeoanopdlpabaaGreatDoorX9
open Go Go.Ab
namespace Pl
theorem Wb (w:an.D):Wh.EB (w,w)=some (true,()):=by simp[Wh.EB]
theorem Wa (a:List an.D) (h:a.length≤4611686018427387904):Wh.q84 (a,a)=some (true,()):=by
 have hl:Comes Wh.E9 (((0:Int),a,a),()) (.inr ((),())):=by
  refine xb (st:=fun i=>(((i:Int),a,a),())) (n:=a.length) ?_ ?_ 0 (Nat.zero_le _)
  ·intro i hi
   have h2:=lg (i:=i) (by omega)
   have h4:=Wb (a[i])
   simp[Wh.E9,Wh.TY _ _ h4,iy,h2,hi,h4,nQ]
  ·simp[Wh.E9]
 simp[Wh.q84,cb hl,cv hl]
theorem acv (a:an.D):Wh.F3 a=some (a,()):=rfl
theorem acu (a:List an.D) (h:a.length≤1048576):Wh.q90 a=some (a,()):=by
 have hl:Comes Wh.DU (((0:Int),a,()),List.replicate a.length ((0:Int),([]:List UInt8),(0:Int),([]:List UInt8),())) ((),a):=by
  have:=xb (r:=Wh.DU) (st:=fun i=>(((i:Int),a,()),iB a ((0:Int),([]:List UInt8),(0:Int),([]:List UInt8),()) i)) (n:=a.length) (y:=((),a)) ?_ ?_ 0 (Nat.zero_le _)
  ·rw[KB] at this;exact this
  ·intro i hi
   have hi':decide ((i:Int)<(a.length:Int))=true:=by simpa using hi
   have h0:decide ((0:Int)≤(i:Int))=true:=by simp
   have he:=acv (List.getD a i ((0:Int),([]:List UInt8),(0:Int),([]:List UInt8),()))
   have hs:(iB a ((0:Int),([]:List UInt8),(0:Int),([]:List UInt8),()) i).set i (List.getD a i ((0:Int),([]:List UInt8),(0:Int),([]:List UInt8),()))=iB a ((0:Int),([]:List UInt8),(0:Int),([]:List UInt8),()) (i+1):=KA a _ _ i hi
   simp only[Wh.DU,hi',h0,Int.toNat_natCast,Kz a ((0:Int),([]:List UInt8),(0:Int),([]:List UInt8),()) i (by omega),he,Wh.T4 _ _ he,hs,lg (i:=i) (by omega),iy,nQ,cond_true,Bool.and_self]
  ·have hi':decide (((a.length:Nat):Int)<(a.length:Int))=false:=by simp
   simp only[Wh.DU,hi',cond_false,Ky]
 have b0:decide ((0:Int)≤(a.length:Int))=true:=by simp
 have b1:decide ((a.length:Int)≤(dh:Int))=true:=decide_eq_true (by unfold dh;omega)
 simp only[Wh.q90,Int.toNat_natCast,cb hl,cv hl,b0,b1,Int.le_refl,decide_true,iy,cond_true,Bool.and_self]
theorem ach (a:an.D) (n:Int):∃v,Wh.ED (a,n)=some (v,()):=by
 simp only[Wh.ED]
 repeat' (first|exact⟨_,rfl⟩|refine Rt _ ?_ ?_)
theorem acg (a:List an.D) (n:Int) (h:a.length≤1048576):∃v,Wh.q88 (a,n)=some (v,()):=by
 have hl:∀d k:Nat,k+d=a.length→∀m:Int,∃y,Comes Wh.DT (((k:Int),m,a),()) y:=by
  intro d
  induction d with
  |zero=>
   intro k hk m
   have hk':decide ((k:Int)<(a.length:Int))=false:=by simp;omega
   exact⟨_,.out (by simp only[Wh.DT,hk',cond_false];rfl)⟩
  |succ d ih=>
   intro k hk m
   have hk':decide ((k:Int)<(a.length:Int))=true:=by simp;omega
   have h0:decide ((0:Int)≤(k:Int))=true:=by simp
   have w:=lg (i:=k) (by omega)
   obtain⟨v,hv⟩:=ach (List.getD a k ((0:Int),([]:List UInt8),(0:Int),([]:List UInt8),())) m
   cases hd:decide (v<0) with
   |true=>exact⟨_,.out (by simp only[Wh.DT,hk',h0,Int.toNat_natCast,hv,Wh.OQ _ _ hv,hd,iy,nQ,cond_true,Bool.and_self];rfl)⟩
   |false=>
    obtain⟨y,hy⟩:=ih (k+1) (by omega) v
    exact⟨y,.again (by simp only[Wh.DT,hk',h0,w,Int.toNat_natCast,hv,Wh.OQ _ _ hv,hd,iy,nQ,cond_true,cond_false,Bool.and_self]) hy⟩
 simp only[Wh.q88]
 cases decide (IntKind.wrap .i64 (n-(a.length:Int))<0) with
 |true=>exact⟨_,rfl⟩
 |false=>
  obtain⟨y,hy⟩:=hl a.length 0 (by omega) (IntKind.wrap .i64 (n-(a.length:Int)))
  have e1:=cb hy
  have e2:=cv hy Wh.QJ
  rw[show(((0:Nat):Int))=0 from rfl] at e1 e2
  simp only[e1,e2,cond_true,cond_false]
  cases y with
  |inl y=>exact⟨_,rfl⟩
  |inr y=>exact⟨_,rfl⟩
theorem V_ (w:ct.D):Wh.q83 (w,w)=some (true,()):=by simp[Wh.q83]
theorem V9 (a:List ct.D) (h:a.length≤4611686018427387904):Wh.q56 (a,a)=some (true,()):=by
 have hl:Comes Wh.E5 (((0:Int),a,a),()) (.inr ((),())):=by
  refine xb (st:=fun i=>(((i:Int),a,a),())) (n:=a.length) ?_ ?_ 0 (Nat.zero_le _)
  ·intro i hi
   have h2:=lg (i:=i) (by omega)
   have h4:=V_ (a[i])
   simp[Wh.E5,Wh.q83_v _ _ h4,iy,h2,hi,h4,nQ]
  ·simp[Wh.E5]
 simp[Wh.q56,cb hl,cv hl]
theorem acs (a:ct.D):Wh.q89 a=some (a,()):=rfl
theorem acr (a:List ct.D) (h:a.length≤1048576):Wh.q66 a=some (a,()):=by
 have hl:Comes Wh.DP (((0:Int),a,()),List.replicate a.length ((0:Int),(0:Int),(0:Int),(0:Int),false,())) ((),a):=by
  have:=xb (r:=Wh.DP) (st:=fun i=>(((i:Int),a,()),iB a ((0:Int),(0:Int),(0:Int),(0:Int),false,()) i)) (n:=a.length) (y:=((),a)) ?_ ?_ 0 (Nat.zero_le _)
  ·rw[KB] at this;exact this
  ·intro i hi
   have hi':decide ((i:Int)<(a.length:Int))=true:=by simpa using hi
   have h0:decide ((0:Int)≤(i:Int))=true:=by simp
   have he:=acs (List.getD a i ((0:Int),(0:Int),(0:Int),(0:Int),false,()))
   have hs:(iB a ((0:Int),(0:Int),(0:Int),(0:Int),false,()) i).set i (List.getD a i ((0:Int),(0:Int),(0:Int),(0:Int),false,()))=iB a ((0:Int),(0:Int),(0:Int),(0:Int),false,()) (i+1):=KA a _ _ i hi
   simp only[Wh.DP,hi',h0,Int.toNat_natCast,Kz a ((0:Int),(0:Int),(0:Int),(0:Int),false,()) i (by omega),he,Wh.q89_v _ _ he,hs,lg (i:=i) (by omega),iy,nQ,cond_true,Bool.and_self]
  ·have hi':decide (((a.length:Nat):Int)<(a.length:Int))=false:=by simp
   simp only[Wh.DP,hi',cond_false,Ky]
 have b0:decide ((0:Int)≤(a.length:Int))=true:=by simp
 have b1:decide ((a.length:Int)≤(dh:Int))=true:=decide_eq_true (by unfold dh;omega)
 simp only[Wh.q66,Int.toNat_natCast,cb hl,cv hl,b0,b1,Int.le_refl,decide_true,iy,cond_true,Bool.and_self]
theorem acf (a:List ct.D) (n:Int):∃v,Wh.q62 (a,n)=some (v,()):=by
 simp only[Wh.q62]
 cases decide (IntKind.wrap .i64 (n-(a.length:Int))<0)<;>exact⟨_,rfl⟩
theorem V7 (w:en.D):Wh.q55 (w,w)=some (true,()):=by simp[Wh.q55]
theorem V6 (a:List en.D) (h:a.length≤4611686018427387904):Wh.q38 (a,a)=some (true,()):=by
 have hl:Comes Wh.E0 (((0:Int),a,a),()) (.inr ((),())):=by
  refine xb (st:=fun i=>(((i:Int),a,a),())) (n:=a.length) ?_ ?_ 0 (Nat.zero_le _)
  ·intro i hi
   have h2:=lg (i:=i) (by omega)
   have h4:=V7 (a[i])
   simp[Wh.E0,Wh.q55_v _ _ h4,iy,h2,hi,h4,nQ]
  ·simp[Wh.E0]
 simp[Wh.q38,cb hl,cv hl]
theorem acp (a:en.D):Wh.q65 a=some (a,()):=rfl
theorem aco (a:List en.D) (h:a.length≤1048576):Wh.q42 a=some (a,()):=by
 have hl:Comes Wh.DI (((0:Int),a,()),List.replicate a.length ((0:Int),(0:Int),(0:Int),(0:Int),())) ((),a):=by
  have:=xb (r:=Wh.DI) (st:=fun i=>(((i:Int),a,()),iB a ((0:Int),(0:Int),(0:Int),(0:Int),()) i)) (n:=a.length) (y:=((),a)) ?_ ?_ 0 (Nat.zero_le _)
  ·rw[KB] at this;exact this
  ·intro i hi
   have hi':decide ((i:Int)<(a.length:Int))=true:=by simpa using hi
   have h0:decide ((0:Int)≤(i:Int))=true:=by simp
   have he:=acp (List.getD a i ((0:Int),(0:Int),(0:Int),(0:Int),()))
   have hs:(iB a ((0:Int),(0:Int),(0:Int),(0:Int),()) i).set i (List.getD a i ((0:Int),(0:Int),(0:Int),(0:Int),()))=iB a ((0:Int),(0:Int),(0:Int),(0:Int),()) (i+1):=KA a _ _ i hi
   simp only[Wh.DI,hi',h0,Int.toNat_natCast,Kz a ((0:Int),(0:Int),(0:Int),(0:Int),()) i (by omega),he,Wh.q65_v _ _ he,hs,lg (i:=i) (by omega),iy,nQ,cond_true,Bool.and_self]
  ·have hi':decide (((a.length:Nat):Int)<(a.length:Int))=false:=by simp
   simp only[Wh.DI,hi',cond_false,Ky]
 have b0:decide ((0:Int)≤(a.length:Int))=true:=by simp
 have b1:decide ((a.length:Int)≤(dh:Int))=true:=decide_eq_true (by unfold dh;omega)
 simp only[Wh.q42,Int.toNat_natCast,cb hl,cv hl,b0,b1,Int.le_refl,decide_true,iy,cond_true,Bool.and_self]
theorem ace (a:List en.D) (n:Int):∃v,Wh.q41 (a,n)=some (v,()):=by
 simp only[Wh.q41]
 cases decide (IntKind.wrap .i64 (n-(a.length:Int))<0)<;>exact⟨_,rfl⟩
theorem We (w:fN.D):Wh.q85 (w,w)=some (true,()):=by simp[Wh.q85]
theorem Wd (a:List fN.D) (h:a.length≤4611686018427387904):Wh.q57 (a,a)=some (true,()):=by
 have hl:Comes Wh.E6 (((0:Int),a,a),()) (.inr ((),())):=by
  refine xb (st:=fun i=>(((i:Int),a,a),())) (n:=a.length) ?_ ?_ 0 (Nat.zero_le _)
  ·intro i hi
   have h2:=lg (i:=i) (by omega)
   have h4:=We (a[i])
   simp[Wh.E6,Wh.q85_v _ _ h4,iy,h2,hi,h4,nQ]
  ·simp[Wh.E6]
 simp[Wh.q57,cb hl,cv hl]
theorem acz (a:fN.D):Wh.q91 a=some (a,()):=rfl
theorem acy (a:List fN.D) (h:a.length≤1048576):Wh.q67 a=some (a,()):=by
 have hl:Comes Wh.DQ (((0:Int),a,()),List.replicate a.length ((0:Int),(0:Int),(0:Int),(0:Int),(0:Int),(0:Int),())) ((),a):=by
  have:=xb (r:=Wh.DQ) (st:=fun i=>(((i:Int),a,()),iB a ((0:Int),(0:Int),(0:Int),(0:Int),(0:Int),(0:Int),()) i)) (n:=a.length) (y:=((),a)) ?_ ?_ 0 (Nat.zero_le _)
  ·rw[KB] at this;exact this
  ·intro i hi
   have hi':decide ((i:Int)<(a.length:Int))=true:=by simpa using hi
   have h0:decide ((0:Int)≤(i:Int))=true:=by simp
   have he:=acz (List.getD a i ((0:Int),(0:Int),(0:Int),(0:Int),(0:Int),(0:Int),()))
   have hs:(iB a ((0:Int),(0:Int),(0:Int),(0:Int),(0:Int),(0:Int),()) i).set i (List.getD a i ((0:Int),(0:Int),(0:Int),(0:Int),(0:Int),(0:Int),()))=iB a ((0:Int),(0:Int),(0:Int),(0:Int),(0:Int),(0:Int),()) (i+1):=KA a _ _ i hi
   simp only[Wh.DQ,hi',h0,Int.toNat_natCast,Kz a ((0:Int),(0:Int),(0:Int),(0:Int),(0:Int),(0:Int),()) i (by omega),he,Wh.q91_v _ _ he,hs,lg (i:=i) (by omega),iy,nQ,cond_true,Bool.and_self]
  ·have hi':decide (((a.length:Nat):Int)<(a.length:Int))=false:=by simp
   simp only[Wh.DQ,hi',cond_false,Ky]
 have b0:decide ((0:Int)≤(a.length:Int))=true:=by simp
 have b1:decide ((a.length:Int)≤(dh:Int))=true:=decide_eq_true (by unfold dh;omega)
 simp only[Wh.q67,Int.toNat_natCast,cb hl,cv hl,b0,b1,Int.le_refl,decide_true,iy,cond_true,Bool.and_self]
theorem aci (a:List fN.D) (n:Int):∃v,Wh.q63 (a,n)=some (v,()):=by
 simp only[Wh.q63]
 cases decide (IntKind.wrap .i64 (n-(a.length:Int))<0)<;>exact⟨_,rfl⟩
def D8 (c:bx.D):Prop:=c.2.1.length≤1048576
def B3 (p:gv.D):Prop:=p.1.length≤1048576
structure zc (s:cx.D):Prop where
 log:s.2.2.1.length≤1048576
 cat:D8 s.2.2.2.1
 items:∀x∈s.2.2.2.1.2.1,x.2.1.length≤1048576∧x.2.2.2.1.length≤1048576
 Ch:B3 s.2.2.2.2.1
 B5:s.2.2.2.2.2.1.length≤1048576
 CV:s.2.2.2.2.2.2.1.length≤1048576
theorem V8 (c:bx.D) (h:D8 c):Wh.EP (c,c)=some (true,()):=by
 have e:=Wa c.2.1 (by unfold D8 at h;omega)
 simp[Wh.EP,e,Wh.q84_v _ _ e,iy,nQ]
theorem Wc (c:gv.D) (h:B3 c):Wh.EC (c,c)=some (true,()):=by
 have e:=V9 c.1 (by unfold B3 at h;omega)
 simp[Wh.EC,e,Wh.q56_v _ _ e,iy,nQ]
theorem Wf (s:cx.D) (h:zc s):Wh.Bb (s,s)=some (true,()):=by
 have e1:=V8 _ h.cat
 have e2:=Wc _ h.Ch
 have e3:=V6 s.2.2.2.2.2.1 (by have:=h.B5;omega)
 have e4:=Wd s.2.2.2.2.2.2.1 (by have:=h.CV;omega)
 simp[Wh.Bb,e1,e2,e3,e4,Wh.Uo _ _ e1,Wh.TZ _ _ e2,Wh.q38_v _ _ e3,Wh.q57_v _ _ e4,iy,nQ]
theorem acq (c:bx.D) (h:D8 c):Wh.ES c=some (c,()):=by
 have e:=acu c.2.1 h
 simp only[Wh.ES,e,Wh.q90_v _ _ e,iy,nQ,cond_true]
theorem acw (c:gv.D) (h:B3 c):Wh.EG c=some (c,()):=by
 have e:=acr c.1 h
 simp only[Wh.EG,e,Wh.q66_v _ _ e,iy,nQ,cond_true]
theorem acA (s:cx.D) (h:zc s):Wh.BM s=some (s,()):=by
 have e1:=acq _ h.cat
 have e2:=acw _ h.Ch
 have e3:=aco s.2.2.2.2.2.1 h.B5
 have e4:=acy s.2.2.2.2.2.2.1 h.CV
 simp only[Wh.BM,e1,e2,e3,e4,Wh.Uq _ _ e1,Wh.T5 _ _ e2,Wh.q42_v _ _ e3,Wh.q67_v _ _ e4,iy,nQ,cond_true]
theorem acj (s:cx.D) (n:Int) (h:zc s):∃v,Wh.q64 (s,n)=some (v,()):=by
 have c1:∀n,∃v,Wh.ER (s.2.2.2.1,n)=some (v,()):=by
  intro n
  obtain⟨v,hv⟩:=acg s.2.2.2.1.2.1 n h.cat
  simp only[Wh.ER,hv,Wh.q88_v _ _ hv,iy,nQ,cond_true]
  cases decide (v<0)<;>exact⟨_,rfl⟩
 have c2:∀n,∃v,Wh.EE (s.2.2.2.2.1,n)=some (v,()):=by
  intro n
  obtain⟨v,hv⟩:=acf s.2.2.2.2.1.1 n
  simp only[Wh.EE,hv,Wh.q62_v _ _ hv,iy,nQ,cond_true]
  cases decide (v<0)<;>exact⟨_,rfl⟩
 obtain⟨v1,h1⟩:=c1 (IntKind.wrap .i64 (n-(s.2.2.1.length:Int)))
 obtain⟨v2,h2⟩:=c2 v1
 obtain⟨v3,h3⟩:=ace s.2.2.2.2.2.1 v2
 obtain⟨v4,h4⟩:=aci s.2.2.2.2.2.2.1 v3
 simp only[Wh.q64,h1,h2,h3,h4,Wh.Up _ _ h1,Wh.T3 _ _ h2,Wh.q41_v _ _ h3,Wh.q63_v _ _ h4,iy,nQ,cond_true]
 repeat' (first|exact⟨_,rfl⟩|refine Rt _ ?_ ?_)
theorem abU (s:cx.D) (h:fR cx s≤1048576):zc s:=by
 have e:fR cx s=1+(1+((s.2.2.1.length+1)+((1+(((s.2.2.2.1.2.1.map (fR an)).sum+1)+0))+((((s.2.2.2.2.1.1.map (fR ct)).sum+1)+(1+0))+(((s.2.2.2.2.2.1.map (fR en)).sum+1)+(((s.2.2.2.2.2.2.1.map (fR fN)).sum+1)+0)))))):=rfl
 rw[e] at h
 have i0:∀x:an.D,fR an x=1+((x.2.1.length+1)+(1+((x.2.2.2.1.length+1)+0))):=fun _=>rfl
 have l1:=vH (fR an) (fun x=>by rw[i0];omega) s.2.2.2.1.2.1
 have l2:=vH (fR ct) (fun x=>by show 1≤1+(1+(1+(1+(1+0))));omega) s.2.2.2.2.1.1
 have l3:=vH (fR en) (fun x=>by show 1≤1+(1+(1+(1+0)));omega) s.2.2.2.2.2.1
 have l4:=vH (fR fN) (fun x=>by show 1≤1+(1+(1+(1+(1+(1+0)))));omega) s.2.2.2.2.2.2.1
 refine⟨by omega,by show _≤_;omega,fun x hx=>?_,by show _≤_;omega,by omega,by omega⟩
 have:=xg (fR an) _ x hx
 rw[i0] at this
 exact⟨by omega,by omega⟩
end Pl
open Go Go.Ab Go.Lib
namespace Pl
instance itDec:DecidableEq It:=inferInstanceAs (DecidableEq (Int×List UInt8×Int×List UInt8×Unit))
instance ctDec:DecidableEq Ct:=fun a b=>if h1:a.1=b.1 then if h2:a.2.1=b.2.1 then .isTrue (by obtain⟨_,_,_⟩:=a;obtain⟨_,_,_⟩:=b;simp_all) else .isFalse (fun e=>h2 (by rw[e])) else .isFalse (fun e=>h1 (by rw[e]))
theorem KL (a b:It):(a.1==b.1&&(a.2.1==b.2.1&&(a.2.2.1==b.2.2.1&&(a.2.2.2.1==b.2.2.2.1&&true))))=decide (a=b):=by
 obtain⟨a1,a2,a3,a4,a5⟩:=a
 obtain⟨b1,b2,b3,b4,b5⟩:=b
 rw[Bool.eq_iff_iff]
 simp
theorem Sx (a b:List It) (h:a.length=b.length):jS a.length (fun i=>decide (a.getD i z0=b.getD i z0))=decide (a=b):=by
 rw[Bool.eq_iff_iff,oL,decide_eq_true_iff]
 constructor
 ·intro hh
  refine List.ext_getElem h fun i h1 h2=>?_
  have:=of_decide_eq_true (hh i h1)
  rwa[getD_eq _ _ _ h1,getD_eq _ _ _ h2] at this
 ·rintro rfl i _;exact decide_eq_true rfl
theorem ct_eq (a b:Ct) (hl:a.2.1.length=b.2.1.length):(decide (a.1=b.1)&&decide (a.2.1=b.2.1))=decide (a=b):=by
 obtain⟨a1,a2,a3⟩:=a
 obtain⟨b1,b2,b3⟩:=b
 rw[Bool.eq_iff_iff]
 simp
theorem ab4 (a b:Ct) (hl:a.2.1.length≤9999999):Wh.CR (a,b)=some (decide (a=b),()):=by
 by_cases h1:a.1=b.1
 ·by_cases h2:a.2.1.length=b.2.1.length
  ·have c1:(a.1 != b.1)=false:=by simp[h1]
   have c2:((a.2.1.length:Int) != (b.2.1.length:Int))=false:=by simp[h2]
   have q:=zO (r:=Wh.CS) (fun i=>(((i:Int),(),()),b,a)) (n:=a.2.1.length) (p:=fun i=>decide (a.2.1.getD i z0=b.2.1.getD i z0)) (yf:=.inl (false,())) (yt:=.inr ((),())) (fun i hi _ hp=>by
     have hp':=(KL (a.2.1.getD i z0) (b.2.1.getD i z0)).trans hp
     unfold z0 at hp'
     simp only[Wh.CS,gl hi,gl (show i<b.2.1.length by omega),g0,Int.toNat_natCast,hp',iy,Bool.and_self,Bool.not_true,cond_true,cond_false,lg (show i≤4611686018427387904 by omega)]) (fun i hi _ hp=>by
     have hp':=(KL (a.2.1.getD i z0) (b.2.1.getD i z0)).trans hp
     unfold z0 at hp'
     simp only[Wh.CS,gl hi,gl (show i<b.2.1.length by omega),g0,Int.toNat_natCast,hp',iy,Bool.and_self,Bool.not_false,cond_true]) (by
     have d1:decide ((a.2.1.length:Int)<(a.2.1.length:Int))=false:=decide_eq_false (by omega)
     simp only[Wh.CS,d1,cond_false])
   rw[Sx _ _ h2] at q
   have q':Comes Wh.CS ((0,(),()),b,a) _:=q
   simp only[Wh.CR,c1,c2,cond_false,cb q',cv q',cond_true]
   rw[←ct_eq a b h2,decide_eq_true h1,Bool.true_and]
   cases decide (a.2.1=b.2.1)<;>rfl
  ·have c1:(a.1 != b.1)=false:=by simp[h1]
   have c2:((a.2.1.length:Int) != (b.2.1.length:Int))=true:=bne_iff_ne.2 (by omega)
   simp only[Wh.CR,c1,c2,cond_false,cond_true]
   rw[decide_eq_false (by rintro rfl;exact h2 rfl)]
 ·have c1:(a.1 != b.1)=true:=bne_iff_ne.2 h1
  simp only[Wh.CR,c1,cond_true]
  rw[decide_eq_false (by rintro rfl;exact h1 rfl)]
theorem Xc (a b:Ct) (hl:a.2.1.length≤9999999):Wh.q82 (a,b)=some (decide (a=b),()):=by
 have he:Wh.q10 (a.2.1,b.2.1)=some (decide (a.2.1=b.2.1),()):=by
  by_cases h2:a.2.1.length=b.2.1.length
  ·have c2:((a.2.1.length:Int) != (b.2.1.length:Int))=false:=by simp[h2]
   have q:=zO (r:=Wh.Cl) (fun i=>(((i:Int),b.2.1,a.2.1,(a.2.1.length:Int)),())) (n:=a.2.1.length) (p:=fun i=>decide (a.2.1.getD i z0=b.2.1.getD i z0)) (yf:=.inl (false,())) (yt:=.inr ((),())) (fun i hi _ hp=>by
     have hp':=(KL (a.2.1.getD i z0) (b.2.1.getD i z0)).trans hp
     unfold z0 at hp'
     simp only[Wh.Cl,gl hi,gl (show i<b.2.1.length by omega),g0,Int.toNat_natCast,hp',iy,Bool.and_self,Bool.not_true,cond_true,cond_false,lg (show i≤4611686018427387904 by omega)]) (fun i hi _ hp=>by
     have hp':=(KL (a.2.1.getD i z0) (b.2.1.getD i z0)).trans hp
     unfold z0 at hp'
     simp only[Wh.Cl,gl hi,gl (show i<b.2.1.length by omega),g0,Int.toNat_natCast,hp',iy,Bool.and_self,Bool.not_false,cond_true]) (by
     have d1:decide ((a.2.1.length:Int)<(a.2.1.length:Int))=false:=decide_eq_false (by omega)
     simp only[Wh.Cl,d1,cond_false])
   rw[Sx _ _ h2] at q
   have q':Comes Wh.Cl ((0,b.2.1,a.2.1,(a.2.1.length:Int)),()) _:=q
   simp only[Wh.q10,c2,cond_false,cb q',cv q',cond_true]
   cases decide (a.2.1=b.2.1)<;>rfl
  ·have c2:((a.2.1.length:Int) != (b.2.1.length:Int))=true:=bne_iff_ne.2 (by omega)
   simp only[Wh.q10,c2,cond_true]
   rw[decide_eq_false (fun e=>h2 (by rw[e]))]
 have hd:(bif a.1==b.1 then decide (a.2.1=b.2.1) else false)=decide (a=b):=by
  obtain⟨a1,a2,a3⟩:=a
  obtain⟨b1,b2,b3⟩:=b
  by_cases h1:a1=b1
  ·simp[h1]
  ·simp[h1]
 simp only[Wh.q82,he,Wh.q10_v _ _ he,nQ,Bool.or_true,iy,cond_true,hd]
def zQ (l:List It) (e:Int):Option Nat:=first l.length fun i=>(l.getD i z0).2.2.1==e
def edI (l:List It):Option Nat→It
 |some i=>l.getD i z0
 |none=>z0
theorem VC (c:Ct) (e:Int) (hl:c.2.1.length≤9999999):Wh.q45 (c,e)=some ((edI c.2.1 (zQ c.2.1 e),(zQ c.2.1 e).isSome),()):=by
 obtain⟨ce,l,u⟩:=c
 have hl:l.length≤9999999:=hl
 have q:=FD (r:=Wh.CL) (fun i=>(((),(i:Int),(),e),((0:Int),([]:List UInt8),(0:Int),([]:List UInt8),()),(ce,l,u))) (n:=l.length) (p:=fun i=>(l.getD i z0).2.2.1==e) (yt:=fun i=>.inl (((),true),l.getD i z0)) (yn:=.inr ((),(0:Int),[],(0:Int),[],())) (fun i hi hp=>by
   have hp':((l.getD i z0).2.2.1==e)=false:=hp
   unfold z0 at hp'
   simp only[Wh.CL,gl hi,g0,Int.toNat_natCast,hp',iy,Bool.and_self,cond_true,cond_false,lg (show i≤4611686018427387904 by omega)]) (fun i hi hp=>by
   have hp':((l.getD i z0).2.2.1==e)=true:=hp
   unfold z0 at hp' ⊢
   simp only[Wh.CL,gl hi,g0,Int.toNat_natCast,hp',iy,Bool.and_self,cond_true]) (by
   have d1:decide ((l.length:Int)<(l.length:Int))=false:=decide_eq_false (by omega)
   simp only[Wh.CL,d1,cond_false])
 have q':Comes Wh.CL (((),0,(),e),((0:Int),([]:List UInt8),(0:Int),([]:List UInt8),()),(ce,l,u)) _:=q
 simp only[Wh.q45,cb q',cv q',cond_true,zQ]
 cases first l.length (fun i=>(l.getD i z0).2.2.1==e)<;>rfl
theorem R_ (c:Ct) (e:Int) (hl:c.2.1.length≤9999999):Wh.Cs (c,e)=some (AH (zQ c.2.1 e),()):=by
 obtain⟨ce,l,u⟩:=c
 have hl:l.length≤9999999:=hl
 have f (x:It):Wh.Ge (x,e)=some ((x.2.2.1==e),()):=rfl
 have q:=FD (r:=Wh.CH) (fun i=>(((i:Int),l,(e,()),(l.length:Int)),())) (n:=l.length) (p:=fun i=>(l.getD i z0).2.2.1==e) (yt:=fun i=>.inl ((i:Int),())) (yn:=.inr ((),())) (fun i hi hp=>by
   have hp':((l.getD i z0).2.2.1==e)=false:=hp
   unfold z0 at hp'
   simp only[Wh.CH,gl hi,g0,Int.toNat_natCast,f,Wh.q8_v _ _ (f _),hp',nQ,iy,Bool.and_self,cond_true,cond_false,lg (show i≤4611686018427387904 by omega)]) (fun i hi hp=>by
   have hp':((l.getD i z0).2.2.1==e)=true:=hp
   unfold z0 at hp'
   simp only[Wh.CH,gl hi,g0,Int.toNat_natCast,f,Wh.q8_v _ _ (f _),hp',nQ,iy,Bool.and_self,cond_true]) (by
   have d1:decide ((l.length:Int)<(l.length:Int))=false:=decide_eq_false (by omega)
   simp only[Wh.CH,d1,cond_false])
 have q':Comes Wh.CH ((0,l,(e,()),(l.length:Int)),()) _:=q
 have h:Wh.q2 (l,e,())=some (AH (zQ l e),()):=by
  simp only[Wh.q2,cb q',cv q',cond_true,zQ]
  cases first l.length (fun i=>(l.getD i z0).2.2.1==e)<;>rfl
 simp only[Wh.Cs,h,Wh.q2_v _ _ h,nQ,iy,cond_true]
theorem RC:Wh.CD=Wh.Bz:=rfl
theorem RD:Wh.F_=Wh.F2:=rfl
def Ad (a b:Int):Int:=IntKind.wrap .i64 (Int.tdiv (IntKind.wrap .i64 (IntKind.wrap .i64 (a+b)-1)) b)
theorem count_eq (a b:Int) (x y:List Int) (u:Unit) (h:b≠0):Wh.Bz (a,b,x,y,u)=some (Ad a b,()):=by
 have c:(b != 0)=true:=bne_iff_ne.2 h
 simp only[Wh.Bz,c,iy,cond_true];rfl
theorem V0 (a b:Nat) (ha:a≤100000) (hb:1≤b) (bZ:b≤1000):Ad a b=(((a+b-1) / b:Nat):Int):=by
 have w1:IntKind.wrap .i64 ((a:Int)+(b:Int))=((a+b:Nat):Int):=wi (by omega) (by omega)
 have w2:IntKind.wrap .i64 (((a+b:Nat):Int)-1)=((a+b-1:Nat):Int):=wi (by omega) (by omega)
 have w3:Int.tdiv ((a+b-1:Nat):Int) (b:Int)=(((a+b-1) / b:Nat):Int):=by rw[Int.tdiv_eq_ediv_of_nonneg (by omega)];rfl
 have hle:(a+b-1) / b≤a+b-1:=Nat.div_le_self _ _
 rw[Ad,w1,w2,w3];exact wi rfl (by omega)
theorem WS (L:Nat) (hL:L≤300):∀d s:Nat,s+d=13→1≤s→∃s':Nat,1≤s'∧s'≤13∧Comes Wh.Cz (((),()),((L:Int),(s:Int),(),(),()),((0:Int),(0:Int),(),(),()),[],[],[],[]) (((),()),((0:Int),(0:Int),(),(),()),((L:Int),(s':Int),(),(),()),[],[],[],[]):=by
 intro d
 induction d with
 |zero=>
  intro s h1 h2
  have:s=13:=by omega
  subst this
  refine⟨13,by omega,by omega,.out ?_⟩
  have a:=count_eq (L:Int) ((13:Nat):Int) [] [] () (by omega)
  rw[V0 L 13 (by omega) (by omega) (by omega)] at a
  have c1:decide ((((L+13-1) / 13:Nat):Int)>24)=false:=decide_eq_false (by omega)
  simp only[Wh.Cz,a,Wh.Ci _ _ a,c1,nQ,iy,cond_true,cond_false]
 |succ d ih=>
  intro s h1 h2
  have a:=count_eq (L:Int) (s:Int) [] [] () (by omega)
  cases hc:decide (Ad (L:Int) (s:Int)>24) with
  |true=>
   obtain⟨s',g1,g2,g3⟩:=ih (s+1) (by omega) (by omega)
   refine⟨s',g1,g2,.again ?_ g3⟩
   simp only[Wh.Cz,a,Wh.Ci _ _ a,hc,nQ,iy,cond_true,lg (show s≤4611686018427387904 by omega)]
  |false=>
   refine⟨s,by omega,by omega,.out ?_⟩
   simp only[Wh.Cz,a,Wh.Ci _ _ a,hc,nQ,iy,cond_true,cond_false]
theorem TK (L:Nat) (h1:1≤L) (hL:L≤300):∃P:yp.D,P.2.1≠0∧Wh.Dw (L:Int)=some (P,())∧Wh.q77 (L:Int)=some (P,()):=by
 obtain⟨s,g1,g2,g3⟩:=WS L hL 5 8 (by omega) (by omega)
 have g3':Comes Wh.Cz (((),()),((L:Int),(8:Int),(),(),()),((0:Int),(0:Int),(),(),()),[],[],[],[]) _:=g3
 have g4:Comes Wh.Hu (((),()),((L:Int),(8:Int),(),(),()),((0:Int),(0:Int),(),(),()),[],[],[],[]) _:=g3
 have a:=count_eq (L:Int) (s:Int) [] [] () (by omega)
 have wi1:nI (L:Int) 1 300=true:=decide_eq_true (by omega)
 cases hk:decide (IntKind.wrap .i64 (Int.tdiv (IntKind.wrap .i64 (Ad (L:Int) (s:Int)+3)) 4)<Ad (L:Int) (s:Int)) with
 |true=>
  refine⟨((L:Int),(s:Int),[IntKind.wrap .i64 (Int.tdiv (IntKind.wrap .i64 (Ad (L:Int) (s:Int)+3)) 4),Ad (L:Int) (s:Int)],[(2:Int),(3:Int)],()),by simp only;omega,?_,?_⟩
  ·simp only[Wh.Dw,cb g3',cv g3',cond_true,a,Wh.Ci _ _ a,hk,nQ,iy]
  ·simp only[Wh.q77,yW,Wh.zi _ _ (yW _ _ _),wi1,cb g4,cv g4,cond_true,cond_false,Bool.not_true,RC,RD,a,Wh.Ci _ _ a,hk,nQ,iy]
 |false=>
  refine⟨((L:Int),(s:Int),[Ad (L:Int) (s:Int)],[(1:Int)],()),by simp only;omega,?_,?_⟩
  ·simp only[Wh.Dw,cb g3',cv g3',cond_true,a,Wh.Ci _ _ a,hk,nQ,iy,cond_false]
  ·simp only[Wh.q77,yW,Wh.zi _ _ (yW _ _ _),wi1,cb g4,cv g4,cond_true,cond_false,Bool.not_true,RC,RD,a,Wh.Ci _ _ a,hk,nQ,iy]
noncomputable def G_ (L:Int):Int:=Ad (Wh.Hl L).1.1 (Wh.Hl L).1.2.1
noncomputable def B7 (c:Ct) (f:Fr):Bool:=bif decide (f.2.2.2.1>0) then true else bif decide (f.2.1>0) then(match zQ c.2.1 f.2.1 with
 |none=>true
 |some k=>bif(c.2.1.getD k z0).1 != f.1 then true else decide (f.2.2.1≥G_ ((c.2.1.getD k z0).2.2.2.1.length:Int))) else false
theorem NI {l:List It} {e:Int} {i:Nat} (h:zQ l e=some i):i<l.length:=(AI.1 h).1
theorem VD (s:cx.D) (I:yG s.2.2.2.1) (i:Nat) (hi:i<s.2.2.2.2.1.1.length) (hl:s.2.2.2.2.1.1.length≤9999999) :
  Wh.Az (((i:Int),()),s)=if B7 s.2.2.2.1 (s.2.2.2.2.1.1.getD i zF)=true then some (.inr (.inl (false,()))) else some (.inl ((((i+1:Nat):Int),()),s)):=by
 have bI:s.2.2.2.1.2.1.length≤8:=I.len
 have ed:=VC s.2.2.2.1 (s.2.2.2.2.1.1.getD i zF).2.1 (by omega)
 have w:=lg (show i≤4611686018427387904 by omega)
 unfold B7
 cases hw:decide ((s.2.2.2.2.1.1.getD i zF).2.2.2.1>0) with
 |true=>
  unfold zF at ed hw ⊢
  simp only[Wh.Az,gl hi,g0,Int.toNat_natCast,ed,Wh.DJ _ _ ed,hw,nQ,Bool.not_true,Bool.and_false,Bool.not_false,Bool.true_or,Bool.or_true,iy,Bool.and_self,cond_true,if_true]
 |false=>
  cases he:decide ((s.2.2.2.2.1.1.getD i zF).2.1>0) with
  |false=>
   unfold zF at ed hw he ⊢
   simp only[Wh.Az,gl hi,g0,Int.toNat_natCast,ed,Wh.DJ _ _ ed,hw,he,nQ,Bool.not_true,Bool.and_false,Bool.false_and,Bool.not_false,Bool.true_or,Bool.or_true,iy,Bool.and_self,cond_true,cond_false,w]
   rfl
  |true=>
   cases hk:zQ s.2.2.2.1.2.1 (s.2.2.2.2.1.1.getD i zF).2.1 with
   |none=>
    rw[hk] at ed
    unfold zF at ed hw he ⊢
    simp only[Wh.Az,gl hi,g0,Int.toNat_natCast,ed,Wh.DJ _ _ ed,hw,he,edI,Option.isSome,nQ,Bool.not_true,Bool.not_false,Bool.true_or,Bool.or_true,Bool.and_true,iy,Bool.and_self,cond_true,cond_false,if_true]
   |some k=>
    rw[hk] at ed
    have jf:=NI hk
    have hp:=Le (I.ok (s.2.2.2.1.2.1.getD k z0) (by rw[getD_eq _ _ _ jf];exact List.getElem_mem jf))
    obtain⟨P,hP,f1,_⟩:=TK _ hp.2.2.1 hp.2.2.2
    have f3 (x y:List Int) (u:Unit):=count_eq P.1 P.2.1 x y u hP
    have f4 (x y:List Int) (u:Unit):=Wh.Ci _ _ (f3 x y u)
    cases hh:((s.2.2.2.1.2.1.getD k z0).1 != (s.2.2.2.2.1.1.getD i zF).1) with
    |true=>
     unfold zF at ed hw he hh ⊢
     simp only[Wh.Az,gl hi,g0,Int.toNat_natCast,ed,Wh.DJ _ _ ed,hw,he,hh,edI,Option.isSome,nQ,Bool.not_true,Bool.not_false,Bool.true_or,Bool.or_true,Bool.and_true,iy,Bool.and_self,cond_true,cond_false,if_true]
    |false=>
     have hc:G_ ((s.2.2.2.1.2.1.getD k z0).2.2.2.1.length:Int)=Ad P.1 P.2.1:=by rw[G_,Wh.Ly _ _ f1]
     unfold zF at ed hw he hh ⊢
     simp only[hc,Wh.Az,gl hi,g0,Int.toNat_natCast,ed,Wh.DJ _ _ ed,hw,he,hh,f1,Wh.Ly _ _ f1,f3,f4,edI,Option.isSome,nQ,Bool.not_true,Bool.not_false,Bool.or_true,iy,Bool.and_self,cond_true,cond_false,w]
     cases decide ((s.2.2.2.2.1.1.getD i ((0:Int),(0:Int),(0:Int),(0:Int),false,())).2.2.1≥Ad P.1 P.2.1)<;>rfl
theorem Sa (c:Ct) (I:yG c) (l:List Fr) (i:Nat) (hi:i<l.length) (hl:l.length≤9999999) (hok:okF (l.getD i zF)=true) :
  Wh.Ay (((i:Int),(),l,(l.length:Int)),c)=if B7 c (l.getD i zF)=true then some (.inr (.inl (false,()))) else some (.inl ((((i+1:Nat):Int),(),l,(l.length:Int)),c)):=by
 have bI:c.2.1.length≤8:=I.len
 have ed:=R_ c (l.getD i zF).2.1 (by omega)
 have w:=lg (show i≤4611686018427387904 by omega)
 unfold B7
 cases hz:((l.getD i zF).2.1==0) with
 |true=>
  have h0:(l.getD i zF).2.1=0:=eq_of_beq hz
  have hw:decide ((l.getD i zF).2.2.2.1>0)=false:=by
   unfold okF at hok
   rw[hz,cond_true] at hok
   simp only[Bool.and_eq_true,beq_iff_eq] at hok
   exact decide_eq_false (by omega)
  have he:decide ((l.getD i zF).2.1>0)=false:=decide_eq_false (by omega)
  rw[hw,he]
  unfold zF at hz ⊢
  simp only[Wh.Ay,gl hi,g0,Int.toNat_natCast,hz,iy,Bool.and_self,cond_true,cond_false,w]
  rfl
 |false=>
  have he:decide ((l.getD i zF).2.1>0)=true:=by
   unfold okF at hok
   rw[hz,cond_false] at hok
   simp only[Bool.and_eq_true,nI,decide_eq_true_iff] at hok
   exact decide_eq_true (by omega)
  rw[he]
  cases hw:decide ((l.getD i zF).2.2.2.1>0) with
  |true=>
   unfold zF at ed hz hw ⊢
   simp only[Wh.Ay,gl hi,g0,Int.toNat_natCast,hz,ed,Wh.EW _ _ ed,hw,nQ,Bool.not_true,Bool.not_false,Bool.true_or,iy,Bool.and_self,cond_true,cond_false,if_true]
  |false=>
   cases hk:zQ c.2.1 (l.getD i zF).2.1 with
   |none=>
    rw[hk] at ed
    unfold zF at ed hz hw ⊢
    simp only[Wh.Ay,gl hi,g0,Int.toNat_natCast,hz,ed,Wh.EW _ _ ed,hw,NB,nQ,Bool.not_true,Bool.not_false,Bool.true_or,iy,Bool.and_self,cond_true,cond_false,if_true]
   |some k=>
    rw[hk] at ed
    have jf:=NI hk
    have hp:=Le (I.ok (c.2.1.getD k z0) (by rw[getD_eq _ _ _ jf];exact List.getElem_mem jf))
    obtain⟨P,hP,f0,f1⟩:=TK _ hp.2.2.1 hp.2.2.2
    have f3 (x y:List Int) (u:Unit):Wh.CD (P.1,P.2.1,x,y,u)=_:=count_eq P.1 P.2.1 x y u hP
    have f4 (x y:List Int) (u:Unit):=Wh.q21_v _ _ (f3 x y u)
    have ed':Wh.Cs (c,(l.getD i zF).2.1)=some ((k:Int),()):=ed
    have e1:decide ((k:Int)<0)=false:=decide_eq_false (by omega)
    cases hh:((c.2.1.getD k z0).1 != (l.getD i zF).1) with
    |true=>
     unfold zF at ed' hz hw hh ⊢
     unfold z0 at hh ⊢
     simp only[Wh.Ay,gl hi,gl jf,g0,Int.toNat_natCast,hz,ed',Wh.EW _ _ ed',hw,hh,e1,nQ,Bool.not_true,Bool.not_false,Bool.true_or,Bool.or_true,iy,Bool.and_self,cond_true,cond_false,if_true]
    |false=>
     have hc:G_ ((c.2.1.getD k z0).2.2.2.1.length:Int)=Ad P.1 P.2.1:=by rw[G_,Wh.Ly _ _ f0]
     unfold zF at ed' hz hw hh ⊢
     have hh2:=hh
     unfold z0 at hh2 f1
     simp only[hc,hh2,Wh.Ay,gl hi,gl jf,g0,Int.toNat_natCast,hz,ed',Wh.EW _ _ ed',hw,hh,e1,f1,Wh.q77_v _ _ f1,f3,f4,nQ,Bool.not_true,Bool.not_false,Bool.or_true,iy,Bool.and_self,cond_true,cond_false,w]
     cases decide ((l.getD i ((0:Int),(0:Int),(0:Int),(0:Int),false,())).2.2.1≥Ad P.1 P.2.1)<;>rfl
abbrev Bu:Type:=Int×Int×Int×Int×Unit
def Ee (b:Bu):Bool:=nI b.2.1 0 99999&&nI b.1 0 b.2.1&&nI b.2.2.1 0 99999&&nI b.2.2.2.1 0 99999
theorem Vz (b:Bu):Wh.q69 b=some (Ee b,()):=by
 unfold Ee
 simp only[Wh.q69,AK,Wh.za _ _ (AK _ _ _),nQ,Bool.or_true,iy,Bool.and_self,cond_true]
 cases nI b.2.1 0 99999<;>cases nI b.1 0 b.2.1<;>cases nI b.2.2.1 0 99999<;>cases nI b.2.2.2.1 0 99999<;>rfl
theorem R7 (b:Bu):Wh.q47 b=some (Ee b,()):=by
 unfold Ee
 simp only[Wh.q47,yW,Wh.zi _ _ (yW _ _ _),nQ,Bool.or_true,iy,Bool.and_self,cond_true]
 cases nI b.2.1 0 99999<;>cases nI b.1 0 b.2.1<;>cases nI b.2.2.1 0 99999<;>cases nI b.2.2.2.1 0 99999<;>rfl
def zB:Bu:=((0:Int),(0:Int),(0:Int),(0:Int),())
def B6 (now:Int) (b:Bu):Bool:=bif bif bif !Ee b then true else b.2.1 != 40 then true else b.2.2.1 != 8 then true else decide (b.2.2.2.1>now)
theorem Vy (s:cx.D) (i:Nat) (hi:i<s.2.2.2.2.2.1.length) (hl:s.2.2.2.2.2.1.length≤9999999) :
  Wh.CN (((i:Int),()),s)=if B6 s.2.1 (s.2.2.2.2.2.1.getD i zB)=true then some (.inr (.inl (false,()))) else some (.inl ((((i+1:Nat):Int),()),s)):=by
 have w:=lg (show i≤4611686018427387904 by omega)
 unfold B6 zB
 simp only[Wh.CN,gl hi,g0,Int.toNat_natCast,Vz,Wh.q69_v _ _ (Vz _),nQ,iy,Bool.and_self,cond_true,w]
 generalize (bif bif bif !Ee _ then true else _ then true else _ then true else _)=b
 cases b<;>rfl
theorem R6 (s:cx.D) (l:List Bu) (i:Nat) (hi:i<l.length) (hl:l.length≤9999999) :
  Wh.CM (((i:Int),(),l,(l.length:Int)),s)=if B6 s.2.1 (l.getD i zB)=true then some (.inr (.inl (false,()))) else some (.inl ((((i+1:Nat):Int),(),l,(l.length:Int)),s)):=by
 have w:=lg (show i≤4611686018427387904 by omega)
 unfold B6 zB
 simp only[Wh.CM,gl hi,g0,Int.toNat_natCast,R7,Wh.q47_v _ _ (R7 _),nQ,iy,Bool.and_self,cond_true,w]
 generalize (bif bif bif !Ee _ then true else _ then true else _ then true else _)=b
 cases b<;>rfl
end Pl
open Go Go.Ab Go.Lib
namespace Pl
abbrev Sv:Type:=Int×Int×Int×Int×Int×Int×Unit
def zS:Sv:=((0:Int),(0:Int),(0:Int),(0:Int),(0:Int),(0:Int),())
def He (l:List Sv) (i:Nat) (c:Int):Bool:=match i with
 |0=>false
 |m+1=>decide ((l.getD m zS).1≥c)
def GQ (c:Ct) (s:Sv):Bool:=bif(zQ c.2.1 s.2.2.1).isSome then(edI c.2.1 (zQ c.2.1 s.2.2.1)).1 != Int.tmod s.1 2 else false
def Bf (c:Ct) (now:Int) (l:List Sv) (i:Nat):Bool:=
 ((((((!nI (l.getD i zS).1 0 3 || He l i (l.getD i zS).1) || !nI (l.getD i zS).2.1 1 99999) || !nI (l.getD i zS).2.2.1 1 c.1) || !nI (l.getD i zS).2.2.2.1 0 9999) || !nI (l.getD i zS).2.2.2.2.1 0 3) || !nI (l.getD i zS).2.2.2.2.2.1 0 now) || GQ c (l.getD i zS)
theorem Ko (a b:Bool):(bif a then true else b)=(a || b):=by cases a<;>rfl
theorem VF (s:cx.D) (hc:s.2.2.2.1.2.1.length≤9999999) (i:Nat) (hi:i<s.2.2.2.2.2.2.1.length) (hl:s.2.2.2.2.2.2.1.length≤9999999) :
  Wh.BJ (((i:Int),()),s)=if Bf s.2.2.2.1 s.2.1 s.2.2.2.2.2.2.1 i=true then some (.inr (.inl (false,()))) else some (.inl ((((i+1:Nat):Int),()),s)):=by
 have w:=lg (show i≤4611686018427387904 by omega)
 have ed:=VC s.2.2.2.1 (s.2.2.2.2.2.2.1.getD i zS).2.2.1 hc
 have hh (x:Int):Wh.q71 x=some (Int.tmod x 2,()):=rfl
 have fin (A B:Bool) (X Y:Option ((((Int)×(Unit))×((cx.D)))⊕((((Bool))×(Unit))⊕((Unit)×(Unit))))):(bif A then X else bif B then X else Y)=if(A || B)=true then X else Y:=by cases A<;>cases B<;>rfl
 rcases Nat.eq_zero_or_pos i with h0|h0
 ·subst h0
  have d1:decide (((0:Nat):Int)>0)=false:=rfl
  unfold Bf GQ He
  unfold zS at ed ⊢
  simp only[Wh.BJ,gl hi,g0,Int.toNat_natCast,AK,Wh.za _ _ (AK _ _ _),ed,Wh.DJ _ _ ed,hh,Wh.Qy _ _ (hh _),d1,Ko,nQ,Bool.or_true,Bool.false_and,Bool.not_false,Bool.true_or,Bool.or_false,iy,Bool.and_self,cond_true,cond_false,w]
  exact fin _ _ _ _
 ·obtain⟨m,rfl⟩:∃m,i=m+1:=⟨i-1,by omega⟩
  have d1:decide (((m+1:Nat):Int)>0)=true:=decide_eq_true (by omega)
  have w1:IntKind.wrap .i64 (((m+1:Nat):Int)-1)=(m:Int):=wi (by omega) (by omega)
  unfold Bf GQ He
  unfold zS at ed ⊢
  simp only[Wh.BJ,gl hi,gl (show m<s.2.2.2.2.2.2.1.length by omega),g0,Int.toNat_natCast,w1,AK,Wh.za _ _ (AK _ _ _),ed,Wh.DJ _ _ ed,hh,Wh.Qy _ _ (hh _),d1,Ko,nQ,Bool.or_true,iy,Bool.and_self,cond_true,w]
  exact fin _ _ _ _
theorem Kw (n:Int):Wh.q51 n=some (nI n 0 3,()):=by simp only[Wh.q51,yW,Wh.zi _ _ (yW _ _ _),nQ,iy,cond_true]
theorem Sd (s:cx.D) (hc:s.2.2.2.1.2.1.length≤9999999) (i:Nat) (hi:i<s.2.2.2.2.2.2.1.length) (hl:s.2.2.2.2.2.2.1.length≤9999999) :
  Wh.BK (((i:Int),(),s.2.2.2.2.2.2.1,(s.2.2.2.2.2.2.1.length:Int)),s)=if Bf s.2.2.2.1 s.2.1 s.2.2.2.2.2.2.1 i=true then some (.inr (.inl (false,()))) else some (.inl ((((i+1:Nat):Int),(),s.2.2.2.2.2.2.1,(s.2.2.2.2.2.2.1.length:Int)),s)):=by
 have w:=lg (show i≤4611686018427387904 by omega)
 have ed:=R_ s.2.2.2.1 (s.2.2.2.2.2.2.1.getD i zS).2.2.1 hc
 have hh (x:Int):Wh.q79 x=some (Int.tmod x 2,()):=rfl
 have he:∃v,AH (zQ s.2.2.2.1.2.1 (s.2.2.2.2.2.2.1.getD i zS).2.2.1)=v∧decide (v≥0)=(zQ s.2.2.2.1.2.1 (s.2.2.2.2.2.2.1.getD i zS).2.2.1).isSome∧(!decide (v≥0) || decide (0≤v))=true∧(!decide (v≥0) || decide (v<(s.2.2.2.1.2.1.length:Int)))=true ∧
   (bif decide (v≥0) then(s.2.2.2.1.2.1.getD (Int.toNat v) z0).1 != Int.tmod (s.2.2.2.2.2.2.1.getD i zS).1 2 else false)=GQ s.2.2.2.1 (s.2.2.2.2.2.2.1.getD i zS):=by
  unfold GQ
  cases e:zQ s.2.2.2.1.2.1 (s.2.2.2.2.2.2.1.getD i zS).2.2.1 with
  |none=>exact⟨-1,rfl,rfl,rfl,rfl,rfl⟩
  |some k=>
   have:=NI e
   have d:decide ((k:Int)≥0)=true:=decide_eq_true (by omega)
   refine⟨(k:Int),rfl,d,by rw[g0,Bool.or_true],by rw[gl this,Bool.or_true],?_⟩
   rw[d];rfl
 obtain⟨v,hv,_,A0,hv3,hv4⟩:=he
 rw[hv] at ed
 have fin (A B C D:Bool) (X Y:Option ((((Int)×(Unit)×(List (fN.D))×(Int))×((cx.D)))⊕((((Bool))×(Unit))⊕((Unit)×(Unit))))) (h:(A || (B || C))=D):(bif A then X else bif B then X else bif C then X else Y)=if D=true then X else Y:=by subst h;cases A<;>cases B<;>cases C<;>rfl
 have bool8 (a b c d e f g h:Bool):((((b || !a) || !c) || !d) || (h || ((!e || !f) || !g)))=(((((((!a || b) || !c) || !d) || !e) || !f) || !g) || h):=by
  cases a<;>cases b<;>cases c<;>cases d<;>cases e<;>cases f<;>cases g<;>cases h<;>rfl
 have bool7 (a c d e f g h:Bool):(((!a || !c) || !d) || (h || ((!e || !f) || !g)))=((((((!a || !c) || !d) || !e) || !f) || !g) || h):=by
  cases a<;>cases c<;>cases d<;>cases e<;>cases f<;>cases g<;>cases h<;>rfl
 rcases Nat.eq_zero_or_pos i with h0|h0
 ·subst h0
  have d1:decide (((0:Nat):Int)>0)=false:=rfl
  unfold Bf He
  unfold z0 at hv4
  unfold zS at ed hv4 ⊢
  simp only[Wh.BK,gl hi,g0,Int.toNat_natCast,Kw,Wh.Qg _ _ (Kw _),yW,Wh.zi _ _ (yW _ _ _),ed,Wh.EW _ _ ed,hh,Wh.QF _ _ (hh _),A0,hv3,hv4,d1,nQ,Bool.or_true,Bool.not_false,Bool.true_or,Bool.or_false,iy,Bool.and_self,cond_true,cond_false,w]
  refine fin _ _ _ _ _ _ ?_
  simp only[Ko]
  exact bool7 _ _ _ _ _ _ _
 ·obtain⟨m,rfl⟩:∃m,i=m+1:=⟨i-1,by omega⟩
  have d1:decide (((m+1:Nat):Int)>0)=true:=decide_eq_true (by omega)
  have w1:IntKind.wrap .i64 (((m+1:Nat):Int)-1)=(m:Int):=wi (by omega) (by omega)
  unfold Bf He
  unfold z0 at hv4
  unfold zS at ed hv4 ⊢
  simp only[Wh.BK,gl hi,gl (show m<s.2.2.2.2.2.2.1.length by omega),g0,Int.toNat_natCast,w1,Kw,Wh.Qg _ _ (Kw _),yW,Wh.zi _ _ (yW _ _ _),ed,Wh.EW _ _ ed,hh,Wh.QF _ _ (hh _),A0,hv3,hv4,d1,nQ,Bool.or_true,iy,Bool.and_self,cond_true,w]
  refine fin _ _ _ _ _ _ ?_
  simp only[Ko]
  exact bool8 _ _ _ _ _ _ _ _
noncomputable def r_ (s:cx.D):List (List UInt8)×Nat:=As hash s.2.2.1
noncomputable def KD (s:cx.D):Bool:=(s.2.2.2.1.2.1.length==0&&s.2.2.2.1.1==0&&s.2.2.2.2.1.1.length==0&&s.2.2.2.2.1.2.1==0&&s.2.2.2.2.2.1.length==0&&s.2.2.2.2.2.2.1.length==0)
noncomputable def GU (s:cx.D):Bool:=jS s.2.2.2.2.1.1.length (fun i=> !B7 s.2.2.2.1 (s.2.2.2.2.1.1.getD i zF))
noncomputable def ND (s:cx.D):Bool:=jS s.2.2.2.2.2.1.length (fun i=> !B6 s.2.1 (s.2.2.2.2.2.1.getD i zB))
noncomputable def HI (s:cx.D):Bool:=jS s.2.2.2.2.2.2.1.length (fun i=> !Bf s.2.2.2.1 s.2.1 s.2.2.2.2.2.2.1 i)
noncomputable def upV (s:cx.D):Bool:=(r_ s).2==s.2.2.1.length&&(decide ((yH (r_ s).1).1=s.2.2.2.1)&&(Bw s.2.2.2.2.1&&(s.2.2.2.2.2.1.length==2&&(HI s&&(GU s&&ND s)))))
noncomputable def okV (s:cx.D):Bool:=nI s.2.1 0 99999&&(decide (s.2.2.1.length≤9000)&&((yH (r_ s).1).2&&(bif s.1 then upV s else KD s)))
theorem Ku {l:List (List UInt8)} (h:(yH l).2=true):yG (yH l).1:=by
 unfold yH at h ⊢
 cases e:Ac (0,[],()) l with
 |none=>rw[e] at h;cases h
 |some c=>exact Rz l _ c Kr e
theorem abT (s:cx.D) (hc:s.2.2.2.1.2.1.length≤9999999) (hl:s.2.2.2.2.2.2.1.length≤9999999):Wh.q44 s=some (HI s,()):=by
 have q:=zO (r:=Wh.BJ) (fun i=>(((i:Int),()),s)) (n:=s.2.2.2.2.2.2.1.length) (p:=fun i=> !Bf s.2.2.2.1 s.2.1 s.2.2.2.2.2.2.1 i) (yf:=.inl (false,())) (yt:=.inr ((),())) (fun i hi _ hp=>by
   rw[VF s hc i hi hl,if_neg (by simpa using hp)]) (fun i hi _ hp=>by
   rw[VF s hc i hi hl,if_pos (by simpa using hp)]) (by
   have d1:decide ((s.2.2.2.2.2.2.1.length:Int)<(s.2.2.2.2.2.2.1.length:Int))=false:=decide_eq_false (by omega)
   simp only[Wh.BJ,d1,cond_false])
 have q':Comes Wh.BJ ((0,()),s) _:=q
 simp only[Wh.q44,cb q',cv q',cond_true]
 unfold HI
 cases jS s.2.2.2.2.2.2.1.length (fun i=> !Bf s.2.2.2.1 s.2.1 s.2.2.2.2.2.2.1 i)<;>rfl
theorem LS (s:cx.D) (h:s.2.2.1.length≤9999999):(r_ s).1.length≤9999999∧∀r∈(r_ s).1,r.length≤9999999:=by
 obtain⟨h1,h2,h3⟩:=vQ hash Ao (s.2.2.1.length+1) s.2.2.1 0
 refine⟨?_,fun r hr=>?_⟩
 ·change (eE hash (s.2.2.1.length+1) s.2.2.1 0).1.length≤9999999;omega
 ·have:=h3 r hr;omega
theorem abZ (s:cx.D) (S:zc s):Wh.q70 s=some (okV s,()):=by
 have Ap:=S.log
 have hbk:=S.B5
 have hsv:=S.CV
 have hfr:s.2.2.2.2.1.1.length≤1048576:=S.Ch
 have hct:s.2.2.2.1.2.1.length≤1048576:=S.cat
 have a:=Sp s.2.2.1 (by omega)
 obtain⟨r1,r2⟩:=LS s (by omega)
 have b:=VB (r_ s).1 r1 r2
 unfold okV
 change Wh.A7 s.2.2.1=some (((r_ s).1,((r_ s).2:Int)),()) at a
 have hle:decide ((s.2.2.1.length:Int)>9000) = !decide (s.2.2.1.length≤9000):=by
  by_cases h:s.2.2.1.length≤9000
  ·rw[decide_eq_true h,decide_eq_false (by omega)];rfl
  ·rw[decide_eq_false h,decide_eq_true (by omega)];rfl
 have Dd (x y:Nat):((x:Int)==(y:Int))=(x==y):=by rw[Bool.eq_iff_iff,beq_iff_eq,beq_iff_eq];omega
 have Ol (x:Nat):((x:Int)==0)=(x==0):=Dd x 0
 have Om (x:Nat):((x:Int) != 2) = !(x==2):=by rw[←Dd x 2];rfl
 simp only[Wh.q70,AK,Wh.za _ _ (AK _ _ _),hle,nQ,iy,cond_true]
 cases nI s.2.1 0 99999 with
 |false=>rfl
 |true=>
 cases decide (s.2.2.1.length≤9000) with
 |false=>rfl
 |true=>
 simp only[Bool.not_true,cond_false,Bool.true_and]
 cases cS:s.1 with
 |false=>
  have sy:Wh.q97 s=some ((yH (r_ s).1).2,()):=by
   simp only[Wh.q97,a,Wh.Ll _ _ a,b,Wh.Lt _ _ b,nQ,iy,cond_true]
  simp only[Bool.not_false,cond_true,cond_false,sy,Wh.q97_v _ _ sy,Bool.or_true,Ol,KD]
  congr 2
  cases (yH (r_ s).1).2<;>cases (s.2.2.2.1.2.1.length==0)<;>cases (s.2.2.2.1.1==0)<;>cases (s.2.2.2.2.1.1.length==0)<;>cases (s.2.2.2.2.1.2.1==0)<;>cases (s.2.2.2.2.2.1.length==0)<;>cases (s.2.2.2.2.2.2.1.length==0)<;>rfl
 |true=>
  have sm:=ab4 (yH (r_ s).1).1 s.2.2.2.1
  have po:=ab1 s.2.2.2.2.1 (by omega)
  have sv:=abT s (by omega) (by omega)
  have e1:(((r_ s).2:Int) != (s.2.2.1.length:Int)) = !((r_ s).2==s.2.2.1.length):=by rw[←Dd];rfl
  simp only[Bool.not_true,cond_false,cond_true,a,Wh.Ll _ _ a,b,Wh.Lt _ _ b,po,Wh.Ub _ _ po,sv,Wh.q44_v _ _ sv,Bool.or_true,e1,Om]
  unfold upV
  cases hcat:(yH (r_ s).1).2 with
  |false=>simp only[Bool.not_false,cond_true,Bool.not_true,Bool.true_or,Bool.and_self,Bool.false_and]
  |true=>
  cases hrd:((r_ s).2==s.2.2.1.length) with
  |false=>simp only[Bool.not_false,cond_true,cond_false,Bool.not_true,Bool.true_or,Bool.and_self,Bool.false_and,Bool.and_false]
  |true=>
  have I:=Ku hcat
  have hI:=I.len
  have sm':=sm (by omega)
  simp only[sm',Wh.q96_v _ _ sm',Bool.not_true,Bool.not_false,cond_false,cond_true,Bool.or_true,Bool.true_and,Bool.and_self]
  by_cases hsame:(yH (r_ s).1).1=s.2.2.2.1
  ·rw[decide_eq_true hsame]
   rw[hsame] at I
   cases hpo:Bw s.2.2.2.2.1 with
   |false=>rfl
   |true=>
   cases bZ:(s.2.2.2.2.2.1.length==2) with
   |false=>rfl
   |true=>
   cases hsr:HI s with
   |false=>rfl
   |true=>
    simp only[Bool.not_true,cond_false,Bool.true_and]
    have q:=zO (r:=Wh.Az) (fun i=>(((i:Int),()),s)) (n:=s.2.2.2.2.1.1.length) (p:=fun i=> !B7 s.2.2.2.1 (s.2.2.2.2.1.1.getD i zF)) (yf:=.inl (false,())) (yt:=.inr ((),s)) (fun i hi _ hp=>by
      rw[VD s I i hi (by omega),if_neg (by simpa using hp)]) (fun i hi _ hp=>by
      rw[VD s I i hi (by omega),if_pos (by simpa using hp)]) (by
      have d1:decide ((s.2.2.2.2.1.1.length:Int)<(s.2.2.2.2.1.1.length:Int))=false:=decide_eq_false (by omega)
      simp only[Wh.Az,d1,cond_false])
    have q':Comes Wh.Az ((0,()),s) _:=q
    have q2:=zO (r:=Wh.CN) (fun i=>(((i:Int),()),s)) (n:=s.2.2.2.2.2.1.length) (p:=fun i=> !B6 s.2.1 (s.2.2.2.2.2.1.getD i zB)) (yf:=.inl (false,())) (yt:=.inr ((),())) (fun i hi _ hp=>by
      rw[Vy s i hi (by omega),if_neg (by simpa using hp)]) (fun i hi _ hp=>by
      rw[Vy s i hi (by omega),if_pos (by simpa using hp)]) (by
      have d1:decide ((s.2.2.2.2.2.1.length:Int)<(s.2.2.2.2.2.1.length:Int))=false:=decide_eq_false (by omega)
      simp only[Wh.CN,d1,cond_false])
    have CC:Comes Wh.CN ((0,()),s) _:=q2
    simp only[cb q',cv q',cond_true]
    unfold GU ND
    cases hf:jS s.2.2.2.2.1.1.length (fun i=> !B7 s.2.2.2.1 (s.2.2.2.2.1.1.getD i zF)) with
    |false=>simp[sumC]
    |true=>
     simp only[if_true,sumC,cb CC,cv CC,cond_true,Bool.true_and]
     cases hb:jS s.2.2.2.2.2.1.length (fun i=> !B6 s.2.1 (s.2.2.2.2.2.1.getD i zB))<;>rfl
  ·rw[decide_eq_false hsame];rfl
theorem Wj (s:cx.D) (I:yG s.2.2.2.1) (hp:s.2.2.2.2.1.1.length≤9999999):Wh.q53 (s.2.2.2.2.1,s.2.2.2.1)=some (Bw s.2.2.2.2.1&&GU s,()):=by
 have a:=W_ s.2.2.2.2.1 hp
 cases hv:Bw s.2.2.2.2.1 with
 |false=>
  rw[hv] at a
  simp only[Wh.q53,a,Wh.OM _ _ a,nQ,iy,cond_true,Bool.not_false,Bool.false_and]
 |true=>
  have hok:∀i,i<s.2.2.2.2.1.1.length→okF (s.2.2.2.2.1.1.getD i zF)=true:=by
   unfold Bw at hv
   simp only[Bool.and_eq_true,beq_iff_eq] at hv
   intro i hi
   have:=oL.1 hv.2.1 i (by omega)
   unfold z6 at this
   rw[Bool.and_eq_true] at this
   exact this.1
  rw[hv] at a
  have q:=zO (r:=Wh.Ay) (fun i=>(((i:Int),(),s.2.2.2.2.1.1,(s.2.2.2.2.1.1.length:Int)),s.2.2.2.1)) (n:=s.2.2.2.2.1.1.length) (p:=fun i=> !B7 s.2.2.2.1 (s.2.2.2.2.1.1.getD i zF)) (yf:=.inl (false,())) (yt:=.inr ((),())) (fun i hi _ hp=>by
    rw[Sa s.2.2.2.1 I _ i hi (by omega) (hok i hi),if_neg (by simpa using hp)]) (fun i hi _ hp=>by
    rw[Sa s.2.2.2.1 I _ i hi (by omega) (hok i hi),if_pos (by simpa using hp)]) (by
    have d1:decide ((s.2.2.2.2.1.1.length:Int)<(s.2.2.2.2.1.1.length:Int))=false:=decide_eq_false (by omega)
    simp only[Wh.Ay,d1,cond_false])
  have q':Comes Wh.Ay ((0,(),s.2.2.2.2.1.1,(s.2.2.2.2.1.1.length:Int)),s.2.2.2.1) _:=q
  simp only[Wh.q53,a,Wh.OM _ _ a,nQ,iy,cond_true,cond_false,Bool.not_true,Bool.true_and,cb q',cv q']
  unfold GU
  cases jS s.2.2.2.2.1.1.length (fun i=> !B7 s.2.2.2.1 (s.2.2.2.2.1.1.getD i zF))<;>rfl
theorem W8 (s:cx.D) (S:zc s):Wh.q50 s=some (okV s,()):=by
 have Ap:=S.log
 have hbk:=S.B5
 have hsv:=S.CV
 have hfr:s.2.2.2.2.1.1.length≤1048576:=S.Ch
 have hct:s.2.2.2.1.2.1.length≤1048576:=S.cat
 have a:=Rn s.2.2.1 (by omega)
 obtain⟨r1,r2⟩:=LS s (by omega)
 have b:=R9 (r_ s).1 r1 r2
 unfold okV
 change Wh.BN s.2.2.1=some (((r_ s).1,((r_ s).2:Int)),()) at a
 have hle:decide ((s.2.2.1.length:Int)>9000) = !decide (s.2.2.1.length≤9000):=by
  by_cases h:s.2.2.1.length≤9000
  ·rw[decide_eq_true h,decide_eq_false (by omega)];rfl
  ·rw[decide_eq_false h,decide_eq_true (by omega)];rfl
 have Dd (x y:Nat):((x:Int)==(y:Int))=(x==y):=by rw[Bool.eq_iff_iff,beq_iff_eq,beq_iff_eq];omega
 have Ol (x:Nat):((x:Int)==0)=(x==0):=Dd x 0
 have Om (x:Nat):((x:Int) != 2) = !(x==2):=by rw[←Dd x 2];rfl
 simp only[Wh.q50,yW,Wh.zi _ _ (yW _ _ _),hle,nQ,iy,cond_true]
 cases nI s.2.1 0 99999 with
 |false=>rfl
 |true=>
 cases decide (s.2.2.1.length≤9000) with
 |false=>rfl
 |true=>
 simp only[Bool.not_true,cond_false,Bool.true_and,a,Wh.QC _ _ a,b,Wh.Pj _ _ b,cond_true]
 cases hcat:(yH (r_ s).1).2 with
 |false=>rfl
 |true=>
 simp only[Bool.not_true,cond_false,Bool.true_and]
 cases cS:s.1 with
 |false=>
  simp only[Bool.not_false,cond_true,cond_false,Ol,KD]
  congr 2
  cases (s.2.2.2.1.2.1.length==0)<;>cases (s.2.2.2.1.1==0)<;>cases (s.2.2.2.2.1.1.length==0)<;>cases (s.2.2.2.2.1.2.1==0)<;>cases (s.2.2.2.2.2.1.length==0)<;>cases (s.2.2.2.2.2.2.1.length==0)<;>rfl
 |true=>
  have I:=Ku hcat
  have hI:=I.len
  have sm:=Xc (yH (r_ s).1).1 s.2.2.2.1 (by omega)
  have e1:(((r_ s).2:Int) != (s.2.2.1.length:Int)) = !((r_ s).2==s.2.2.1.length):=by rw[←Dd];rfl
  simp only[Bool.not_true,cond_false,cond_true,sm,Wh.q82_v _ _ sm,Bool.or_true,e1,Om]
  unfold upV
  cases hrd:((r_ s).2==s.2.2.1.length) with
  |false=>simp only[Bool.not_false,cond_true,Bool.not_true,Bool.true_or,Bool.and_self,Bool.false_and]
  |true=>
  by_cases hsame:(yH (r_ s).1).1=s.2.2.2.1
  ·rw[decide_eq_true hsame]
   rw[hsame] at I
   have fi:=Wj s I (by omega)
   simp only[fi,Wh.q53_v _ _ fi,Bool.not_true,cond_false,Bool.or_true,Bool.and_self,cond_true,Bool.true_and]
   cases hpo:Bw s.2.2.2.2.1 with
   |false=>rfl
   |true=>
   cases hfi:GU s with
   |false=>simp only[Bool.and_false,Bool.not_false,cond_true,Bool.false_and]
   |true=>
   cases bZ:(s.2.2.2.2.2.1.length==2) with
   |false=>rfl
   |true=>
    simp only[Bool.not_true,cond_false,Bool.true_and,Bool.and_self]
    have q:=zO (r:=Wh.CM) (fun i=>(((i:Int),(),s.2.2.2.2.2.1,(s.2.2.2.2.2.1.length:Int)),s)) (n:=s.2.2.2.2.2.1.length) (p:=fun i=> !B6 s.2.1 (s.2.2.2.2.2.1.getD i zB)) (yf:=.inl (false,())) (yt:=.inr ((),s)) (fun i hi _ hp=>by
      rw[R6 s _ i hi (by omega),if_neg (by simpa using hp)]) (fun i hi _ hp=>by
      rw[R6 s _ i hi (by omega),if_pos (by simpa using hp)]) (by
      have d1:decide ((s.2.2.2.2.2.1.length:Int)<(s.2.2.2.2.2.1.length:Int))=false:=decide_eq_false (by omega)
      simp only[Wh.CM,d1,cond_false])
    have q':Comes Wh.CM ((0,(),s.2.2.2.2.2.1,(s.2.2.2.2.2.1.length:Int)),s) _:=q
    have q2:=zO (r:=Wh.BK) (fun i=>(((i:Int),(),s.2.2.2.2.2.2.1,(s.2.2.2.2.2.2.1.length:Int)),s)) (n:=s.2.2.2.2.2.2.1.length) (p:=fun i=> !Bf s.2.2.2.1 s.2.1 s.2.2.2.2.2.2.1 i) (yf:=.inl (false,())) (yt:=.inr ((),())) (fun i hi _ hp=>by
      rw[Sd s (by omega) i hi (by omega),if_neg (by simpa using hp)]) (fun i hi _ hp=>by
      rw[Sd s (by omega) i hi (by omega),if_pos (by simpa using hp)]) (by
      have d1:decide ((s.2.2.2.2.2.2.1.length:Int)<(s.2.2.2.2.2.2.1.length:Int))=false:=decide_eq_false (by omega)
      simp only[Wh.BK,d1,cond_false])
    have CC:Comes Wh.BK ((0,(),s.2.2.2.2.2.2.1,(s.2.2.2.2.2.2.1.length:Int)),s) _:=q2
    simp only[cb q',cv q',cond_true]
    unfold ND HI
    cases hf:jS s.2.2.2.2.2.1.length (fun i=> !B6 s.2.1 (s.2.2.2.2.2.1.getD i zB)) with
    |false=>simp[sumC]
    |true=>
     simp only[if_true,sumC,cb CC,cv CC,cond_true,Bool.and_true]
     cases hb:jS s.2.2.2.2.2.2.1.length (fun i=> !Bf s.2.2.2.1 s.2.1 s.2.2.2.2.2.2.1 i)<;>rfl
  ·rw[decide_eq_false hsame];rfl
end Pl
open Go Go.Ab
namespace Pl
section
variable {α:Type} (yC:α→Int→α) (n1:α→Nat)
def n5:List α→Int→List α
 | [],_=>[]
 |a::l,k=>yC a k::n5 l (k+n1 a)
def nc (l:List α):Nat:=(l.map n1).sum
def ks (k:Int) (l:List α) (i:Nat):Int:=k+(nc n1 (l.take i):Nat)
def part (k:Int) (l:List α) (i:Nat):List α:=n5 yC n1 (l.take i) k++l.drop i
theorem zg:∀(l:List α) (k:Int),(n5 yC n1 l k).length=l.length
 | [],_=>rfl
 |_::l,k=>by simp[n5,zg l]
theorem Ok:∀(p q:List α) (k:Int),n5 yC n1 (p++q) k=n5 yC n1 p k++n5 yC n1 q (k+(nc n1 p:Nat))
 | [],q,k=>by simp[n5,nc]
 |a::p,q,k=>by
  simp only[List.cons_append,n5,Ok p q,nc,List.map_cons,List.sum_cons]
  rw[show k+(n1 a:Int)+((p.map n1).sum:Nat)=k+((n1 a+(p.map n1).sum:Nat):Int) by omega]
theorem ab8 (l:List α) (i:Nat) (h:i<l.length):l=l.take i++l[i]::l.drop (i+1):=by
 rw[List.getElem_cons_drop,List.take_append_drop]
theorem VH (l:List α) (i:Nat) (h:i<l.length):l.take (i+1)=l.take i ++ [l[i]]:=by
 rw[List.take_add_one,List.getElem?_eq_getElem h];rfl
theorem Db (k:Int) (l:List α):ks n1 k l 0=k:=by simp[ks,nc]
theorem B_ (k:Int) (l:List α) (i:Nat) (h:i<l.length):ks n1 k l (i+1)=ks n1 k l i+n1 l[i]:=by
 simp only[ks,VH l i h,nc,List.map_append,List.sum_append,List.map_cons,List.map_nil,List.sum_cons,List.sum_nil]
 omega
theorem C_ (k:Int) (l:List α):ks n1 k l l.length=k+(nc n1 l:Nat):=by simp[ks]
theorem B9 (k:Int) (l:List α) (i:Nat):k≤ks n1 k l i∧ks n1 k l i≤k+(nc n1 l:Nat):=by
 have:nc n1 (l.take i)≤nc n1 l:=by
  have e:nc n1 l=nc n1 (l.take i)+nc n1 (l.drop i):=by
   unfold nc
   rw[←List.sum_append,←List.map_append,List.take_append_drop]
  omega
 unfold ks
 omega
theorem Da (k:Int) (l:List α) (i:Nat) (h:i<l.length):ks n1 k l i+n1 l[i]≤k+(nc n1 l:Nat):=by
 rw[←B_ n1 k l i h]
 exact(B9 n1 k l (i+1)).2
theorem Lb (k:Int) (l:List α):part yC n1 k l 0=l:=by simp[part,n5]
theorem FY (k:Int) (l:List α):part yC n1 k l l.length=n5 yC n1 l k:=by simp[part]
theorem K_ (k:Int) (l:List α) (i:Nat) (h:i≤l.length):(part yC n1 k l i).length=l.length:=by simp[part,zg];omega
theorem K9 (k:Int) (l:List α) (i:Nat) (z:α) (h:i<l.length):(part yC n1 k l i).getD i z=l[i]:=by
 have hl:(n5 yC n1 (l.take i) k).length=i:=by rw[zg];simp;omega
 unfold part
 rw[List.getD_eq_getElem?_getD,List.getElem?_append_right (by omega),hl,Nat.sub_self,List.getElem?_drop,List.getElem?_eq_getElem (by omega)]
 simp
theorem La (k:Int) (l:List α) (i:Nat) (h:i<l.length):(part yC n1 k l i).set i (yC l[i] (ks n1 k l i))=part yC n1 k l (i+1):=by
 have hl:(n5 yC n1 (l.take i) k).length=i:=by rw[zg];simp;omega
 unfold part
 rw[VH l i h,Ok,←List.getElem_cons_drop h,List.set_append_right _ _ (by omega),hl,Nat.sub_self,List.set_cons_zero]
 simp[n5,ks]
theorem K4 (k:Int) (l:List α) (i:Nat) (z:α) (h:i<l.length):(n5 yC n1 l k).getD i z=yC l[i] (ks n1 k l i):=by
 rw[←FY,List.getD_eq_getElem?_getD]
 have hl:(n5 yC n1 (l.take i) k).length=i:=by rw[zg];simp;omega
 have e:n5 yC n1 l k=n5 yC n1 (l.take i) k++yC l[i] (ks n1 k l i)::n5 yC n1 (l.drop (i+1)) (ks n1 k l i+n1 l[i]):=by
  conv=>lhs;rw[ab8 l i h]
  rw[Ok]
  rfl
 rw[FY,e,List.getElem?_append_right (by omega),hl,Nat.sub_self]
 rfl
end
noncomputable def mt (k:Int):List UInt8:=(Wh.E7 k).1
theorem Yg:∀(d:Nat) (k:Int) (out:List UInt8),0≤k→k<(10:Int) ^ d→d≤18→out.length+d≤100→∃s:List UInt8,s.length≤100∧Comes Wh.DO ((k,out),()) (s,()):=by
 intro d
 induction d with
 |zero=>
  intro k out h0 h1 _ h2
  have hk:k=0:=by simp at h1;omega
  subst hk
  exact⟨out,by omega,.out (by simp[Wh.DO])⟩
 |succ d ih=>
  intro k out h0 h1 hd h2
  by_cases hk:k>0
  ·have hq:k.tdiv 10<(10:Int) ^ d:=by
    rw[Int.tdiv_eq_ediv_of_nonneg h0]
    rw[Int.pow_succ] at h1
    omega
   have hq0:0≤k.tdiv 10:=by rw[Int.tdiv_eq_ediv_of_nonneg h0];omega
   have hp:(10:Int) ^ d≤(10:Int) ^ 18:=by
    have:(10:Nat) ^ d≤10 ^ 18:=Nat.pow_le_pow_right (by decide) (by omega)
    exact_mod_cast this
   have hw:IntKind.wrap .i64 (k.tdiv 10)=k.tdiv 10:=by rw[wrap64]<;>omega
   obtain⟨s,hs,hc⟩:=ih (k.tdiv 10) (qp [IntKind.wrap .u8 (IntKind.wrap .i64 (48+k.tmod 10))]++out) hq0 hq (by omega) (by simp[qp];omega)
   refine⟨s,hs,.again (x':=((k.tdiv 10,qp [IntKind.wrap .u8 (IntKind.wrap .i64 (48+k.tmod 10))]++out),())) ?_ hc⟩
   have hl:1+out.length≤dh:=by unfold dh;omega
   simp[Wh.DO,hk,hl,iy,hw]
  ·exact⟨out,by omega,.out (by simp[Wh.DO,hk])⟩
def yS:Int:=1000000000000000000
theorem K5 (k:Int) (h0:0≤k) (h1:k<yS):Wh.AQ k=some (mt k,()):=by
 have main:∃s,Wh.AQ k=some (s,()):=by
  by_cases hk:k≤0
  ·exact⟨[109,48],by simp[Wh.AQ,hk]⟩
  ·obtain⟨s,hs,hc⟩:=Yg 18 k [] h0 (by simpa[yS] using h1) (by omega) (by simp)
   have hl:1+s.length≤dh:=by unfold dh;omega
   exact⟨109::s,by simp[Wh.AQ,hk,cb hc,cv hc,iy,hl]⟩
 obtain⟨s,hs⟩:=main
 rw[hs,mt,Wh.Gc _ _ hs]
theorem w8 {k:Int} (h0:0≤k) (h1:k≤yS):IntKind.wrap .i64 (k+1)=k+1:=by unfold yS at h1;rw[wrap64]<;>omega
end Pl
open Go Go.Ab
namespace Pl
noncomputable def mkItem (_:an.D) (k:Int):an.D:=(k,mt (k+1),k+2,mt (k+3),())
def we (_:an.D):Nat:=4
theorem Yc (a:List an.D) (k:Int) (h0:0≤k) (h1:k+(nc we a:Nat)<yS) (hl:a.length≤4611686018427387904):Wh.q40 (a,k)=some (k+(nc we a:Nat),n5 mkItem we a k,()):=by
 have hc:Comes Wh.DH (((0:Int),(),k),a) (k+(nc we a:Nat),n5 mkItem we a k):=by
  have:=xb (r:=Wh.DH) (st:=fun i=>(((i:Int),(),ks we k a i),part mkItem we k a i)) (n:=a.length) (y:=(k+(nc we a:Nat),n5 mkItem we a k)) ?_ ?_ 0 (Nat.zero_le _)
  ·simpa[Db,Lb] using this
  ·intro i hi
   have b1:=B9 we k a i
   have b2:=Da we k a i hi
   have b3:we a[i]=4:=rfl
   have e2:=lg (i:=i) (by omega)
   have e4:=B_ we k a i hi
   have e3:=La mkItem we k a i hi
   have pl:=K_ mkItem we k a i (Nat.le_of_lt hi)
   have pg:=fun z=>K9 mkItem we k a i z hi
   have hi':i<(part mkItem we k a i).length:=by omega
   simp only[mkItem] at e3
   rw[b3] at e4
   generalize ks we k a i=q at *
   have w0:=w8 (k:=q) (by omega) (by omega)
   have w1:=w8 (k:=q+1) (by omega) (by omega)
   have w2:=w8 (k:=q+2) (by omega) (by omega)
   have w3:=w8 (k:=q+3) (by omega) (by omega)
   have a1:q+1+1=q+2:=by omega
   have a2:q+2+1=q+3:=by omega
   have a3:q+3+1=ks we k a (i+1):=by rw[e4];omega
   rw[a1] at w1
   rw[a2] at w2
   rw[a3] at w3
   have t1:=K5 (q+1) (by omega) (by omega)
   have t3:=K5 (q+3) (by omega) (by omega)
   have c1:decide ((i:Int)<(a.length:Int))=true:=by simpa using hi
   simp only[Wh.DH,Int.toNat_natCast,pl,pg,KI _ _ _ _ hi',LV,List.length_set,c1,cond_true,iy,Bool.and_self,Int.natCast_nonneg,decide_true,nQ,
    w0,a1,w1,a2,w2,a3,w3,Wh.Gc _ _ t1,t1,Wh.Gc _ _ t3,t3,e2,e3]
  ·simp[Wh.DH,C_,FY,zg]
 simp[Wh.q40,cb hc,cv hc]
theorem WX (a:List an.D) (k:Int) (h0:0≤k) (h1:k+(nc we a:Nat)<yS) (hl:a.length≤4611686018427387904):Wh.q39 (n5 mkItem we a k,k)=some (k+(nc we a:Nat),()):=by
 have hc:Comes Wh.DG (((0:Int),n5 mkItem we a k,k),()) (.inr (k+(nc we a:Nat),())):=by
  have:=xb (r:=Wh.DG) (st:=fun i=>(((i:Int),n5 mkItem we a k,ks we k a i),())) (n:=a.length) (y:=.inr (k+(nc we a:Nat),())) ?_ ?_ 0 (Nat.zero_le _)
  ·simpa[Db] using this
  ·intro i hi
   have b1:=B9 we k a i
   have b2:=Da we k a i hi
   have b3:we a[i]=4:=rfl
   have e2:=lg (i:=i) (by omega)
   have e4:=B_ we k a i hi
   have pl:=zg mkItem we a k
   have pg:=fun z=>K4 mkItem we k a i z hi
   simp only[mkItem] at pg
   rw[b3] at e4
   generalize ks we k a i=q at *
   have w0:=w8 (k:=q) (by omega) (by omega)
   have w1:=w8 (k:=q+1) (by omega) (by omega)
   have w2:=w8 (k:=q+2) (by omega) (by omega)
   have w3:=w8 (k:=q+3) (by omega) (by omega)
   have a1:q+1+1=q+2:=by omega
   have a2:q+2+1=q+3:=by omega
   have a3:q+3+1=ks we k a (i+1):=by rw[e4];omega
   rw[a1] at w1
   rw[a2] at w2
   rw[a3] at w3
   have t1:=K5 (q+1) (by omega) (by omega)
   have t3:=K5 (q+3) (by omega) (by omega)
   have c1:decide ((i:Int)<(a.length:Int))=true:=by simpa using hi
   have d1:(mt (q+1)==mt (q+1))=true:=by simp
   have d3:(mt (q+3)==mt (q+3))=true:=by simp
   have bn:∀x:Int,(x != x)=false:=by intro x;simp
   simp only[Wh.DG,Int.toNat_natCast,pl,pg,c1,cond_true,cond_false,iy,Bool.and_self,Int.natCast_nonneg,decide_true,nQ,bn,
    w0,a1,w1,a2,w2,a3,w3,Wh.Gc _ _ t1,t1,Wh.Gc _ _ t3,t3,e2,d1,d3,Bool.not_true]
  ·simp[Wh.DG,zg,C_]
 simp[Wh.q39,cb hc,cv hc,sumC]
def zA (_:en.D) (k:Int):en.D:=(k,k+1,k+2,k+3,())
def so (_:en.D):Nat:=4
theorem X_ (a:List en.D) (k:Int) (h0:0≤k) (h1:k+(nc so a:Nat)<yS) (hl:a.length≤4611686018427387904):Wh.q18 (a,k)=some (k+(nc so a:Nat),n5 zA so a k,()):=by
 have hc:Comes Wh.DA (((0:Int),(),k),a) (k+(nc so a:Nat),n5 zA so a k):=by
  have:=xb (r:=Wh.DA) (st:=fun i=>(((i:Int),(),ks so k a i),part zA so k a i)) (n:=a.length) (y:=(k+(nc so a:Nat),n5 zA so a k)) ?_ ?_ 0 (Nat.zero_le _)
  ·simpa[Db,Lb] using this
  ·intro i hi
   have b1:=B9 so k a i
   have b2:=Da so k a i hi
   have b3:so a[i]=4:=rfl
   have e2:=lg (i:=i) (by omega)
   have e4:=B_ so k a i hi
   have e3:=La zA so k a i hi
   have pl:=K_ zA so k a i (Nat.le_of_lt hi)
   have pg:=fun z=>K9 zA so k a i z hi
   have hi':i<(part zA so k a i).length:=by omega
   simp only[zA] at e3
   rw[b3] at e4
   generalize ks so k a i=q at *
   have w0:=w8 (k:=q) (by omega) (by omega)
   have w1:=w8 (k:=q+1) (by omega) (by omega)
   have w2:=w8 (k:=q+2) (by omega) (by omega)
   have w3:=w8 (k:=q+3) (by omega) (by omega)
   have a1:q+1+1=q+2:=by omega
   have a2:q+2+1=q+3:=by omega
   have a3:q+3+1=ks so k a (i+1):=by rw[e4];omega
   rw[a1] at w1
   rw[a2] at w2
   rw[a3] at w3
   have c1:decide ((i:Int)<(a.length:Int))=true:=by simpa using hi
   simp only[Wh.DA,Int.toNat_natCast,pl,pg,KI _ _ _ _ hi',LV,List.length_set,c1,cond_true,iy,Bool.and_self,Int.natCast_nonneg,decide_true,w0,a1,w1,a2,w2,a3,w3,e2,e3]
  ·simp[Wh.DA,C_,FY,zg]
 simp[Wh.q18,cb hc,cv hc]
theorem WU (a:List en.D) (k:Int) (h0:0≤k) (h1:k+(nc so a:Nat)<yS) (hl:a.length≤4611686018427387904):Wh.q17 (n5 zA so a k,k)=some (k+(nc so a:Nat),()):=by
 have hc:Comes Wh.Dz (((0:Int),n5 zA so a k,k),()) (.inr (k+(nc so a:Nat),())):=by
  have:=xb (r:=Wh.Dz) (st:=fun i=>(((i:Int),n5 zA so a k,ks so k a i),())) (n:=a.length) (y:=.inr (k+(nc so a:Nat),())) ?_ ?_ 0 (Nat.zero_le _)
  ·simpa[Db] using this
  ·intro i hi
   have b1:=B9 so k a i
   have b2:=Da so k a i hi
   have b3:so a[i]=4:=rfl
   have e2:=lg (i:=i) (by omega)
   have e4:=B_ so k a i hi
   have pl:=zg zA so a k
   have pg:=fun z=>K4 zA so k a i z hi
   simp only[zA] at pg
   rw[b3] at e4
   generalize ks so k a i=q at *
   have w0:=w8 (k:=q) (by omega) (by omega)
   have w1:=w8 (k:=q+1) (by omega) (by omega)
   have w2:=w8 (k:=q+2) (by omega) (by omega)
   have w3:=w8 (k:=q+3) (by omega) (by omega)
   have a1:q+1+1=q+2:=by omega
   have a2:q+2+1=q+3:=by omega
   have a3:q+3+1=ks so k a (i+1):=by rw[e4];omega
   rw[a1] at w1
   rw[a2] at w2
   rw[a3] at w3
   have c1:decide ((i:Int)<(a.length:Int))=true:=by simpa using hi
   have bn:∀x:Int,(x != x)=false:=by intro x;simp
   simp only[Wh.Dz,Int.toNat_natCast,pl,pg,c1,cond_true,cond_false,iy,Bool.and_self,Int.natCast_nonneg,decide_true,bn,
    w0,a1,w1,a2,w2,a3,w3,e2]
  ·simp[Wh.Dz,zg,C_]
 simp[Wh.q17,cb hc,cv hc,sumC]
def zD (_:fN.D) (k:Int):fN.D:=(k,k+1,k+2,k+3,k+4,k+5,())
def wh (_:fN.D):Nat:=6
theorem Ye (a:List fN.D) (k:Int) (h0:0≤k) (h1:k+(nc wh a:Nat)<yS) (hl:a.length≤4611686018427387904):Wh.q27 (a,k)=some (k+(nc wh a:Nat),n5 zD wh a k,()):=by
 have hc:Comes Wh.DE (((0:Int),(),k),a) (k+(nc wh a:Nat),n5 zD wh a k):=by
  have:=xb (r:=Wh.DE) (st:=fun i=>(((i:Int),(),ks wh k a i),part zD wh k a i)) (n:=a.length) (y:=(k+(nc wh a:Nat),n5 zD wh a k)) ?_ ?_ 0 (Nat.zero_le _)
  ·simpa[Db,Lb] using this
  ·intro i hi
   have b1:=B9 wh k a i
   have b2:=Da wh k a i hi
   have b3:wh a[i]=6:=rfl
   have e2:=lg (i:=i) (by omega)
   have e4:=B_ wh k a i hi
   have e3:=La zD wh k a i hi
   have pl:=K_ zD wh k a i (Nat.le_of_lt hi)
   have pg:=fun z=>K9 zD wh k a i z hi
   have hi':i<(part zD wh k a i).length:=by omega
   simp only[zD] at e3
   rw[b3] at e4
   generalize ks wh k a i=q at *
   have w0:=w8 (k:=q) (by omega) (by omega)
   have w1:=w8 (k:=q+1) (by omega) (by omega)
   have w2:=w8 (k:=q+2) (by omega) (by omega)
   have w3:=w8 (k:=q+3) (by omega) (by omega)
   have w4:=w8 (k:=q+4) (by omega) (by omega)
   have w5:=w8 (k:=q+5) (by omega) (by omega)
   have a1:q+1+1=q+2:=by omega
   have a2:q+2+1=q+3:=by omega
   have a3:q+3+1=q+4:=by omega
   have a4:q+4+1=q+5:=by omega
   have a5:q+5+1=ks wh k a (i+1):=by rw[e4];omega
   rw[a1] at w1
   rw[a2] at w2
   rw[a3] at w3
   rw[a4] at w4
   rw[a5] at w5
   have c1:decide ((i:Int)<(a.length:Int))=true:=by simpa using hi
   simp only[Wh.DE,Int.toNat_natCast,pl,pg,KI _ _ _ _ hi',LV,List.length_set,c1,cond_true,iy,Bool.and_self,Int.natCast_nonneg,decide_true,w0,a1,w1,a2,w2,a3,w3,a4,w4,a5,w5,e2,e3]
  ·simp[Wh.DE,C_,FY,zg]
 simp[Wh.q27,cb hc,cv hc]
theorem WZ (a:List fN.D) (k:Int) (h0:0≤k) (h1:k+(nc wh a:Nat)<yS) (hl:a.length≤4611686018427387904):Wh.q24 (n5 zD wh a k,k)=some (k+(nc wh a:Nat),()):=by
 have hc:Comes Wh.DC (((0:Int),n5 zD wh a k,k),()) (.inr (k+(nc wh a:Nat),())):=by
  have:=xb (r:=Wh.DC) (st:=fun i=>(((i:Int),n5 zD wh a k,ks wh k a i),())) (n:=a.length) (y:=.inr (k+(nc wh a:Nat),())) ?_ ?_ 0 (Nat.zero_le _)
  ·simpa[Db] using this
  ·intro i hi
   have b1:=B9 wh k a i
   have b2:=Da wh k a i hi
   have b3:wh a[i]=6:=rfl
   have e2:=lg (i:=i) (by omega)
   have e4:=B_ wh k a i hi
   have pl:=zg zD wh a k
   have pg:=fun z=>K4 zD wh k a i z hi
   simp only[zD] at pg
   rw[b3] at e4
   generalize ks wh k a i=q at *
   have w0:=w8 (k:=q) (by omega) (by omega)
   have w1:=w8 (k:=q+1) (by omega) (by omega)
   have w2:=w8 (k:=q+2) (by omega) (by omega)
   have w3:=w8 (k:=q+3) (by omega) (by omega)
   have w4:=w8 (k:=q+4) (by omega) (by omega)
   have w5:=w8 (k:=q+5) (by omega) (by omega)
   have a1:q+1+1=q+2:=by omega
   have a2:q+2+1=q+3:=by omega
   have a3:q+3+1=q+4:=by omega
   have a4:q+4+1=q+5:=by omega
   have a5:q+5+1=ks wh k a (i+1):=by rw[e4];omega
   rw[a1] at w1
   rw[a2] at w2
   rw[a3] at w3
   rw[a4] at w4
   rw[a5] at w5
   have c1:decide ((i:Int)<(a.length:Int))=true:=by simpa using hi
   have bn:∀x:Int,(x != x)=false:=by intro x;simp
   simp only[Wh.DC,Int.toNat_natCast,pl,pg,c1,cond_true,cond_false,iy,Bool.and_self,Int.natCast_nonneg,decide_true,bn,
    w0,a1,w1,a2,w2,a3,w3,a4,w4,a5,w5,e2]
  ·simp[Wh.DC,zg,C_]
 simp[Wh.q24,cb hc,cv hc,sumC]
def zC (_:ct.D) (k:Int):ct.D:=(k,k+1,k+2,k+3,Int.tmod (k+4) 3==0,())
def vT (_:ct.D):Nat:=5
theorem Yb (a:List ct.D) (k:Int) (h0:0≤k) (h1:k+(nc vT a:Nat)<yS) (hl:a.length≤4611686018427387904):Wh.q26 (a,k)=some (k+(nc vT a:Nat),n5 zC vT a k,()):=by
 have hc:Comes Wh.DD (((0:Int),(),k),a) (k+(nc vT a:Nat),n5 zC vT a k):=by
  have:=xb (r:=Wh.DD) (st:=fun i=>(((i:Int),(),ks vT k a i),part zC vT k a i)) (n:=a.length) (y:=(k+(nc vT a:Nat),n5 zC vT a k)) ?_ ?_ 0 (Nat.zero_le _)
  ·simpa[Db,Lb] using this
  ·intro i hi
   have b1:=B9 vT k a i
   have b2:=Da vT k a i hi
   have b3:vT a[i]=5:=rfl
   have e2:=lg (i:=i) (by omega)
   have e4:=B_ vT k a i hi
   have e3:=La zC vT k a i hi
   have pl:=K_ zC vT k a i (Nat.le_of_lt hi)
   have pg:=fun z=>K9 zC vT k a i z hi
   have hi':i<(part zC vT k a i).length:=by omega
   simp only[zC] at e3
   rw[b3] at e4
   generalize ks vT k a i=q at *
   have w0:=w8 (k:=q) (by omega) (by omega)
   have w1:=w8 (k:=q+1) (by omega) (by omega)
   have w2:=w8 (k:=q+2) (by omega) (by omega)
   have w3:=w8 (k:=q+3) (by omega) (by omega)
   have w4:=w8 (k:=q+4) (by omega) (by omega)
   have a1:q+1+1=q+2:=by omega
   have a2:q+2+1=q+3:=by omega
   have a3:q+3+1=q+4:=by omega
   have a4:q+4+1=ks vT k a (i+1):=by rw[e4];omega
   rw[a1] at w1
   rw[a2] at w2
   rw[a3] at w3
   rw[a4] at w4
   have c1:decide ((i:Int)<(a.length:Int))=true:=by simpa using hi
   simp only[Wh.DD,Int.toNat_natCast,pl,pg,KI _ _ _ _ hi',LV,List.length_set,c1,cond_true,iy,Bool.and_self,Int.natCast_nonneg,decide_true,w0,a1,w1,a2,w2,a3,w3,a4,w4,e2,e3]
  ·simp[Wh.DD,C_,FY,zg]
 simp[Wh.q26,cb hc,cv hc]
theorem WW (a:List ct.D) (k:Int) (h0:0≤k) (h1:k+(nc vT a:Nat)<yS) (hl:a.length≤4611686018427387904):Wh.q23 (n5 zC vT a k,k)=some (k+(nc vT a:Nat),()):=by
 have hc:Comes Wh.DB (((0:Int),n5 zC vT a k,k),()) (.inr (k+(nc vT a:Nat),())):=by
  have:=xb (r:=Wh.DB) (st:=fun i=>(((i:Int),n5 zC vT a k,ks vT k a i),())) (n:=a.length) (y:=.inr (k+(nc vT a:Nat),())) ?_ ?_ 0 (Nat.zero_le _)
  ·simpa[Db] using this
  ·intro i hi
   have b1:=B9 vT k a i
   have b2:=Da vT k a i hi
   have b3:vT a[i]=5:=rfl
   have e2:=lg (i:=i) (by omega)
   have e4:=B_ vT k a i hi
   have pl:=zg zC vT a k
   have pg:=fun z=>K4 zC vT k a i z hi
   simp only[zC] at pg
   rw[b3] at e4
   generalize ks vT k a i=q at *
   have w0:=w8 (k:=q) (by omega) (by omega)
   have w1:=w8 (k:=q+1) (by omega) (by omega)
   have w2:=w8 (k:=q+2) (by omega) (by omega)
   have w3:=w8 (k:=q+3) (by omega) (by omega)
   have w4:=w8 (k:=q+4) (by omega) (by omega)
   have a1:q+1+1=q+2:=by omega
   have a2:q+2+1=q+3:=by omega
   have a3:q+3+1=q+4:=by omega
   have a4:q+4+1=ks vT k a (i+1):=by rw[e4];omega
   rw[a1] at w1
   rw[a2] at w2
   rw[a3] at w3
   rw[a4] at w4
   have c1:decide ((i:Int)<(a.length:Int))=true:=by simpa using hi
   have d4:((Int.tmod (q+4) 3==0)==(Int.tmod (q+4) 3==0))=true:=by simp
   have bn:∀x:Int,(x != x)=false:=by intro x;simp
   simp only[Wh.DB,Int.toNat_natCast,pl,pg,c1,cond_true,cond_false,iy,Bool.and_self,Int.natCast_nonneg,decide_true,bn,
    w0,a1,w1,a2,w2,a3,w3,a4,w4,e2,d4,Bool.not_true]
  ·simp[Wh.DB,zg,C_]
 simp[Wh.q23,cb hc,cv hc,sumC]
end Pl
open Go Go.Ab
namespace Pl
noncomputable def FR (c:bx.D) (k:Int):bx.D:=(c.1,n5 mkItem we c.2.1 k,c.2.2)
def yO (c:bx.D):Nat:=nc we c.2.1
theorem Ya (c:bx.D) (k:Int) (h0:0≤k) (h1:k+(yO c:Nat)<yS) (hl:D8 c):Wh.q87 (c,k)=some (k+(yO c:Nat),FR c k,()):=by
 have e1:=Yc c.2.1 k h0 h1 (Nat.le_trans hl (by omega))
 simp[Wh.q87,e1,Wh.q40_v _ _ e1,iy,nQ,FR,yO]
theorem WV (c:bx.D) (k:Int) (h0:0≤k) (h1:k+(yO c:Nat)<yS) (hl:D8 c):Wh.q86 (FR c k,k)=some (k+(yO c:Nat),()):=by
 have e1:=WX c.2.1 k h0 h1 (Nat.le_trans hl (by omega))
 have n1:¬(k+(nc we c.2.1:Nat))<0:=by omega
 simp[Wh.q86,FR,e1,Wh.q39_v _ _ e1,iy,nQ,yO,n1]
def FU (c:gv.D) (k:Int):gv.D:=(n5 zC vT c.1 k,c.2)
def zh (c:gv.D):Nat:=nc vT c.1
theorem Yd (c:gv.D) (k:Int) (h0:0≤k) (h1:k+(zh c:Nat)<yS) (hl:B3 c):Wh.q60 (c,k)=some (k+(zh c:Nat),FU c k,()):=by
 have e1:=Yb c.1 k h0 h1 (Nat.le_trans hl (by omega))
 simp[Wh.q60,e1,Wh.q26_v _ _ e1,iy,nQ,FU,zh]
theorem WY (c:gv.D) (k:Int) (h0:0≤k) (h1:k+(zh c:Nat)<yS) (hl:B3 c):Wh.q59 (FU c k,k)=some (k+(zh c:Nat),()):=by
 have e1:=WW c.1 k h0 h1 (Nat.le_trans hl (by omega))
 have n1:¬(k+(nc vT c.1:Nat))<0:=by omega
 simp[Wh.q59,FU,e1,Wh.q23_v _ _ e1,iy,nQ,zh,n1]
noncomputable def Ce (s:cx.D) (k:Int):cx.D:=
 (s.1,s.2.1,s.2.2.1,FR s.2.2.2.1 k,FU s.2.2.2.2.1 (k+(yO s.2.2.2.1:Nat)),n5 zA so s.2.2.2.2.2.1 (k+(yO s.2.2.2.1:Nat)+(zh s.2.2.2.2.1:Nat)),
  n5 zD wh s.2.2.2.2.2.2.1 (k+(yO s.2.2.2.1:Nat)+(zh s.2.2.2.2.1:Nat)+(nc so s.2.2.2.2.2.1:Nat)),s.2.2.2.2.2.2.2)
def At (s:cx.D):Nat:=yO s.2.2.2.1+zh s.2.2.2.2.1+nc so s.2.2.2.2.2.1+nc wh s.2.2.2.2.2.2.1
theorem Yf (s:cx.D) (k:Int) (h0:0≤k) (h1:k+(At s:Nat)<yS) (hl:zc s):Wh.CG (s,k)=some (k+(At s:Nat),Ce s k,()):=by
 unfold At at h1
 have e1:=Ya s.2.2.2.1 k h0 (by omega) hl.cat
 have e2:=Yd s.2.2.2.2.1 (k+(yO s.2.2.2.1:Nat)) (by omega) (by omega) hl.Ch
 have e3:=X_ s.2.2.2.2.2.1 (k+(yO s.2.2.2.1:Nat)+(zh s.2.2.2.2.1:Nat)) (by omega) (by omega) (Nat.le_trans hl.B5 (by omega))
 have e4:=Ye s.2.2.2.2.2.2.1 (k+(yO s.2.2.2.1:Nat)+(zh s.2.2.2.2.1:Nat)+(nc so s.2.2.2.2.2.1:Nat)) (by omega) (by omega) (Nat.le_trans hl.CV (by omega))
 have v1:=Wh.q87_v _ _ e1
 have v2:=Wh.q60_v _ _ e2
 have v3:=Wh.q18_v _ _ e3
 have v4:=Wh.q27_v _ _ e4
 simp only[Wh.CG,e1,v1,e2,v2,e3,v3,e4,v4,iy,nQ,cond_true]
 simp[Ce,At,FR,FU]
 omega
theorem W0 (s:cx.D) (k:Int) (h0:0≤k) (h1:k+(At s:Nat)<yS) (hl:zc s):Wh.CF (Ce s k,k)=some (k+(At s:Nat),()):=by
 unfold At at h1
 have e1:=WV s.2.2.2.1 k h0 (by omega) hl.cat
 have e2:=WY s.2.2.2.2.1 (k+(yO s.2.2.2.1:Nat)) (by omega) (by omega) hl.Ch
 have e3:=WU s.2.2.2.2.2.1 (k+(yO s.2.2.2.1:Nat)+(zh s.2.2.2.2.1:Nat)) (by omega) (by omega) (Nat.le_trans hl.B5 (by omega))
 have e4:=WZ s.2.2.2.2.2.2.1 (k+(yO s.2.2.2.1:Nat)+(zh s.2.2.2.2.1:Nat)+(nc so s.2.2.2.2.2.1:Nat)) (by omega) (by omega) (Nat.le_trans hl.CV (by omega))
 have v1:=Wh.q86_v _ _ e1
 have v2:=Wh.q59_v _ _ e2
 have v3:=Wh.q17_v _ _ e3
 have v4:=Wh.q24_v _ _ e4
 have n1:decide ((k+(yO s.2.2.2.1:Nat))<0)=false:=by simp;omega
 have n2:decide ((k+(yO s.2.2.2.1:Nat)+(zh s.2.2.2.2.1:Nat))<0)=false:=by simp;omega
 have n3:decide ((k+(yO s.2.2.2.1:Nat)+(zh s.2.2.2.2.1:Nat)+(nc so s.2.2.2.2.2.1:Nat))<0)=false:=by simp;omega
 have n4:decide ((k+(yO s.2.2.2.1:Nat)+(zh s.2.2.2.2.1:Nat)+(nc so s.2.2.2.2.2.1:Nat)+(nc wh s.2.2.2.2.2.2.1:Nat))<0)=false:=by simp;omega
 simp only[Wh.CF,Ce,e1,v1,e2,v2,e3,v3,e4,v4,iy,nQ,cond_true,cond_false,n1,n2,n3,n4]
 simp[At]
 omega
end Pl
open Go Go.Ab Go.Lib
namespace Pl
theorem Dd (x y:Nat):((x:Int)==(y:Int))=(x==y):=by rw[Bool.eq_iff_iff,beq_iff_eq,beq_iff_eq];omega
theorem Vp (log:List UInt8):(As hash log).2≤log.length∧20*(As hash log).1.length≤log.length:=by
 obtain⟨h1,h2,_⟩:=vQ hash Ao (log.length+1) log 0
 exact⟨h1,Nat.le_trans h2 h1⟩
theorem Gg {n:Nat} (h:n≤1048576):decide (0+n≤dh)=true:=by unfold dh;exact decide_eq_true (by omega)
theorem ab0 (p:gv.D) (h:B3 p):Wh.q94 p=some (p,()):=by
 have:p.1.length≤1048576:=h
 simp only[Wh.q94,iy,Gg this,cond_true,List.nil_append]
theorem W9 (p:gv.D) (h:B3 p):Wh.q36 p=some (p,()):=by
 have:p.1.length≤1048576:=h
 simp only[Wh.q36,iy,Gg this,cond_true,List.nil_append]
theorem abW (s:cx.D) (S:zc s) (h0:s.2.2.2.1.2.1.length≤99999):Wh.q95 s=some (s,()):=by
 have a:=copy_eq s.2.2.2.1 h0
 have b:=ab0 s.2.2.2.2.1 S.Ch
 simp only[Wh.q95,a,Wh.F4 _ _ a,b,Wh.q94_v _ _ b,iy,nQ,Gg S.B5,Gg S.CV,cond_true,List.nil_append]
theorem W6 (s:cx.D) (S:zc s) (h0:s.2.2.2.1.2.1.length≤99999):Wh.q15 s=some (s,()):=by
 have a:=Kx s.2.2.2.1 h0
 have b:=W9 s.2.2.2.2.1 S.Ch
 simp only[Wh.q15,a,Wh.DK _ _ a,b,Wh.q36_v _ _ b,iy,nQ,Gg S.B5,Gg S.CV,cond_true,List.nil_append]
theorem TD {s:cx.D} (h:okV s=true):yG s.2.2.2.1:=by
 unfold okV at h
 simp only[Bool.and_eq_true] at h
 obtain⟨_,_,hc,h⟩:=h
 cases hu:s.1 with
 |true=>
  rw[hu] at h
  simp only[cond_true,upV,Bool.and_eq_true,decide_eq_true_eq] at h
  rw[←h.2.1]
  exact Ku hc
 |false=>
  rw[hu] at h
  simp only[cond_false,KD,Bool.and_eq_true,beq_iff_eq,List.length_eq_zero_iff] at h
  have e:s.2.2.2.1=((0:Int),[],()):=by
   rw[←h.1.1.1.1.2,←h.1.1.1.1.1]
  rw[e]
  exact Kr
theorem Oq {s:cx.D} (h:okV s=true):s.2.2.1.length≤9000:=by
 unfold okV at h
 simp only[Bool.and_eq_true,decide_eq_true_eq] at h
 exact h.2.1
def BZ:cx.D:=(false,(0:Int),[],((0:Int),[],()),([],(0:Int),()),[],[],())
theorem acI:zc BZ:=⟨by simp[BZ],by unfold D8;simp[BZ],by simp[BZ],by unfold B3;simp[BZ],by simp[BZ],by simp[BZ]⟩
end Pl
open Go Go.Ab Go.Lib
namespace Pl
theorem LW {α:Type} (n1:α→Nat) (k:Nat) (h:∀a,n1 a=k) (l:List α):nc n1 l=k*l.length:=by
 induction l with
 |nil=>rfl
 |cons a l ih=>simp only[nc,List.map_cons,List.sum_cons,List.length_cons] at ih ⊢;rw[ih,h,Nat.mul_add];omega
theorem Tv (R:cx.D) (S:zc R):1+((At R:Nat):Int)<yS:=by
 have h1:R.2.2.2.1.2.1.length≤1048576:=S.cat
 have h2:R.2.2.2.2.1.1.length≤1048576:=S.Ch
 have h3:=S.B5
 have h4:=S.CV
 unfold At yO zh
 rw[LW we 4 (fun _=>rfl),LW vT 5 (fun _=>rfl),LW so 4 (fun _=>rfl),LW wh 6 (fun _=>rfl)]
 unfold yS
 omega
structure MarkS (R:cx.D):Prop where
 eq:Wh.Bb (R,R)=some (true,())
 mrk:Wh.CG (R,1)=some (1+((At R:Nat):Int),Ce R 1,())
 hd:Wh.CF ((R.1,R.2.1,R.2.2.1,(R.2.2.2.1.1,(Ce R 1).2.2.2.1.2.1,R.2.2.2.1.2.2),((Ce R 1).2.2.2.2.1.1,R.2.2.2.2.1.2),(Ce R 1).2.2.2.2.2.1,(Ce R 1).2.2.2.2.2.2.1,R.2.2.2.2.2.2.2),1)=some (1+((At R:Nat):Int),())
 ng:decide (1+((At R:Nat):Int)<0)=false
theorem markS (R:cx.D) (S:zc R):MarkS R:=
 ⟨Wf R S,Yf R 1 (by omega) (Tv R S) S,W0 R 1 (by omega) (Tv R S) S,decide_eq_false (by omega)⟩
theorem bneS (x:Int):(x != x)=false:=by simp
end Pl
open Go Go.Ab Go.Lib
namespace Pl
end Pl
open Go Go.Ab Go.Lib
namespace Pl
end Pl
open Go Go.Ab Go.Lib
namespace Pl
def bkt (now:Int):en.D:=(40,40,8,now,())
def Bk:List ct.D:=List.replicate 8 (0,0,0,0,false,())
def HG (now:Int) (log:List UInt8) (c:bx.D):cx.D:=(true,now,log,c,(Bk,0,()),List.replicate 2 (bkt now),[],())
theorem TL:Wh.q81 ()=some ((Bk,0,()),()):=by simp[Wh.q81,Bk,List.replicate]
theorem Sl:Wh.EI ()=some ((Bk,0,()),()):=by simp[Wh.EI,Bk,List.replicate]
theorem Xk (now:Int):Wh.q30 now=some (List.replicate 2 (bkt now),()):=by
 have hc:Comes Wh.DF (((0:Int),now,()),[]) ((),List.replicate 2 (bkt now)):=by
  refine xb (r:=Wh.DF) (st:=fun i=>(((i:Int),now,()),List.replicate i (bkt now))) (n:=2) ?_ ?_ 0 (Nat.zero_le _)
  ·intro i hi
   have h2:=lg (i:=i) (by omega)
   have h3:i+1≤dh:=by unfold dh;omega
   have h4:(i:Int)<2:=by omega
   simp[Wh.DF,h4,h2,h3,iy,List.replicate_succ',bkt]
  ·simp[Wh.DF]
 simp[Wh.q30,cb hc,cv hc]
noncomputable def Fe (s:cx.D):cx.D:=
 bif !okV s then BZ else bif s.1 then s else HG s.2.1 (s.2.2.1.take (r_ s).2) (yH (r_ s).1).1
theorem ab3 (s:cx.D) (S:zc s):Wh.q29 s=some (Fe s,()):=by
 have a:=abZ s S
 unfold Fe
 cases ho:okV s with
 |false=>
  rw[ho] at a
  simp only[Wh.q29,a,Wh.Qx _ _ a,nQ,iy,cond_true,Bool.not_false,BZ]
 |true=>
 rw[ho] at a
 have I:=TD ho
 have h8:=I.len
 have hl:=Oq ho
 have b:=abW s S (by omega)
 have c:=Sp s.2.2.1 (by omega)
 obtain⟨r1,r2⟩:=LS s (by omega)
 have d:=VB (r_ s).1 r1 r2
 change Wh.A7 s.2.2.1=some (((r_ s).1,((r_ s).2:Int)),()) at c
 obtain⟨k1,k2⟩:=Vp s.2.2.1
 have d2:decide (((r_ s).2:Int)≤(s.2.2.1.length:Int))=true:=decide_eq_true (by unfold r_;omega)
 have e:=Xk s.2.1
 simp only[Wh.q29,a,Wh.Qx _ _ a,b,Wh.q95_v _ _ b,c,Wh.Ll _ _ c,d,Wh.Lt _ _ d,e,Wh.q30_v _ _ e,Sl,Wh.Uc _ _ Sl,nQ,iy,cond_true,cond_false,Bool.not_true,Bool.and_self,d2,Int.natCast_nonneg,decide_true,Int.sub_zero,Int.toNat_natCast,show Int.toNat 0=0 from rfl,List.drop_zero,HG]
 cases s.1<;>rfl
theorem abO (s:cx.D) (S:zc s):zc (Fe s):=by
 unfold Fe
 cases ho:okV s with
 |false=>exact acI
 |true=>
  cases s.1 with
  |true=>exact S
  |false=>
   have hl:=Oq ho
   have hc:(yH (r_ s).1).2=true:=by
    unfold okV at ho
    simp only[Bool.and_eq_true] at ho
    exact ho.2.2.1
   have I:=Ku hc
   have h8:=I.len
   refine⟨?_,by change (yH (r_ s).1).1.2.1.length≤_;omega,fun x hx=>?_,by change Bk.length≤_;simp[Bk],by change (List.replicate 2 _).length≤_;simp,by change ([]:List Sv).length≤_;simp⟩
   ·change (s.2.2.1.take (r_ s).2).length≤_
    rw[List.length_take];omega
   ·obtain⟨_,h1,h2⟩:=Le (I.ok x hx)
    have:=FW _ h1
    exact⟨by omega,by omega⟩
theorem abP (now:Int) (log:List UInt8) (c:bx.D):Wh.EO (now,log,c)=some (HG now log c,()):=by
 have hc:Comes Wh.Dn (((0:Int),(),now,()),(true,now,log,(c.1,(),c.2.2),((),0,()),(),(),()),(false,0,[],(0,(),()),((),0,()),(),(),()),c.2.1,Bk,[],[],[],[],[],[])
   (((),()),(false,0,[],(0,(),()),((),0,()),(),(),()),(true,now,log,(c.1,(),c.2.2),((),0,()),(),(),()),[],[],[],[],c.2.1,Bk,List.replicate 2 (bkt now),[]):=by
  refine xb (r:=Wh.Dn) (st:=fun i=>(((i:Int),(),now,()),(true,now,log,(c.1,(),c.2.2),((),0,()),(),(),()),(false,0,[],(0,(),()),((),0,()),(),(),()),c.2.1,Bk,List.replicate i (bkt now),[],[],[],[],[])) (n:=2) ?_ ?_ 0 (Nat.zero_le _)
  ·intro i hi
   have h2:=lg (i:=i) (by omega)
   have h3:i+1≤dh:=by unfold dh;omega
   have h4:(i:Int)<2:=by omega
   simp[Wh.Dn,h4,h2,h3,iy,List.replicate_succ',bkt]
  ·simp[Wh.Dn]
 have v:=Wh.q81_v _ _ TL
 simp[Wh.EO,v,TL,cb hc,cv hc,iy,nQ,HG]
theorem Xb (s:cx.D) (S:zc s):Wh.CE s=some (Fe s,()):=by
 have a:=W8 s S
 unfold Fe
 cases ho:okV s with
 |false=>
  rw[ho] at a
  simp only[Wh.CE,a,Wh.Qf _ _ a,nQ,iy,cond_true,Bool.not_false,BZ]
 |true=>
 rw[ho] at a
 have I:=TD ho
 have h8:=I.len
 have hl:=Oq ho
 have b:=W6 s S (by omega)
 have c:=Rn s.2.2.1 (by omega)
 obtain⟨r1,r2⟩:=LS s (by omega)
 have d:=R9 (r_ s).1 r1 r2
 change Wh.BN s.2.2.1=some (((r_ s).1,((r_ s).2:Int)),()) at c
 obtain⟨k1,k2⟩:=Vp s.2.2.1
 have d2:decide (((r_ s).2:Int)≤(s.2.2.1.length:Int))=true:=decide_eq_true (by unfold r_;omega)
 have e:=abP s.2.1 (s.2.2.1.take (r_ s).2) (yH (r_ s).1).1
 have f:Wh.q14 s=some (bif s.1 then s else HG s.2.1 (s.2.2.1.take (r_ s).2) (yH (r_ s).1).1,()):=by
  simp only[Wh.q14,b,Wh.q15_v _ _ b,c,Wh.QC _ _ c,d,Wh.Pj _ _ d,nQ,iy,cond_true,d2,Int.natCast_nonneg,decide_true,Int.sub_zero,Int.toNat_natCast,show Int.toNat 0=0 from rfl,List.drop_zero,e,Wh.Un _ _ e,Bool.and_self]
  cases s.1<;>rfl
 simp only[Wh.CE,a,Wh.Qf _ _ a,f,Wh.q14_v _ _ f,nQ,iy,cond_true,cond_false,Bool.not_true]
theorem Xo (s:cx.D) (hs:fR cx s≤1048576):Wh.q5 s=some (true,()):=by
 have S:=abU s hs
 obtain⟨v,hv⟩:=acj s 1048576 S
 have e1:=acA s S
 have e3:=ab3 s S
 have e4:=Xb s S
 have SR:=abO s S
 generalize Fe s=R at *
 have M0:=markS s S
 have M:=markS R SR
 have v3:=Wh.q29_v _ _ e3
 have v4:=Wh.q22_v _ _ e4
 simp only[Wh.q5,hv,Wh.q64_v _ _ hv,e1,Wh.q68_v _ _ e1,e3,v3,e4,v4,M0.eq,Wh.Qr _ _ M0.eq,M0.mrk,Wh.PZ _ _ M0.mrk,M0.ng,M.eq,Wh.Qr _ _ M.eq,M.mrk,Wh.PZ _ _ M.mrk,M.hd,Wh.q25_v _ _ M.hd,M.ng,bneS,nQ,iy,Bool.or_true,Bool.and_self,Bool.not_true,Bool.not_false,cond_true,cond_false]
 cases decide (v<0)<;>rfl
end Pl
