import Derived.Test.YtfeoanopdlpabaaGreatDoorX9
open Go Go.Ab
namespace Pl
theorem Wc (w:an.D):Wh.Ew (w,w)=some (true,()):=by simp[Wh.Ew]
theorem Wb (a:List an.D) (h:a.length≤4611686018427387904):Wh.q82 (a,a)=some (true,()):=by
 have hl:Comes Wh.E6 (((0:Int),a,a),()) (.inr ((),())):=by
  refine xR (st:=fun i=>(((i:Int),a,a),())) (n:=a.length) ?_ ?_ 0 (Nat.zero_le _)
  ·intro i hi
   have h2:=mb (i:=i) (by omega)
   have h4:=Wc (a[i])
   simp[Wh.E6,Wh.TW _ _ h4,iy,h2,hi,h4,nQ]
  ·simp[Wh.E6]
 simp[Wh.q82,cb hl,cv hl]
theorem acs (a:an.D):Wh.FW a=some (a,()):=rfl
theorem acr (a:List an.D) (h:a.length≤1048576):Wh.q88 a=some (a,()):=by
 have hl:Comes Wh.DO (((0:Int),a,()),List.replicate a.length ((0:Int),([]:List UInt8),(0:Int),([]:List UInt8),())) ((),a):=by
  have:=xR (r:=Wh.DO) (st:=fun i=>(((i:Int),a,()),iB a ((0:Int),([]:List UInt8),(0:Int),([]:List UInt8),()) i)) (n:=a.length) (y:=((),a)) ?_ ?_ 0 (Nat.zero_le _)
  ·rw[KC] at this;exact this
  ·intro i hi
   have hi':decide ((i:Int)<(a.length:Int))=true:=by simpa using hi
   have h0:decide ((0:Int)≤(i:Int))=true:=by simp
   have he:=acs (List.getD a i ((0:Int),([]:List UInt8),(0:Int),([]:List UInt8),()))
   have hs:(iB a ((0:Int),([]:List UInt8),(0:Int),([]:List UInt8),()) i).set i (List.getD a i ((0:Int),([]:List UInt8),(0:Int),([]:List UInt8),()))=iB a ((0:Int),([]:List UInt8),(0:Int),([]:List UInt8),()) (i+1):=KB a _ _ i hi
   simp only[Wh.DO,hi',h0,Int.toNat_natCast,KA a ((0:Int),([]:List UInt8),(0:Int),([]:List UInt8),()) i (by omega),he,Wh.T0 _ _ he,hs,mb (i:=i) (by omega),iy,nQ,cond_true,Bool.and_self]
  ·have hi':decide (((a.length:Nat):Int)<(a.length:Int))=false:=by simp
   simp only[Wh.DO,hi',cond_false,Kz]
 have b0:decide ((0:Int)≤(a.length:Int))=true:=by simp
 have b1:decide ((a.length:Int)≤(dh:Int))=true:=decide_eq_true (by unfold dh;omega)
 simp only[Wh.q88,Int.toNat_natCast,cb hl,cv hl,b0,b1,Int.le_refl,decide_true,iy,cond_true,Bool.and_self]
theorem acf (a:an.D) (n:Int):∃v,Wh.Ez (a,n)=some (v,()):=by
 simp only[Wh.Ez]
 repeat' (first|exact⟨_,rfl⟩|refine Rs _ ?_ ?_)
theorem ace (a:List an.D) (n:Int) (h:a.length≤1048576):∃v,Wh.q86 (a,n)=some (v,()):=by
 have hl:∀d k:Nat,k+d=a.length→∀m:Int,∃y,Comes Wh.DN (((k:Int),m,a),()) y:=by
  intro d
  induction d with
  |zero=>
   intro k hk m
   have hk':decide ((k:Int)<(a.length:Int))=false:=by simp;omega
   exact⟨_,.out (by simp only[Wh.DN,hk',cond_false];rfl)⟩
  |succ d ih=>
   intro k hk m
   have hk':decide ((k:Int)<(a.length:Int))=true:=by simp;omega
   have h0:decide ((0:Int)≤(k:Int))=true:=by simp
   have w:=mb (i:=k) (by omega)
   obtain⟨v,hv⟩:=acf (List.getD a k ((0:Int),([]:List UInt8),(0:Int),([]:List UInt8),())) m
   cases hd:decide (v<0) with
   |true=>exact⟨_,.out (by simp only[Wh.DN,hk',h0,Int.toNat_natCast,hv,Wh.OS _ _ hv,hd,iy,nQ,cond_true,Bool.and_self];rfl)⟩
   |false=>
    obtain⟨y,hy⟩:=ih (k+1) (by omega) v
    exact⟨y,.again (by simp only[Wh.DN,hk',h0,w,Int.toNat_natCast,hv,Wh.OS _ _ hv,hd,iy,nQ,cond_true,cond_false,Bool.and_self]) hy⟩
 simp only[Wh.q86]
 cases decide (IntKind.wrap .i64 (n-(a.length:Int))<0) with
 |true=>exact⟨_,rfl⟩
 |false=>
  obtain⟨y,hy⟩:=hl a.length 0 (by omega) (IntKind.wrap .i64 (n-(a.length:Int)))
  have e1:=cb hy
  have e2:=cv hy Wh.QG
  rw[show(((0:Nat):Int))=0 from rfl] at e1 e2
  simp only[e1,e2,cond_true,cond_false]
  cases y with
  |inl y=>exact⟨_,rfl⟩
  |inr y=>exact⟨_,rfl⟩
theorem Wa (w:eA.D):Wh.q81 (w,w)=some (true,()):=by simp[Wh.q81]
theorem V_ (a:List eA.D) (h:a.length≤4611686018427387904):Wh.q55 (a,a)=some (true,()):=by
 have hl:Comes Wh.E0 (((0:Int),a,a),()) (.inr ((),())):=by
  refine xR (st:=fun i=>(((i:Int),a,a),())) (n:=a.length) ?_ ?_ 0 (Nat.zero_le _)
  ·intro i hi
   have h2:=mb (i:=i) (by omega)
   have h4:=Wa (a[i])
   simp[Wh.E0,Wh.q81_v _ _ h4,iy,h2,hi,h4,nQ]
  ·simp[Wh.E0]
 simp[Wh.q55,cb hl,cv hl]
theorem acq (a:eA.D):Wh.q87 a=some (a,()):=rfl
theorem acp (a:List eA.D) (h:a.length≤1048576):Wh.q65 a=some (a,()):=by
 have hl:Comes Wh.DJ (((0:Int),a,()),List.replicate a.length ((0:Int),(0:Int),(0:Int),(0:Int),false,())) ((),a):=by
  have:=xR (r:=Wh.DJ) (st:=fun i=>(((i:Int),a,()),iB a ((0:Int),(0:Int),(0:Int),(0:Int),false,()) i)) (n:=a.length) (y:=((),a)) ?_ ?_ 0 (Nat.zero_le _)
  ·rw[KC] at this;exact this
  ·intro i hi
   have hi':decide ((i:Int)<(a.length:Int))=true:=by simpa using hi
   have h0:decide ((0:Int)≤(i:Int))=true:=by simp
   have he:=acq (List.getD a i ((0:Int),(0:Int),(0:Int),(0:Int),false,()))
   have hs:(iB a ((0:Int),(0:Int),(0:Int),(0:Int),false,()) i).set i (List.getD a i ((0:Int),(0:Int),(0:Int),(0:Int),false,()))=iB a ((0:Int),(0:Int),(0:Int),(0:Int),false,()) (i+1):=KB a _ _ i hi
   simp only[Wh.DJ,hi',h0,Int.toNat_natCast,KA a ((0:Int),(0:Int),(0:Int),(0:Int),false,()) i (by omega),he,Wh.q87_v _ _ he,hs,mb (i:=i) (by omega),iy,nQ,cond_true,Bool.and_self]
  ·have hi':decide (((a.length:Nat):Int)<(a.length:Int))=false:=by simp
   simp only[Wh.DJ,hi',cond_false,Kz]
 have b0:decide ((0:Int)≤(a.length:Int))=true:=by simp
 have b1:decide ((a.length:Int)≤(dh:Int))=true:=decide_eq_true (by unfold dh;omega)
 simp only[Wh.q65,Int.toNat_natCast,cb hl,cv hl,b0,b1,Int.le_refl,decide_true,iy,cond_true,Bool.and_self]
theorem acd (a:List eA.D) (n:Int):∃v,Wh.q61 (a,n)=some (v,()):=by
 simp only[Wh.q61]
 cases decide (IntKind.wrap .i64 (n-(a.length:Int))<0)<;>exact⟨_,rfl⟩
theorem V8 (w:fN.D):Wh.q54 (w,w)=some (true,()):=by simp[Wh.q54]
theorem V7 (a:List fN.D) (h:a.length≤4611686018427387904):Wh.q36 (a,a)=some (true,()):=by
 have hl:Comes Wh.EX (((0:Int),a,a),()) (.inr ((),())):=by
  refine xR (st:=fun i=>(((i:Int),a,a),())) (n:=a.length) ?_ ?_ 0 (Nat.zero_le _)
  ·intro i hi
   have h2:=mb (i:=i) (by omega)
   have h4:=V8 (a[i])
   simp[Wh.EX,Wh.q54_v _ _ h4,iy,h2,hi,h4,nQ]
  ·simp[Wh.EX]
 simp[Wh.q36,cb hl,cv hl]
theorem acn (a:fN.D):Wh.q64 a=some (a,()):=rfl
theorem acm (a:List fN.D) (h:a.length≤1048576):Wh.q40 a=some (a,()):=by
 have hl:Comes Wh.DC (((0:Int),a,()),List.replicate a.length ((0:Int),(0:Int),(0:Int),(0:Int),())) ((),a):=by
  have:=xR (r:=Wh.DC) (st:=fun i=>(((i:Int),a,()),iB a ((0:Int),(0:Int),(0:Int),(0:Int),()) i)) (n:=a.length) (y:=((),a)) ?_ ?_ 0 (Nat.zero_le _)
  ·rw[KC] at this;exact this
  ·intro i hi
   have hi':decide ((i:Int)<(a.length:Int))=true:=by simpa using hi
   have h0:decide ((0:Int)≤(i:Int))=true:=by simp
   have he:=acn (List.getD a i ((0:Int),(0:Int),(0:Int),(0:Int),()))
   have hs:(iB a ((0:Int),(0:Int),(0:Int),(0:Int),()) i).set i (List.getD a i ((0:Int),(0:Int),(0:Int),(0:Int),()))=iB a ((0:Int),(0:Int),(0:Int),(0:Int),()) (i+1):=KB a _ _ i hi
   simp only[Wh.DC,hi',h0,Int.toNat_natCast,KA a ((0:Int),(0:Int),(0:Int),(0:Int),()) i (by omega),he,Wh.q64_v _ _ he,hs,mb (i:=i) (by omega),iy,nQ,cond_true,Bool.and_self]
  ·have hi':decide (((a.length:Nat):Int)<(a.length:Int))=false:=by simp
   simp only[Wh.DC,hi',cond_false,Kz]
 have b0:decide ((0:Int)≤(a.length:Int))=true:=by simp
 have b1:decide ((a.length:Int)≤(dh:Int))=true:=decide_eq_true (by unfold dh;omega)
 simp only[Wh.q40,Int.toNat_natCast,cb hl,cv hl,b0,b1,Int.le_refl,decide_true,iy,cond_true,Bool.and_self]
theorem ab_ (a:List fN.D) (n:Int):∃v,Wh.q39 (a,n)=some (v,()):=by
 simp only[Wh.q39]
 cases decide (IntKind.wrap .i64 (n-(a.length:Int))<0)<;>exact⟨_,rfl⟩
theorem Wf (w:fT.D):Wh.q83 (w,w)=some (true,()):=by simp[Wh.q83]
theorem We (a:List fT.D) (h:a.length≤4611686018427387904):Wh.q56 (a,a)=some (true,()):=by
 have hl:Comes Wh.E3 (((0:Int),a,a),()) (.inr ((),())):=by
  refine xR (st:=fun i=>(((i:Int),a,a),())) (n:=a.length) ?_ ?_ 0 (Nat.zero_le _)
  ·intro i hi
   have h2:=mb (i:=i) (by omega)
   have h4:=Wf (a[i])
   simp[Wh.E3,Wh.q83_v _ _ h4,iy,h2,hi,h4,nQ]
  ·simp[Wh.E3]
 simp[Wh.q56,cb hl,cv hl]
theorem acw (a:fT.D):Wh.q89 a=some (a,()):=rfl
theorem acv (a:List fT.D) (h:a.length≤1048576):Wh.q66 a=some (a,()):=by
 have hl:Comes Wh.DK (((0:Int),a,()),List.replicate a.length ((0:Int),(0:Int),(0:Int),(0:Int),(0:Int),(0:Int),())) ((),a):=by
  have:=xR (r:=Wh.DK) (st:=fun i=>(((i:Int),a,()),iB a ((0:Int),(0:Int),(0:Int),(0:Int),(0:Int),(0:Int),()) i)) (n:=a.length) (y:=((),a)) ?_ ?_ 0 (Nat.zero_le _)
  ·rw[KC] at this;exact this
  ·intro i hi
   have hi':decide ((i:Int)<(a.length:Int))=true:=by simpa using hi
   have h0:decide ((0:Int)≤(i:Int))=true:=by simp
   have he:=acw (List.getD a i ((0:Int),(0:Int),(0:Int),(0:Int),(0:Int),(0:Int),()))
   have hs:(iB a ((0:Int),(0:Int),(0:Int),(0:Int),(0:Int),(0:Int),()) i).set i (List.getD a i ((0:Int),(0:Int),(0:Int),(0:Int),(0:Int),(0:Int),()))=iB a ((0:Int),(0:Int),(0:Int),(0:Int),(0:Int),(0:Int),()) (i+1):=KB a _ _ i hi
   simp only[Wh.DK,hi',h0,Int.toNat_natCast,KA a ((0:Int),(0:Int),(0:Int),(0:Int),(0:Int),(0:Int),()) i (by omega),he,Wh.q89_v _ _ he,hs,mb (i:=i) (by omega),iy,nQ,cond_true,Bool.and_self]
  ·have hi':decide (((a.length:Nat):Int)<(a.length:Int))=false:=by simp
   simp only[Wh.DK,hi',cond_false,Kz]
 have b0:decide ((0:Int)≤(a.length:Int))=true:=by simp
 have b1:decide ((a.length:Int)≤(dh:Int))=true:=decide_eq_true (by unfold dh;omega)
 simp only[Wh.q66,Int.toNat_natCast,cb hl,cv hl,b0,b1,Int.le_refl,decide_true,iy,cond_true,Bool.and_self]
theorem acg (a:List fT.D) (n:Int):∃v,Wh.q62 (a,n)=some (v,()):=by
 simp only[Wh.q62]
 cases decide (IntKind.wrap .i64 (n-(a.length:Int))<0)<;>exact⟨_,rfl⟩
def D5 (c:bx.D):Prop:=c.2.1.length≤1048576
def B4 (p:gd.D):Prop:=p.1.length≤1048576
structure y5 (s:ct.D):Prop where
 log:s.2.2.1.length≤1048576
 cat:D5 s.2.2.2.1
 items:∀x∈s.2.2.2.1.2.1,x.2.1.length≤1048576∧x.2.2.2.1.length≤1048576
 Bx:B4 s.2.2.2.2.1
 Bk:s.2.2.2.2.2.1.length≤1048576
 BU:s.2.2.2.2.2.2.1.length≤1048576
theorem V9 (c:bx.D) (h:D5 c):Wh.EL (c,c)=some (true,()):=by
 have e:=Wb c.2.1 (by unfold D5 at h;omega)
 simp[Wh.EL,e,Wh.q82_v _ _ e,iy,nQ]
theorem Wd (c:gd.D) (h:B4 c):Wh.Ey (c,c)=some (true,()):=by
 have e:=V_ c.1 (by unfold B4 at h;omega)
 simp[Wh.Ey,e,Wh.q55_v _ _ e,iy,nQ]
theorem Wg (s:ct.D) (h:y5 s):Wh.Bf (s,s)=some (true,()):=by
 have e1:=V9 _ h.cat
 have e2:=Wd _ h.Bx
 have e3:=V7 s.2.2.2.2.2.1 (by have:=h.Bk;omega)
 have e4:=We s.2.2.2.2.2.2.1 (by have:=h.BU;omega)
 simp[Wh.Bf,e1,e2,e3,e4,Wh.Ul _ _ e1,Wh.TX _ _ e2,Wh.q36_v _ _ e3,Wh.q56_v _ _ e4,iy,nQ]
theorem aco (c:bx.D) (h:D5 c):Wh.EN c=some (c,()):=by
 have e:=acr c.2.1 h
 simp only[Wh.EN,e,Wh.q88_v _ _ e,iy,nQ,cond_true]
theorem acu (c:gd.D) (h:B4 c):Wh.EB c=some (c,()):=by
 have e:=acp c.1 h
 simp only[Wh.EB,e,Wh.q65_v _ _ e,iy,nQ,cond_true]
theorem acy (s:ct.D) (h:y5 s):Wh.BO s=some (s,()):=by
 have e1:=aco _ h.cat
 have e2:=acu _ h.Bx
 have e3:=acm s.2.2.2.2.2.1 h.Bk
 have e4:=acv s.2.2.2.2.2.2.1 h.BU
 simp only[Wh.BO,e1,e2,e3,e4,Wh.Un _ _ e1,Wh.T3 _ _ e2,Wh.q40_v _ _ e3,Wh.q66_v _ _ e4,iy,nQ,cond_true]
theorem ach (s:ct.D) (n:Int) (h:y5 s):∃v,Wh.q63 (s,n)=some (v,()):=by
 have c1:∀n,∃v,Wh.EM (s.2.2.2.1,n)=some (v,()):=by
  intro n
  obtain⟨v,hv⟩:=ace s.2.2.2.1.2.1 n h.cat
  simp only[Wh.EM,hv,Wh.q86_v _ _ hv,iy,nQ,cond_true]
  cases decide (v<0)<;>exact⟨_,rfl⟩
 have c2:∀n,∃v,Wh.EA (s.2.2.2.2.1,n)=some (v,()):=by
  intro n
  obtain⟨v,hv⟩:=acd s.2.2.2.2.1.1 n
  simp only[Wh.EA,hv,Wh.q61_v _ _ hv,iy,nQ,cond_true]
  cases decide (v<0)<;>exact⟨_,rfl⟩
 obtain⟨v1,h1⟩:=c1 (IntKind.wrap .i64 (n-(s.2.2.1.length:Int)))
 obtain⟨v2,h2⟩:=c2 v1
 obtain⟨v3,h3⟩:=ab_ s.2.2.2.2.2.1 v2
 obtain⟨v4,h4⟩:=acg s.2.2.2.2.2.2.1 v3
 simp only[Wh.q63,h1,h2,h3,h4,Wh.Um _ _ h1,Wh.TY _ _ h2,Wh.q39_v _ _ h3,Wh.q62_v _ _ h4,iy,nQ,cond_true]
 repeat' (first|exact⟨_,rfl⟩|refine Rs _ ?_ ?_)
theorem abR (s:ct.D) (h:fR ct s≤1048576):y5 s:=by
 have e:fR ct s=1+(1+((s.2.2.1.length+1)+((1+(((s.2.2.2.1.2.1.map (fR an)).sum+1)+0))+((((s.2.2.2.2.1.1.map (fR eA)).sum+1)+(1+0))+(((s.2.2.2.2.2.1.map (fR fN)).sum+1)+(((s.2.2.2.2.2.2.1.map (fR fT)).sum+1)+0)))))):=rfl
 rw[e] at h
 have i0:∀x:an.D,fR an x=1+((x.2.1.length+1)+(1+((x.2.2.2.1.length+1)+0))):=fun _=>rfl
 have l1:=vH (fR an) (fun x=>by rw[i0];omega) s.2.2.2.1.2.1
 have l2:=vH (fR eA) (fun x=>by show 1≤1+(1+(1+(1+(1+0))));omega) s.2.2.2.2.1.1
 have l3:=vH (fR fN) (fun x=>by show 1≤1+(1+(1+(1+0)));omega) s.2.2.2.2.2.1
 have l4:=vH (fR fT) (fun x=>by show 1≤1+(1+(1+(1+(1+(1+0)))));omega) s.2.2.2.2.2.2.1
 refine⟨by omega,by show _≤_;omega,fun x hx=>?_,by show _≤_;omega,by omega,by omega⟩
 have:=xg (fR an) _ x hx
 rw[i0] at this
 exact⟨by omega,by omega⟩
end Pl
open Go Go.Ab Go.Lib
namespace Pl
instance itDec:DecidableEq It:=inferInstanceAs (DecidableEq (Int×List UInt8×Int×List UInt8×Unit))
instance ctDec:DecidableEq Ct:=fun a b=>if h1:a.1=b.1 then if h2:a.2.1=b.2.1 then .isTrue (by obtain⟨_,_,_⟩:=a;obtain⟨_,_,_⟩:=b;simp_all) else .isFalse (fun e=>h2 (by rw[e])) else .isFalse (fun e=>h1 (by rw[e]))
theorem KN (a b:It):(a.1==b.1&&(a.2.1==b.2.1&&(a.2.2.1==b.2.2.1&&(a.2.2.2.1==b.2.2.2.1&&true))))=decide (a=b):=by
 obtain⟨a1,a2,a3,a4,a5⟩:=a
 obtain⟨b1,b2,b3,b4,b5⟩:=b
 rw[Bool.eq_iff_iff]
 simp
theorem SB (a b:List It) (h:a.length=b.length):jS a.length (fun i=>decide (a.getD i z0=b.getD i z0))=decide (a=b):=by
 rw[Bool.eq_iff_iff,oL,decide_eq_true_iff]
 constructor
 ·intro hh
  refine List.ext_getElem h fun i h1 h2=>?_
  have:=of_decide_eq_true (hh i h1)
  rwa[getD_eq _ _ _ h1,getD_eq _ _ _ h2] at this
 ·rintro rfl i _;exact decide_eq_true rfl
theorem ct_eq (a b:Ct) (hl:a.2.1.length=b.2.1.length):(decide (a.1=b.1)&&decide (a.2.1=b.2.1))=decide (a=b):=by
 obtain⟨a1,a2,a3⟩:=a
 obtain⟨b1,b2,b3⟩:=b
 rw[Bool.eq_iff_iff]
 simp
theorem ab2 (a b:Ct) (hl:a.2.1.length≤9999999):Wh.CJ (a,b)=some (decide (a=b),()):=by
 by_cases h1:a.1=b.1
 ·by_cases h2:a.2.1.length=b.2.1.length
  ·have c1:(a.1 != b.1)=false:=by simp[h1]
   have c2:((a.2.1.length:Int) != (b.2.1.length:Int))=false:=by simp[h2]
   have q:=zV (r:=Wh.CK) (fun i=>(((i:Int),(),()),b,a)) (n:=a.2.1.length) (p:=fun i=>decide (a.2.1.getD i z0=b.2.1.getD i z0)) (yf:=.inl (false,())) (yt:=.inr ((),())) (fun i hi _ hp=>by
     have hp':=(KN (a.2.1.getD i z0) (b.2.1.getD i z0)).trans hp
     unfold z0 at hp'
     simp only[Wh.CK,gl hi,gl (show i<b.2.1.length by omega),g0,Int.toNat_natCast,hp',iy,Bool.and_self,Bool.not_true,cond_true,cond_false,mb (show i≤4611686018427387904 by omega)]) (fun i hi _ hp=>by
     have hp':=(KN (a.2.1.getD i z0) (b.2.1.getD i z0)).trans hp
     unfold z0 at hp'
     simp only[Wh.CK,gl hi,gl (show i<b.2.1.length by omega),g0,Int.toNat_natCast,hp',iy,Bool.and_self,Bool.not_false,cond_true]) (by
     have d1:decide ((a.2.1.length:Int)<(a.2.1.length:Int))=false:=decide_eq_false (by omega)
     simp only[Wh.CK,d1,cond_false])
   rw[SB _ _ h2] at q
   have q':Comes Wh.CK ((0,(),()),b,a) _:=q
   simp only[Wh.CJ,c1,c2,cond_false,cb q',cv q',cond_true]
   rw[←ct_eq a b h2,decide_eq_true h1,Bool.true_and]
   cases decide (a.2.1=b.2.1)<;>rfl
  ·have c1:(a.1 != b.1)=false:=by simp[h1]
   have c2:((a.2.1.length:Int) != (b.2.1.length:Int))=true:=bne_iff_ne.2 (by omega)
   simp only[Wh.CJ,c1,c2,cond_false,cond_true]
   rw[decide_eq_false (by rintro rfl;exact h2 rfl)]
 ·have c1:(a.1 != b.1)=true:=bne_iff_ne.2 h1
  simp only[Wh.CJ,c1,cond_true]
  rw[decide_eq_false (by rintro rfl;exact h1 rfl)]
theorem Xd (a b:Ct) (hl:a.2.1.length≤9999999):Wh.q80 (a,b)=some (decide (a=b),()):=by
 have he:Wh.q10 (a.2.1,b.2.1)=some (decide (a.2.1=b.2.1),()):=by
  by_cases h2:a.2.1.length=b.2.1.length
  ·have c2:((a.2.1.length:Int) != (b.2.1.length:Int))=false:=by simp[h2]
   have q:=zV (r:=Wh.Cg) (fun i=>(((i:Int),b.2.1,a.2.1,(a.2.1.length:Int)),())) (n:=a.2.1.length) (p:=fun i=>decide (a.2.1.getD i z0=b.2.1.getD i z0)) (yf:=.inl (false,())) (yt:=.inr ((),())) (fun i hi _ hp=>by
     have hp':=(KN (a.2.1.getD i z0) (b.2.1.getD i z0)).trans hp
     unfold z0 at hp'
     simp only[Wh.Cg,gl hi,gl (show i<b.2.1.length by omega),g0,Int.toNat_natCast,hp',iy,Bool.and_self,Bool.not_true,cond_true,cond_false,mb (show i≤4611686018427387904 by omega)]) (fun i hi _ hp=>by
     have hp':=(KN (a.2.1.getD i z0) (b.2.1.getD i z0)).trans hp
     unfold z0 at hp'
     simp only[Wh.Cg,gl hi,gl (show i<b.2.1.length by omega),g0,Int.toNat_natCast,hp',iy,Bool.and_self,Bool.not_false,cond_true]) (by
     have d1:decide ((a.2.1.length:Int)<(a.2.1.length:Int))=false:=decide_eq_false (by omega)
     simp only[Wh.Cg,d1,cond_false])
   rw[SB _ _ h2] at q
   have q':Comes Wh.Cg ((0,b.2.1,a.2.1,(a.2.1.length:Int)),()) _:=q
   simp only[Wh.q10,c2,cond_false,cb q',cv q',cond_true]
   cases decide (a.2.1=b.2.1)<;>rfl
  ·have c2:((a.2.1.length:Int) != (b.2.1.length:Int))=true:=bne_iff_ne.2 (by omega)
   simp only[Wh.q10,c2,cond_true]
   rw[decide_eq_false (fun e=>h2 (by rw[e]))]
 have hd:(bif a.1==b.1 then decide (a.2.1=b.2.1) else false)=decide (a=b):=by
  obtain⟨a1,a2,a3⟩:=a
  obtain⟨b1,b2,b3⟩:=b
  by_cases h1:a1=b1
  ·simp[h1]
  ·simp[h1]
 simp only[Wh.q80,he,Wh.q10_v _ _ he,nQ,Bool.or_true,iy,cond_true,hd]
def zW (l:List It) (e:Int):Option Nat:=first l.length fun i=>(l.getD i z0).2.2.1==e
def edI (l:List It):Option Nat→It
 |some i=>l.getD i z0
 |none=>z0
theorem VC (c:Ct) (e:Int) (hl:c.2.1.length≤9999999):Wh.q44 (c,e)=some ((edI c.2.1 (zW c.2.1 e),(zW c.2.1 e).isSome),()):=by
 obtain⟨ce,l,u⟩:=c
 have hl:l.length≤9999999:=hl
 have q:=Fz (r:=Wh.CE) (fun i=>(((),(i:Int),(),e),((0:Int),([]:List UInt8),(0:Int),([]:List UInt8),()),(ce,l,u))) (n:=l.length) (p:=fun i=>(l.getD i z0).2.2.1==e) (yt:=fun i=>.inl (((),true),l.getD i z0)) (yn:=.inr ((),(0:Int),[],(0:Int),[],())) (fun i hi hp=>by
   have hp':((l.getD i z0).2.2.1==e)=false:=hp
   unfold z0 at hp'
   simp only[Wh.CE,gl hi,g0,Int.toNat_natCast,hp',iy,Bool.and_self,cond_true,cond_false,mb (show i≤4611686018427387904 by omega)]) (fun i hi hp=>by
   have hp':((l.getD i z0).2.2.1==e)=true:=hp
   unfold z0 at hp' ⊢
   simp only[Wh.CE,gl hi,g0,Int.toNat_natCast,hp',iy,Bool.and_self,cond_true]) (by
   have d1:decide ((l.length:Int)<(l.length:Int))=false:=decide_eq_false (by omega)
   simp only[Wh.CE,d1,cond_false])
 have q':Comes Wh.CE (((),0,(),e),((0:Int),([]:List UInt8),(0:Int),([]:List UInt8),()),(ce,l,u)) _:=q
 simp only[Wh.q44,cb q',cv q',cond_true,zW]
 cases first l.length (fun i=>(l.getD i z0).2.2.1==e)<;>rfl
theorem Se (c:Ct) (e:Int) (hl:c.2.1.length≤9999999):Wh.Cl (c,e)=some (AO (zW c.2.1 e),()):=by
 obtain⟨ce,l,u⟩:=c
 have hl:l.length≤9999999:=hl
 have f (x:It):Wh.F8 (x,e)=some ((x.2.2.1==e),()):=rfl
 have q:=Fz (r:=Wh.Cy) (fun i=>(((i:Int),l,(e,()),(l.length:Int)),())) (n:=l.length) (p:=fun i=>(l.getD i z0).2.2.1==e) (yt:=fun i=>.inl ((i:Int),())) (yn:=.inr ((),())) (fun i hi hp=>by
   have hp':((l.getD i z0).2.2.1==e)=false:=hp
   unfold z0 at hp'
   simp only[Wh.Cy,gl hi,g0,Int.toNat_natCast,f,Wh.q8_v _ _ (f _),hp',nQ,iy,Bool.and_self,cond_true,cond_false,mb (show i≤4611686018427387904 by omega)]) (fun i hi hp=>by
   have hp':((l.getD i z0).2.2.1==e)=true:=hp
   unfold z0 at hp'
   simp only[Wh.Cy,gl hi,g0,Int.toNat_natCast,f,Wh.q8_v _ _ (f _),hp',nQ,iy,Bool.and_self,cond_true]) (by
   have d1:decide ((l.length:Int)<(l.length:Int))=false:=decide_eq_false (by omega)
   simp only[Wh.Cy,d1,cond_false])
 have q':Comes Wh.Cy ((0,l,(e,()),(l.length:Int)),()) _:=q
 have h:Wh.q2 (l,e,())=some (AO (zW l e),()):=by
  simp only[Wh.q2,cb q',cv q',cond_true,zW]
  cases first l.length (fun i=>(l.getD i z0).2.2.1==e)<;>rfl
 simp only[Wh.Cl,h,Wh.q2_v _ _ h,nQ,iy,cond_true]
theorem RB:Wh.Cu=Wh.BR:=rfl
theorem RC:Wh.F4=Wh.F9:=rfl
def Aj (a b:Int):Int:=IntKind.wrap .i64 (Int.tdiv (IntKind.wrap .i64 (IntKind.wrap .i64 (a+b)-1)) b)
theorem count_eq (a b:Int) (x y:List Int) (u:Unit) (h:b≠0):Wh.BR (a,b,x,y,u)=some (Aj a b,()):=by
 have c:(b != 0)=true:=bne_iff_ne.2 h
 simp only[Wh.BR,c,iy,cond_true];rfl
theorem V1 (a b:Nat) (ha:a≤100000) (hb:1≤b) (bZ:b≤1000):Aj a b=(((a+b-1) / b:Nat):Int):=by
 have w1:IntKind.wrap .i64 ((a:Int)+(b:Int))=((a+b:Nat):Int):=wi (by omega) (by omega)
 have w2:IntKind.wrap .i64 (((a+b:Nat):Int)-1)=((a+b-1:Nat):Int):=wi (by omega) (by omega)
 have w3:Int.tdiv ((a+b-1:Nat):Int) (b:Int)=(((a+b-1) / b:Nat):Int):=by rw[Int.tdiv_eq_ediv_of_nonneg (by omega)];rfl
 have hle:(a+b-1) / b≤a+b-1:=Nat.div_le_self _ _
 rw[Aj,w1,w2,w3];exact wi rfl (by omega)
theorem WS (L:Nat) (hL:L≤300):∀d s:Nat,s+d=13→1≤s→∃s':Nat,1≤s'∧s'≤13∧Comes Wh.Cp (((),()),((L:Int),(s:Int),(),(),()),((0:Int),(0:Int),(),(),()),[],[],[],[]) (((),()),((0:Int),(0:Int),(),(),()),((L:Int),(s':Int),(),(),()),[],[],[],[]):=by
 intro d
 induction d with
 |zero=>
  intro s h1 h2
  have:s=13:=by omega
  subst this
  refine⟨13,by omega,by omega,.out ?_⟩
  have a:=count_eq (L:Int) ((13:Nat):Int) [] [] () (by omega)
  rw[V1 L 13 (by omega) (by omega) (by omega)] at a
  have c1:decide ((((L+13-1) / 13:Nat):Int)>24)=false:=decide_eq_false (by omega)
  simp only[Wh.Cp,a,Wh.CL _ _ a,c1,nQ,iy,cond_true,cond_false]
 |succ d ih=>
  intro s h1 h2
  have a:=count_eq (L:Int) (s:Int) [] [] () (by omega)
  cases hc:decide (Aj (L:Int) (s:Int)>24) with
  |true=>
   obtain⟨s',g1,g2,g3⟩:=ih (s+1) (by omega) (by omega)
   refine⟨s',g1,g2,.again ?_ g3⟩
   simp only[Wh.Cp,a,Wh.CL _ _ a,hc,nQ,iy,cond_true,mb (show s≤4611686018427387904 by omega)]
  |false=>
   refine⟨s,by omega,by omega,.out ?_⟩
   simp only[Wh.Cp,a,Wh.CL _ _ a,hc,nQ,iy,cond_true,cond_false]
theorem TK (L:Nat) (h1:1≤L) (hL:L≤300):∃P:yA.D,P.2.1≠0∧Wh.Dq (L:Int)=some (P,())∧Wh.q76 (L:Int)=some (P,()):=by
 obtain⟨s,g1,g2,g3⟩:=WS L hL 5 8 (by omega) (by omega)
 have g3':Comes Wh.Cp (((),()),((L:Int),(8:Int),(),(),()),((0:Int),(0:Int),(),(),()),[],[],[],[]) _:=g3
 have g4:Comes Wh.HA (((),()),((L:Int),(8:Int),(),(),()),((0:Int),(0:Int),(),(),()),[],[],[],[]) _:=g3
 have a:=count_eq (L:Int) (s:Int) [] [] () (by omega)
 have wi1:nG (L:Int) 1 300=true:=decide_eq_true (by omega)
 cases hk:decide (IntKind.wrap .i64 (Int.tdiv (IntKind.wrap .i64 (Aj (L:Int) (s:Int)+3)) 4)<Aj (L:Int) (s:Int)) with
 |true=>
  refine⟨((L:Int),(s:Int),[IntKind.wrap .i64 (Int.tdiv (IntKind.wrap .i64 (Aj (L:Int) (s:Int)+3)) 4),Aj (L:Int) (s:Int)],[(2:Int),(3:Int)],()),by simp only;omega,?_,?_⟩
  ·simp only[Wh.Dq,cb g3',cv g3',cond_true,a,Wh.CL _ _ a,hk,nQ,iy]
  ·simp only[Wh.q76,yS,Wh.zo _ _ (yS _ _ _),wi1,cb g4,cv g4,cond_true,cond_false,Bool.not_true,RB,RC,a,Wh.CL _ _ a,hk,nQ,iy]
 |false=>
  refine⟨((L:Int),(s:Int),[Aj (L:Int) (s:Int)],[(1:Int)],()),by simp only;omega,?_,?_⟩
  ·simp only[Wh.Dq,cb g3',cv g3',cond_true,a,Wh.CL _ _ a,hk,nQ,iy,cond_false]
  ·simp only[Wh.q76,yS,Wh.zo _ _ (yS _ _ _),wi1,cb g4,cv g4,cond_true,cond_false,Bool.not_true,RB,RC,a,Wh.CL _ _ a,hk,nQ,iy]
noncomputable def Hh (L:Int):Int:=Aj (Wh.Ht L).1.1 (Wh.Ht L).1.2.1
noncomputable def B7 (c:Ct) (f:Fr):Bool:=bif decide (f.2.2.2.1>0) then true else bif decide (f.2.1>0) then(match zW c.2.1 f.2.1 with
 |none=>true
 |some k=>bif(c.2.1.getD k z0).1 != f.1 then true else decide (f.2.2.1≥Hh ((c.2.1.getD k z0).2.2.2.1.length:Int))) else false
theorem NJ {l:List It} {e:Int} {i:Nat} (h:zW l e=some i):i<l.length:=(AP.1 h).1
theorem VD (s:ct.D) (I:yG s.2.2.2.1) (i:Nat) (hi:i<s.2.2.2.2.1.1.length) (hl:s.2.2.2.2.1.1.length≤9999999) :
  Wh.AH (((i:Int),()),s)=if B7 s.2.2.2.1 (s.2.2.2.2.1.1.getD i zF)=true then some (.inr (.inl (false,()))) else some (.inl ((((i+1:Nat):Int),()),s)):=by
 have bI:s.2.2.2.1.2.1.length≤8:=I.len
 have ed:=VC s.2.2.2.1 (s.2.2.2.2.1.1.getD i zF).2.1 (by omega)
 have w:=mb (show i≤4611686018427387904 by omega)
 unfold B7
 cases hw:decide ((s.2.2.2.2.1.1.getD i zF).2.2.2.1>0) with
 |true=>
  unfold zF at ed hw ⊢
  simp only[Wh.AH,gl hi,g0,Int.toNat_natCast,ed,Wh.DD _ _ ed,hw,nQ,Bool.not_true,Bool.and_false,Bool.not_false,Bool.true_or,Bool.or_true,iy,Bool.and_self,cond_true,if_true]
 |false=>
  cases he:decide ((s.2.2.2.2.1.1.getD i zF).2.1>0) with
  |false=>
   unfold zF at ed hw he ⊢
   simp only[Wh.AH,gl hi,g0,Int.toNat_natCast,ed,Wh.DD _ _ ed,hw,he,nQ,Bool.not_true,Bool.and_false,Bool.false_and,Bool.not_false,Bool.true_or,Bool.or_true,iy,Bool.and_self,cond_true,cond_false,w]
   rfl
  |true=>
   cases hk:zW s.2.2.2.1.2.1 (s.2.2.2.2.1.1.getD i zF).2.1 with
   |none=>
    rw[hk] at ed
    unfold zF at ed hw he ⊢
    simp only[Wh.AH,gl hi,g0,Int.toNat_natCast,ed,Wh.DD _ _ ed,hw,he,edI,Option.isSome,nQ,Bool.not_true,Bool.not_false,Bool.true_or,Bool.or_true,Bool.and_true,iy,Bool.and_self,cond_true,cond_false,if_true]
   |some k=>
    rw[hk] at ed
    have jf:=NJ hk
    have hp:=Hj (I.ok (s.2.2.2.1.2.1.getD k z0) (by rw[getD_eq _ _ _ jf];exact List.getElem_mem jf))
    obtain⟨P,hP,f1,_⟩:=TK _ hp.2.2.1 hp.2.2.2
    have f3 (x y:List Int) (u:Unit):=count_eq P.1 P.2.1 x y u hP
    have f4 (x y:List Int) (u:Unit):=Wh.CL _ _ (f3 x y u)
    cases hh:((s.2.2.2.1.2.1.getD k z0).1 != (s.2.2.2.2.1.1.getD i zF).1) with
    |true=>
     unfold zF at ed hw he hh ⊢
     simp only[Wh.AH,gl hi,g0,Int.toNat_natCast,ed,Wh.DD _ _ ed,hw,he,hh,edI,Option.isSome,nQ,Bool.not_true,Bool.not_false,Bool.true_or,Bool.or_true,Bool.and_true,iy,Bool.and_self,cond_true,cond_false,if_true]
    |false=>
     have hc:Hh ((s.2.2.2.1.2.1.getD k z0).2.2.2.1.length:Int)=Aj P.1 P.2.1:=by rw[Hh,Wh.Lw _ _ f1]
     unfold zF at ed hw he hh ⊢
     simp only[hc,Wh.AH,gl hi,g0,Int.toNat_natCast,ed,Wh.DD _ _ ed,hw,he,hh,f1,Wh.Lw _ _ f1,f3,f4,edI,Option.isSome,nQ,Bool.not_true,Bool.not_false,Bool.or_true,iy,Bool.and_self,cond_true,cond_false,w]
     cases decide ((s.2.2.2.2.1.1.getD i ((0:Int),(0:Int),(0:Int),(0:Int),false,())).2.2.1≥Aj P.1 P.2.1)<;>rfl
theorem Sf (c:Ct) (I:yG c) (l:List Fr) (i:Nat) (hi:i<l.length) (hl:l.length≤9999999) (hok:okF (l.getD i zF)=true) :
  Wh.AG (((i:Int),(),l,(l.length:Int)),c)=if B7 c (l.getD i zF)=true then some (.inr (.inl (false,()))) else some (.inl ((((i+1:Nat):Int),(),l,(l.length:Int)),c)):=by
 have bI:c.2.1.length≤8:=I.len
 have ed:=Se c (l.getD i zF).2.1 (by omega)
 have w:=mb (show i≤4611686018427387904 by omega)
 unfold B7
 cases hz:((l.getD i zF).2.1==0) with
 |true=>
  have h0:(l.getD i zF).2.1=0:=eq_of_beq hz
  have hw:decide ((l.getD i zF).2.2.2.1>0)=false:=by
   unfold okF at hok
   rw[hz,cond_true] at hok
   simp only[Bool.and_eq_true,beq_iff_eq] at hok
   exact decide_eq_false (by omega)
  have he:decide ((l.getD i zF).2.1>0)=false:=decide_eq_false (by omega)
  rw[hw,he]
  unfold zF at hz ⊢
  simp only[Wh.AG,gl hi,g0,Int.toNat_natCast,hz,iy,Bool.and_self,cond_true,cond_false,w]
  rfl
 |false=>
  have he:decide ((l.getD i zF).2.1>0)=true:=by
   unfold okF at hok
   rw[hz,cond_false] at hok
   simp only[Bool.and_eq_true,nG,decide_eq_true_iff] at hok
   exact decide_eq_true (by omega)
  rw[he]
  cases hw:decide ((l.getD i zF).2.2.2.1>0) with
  |true=>
   unfold zF at ed hz hw ⊢
   simp only[Wh.AG,gl hi,g0,Int.toNat_natCast,hz,ed,Wh.ES _ _ ed,hw,nQ,Bool.not_true,Bool.not_false,Bool.true_or,iy,Bool.and_self,cond_true,cond_false,if_true]
  |false=>
   cases hk:zW c.2.1 (l.getD i zF).2.1 with
   |none=>
    rw[hk] at ed
    unfold zF at ed hz hw ⊢
    simp only[Wh.AG,gl hi,g0,Int.toNat_natCast,hz,ed,Wh.ES _ _ ed,hw,NB,nQ,Bool.not_true,Bool.not_false,Bool.true_or,iy,Bool.and_self,cond_true,cond_false,if_true]
   |some k=>
    rw[hk] at ed
    have jf:=NJ hk
    have hp:=Hj (I.ok (c.2.1.getD k z0) (by rw[getD_eq _ _ _ jf];exact List.getElem_mem jf))
    obtain⟨P,hP,f0,f1⟩:=TK _ hp.2.2.1 hp.2.2.2
    have f3 (x y:List Int) (u:Unit):Wh.Cu (P.1,P.2.1,x,y,u)=_:=count_eq P.1 P.2.1 x y u hP
    have f4 (x y:List Int) (u:Unit):=Wh.q20_v _ _ (f3 x y u)
    have ed':Wh.Cl (c,(l.getD i zF).2.1)=some ((k:Int),()):=ed
    have e1:decide ((k:Int)<0)=false:=decide_eq_false (by omega)
    cases hh:((c.2.1.getD k z0).1 != (l.getD i zF).1) with
    |true=>
     unfold zF at ed' hz hw hh ⊢
     unfold z0 at hh ⊢
     simp only[Wh.AG,gl hi,gl jf,g0,Int.toNat_natCast,hz,ed',Wh.ES _ _ ed',hw,hh,e1,nQ,Bool.not_true,Bool.not_false,Bool.true_or,Bool.or_true,iy,Bool.and_self,cond_true,cond_false,if_true]
    |false=>
     have hc:Hh ((c.2.1.getD k z0).2.2.2.1.length:Int)=Aj P.1 P.2.1:=by rw[Hh,Wh.Lw _ _ f0]
     unfold zF at ed' hz hw hh ⊢
     have hh2:=hh
     unfold z0 at hh2 f1
     simp only[hc,hh2,Wh.AG,gl hi,gl jf,g0,Int.toNat_natCast,hz,ed',Wh.ES _ _ ed',hw,hh,e1,f1,Wh.q76_v _ _ f1,f3,f4,nQ,Bool.not_true,Bool.not_false,Bool.or_true,iy,Bool.and_self,cond_true,cond_false,w]
     cases decide ((l.getD i ((0:Int),(0:Int),(0:Int),(0:Int),false,())).2.2.1≥Aj P.1 P.2.1)<;>rfl
abbrev Bu:Type:=Int×Int×Int×Int×Unit
def Eb (b:Bu):Bool:=nG b.2.1 0 99999&&nG b.1 0 b.2.1&&nG b.2.2.1 0 99999&&nG b.2.2.2.1 0 99999
theorem VA (b:Bu):Wh.q68 b=some (Eb b,()):=by
 unfold Eb
 simp only[Wh.q68,Ao,Wh.zc _ _ (Ao _ _ _),nQ,Bool.or_true,iy,Bool.and_self,cond_true]
 cases nG b.2.1 0 99999<;>cases nG b.1 0 b.2.1<;>cases nG b.2.2.1 0 99999<;>cases nG b.2.2.2.1 0 99999<;>rfl
theorem Sc (b:Bu):Wh.q46 b=some (Eb b,()):=by
 unfold Eb
 simp only[Wh.q46,yS,Wh.zo _ _ (yS _ _ _),nQ,Bool.or_true,iy,Bool.and_self,cond_true]
 cases nG b.2.1 0 99999<;>cases nG b.1 0 b.2.1<;>cases nG b.2.2.1 0 99999<;>cases nG b.2.2.2.1 0 99999<;>rfl
def zB:Bu:=((0:Int),(0:Int),(0:Int),(0:Int),())
def B6 (now:Int) (b:Bu):Bool:=bif bif bif !Eb b then true else b.2.1 != 40 then true else b.2.2.1 != 8 then true else decide (b.2.2.2.1>now)
theorem Vz (s:ct.D) (i:Nat) (hi:i<s.2.2.2.2.2.1.length) (hl:s.2.2.2.2.2.1.length≤9999999) :
  Wh.CG (((i:Int),()),s)=if B6 s.2.1 (s.2.2.2.2.2.1.getD i zB)=true then some (.inr (.inl (false,()))) else some (.inl ((((i+1:Nat):Int),()),s)):=by
 have w:=mb (show i≤4611686018427387904 by omega)
 unfold B6 zB
 simp only[Wh.CG,gl hi,g0,Int.toNat_natCast,VA,Wh.q68_v _ _ (VA _),nQ,iy,Bool.and_self,cond_true,w]
 generalize (bif bif bif !Eb _ then true else _ then true else _ then true else _)=b
 cases b<;>rfl
theorem Sb (s:ct.D) (l:List Bu) (i:Nat) (hi:i<l.length) (hl:l.length≤9999999) :
  Wh.CF (((i:Int),(),l,(l.length:Int)),s)=if B6 s.2.1 (l.getD i zB)=true then some (.inr (.inl (false,()))) else some (.inl ((((i+1:Nat):Int),(),l,(l.length:Int)),s)):=by
 have w:=mb (show i≤4611686018427387904 by omega)
 unfold B6 zB
 simp only[Wh.CF,gl hi,g0,Int.toNat_natCast,Sc,Wh.q46_v _ _ (Sc _),nQ,iy,Bool.and_self,cond_true,w]
 generalize (bif bif bif !Eb _ then true else _ then true else _ then true else _)=b
 cases b<;>rfl
end Pl
open Go Go.Ab Go.Lib
namespace Pl
abbrev Sv:Type:=Int×Int×Int×Int×Int×Int×Unit
def zS:Sv:=((0:Int),(0:Int),(0:Int),(0:Int),(0:Int),(0:Int),())
def Hi (l:List Sv) (i:Nat) (c:Int):Bool:=match i with
 |0=>false
 |m+1=>decide ((l.getD m zS).1≥c)
def GU (c:Ct) (s:Sv):Bool:=bif(zW c.2.1 s.2.2.1).isSome then(edI c.2.1 (zW c.2.1 s.2.2.1)).1 != Int.tmod s.1 2 else false
def Bi (c:Ct) (now:Int) (l:List Sv) (i:Nat):Bool:=
 ((((((!nG (l.getD i zS).1 0 3 || Hi l i (l.getD i zS).1) || !nG (l.getD i zS).2.1 1 99999) || !nG (l.getD i zS).2.2.1 1 c.1) || !nG (l.getD i zS).2.2.2.1 0 9999) || !nG (l.getD i zS).2.2.2.2.1 0 3) || !nG (l.getD i zS).2.2.2.2.2.1 0 now) || GU c (l.getD i zS)
theorem Kq (a b:Bool):(bif a then true else b)=(a || b):=by cases a<;>rfl
theorem VF (s:ct.D) (hc:s.2.2.2.1.2.1.length≤9999999) (i:Nat) (hi:i<s.2.2.2.2.2.2.1.length) (hl:s.2.2.2.2.2.2.1.length≤9999999) :
  Wh.BL (((i:Int),()),s)=if Bi s.2.2.2.1 s.2.1 s.2.2.2.2.2.2.1 i=true then some (.inr (.inl (false,()))) else some (.inl ((((i+1:Nat):Int),()),s)):=by
 have w:=mb (show i≤4611686018427387904 by omega)
 have ed:=VC s.2.2.2.1 (s.2.2.2.2.2.2.1.getD i zS).2.2.1 hc
 have hh (x:Int):Wh.q70 x=some (Int.tmod x 2,()):=rfl
 have fin (A B:Bool) (X Y:Option ((((Int)×(Unit))×((ct.D)))⊕((((Bool))×(Unit))⊕((Unit)×(Unit))))):(bif A then X else bif B then X else Y)=if(A || B)=true then X else Y:=by cases A<;>cases B<;>rfl
 rcases Nat.eq_zero_or_pos i with h0|h0
 ·subst h0
  have d1:decide (((0:Nat):Int)>0)=false:=rfl
  unfold Bi GU Hi
  unfold zS at ed ⊢
  simp only[Wh.BL,gl hi,g0,Int.toNat_natCast,Ao,Wh.zc _ _ (Ao _ _ _),ed,Wh.DD _ _ ed,hh,Wh.Qv _ _ (hh _),d1,Kq,nQ,Bool.or_true,Bool.false_and,Bool.not_false,Bool.true_or,Bool.or_false,iy,Bool.and_self,cond_true,cond_false,w]
  exact fin _ _ _ _
 ·obtain⟨m,rfl⟩:∃m,i=m+1:=⟨i-1,by omega⟩
  have d1:decide (((m+1:Nat):Int)>0)=true:=decide_eq_true (by omega)
  have w1:IntKind.wrap .i64 (((m+1:Nat):Int)-1)=(m:Int):=wi (by omega) (by omega)
  unfold Bi GU Hi
  unfold zS at ed ⊢
  simp only[Wh.BL,gl hi,gl (show m<s.2.2.2.2.2.2.1.length by omega),g0,Int.toNat_natCast,w1,Ao,Wh.zc _ _ (Ao _ _ _),ed,Wh.DD _ _ ed,hh,Wh.Qv _ _ (hh _),d1,Kq,nQ,Bool.or_true,iy,Bool.and_self,cond_true,w]
  exact fin _ _ _ _
theorem Kx (n:Int):Wh.q50 n=some (nG n 0 3,()):=by simp only[Wh.q50,yS,Wh.zo _ _ (yS _ _ _),nQ,iy,cond_true]
theorem Sj (s:ct.D) (hc:s.2.2.2.1.2.1.length≤9999999) (i:Nat) (hi:i<s.2.2.2.2.2.2.1.length) (hl:s.2.2.2.2.2.2.1.length≤9999999) :
  Wh.BM (((i:Int),(),s.2.2.2.2.2.2.1,(s.2.2.2.2.2.2.1.length:Int)),s)=if Bi s.2.2.2.1 s.2.1 s.2.2.2.2.2.2.1 i=true then some (.inr (.inl (false,()))) else some (.inl ((((i+1:Nat):Int),(),s.2.2.2.2.2.2.1,(s.2.2.2.2.2.2.1.length:Int)),s)):=by
 have w:=mb (show i≤4611686018427387904 by omega)
 have ed:=Se s.2.2.2.1 (s.2.2.2.2.2.2.1.getD i zS).2.2.1 hc
 have hh (x:Int):Wh.q78 x=some (Int.tmod x 2,()):=rfl
 have he:∃v,AO (zW s.2.2.2.1.2.1 (s.2.2.2.2.2.2.1.getD i zS).2.2.1)=v∧decide (v≥0)=(zW s.2.2.2.1.2.1 (s.2.2.2.2.2.2.1.getD i zS).2.2.1).isSome∧(!decide (v≥0) || decide (0≤v))=true∧(!decide (v≥0) || decide (v<(s.2.2.2.1.2.1.length:Int)))=true ∧
   (bif decide (v≥0) then(s.2.2.2.1.2.1.getD (Int.toNat v) z0).1 != Int.tmod (s.2.2.2.2.2.2.1.getD i zS).1 2 else false)=GU s.2.2.2.1 (s.2.2.2.2.2.2.1.getD i zS):=by
  unfold GU
  cases e:zW s.2.2.2.1.2.1 (s.2.2.2.2.2.2.1.getD i zS).2.2.1 with
  |none=>exact⟨-1,rfl,rfl,rfl,rfl,rfl⟩
  |some k=>
   have:=NJ e
   have d:decide ((k:Int)≥0)=true:=decide_eq_true (by omega)
   refine⟨(k:Int),rfl,d,by rw[g0,Bool.or_true],by rw[gl this,Bool.or_true],?_⟩
   rw[d];rfl
 obtain⟨v,hv,_,A5,hv3,hv4⟩:=he
 rw[hv] at ed
 have fin (A B C D:Bool) (X Y:Option ((((Int)×(Unit)×(List (fT.D))×(Int))×((ct.D)))⊕((((Bool))×(Unit))⊕((Unit)×(Unit))))) (h:(A || (B || C))=D):(bif A then X else bif B then X else bif C then X else Y)=if D=true then X else Y:=by subst h;cases A<;>cases B<;>cases C<;>rfl
 have bool8 (a b c d e f g h:Bool):((((b || !a) || !c) || !d) || (h || ((!e || !f) || !g)))=(((((((!a || b) || !c) || !d) || !e) || !f) || !g) || h):=by
  cases a<;>cases b<;>cases c<;>cases d<;>cases e<;>cases f<;>cases g<;>cases h<;>rfl
 have bool7 (a c d e f g h:Bool):(((!a || !c) || !d) || (h || ((!e || !f) || !g)))=((((((!a || !c) || !d) || !e) || !f) || !g) || h):=by
  cases a<;>cases c<;>cases d<;>cases e<;>cases f<;>cases g<;>cases h<;>rfl
 rcases Nat.eq_zero_or_pos i with h0|h0
 ·subst h0
  have d1:decide (((0:Nat):Int)>0)=false:=rfl
  unfold Bi Hi
  unfold z0 at hv4
  unfold zS at ed hv4 ⊢
  simp only[Wh.BM,gl hi,g0,Int.toNat_natCast,Kx,Wh.Qd _ _ (Kx _),yS,Wh.zo _ _ (yS _ _ _),ed,Wh.ES _ _ ed,hh,Wh.QD _ _ (hh _),A5,hv3,hv4,d1,nQ,Bool.or_true,Bool.not_false,Bool.true_or,Bool.or_false,iy,Bool.and_self,cond_true,cond_false,w]
  refine fin _ _ _ _ _ _ ?_
  simp only[Kq]
  exact bool7 _ _ _ _ _ _ _
 ·obtain⟨m,rfl⟩:∃m,i=m+1:=⟨i-1,by omega⟩
  have d1:decide (((m+1:Nat):Int)>0)=true:=decide_eq_true (by omega)
  have w1:IntKind.wrap .i64 (((m+1:Nat):Int)-1)=(m:Int):=wi (by omega) (by omega)
  unfold Bi Hi
  unfold z0 at hv4
  unfold zS at ed hv4 ⊢
  simp only[Wh.BM,gl hi,gl (show m<s.2.2.2.2.2.2.1.length by omega),g0,Int.toNat_natCast,w1,Kx,Wh.Qd _ _ (Kx _),yS,Wh.zo _ _ (yS _ _ _),ed,Wh.ES _ _ ed,hh,Wh.QD _ _ (hh _),A5,hv3,hv4,d1,nQ,Bool.or_true,iy,Bool.and_self,cond_true,w]
  refine fin _ _ _ _ _ _ ?_
  simp only[Kq]
  exact bool8 _ _ _ _ _ _ _ _
noncomputable def yz (s:ct.D):List (List UInt8)×Nat:=xU hash s.2.2.1
noncomputable def KE (s:ct.D):Bool:=(s.2.2.2.1.2.1.length==0&&s.2.2.2.1.1==0&&s.2.2.2.2.1.1.length==0&&s.2.2.2.2.1.2.1==0&&s.2.2.2.2.2.1.length==0&&s.2.2.2.2.2.2.1.length==0)
noncomputable def GX (s:ct.D):Bool:=jS s.2.2.2.2.1.1.length (fun i=> !B7 s.2.2.2.1 (s.2.2.2.2.1.1.getD i zF))
noncomputable def ND (s:ct.D):Bool:=jS s.2.2.2.2.2.1.length (fun i=> !B6 s.2.1 (s.2.2.2.2.2.1.getD i zB))
noncomputable def HO (s:ct.D):Bool:=jS s.2.2.2.2.2.2.1.length (fun i=> !Bi s.2.2.2.1 s.2.1 s.2.2.2.2.2.2.1 i)
noncomputable def upV (s:ct.D):Bool:=(yz s).2==s.2.2.1.length&&(decide ((zu (yz s).1).1=s.2.2.2.1)&&(By s.2.2.2.2.1&&(s.2.2.2.2.2.1.length==2&&(HO s&&(GX s&&ND s)))))
noncomputable def okV (s:ct.D):Bool:=nG s.2.1 0 99999&&(decide (s.2.2.1.length≤9000)&&((zu (yz s).1).2&&(bif s.1 then upV s else KE s)))
theorem NF {l:List (List UInt8)} (h:(zu l).2=true):yG (zu l).1:=by
 unfold zu at h ⊢
 cases e:Ai (0,[],()) l with
 |none=>rw[e] at h;cases h
 |some c=>exact Ry l _ c Kw e
theorem abQ (s:ct.D) (hc:s.2.2.2.1.2.1.length≤9999999) (hl:s.2.2.2.2.2.2.1.length≤9999999):Wh.q43 s=some (HO s,()):=by
 have q:=zV (r:=Wh.BL) (fun i=>(((i:Int),()),s)) (n:=s.2.2.2.2.2.2.1.length) (p:=fun i=> !Bi s.2.2.2.1 s.2.1 s.2.2.2.2.2.2.1 i) (yf:=.inl (false,())) (yt:=.inr ((),())) (fun i hi _ hp=>by
   rw[VF s hc i hi hl,if_neg (by simpa using hp)]) (fun i hi _ hp=>by
   rw[VF s hc i hi hl,if_pos (by simpa using hp)]) (by
   have d1:decide ((s.2.2.2.2.2.2.1.length:Int)<(s.2.2.2.2.2.2.1.length:Int))=false:=decide_eq_false (by omega)
   simp only[Wh.BL,d1,cond_false])
 have q':Comes Wh.BL ((0,()),s) _:=q
 simp only[Wh.q43,cb q',cv q',cond_true]
 unfold HO
 cases jS s.2.2.2.2.2.2.1.length (fun i=> !Bi s.2.2.2.1 s.2.1 s.2.2.2.2.2.2.1 i)<;>rfl
theorem Vt (s:ct.D) (h:s.2.2.1.length≤9999999):(yz s).1.length≤9999999∧∀r∈(yz s).1,r.length≤9999999:=by
 obtain⟨h1,h2,h3⟩:=vQ hash Al (s.2.2.1.length+1) s.2.2.1 0
 refine⟨?_,fun r hr=>?_⟩
 ·change (eE hash (s.2.2.1.length+1) s.2.2.1 0).1.length≤9999999;omega
 ·have:=h3 r hr;omega
theorem abY (s:ct.D) (S:y5 s):Wh.q69 s=some (okV s,()):=by
 have Ax:=S.log
 have hbk:=S.Bk
 have hsv:=S.BU
 have hfr:s.2.2.2.2.1.1.length≤1048576:=S.Bx
 have hct:s.2.2.2.1.2.1.length≤1048576:=S.cat
 have a:=NV s.2.2.1 (by omega)
 obtain⟨r1,r2⟩:=Vt s (by omega)
 have b:=abU (yz s).1 r1 r2
 unfold okV
 change Wh.Ba s.2.2.1=some (((yz s).1,((yz s).2:Int)),()) at a
 have hle:decide ((s.2.2.1.length:Int)>9000) = !decide (s.2.2.1.length≤9000):=by
  by_cases h:s.2.2.1.length≤9000
  ·rw[decide_eq_true h,decide_eq_false (by omega)];rfl
  ·rw[decide_eq_false h,decide_eq_true (by omega)];rfl
 have Bq (x y:Nat):((x:Int)==(y:Int))=(x==y):=by rw[Bool.eq_iff_iff,beq_iff_eq,beq_iff_eq];omega
 have Ot (x:Nat):((x:Int)==0)=(x==0):=Bq x 0
 have Ou (x:Nat):((x:Int) != 2) = !(x==2):=by rw[←Bq x 2];rfl
 simp only[Wh.q69,Ao,Wh.zc _ _ (Ao _ _ _),hle,nQ,iy,cond_true]
 cases nG s.2.1 0 99999 with
 |false=>rfl
 |true=>
 cases decide (s.2.2.1.length≤9000) with
 |false=>rfl
 |true=>
 simp only[Bool.not_true,cond_false,Bool.true_and]
 cases cS:s.1 with
 |false=>
  have sy:Wh.q95 s=some ((zu (yz s).1).2,()):=by
   simp only[Wh.q95,a,Wh.Hq _ _ a,b,Wh.Pt _ _ b,nQ,iy,cond_true]
  simp only[Bool.not_false,cond_true,cond_false,sy,Wh.q95_v _ _ sy,Bool.or_true,Ot,KE]
  congr 2
  cases (zu (yz s).1).2<;>cases (s.2.2.2.1.2.1.length==0)<;>cases (s.2.2.2.1.1==0)<;>cases (s.2.2.2.2.1.1.length==0)<;>cases (s.2.2.2.2.1.2.1==0)<;>cases (s.2.2.2.2.2.1.length==0)<;>cases (s.2.2.2.2.2.2.1.length==0)<;>rfl
 |true=>
  have sm:=ab2 (zu (yz s).1).1 s.2.2.2.1
  have po:=ab0 s.2.2.2.2.1 (by omega)
  have sv:=abQ s (by omega) (by omega)
  have e1:(((yz s).2:Int) != (s.2.2.1.length:Int)) = !((yz s).2==s.2.2.1.length):=by rw[←Bq];rfl
  simp only[Bool.not_true,cond_false,cond_true,a,Wh.Hq _ _ a,b,Wh.Pt _ _ b,po,Wh.T_ _ _ po,sv,Wh.q43_v _ _ sv,Bool.or_true,e1,Ou]
  unfold upV
  cases hcat:(zu (yz s).1).2 with
  |false=>simp only[Bool.not_false,cond_true,Bool.not_true,Bool.true_or,Bool.and_self,Bool.false_and]
  |true=>
  cases hrd:((yz s).2==s.2.2.1.length) with
  |false=>simp only[Bool.not_false,cond_true,cond_false,Bool.not_true,Bool.true_or,Bool.and_self,Bool.false_and,Bool.and_false]
  |true=>
  have I:=NF hcat
  have hI:=I.len
  have sm':=sm (by omega)
  simp only[sm',Wh.q94_v _ _ sm',Bool.not_true,Bool.not_false,cond_false,cond_true,Bool.or_true,Bool.true_and,Bool.and_self]
  by_cases hsame:(zu (yz s).1).1=s.2.2.2.1
  ·rw[decide_eq_true hsame]
   rw[hsame] at I
   cases hpo:By s.2.2.2.2.1 with
   |false=>rfl
   |true=>
   cases bZ:(s.2.2.2.2.2.1.length==2) with
   |false=>rfl
   |true=>
   cases hsr:HO s with
   |false=>rfl
   |true=>
    simp only[Bool.not_true,cond_false,Bool.true_and]
    have q:=zV (r:=Wh.AH) (fun i=>(((i:Int),()),s)) (n:=s.2.2.2.2.1.1.length) (p:=fun i=> !B7 s.2.2.2.1 (s.2.2.2.2.1.1.getD i zF)) (yf:=.inl (false,())) (yt:=.inr ((),s)) (fun i hi _ hp=>by
      rw[VD s I i hi (by omega),if_neg (by simpa using hp)]) (fun i hi _ hp=>by
      rw[VD s I i hi (by omega),if_pos (by simpa using hp)]) (by
      have d1:decide ((s.2.2.2.2.1.1.length:Int)<(s.2.2.2.2.1.1.length:Int))=false:=decide_eq_false (by omega)
      simp only[Wh.AH,d1,cond_false])
    have q':Comes Wh.AH ((0,()),s) _:=q
    have q2:=zV (r:=Wh.CG) (fun i=>(((i:Int),()),s)) (n:=s.2.2.2.2.2.1.length) (p:=fun i=> !B6 s.2.1 (s.2.2.2.2.2.1.getD i zB)) (yf:=.inl (false,())) (yt:=.inr ((),())) (fun i hi _ hp=>by
      rw[Vz s i hi (by omega),if_neg (by simpa using hp)]) (fun i hi _ hp=>by
      rw[Vz s i hi (by omega),if_pos (by simpa using hp)]) (by
      have d1:decide ((s.2.2.2.2.2.1.length:Int)<(s.2.2.2.2.2.1.length:Int))=false:=decide_eq_false (by omega)
      simp only[Wh.CG,d1,cond_false])
    have Cs:Comes Wh.CG ((0,()),s) _:=q2
    simp only[cb q',cv q',cond_true]
    unfold GX ND
    cases hf:jS s.2.2.2.2.1.1.length (fun i=> !B7 s.2.2.2.1 (s.2.2.2.2.1.1.getD i zF)) with
    |false=>simp[sumC]
    |true=>
     simp only[if_true,sumC,cb Cs,cv Cs,cond_true,Bool.true_and]
     cases hb:jS s.2.2.2.2.2.1.length (fun i=> !B6 s.2.1 (s.2.2.2.2.2.1.getD i zB))<;>rfl
  ·rw[decide_eq_false hsame];rfl
theorem Wk (s:ct.D) (I:yG s.2.2.2.1) (hp:s.2.2.2.2.1.1.length≤9999999):Wh.q52 (s.2.2.2.2.1,s.2.2.2.1)=some (By s.2.2.2.2.1&&GX s,()):=by
 have a:=Xb s.2.2.2.2.1 hp
 cases hv:By s.2.2.2.2.1 with
 |false=>
  rw[hv] at a
  simp only[Wh.q52,a,Wh.OO _ _ a,nQ,iy,cond_true,Bool.not_false,Bool.false_and]
 |true=>
  have hok:∀i,i<s.2.2.2.2.1.1.length→okF (s.2.2.2.2.1.1.getD i zF)=true:=by
   unfold By at hv
   simp only[Bool.and_eq_true,beq_iff_eq] at hv
   intro i hi
   have:=oL.1 hv.2.1 i (by omega)
   unfold Ac at this
   rw[Bool.and_eq_true] at this
   exact this.1
  rw[hv] at a
  have q:=zV (r:=Wh.AG) (fun i=>(((i:Int),(),s.2.2.2.2.1.1,(s.2.2.2.2.1.1.length:Int)),s.2.2.2.1)) (n:=s.2.2.2.2.1.1.length) (p:=fun i=> !B7 s.2.2.2.1 (s.2.2.2.2.1.1.getD i zF)) (yf:=.inl (false,())) (yt:=.inr ((),())) (fun i hi _ hp=>by
    rw[Sf s.2.2.2.1 I _ i hi (by omega) (hok i hi),if_neg (by simpa using hp)]) (fun i hi _ hp=>by
    rw[Sf s.2.2.2.1 I _ i hi (by omega) (hok i hi),if_pos (by simpa using hp)]) (by
    have d1:decide ((s.2.2.2.2.1.1.length:Int)<(s.2.2.2.2.1.1.length:Int))=false:=decide_eq_false (by omega)
    simp only[Wh.AG,d1,cond_false])
  have q':Comes Wh.AG ((0,(),s.2.2.2.2.1.1,(s.2.2.2.2.1.1.length:Int)),s.2.2.2.1) _:=q
  simp only[Wh.q52,a,Wh.OO _ _ a,nQ,iy,cond_true,cond_false,Bool.not_true,Bool.true_and,cb q',cv q']
  unfold GX
  cases jS s.2.2.2.2.1.1.length (fun i=> !B7 s.2.2.2.1 (s.2.2.2.2.1.1.getD i zF))<;>rfl
theorem W_ (s:ct.D) (S:y5 s):Wh.q49 s=some (okV s,()):=by
 have Ax:=S.log
 have hbk:=S.Bk
 have hsv:=S.BU
 have hfr:s.2.2.2.2.1.1.length≤1048576:=S.Bx
 have hct:s.2.2.2.1.2.1.length≤1048576:=S.cat
 have a:=Rm s.2.2.1 (by omega)
 obtain⟨r1,r2⟩:=Vt s (by omega)
 have b:=W7 (yz s).1 r1 r2
 unfold okV
 change Wh.CH s.2.2.1=some (((yz s).1,((yz s).2:Int)),()) at a
 have hle:decide ((s.2.2.1.length:Int)>9000) = !decide (s.2.2.1.length≤9000):=by
  by_cases h:s.2.2.1.length≤9000
  ·rw[decide_eq_true h,decide_eq_false (by omega)];rfl
  ·rw[decide_eq_false h,decide_eq_true (by omega)];rfl
 have Bq (x y:Nat):((x:Int)==(y:Int))=(x==y):=by rw[Bool.eq_iff_iff,beq_iff_eq,beq_iff_eq];omega
 have Ot (x:Nat):((x:Int)==0)=(x==0):=Bq x 0
 have Ou (x:Nat):((x:Int) != 2) = !(x==2):=by rw[←Bq x 2];rfl
 simp only[Wh.q49,yS,Wh.zo _ _ (yS _ _ _),hle,nQ,iy,cond_true]
 cases nG s.2.1 0 99999 with
 |false=>rfl
 |true=>
 cases decide (s.2.2.1.length≤9000) with
 |false=>rfl
 |true=>
 simp only[Bool.not_true,cond_false,Bool.true_and,a,Wh.QA _ _ a,b,Wh.Ui _ _ b,cond_true]
 cases hcat:(zu (yz s).1).2 with
 |false=>rfl
 |true=>
 simp only[Bool.not_true,cond_false,Bool.true_and]
 cases cS:s.1 with
 |false=>
  simp only[Bool.not_false,cond_true,cond_false,Ot,KE]
  congr 2
  cases (s.2.2.2.1.2.1.length==0)<;>cases (s.2.2.2.1.1==0)<;>cases (s.2.2.2.2.1.1.length==0)<;>cases (s.2.2.2.2.1.2.1==0)<;>cases (s.2.2.2.2.2.1.length==0)<;>cases (s.2.2.2.2.2.2.1.length==0)<;>rfl
 |true=>
  have I:=NF hcat
  have hI:=I.len
  have sm:=Xd (zu (yz s).1).1 s.2.2.2.1 (by omega)
  have e1:(((yz s).2:Int) != (s.2.2.1.length:Int)) = !((yz s).2==s.2.2.1.length):=by rw[←Bq];rfl
  simp only[Bool.not_true,cond_false,cond_true,sm,Wh.q80_v _ _ sm,Bool.or_true,e1,Ou]
  unfold upV
  cases hrd:((yz s).2==s.2.2.1.length) with
  |false=>simp only[Bool.not_false,cond_true,Bool.not_true,Bool.true_or,Bool.and_self,Bool.false_and]
  |true=>
  by_cases hsame:(zu (yz s).1).1=s.2.2.2.1
  ·rw[decide_eq_true hsame]
   rw[hsame] at I
   have fi:=Wk s I (by omega)
   simp only[fi,Wh.q52_v _ _ fi,Bool.not_true,cond_false,Bool.or_true,Bool.and_self,cond_true,Bool.true_and]
   cases hpo:By s.2.2.2.2.1 with
   |false=>rfl
   |true=>
   cases hfi:GX s with
   |false=>simp only[Bool.and_false,Bool.not_false,cond_true,Bool.false_and]
   |true=>
   cases bZ:(s.2.2.2.2.2.1.length==2) with
   |false=>rfl
   |true=>
    simp only[Bool.not_true,cond_false,Bool.true_and,Bool.and_self]
    have q:=zV (r:=Wh.CF) (fun i=>(((i:Int),(),s.2.2.2.2.2.1,(s.2.2.2.2.2.1.length:Int)),s)) (n:=s.2.2.2.2.2.1.length) (p:=fun i=> !B6 s.2.1 (s.2.2.2.2.2.1.getD i zB)) (yf:=.inl (false,())) (yt:=.inr ((),s)) (fun i hi _ hp=>by
      rw[Sb s _ i hi (by omega),if_neg (by simpa using hp)]) (fun i hi _ hp=>by
      rw[Sb s _ i hi (by omega),if_pos (by simpa using hp)]) (by
      have d1:decide ((s.2.2.2.2.2.1.length:Int)<(s.2.2.2.2.2.1.length:Int))=false:=decide_eq_false (by omega)
      simp only[Wh.CF,d1,cond_false])
    have q':Comes Wh.CF ((0,(),s.2.2.2.2.2.1,(s.2.2.2.2.2.1.length:Int)),s) _:=q
    have q2:=zV (r:=Wh.BM) (fun i=>(((i:Int),(),s.2.2.2.2.2.2.1,(s.2.2.2.2.2.2.1.length:Int)),s)) (n:=s.2.2.2.2.2.2.1.length) (p:=fun i=> !Bi s.2.2.2.1 s.2.1 s.2.2.2.2.2.2.1 i) (yf:=.inl (false,())) (yt:=.inr ((),())) (fun i hi _ hp=>by
      rw[Sj s (by omega) i hi (by omega),if_neg (by simpa using hp)]) (fun i hi _ hp=>by
      rw[Sj s (by omega) i hi (by omega),if_pos (by simpa using hp)]) (by
      have d1:decide ((s.2.2.2.2.2.2.1.length:Int)<(s.2.2.2.2.2.2.1.length:Int))=false:=decide_eq_false (by omega)
      simp only[Wh.BM,d1,cond_false])
    have Cs:Comes Wh.BM ((0,(),s.2.2.2.2.2.2.1,(s.2.2.2.2.2.2.1.length:Int)),s) _:=q2
    simp only[cb q',cv q',cond_true]
    unfold ND HO
    cases hf:jS s.2.2.2.2.2.1.length (fun i=> !B6 s.2.1 (s.2.2.2.2.2.1.getD i zB)) with
    |false=>simp[sumC]
    |true=>
     simp only[if_true,sumC,cb Cs,cv Cs,cond_true,Bool.and_true]
     cases hb:jS s.2.2.2.2.2.2.1.length (fun i=> !Bi s.2.2.2.1 s.2.1 s.2.2.2.2.2.2.1 i)<;>rfl
  ·rw[decide_eq_false hsame];rfl
end Pl
open Go Go.Ab
namespace Pl
section
variable {α:Type} (yJ:α→Int→α) (n1:α→Nat)
def ov:List α→Int→List α
 | [],_=>[]
 |a::l,k=>yJ a k::ov l (k+n1 a)
def nC (l:List α):Nat:=(l.map n1).sum
def ks (k:Int) (l:List α) (i:Nat):Int:=k+(nC n1 (l.take i):Nat)
def part (k:Int) (l:List α) (i:Nat):List α:=ov yJ n1 (l.take i) k++l.drop i
theorem zw:∀(l:List α) (k:Int),(ov yJ n1 l k).length=l.length
 | [],_=>rfl
 |_::l,k=>by simp[ov,zw l]
theorem Oq:∀(p q:List α) (k:Int),ov yJ n1 (p++q) k=ov yJ n1 p k++ov yJ n1 q (k+(nC n1 p:Nat))
 | [],q,k=>by simp[ov,nC]
 |a::p,q,k=>by
  simp only[List.cons_append,ov,Oq p q,nC,List.map_cons,List.sum_cons]
  rw[show k+(n1 a:Int)+((p.map n1).sum:Nat)=k+((n1 a+(p.map n1).sum:Nat):Int) by omega]
theorem ab6 (l:List α) (i:Nat) (h:i<l.length):l=l.take i++l[i]::l.drop (i+1):=by
 rw[List.getElem_cons_drop,List.take_append_drop]
theorem VH (l:List α) (i:Nat) (h:i<l.length):l.take (i+1)=l.take i ++ [l[i]]:=by
 rw[List.take_add_one,List.getElem?_eq_getElem h];rfl
theorem C6 (k:Int) (l:List α):ks n1 k l 0=k:=by simp[ks,nC]
theorem B9 (k:Int) (l:List α) (i:Nat) (h:i<l.length):ks n1 k l (i+1)=ks n1 k l i+n1 l[i]:=by
 simp only[ks,VH l i h,nC,List.map_append,List.sum_append,List.map_cons,List.map_nil,List.sum_cons,List.sum_nil]
 omega
theorem C4 (k:Int) (l:List α):ks n1 k l l.length=k+(nC n1 l:Nat):=by simp[ks]
theorem B8 (k:Int) (l:List α) (i:Nat):k≤ks n1 k l i∧ks n1 k l i≤k+(nC n1 l:Nat):=by
 have:nC n1 (l.take i)≤nC n1 l:=by
  have e:nC n1 l=nC n1 (l.take i)+nC n1 (l.drop i):=by
   unfold nC
   rw[←List.sum_append,←List.map_append,List.take_append_drop]
  omega
 unfold ks
 omega
theorem C5 (k:Int) (l:List α) (i:Nat) (h:i<l.length):ks n1 k l i+n1 l[i]≤k+(nC n1 l:Nat):=by
 rw[←B9 n1 k l i h]
 exact(B8 n1 k l (i+1)).2
theorem La (k:Int) (l:List α):part yJ n1 k l 0=l:=by simp[part,ov]
theorem FQ (k:Int) (l:List α):part yJ n1 k l l.length=ov yJ n1 l k:=by simp[part]
theorem K9 (k:Int) (l:List α) (i:Nat) (h:i≤l.length):(part yJ n1 k l i).length=l.length:=by simp[part,zw];omega
theorem K8 (k:Int) (l:List α) (i:Nat) (z:α) (h:i<l.length):(part yJ n1 k l i).getD i z=l[i]:=by
 have hl:(ov yJ n1 (l.take i) k).length=i:=by rw[zw];simp;omega
 unfold part
 rw[List.getD_eq_getElem?_getD,List.getElem?_append_right (by omega),hl,Nat.sub_self,List.getElem?_drop,List.getElem?_eq_getElem (by omega)]
 simp
theorem K_ (k:Int) (l:List α) (i:Nat) (h:i<l.length):(part yJ n1 k l i).set i (yJ l[i] (ks n1 k l i))=part yJ n1 k l (i+1):=by
 have hl:(ov yJ n1 (l.take i) k).length=i:=by rw[zw];simp;omega
 unfold part
 rw[VH l i h,Oq,←List.getElem_cons_drop h,List.set_append_right _ _ (by omega),hl,Nat.sub_self,List.set_cons_zero]
 simp[ov,ks]
theorem K4 (k:Int) (l:List α) (i:Nat) (z:α) (h:i<l.length):(ov yJ n1 l k).getD i z=yJ l[i] (ks n1 k l i):=by
 rw[←FQ,List.getD_eq_getElem?_getD]
 have hl:(ov yJ n1 (l.take i) k).length=i:=by rw[zw];simp;omega
 have e:ov yJ n1 l k=ov yJ n1 (l.take i) k++yJ l[i] (ks n1 k l i)::ov yJ n1 (l.drop (i+1)) (ks n1 k l i+n1 l[i]):=by
  conv=>lhs;rw[ab6 l i h]
  rw[Oq]
  rfl
 rw[FQ,e,List.getElem?_append_right (by omega),hl,Nat.sub_self]
 rfl
end
noncomputable def mt (k:Int):List UInt8:=(Wh.E4 k).1
theorem Yi:∀(d:Nat) (k:Int) (out:List UInt8),0≤k→k<(10:Int) ^ d→d≤18→out.length+d≤100→∃s:List UInt8,s.length≤100∧Comes Wh.DI ((k,out),()) (s,()):=by
 intro d
 induction d with
 |zero=>
  intro k out h0 h1 _ h2
  have hk:k=0:=by simp at h1;omega
  subst hk
  exact⟨out,by omega,.out (by simp[Wh.DI])⟩
 |succ d ih=>
  intro k out h0 h1 hd h2
  by_cases hk:k>0
  ·have hq:k.tdiv 10<(10:Int) ^ d:=by
    rw[Int.tdiv_eq_ediv_of_nonneg h0]
    rw[Int.pow_succ] at h1
    omega
   have hq0:0≤k.tdiv 10:=by rw[Int.tdiv_eq_ediv_of_nonneg h0];omega
   have hp:(10:Int) ^ d≤(10:Int) ^ 18:=by
    have:(10:Nat) ^ d≤10 ^ 18:=Nat.pow_le_pow_right (by decide) (by omega)
    exact_mod_cast this
   have hw:IntKind.wrap .i64 (k.tdiv 10)=k.tdiv 10:=by rw[wrap64]<;>omega
   obtain⟨s,hs,hc⟩:=ih (k.tdiv 10) (qp [IntKind.wrap .u8 (IntKind.wrap .i64 (48+k.tmod 10))]++out) hq0 hq (by omega) (by simp[qp];omega)
   refine⟨s,hs,.again (x':=((k.tdiv 10,qp [IntKind.wrap .u8 (IntKind.wrap .i64 (48+k.tmod 10))]++out),())) ?_ hc⟩
   have hl:1+out.length≤dh:=by unfold dh;omega
   simp[Wh.DI,hk,hl,iy,hw]
  ·exact⟨out,by omega,.out (by simp[Wh.DI,hk])⟩
def yY:Int:=1000000000000000000
theorem K5 (k:Int) (h0:0≤k) (h1:k<yY):Wh.AX k=some (mt k,()):=by
 have main:∃s,Wh.AX k=some (s,()):=by
  by_cases hk:k≤0
  ·exact⟨[109,48],by simp[Wh.AX,hk]⟩
  ·obtain⟨s,hs,hc⟩:=Yi 18 k [] h0 (by simpa[yY] using h1) (by omega) (by simp)
   have hl:1+s.length≤dh:=by unfold dh;omega
   exact⟨109::s,by simp[Wh.AX,hk,cb hc,cv hc,iy,hl]⟩
 obtain⟨s,hs⟩:=main
 rw[hs,mt,Wh.F6 _ _ hs]
theorem w9 {k:Int} (h0:0≤k) (h1:k≤yY):IntKind.wrap .i64 (k+1)=k+1:=by unfold yY at h1;rw[wrap64]<;>omega
end Pl
open Go Go.Ab
namespace Pl
noncomputable def mkItem (_:an.D) (k:Int):an.D:=(k,mt (k+1),k+2,mt (k+3),())
def wh (_:an.D):Nat:=4
theorem Ye (a:List an.D) (k:Int) (h0:0≤k) (h1:k+(nC wh a:Nat)<yY) (hl:a.length≤4611686018427387904):Wh.q38 (a,k)=some (k+(nC wh a:Nat),ov mkItem wh a k,()):=by
 have hc:Comes Wh.DB (((0:Int),(),k),a) (k+(nC wh a:Nat),ov mkItem wh a k):=by
  have:=xR (r:=Wh.DB) (st:=fun i=>(((i:Int),(),ks wh k a i),part mkItem wh k a i)) (n:=a.length) (y:=(k+(nC wh a:Nat),ov mkItem wh a k)) ?_ ?_ 0 (Nat.zero_le _)
  ·simpa[C6,La] using this
  ·intro i hi
   have b1:=B8 wh k a i
   have b2:=C5 wh k a i hi
   have b3:wh a[i]=4:=rfl
   have e2:=mb (i:=i) (by omega)
   have e4:=B9 wh k a i hi
   have e3:=K_ mkItem wh k a i hi
   have pl:=K9 mkItem wh k a i (Nat.le_of_lt hi)
   have pg:=fun z=>K8 mkItem wh k a i z hi
   have hi':i<(part mkItem wh k a i).length:=by omega
   simp only[mkItem] at e3
   rw[b3] at e4
   generalize ks wh k a i=q at *
   have w0:=w9 (k:=q) (by omega) (by omega)
   have w1:=w9 (k:=q+1) (by omega) (by omega)
   have w2:=w9 (k:=q+2) (by omega) (by omega)
   have w3:=w9 (k:=q+3) (by omega) (by omega)
   have a1:q+1+1=q+2:=by omega
   have a2:q+2+1=q+3:=by omega
   have a3:q+3+1=ks wh k a (i+1):=by rw[e4];omega
   rw[a1] at w1
   rw[a2] at w2
   rw[a3] at w3
   have t1:=K5 (q+1) (by omega) (by omega)
   have t3:=K5 (q+3) (by omega) (by omega)
   have c1:decide ((i:Int)<(a.length:Int))=true:=by simpa using hi
   simp only[Wh.DB,Int.toNat_natCast,pl,pg,KK _ _ _ _ hi',LZ,List.length_set,c1,cond_true,iy,Bool.and_self,Int.natCast_nonneg,decide_true,nQ,
    w0,a1,w1,a2,w2,a3,w3,Wh.F6 _ _ t1,t1,Wh.F6 _ _ t3,t3,e2,e3]
  ·simp[Wh.DB,C4,FQ,zw]
 simp[Wh.q38,cb hc,cv hc]
theorem WX (a:List an.D) (k:Int) (h0:0≤k) (h1:k+(nC wh a:Nat)<yY) (hl:a.length≤4611686018427387904):Wh.q37 (ov mkItem wh a k,k)=some (k+(nC wh a:Nat),()):=by
 have hc:Comes Wh.DA (((0:Int),ov mkItem wh a k,k),()) (.inr (k+(nC wh a:Nat),())):=by
  have:=xR (r:=Wh.DA) (st:=fun i=>(((i:Int),ov mkItem wh a k,ks wh k a i),())) (n:=a.length) (y:=.inr (k+(nC wh a:Nat),())) ?_ ?_ 0 (Nat.zero_le _)
  ·simpa[C6] using this
  ·intro i hi
   have b1:=B8 wh k a i
   have b2:=C5 wh k a i hi
   have b3:wh a[i]=4:=rfl
   have e2:=mb (i:=i) (by omega)
   have e4:=B9 wh k a i hi
   have pl:=zw mkItem wh a k
   have pg:=fun z=>K4 mkItem wh k a i z hi
   simp only[mkItem] at pg
   rw[b3] at e4
   generalize ks wh k a i=q at *
   have w0:=w9 (k:=q) (by omega) (by omega)
   have w1:=w9 (k:=q+1) (by omega) (by omega)
   have w2:=w9 (k:=q+2) (by omega) (by omega)
   have w3:=w9 (k:=q+3) (by omega) (by omega)
   have a1:q+1+1=q+2:=by omega
   have a2:q+2+1=q+3:=by omega
   have a3:q+3+1=ks wh k a (i+1):=by rw[e4];omega
   rw[a1] at w1
   rw[a2] at w2
   rw[a3] at w3
   have t1:=K5 (q+1) (by omega) (by omega)
   have t3:=K5 (q+3) (by omega) (by omega)
   have c1:decide ((i:Int)<(a.length:Int))=true:=by simpa using hi
   have d1:(mt (q+1)==mt (q+1))=true:=by simp
   have d3:(mt (q+3)==mt (q+3))=true:=by simp
   have bn:∀x:Int,(x != x)=false:=by intro x;simp
   simp only[Wh.DA,Int.toNat_natCast,pl,pg,c1,cond_true,cond_false,iy,Bool.and_self,Int.natCast_nonneg,decide_true,nQ,bn,
    w0,a1,w1,a2,w2,a3,w3,Wh.F6 _ _ t1,t1,Wh.F6 _ _ t3,t3,e2,d1,d3,Bool.not_true]
  ·simp[Wh.DA,zw,C4]
 simp[Wh.q37,cb hc,cv hc,sumC]
def zK (_:fN.D) (k:Int):fN.D:=(k,k+1,k+2,k+3,())
def s4 (_:fN.D):Nat:=4
theorem Yb (a:List fN.D) (k:Int) (h0:0≤k) (h1:k+(nC s4 a:Nat)<yY) (hl:a.length≤4611686018427387904):Wh.q17 (a,k)=some (k+(nC s4 a:Nat),ov zK s4 a k,()):=by
 have hc:Comes Wh.Dv (((0:Int),(),k),a) (k+(nC s4 a:Nat),ov zK s4 a k):=by
  have:=xR (r:=Wh.Dv) (st:=fun i=>(((i:Int),(),ks s4 k a i),part zK s4 k a i)) (n:=a.length) (y:=(k+(nC s4 a:Nat),ov zK s4 a k)) ?_ ?_ 0 (Nat.zero_le _)
  ·simpa[C6,La] using this
  ·intro i hi
   have b1:=B8 s4 k a i
   have b2:=C5 s4 k a i hi
   have b3:s4 a[i]=4:=rfl
   have e2:=mb (i:=i) (by omega)
   have e4:=B9 s4 k a i hi
   have e3:=K_ zK s4 k a i hi
   have pl:=K9 zK s4 k a i (Nat.le_of_lt hi)
   have pg:=fun z=>K8 zK s4 k a i z hi
   have hi':i<(part zK s4 k a i).length:=by omega
   simp only[zK] at e3
   rw[b3] at e4
   generalize ks s4 k a i=q at *
   have w0:=w9 (k:=q) (by omega) (by omega)
   have w1:=w9 (k:=q+1) (by omega) (by omega)
   have w2:=w9 (k:=q+2) (by omega) (by omega)
   have w3:=w9 (k:=q+3) (by omega) (by omega)
   have a1:q+1+1=q+2:=by omega
   have a2:q+2+1=q+3:=by omega
   have a3:q+3+1=ks s4 k a (i+1):=by rw[e4];omega
   rw[a1] at w1
   rw[a2] at w2
   rw[a3] at w3
   have c1:decide ((i:Int)<(a.length:Int))=true:=by simpa using hi
   simp only[Wh.Dv,Int.toNat_natCast,pl,pg,KK _ _ _ _ hi',LZ,List.length_set,c1,cond_true,iy,Bool.and_self,Int.natCast_nonneg,decide_true,w0,a1,w1,a2,w2,a3,w3,e2,e3]
  ·simp[Wh.Dv,C4,FQ,zw]
 simp[Wh.q17,cb hc,cv hc]
theorem WU (a:List fN.D) (k:Int) (h0:0≤k) (h1:k+(nC s4 a:Nat)<yY) (hl:a.length≤4611686018427387904):Wh.q16 (ov zK s4 a k,k)=some (k+(nC s4 a:Nat),()):=by
 have hc:Comes Wh.Du (((0:Int),ov zK s4 a k,k),()) (.inr (k+(nC s4 a:Nat),())):=by
  have:=xR (r:=Wh.Du) (st:=fun i=>(((i:Int),ov zK s4 a k,ks s4 k a i),())) (n:=a.length) (y:=.inr (k+(nC s4 a:Nat),())) ?_ ?_ 0 (Nat.zero_le _)
  ·simpa[C6] using this
  ·intro i hi
   have b1:=B8 s4 k a i
   have b2:=C5 s4 k a i hi
   have b3:s4 a[i]=4:=rfl
   have e2:=mb (i:=i) (by omega)
   have e4:=B9 s4 k a i hi
   have pl:=zw zK s4 a k
   have pg:=fun z=>K4 zK s4 k a i z hi
   simp only[zK] at pg
   rw[b3] at e4
   generalize ks s4 k a i=q at *
   have w0:=w9 (k:=q) (by omega) (by omega)
   have w1:=w9 (k:=q+1) (by omega) (by omega)
   have w2:=w9 (k:=q+2) (by omega) (by omega)
   have w3:=w9 (k:=q+3) (by omega) (by omega)
   have a1:q+1+1=q+2:=by omega
   have a2:q+2+1=q+3:=by omega
   have a3:q+3+1=ks s4 k a (i+1):=by rw[e4];omega
   rw[a1] at w1
   rw[a2] at w2
   rw[a3] at w3
   have c1:decide ((i:Int)<(a.length:Int))=true:=by simpa using hi
   have bn:∀x:Int,(x != x)=false:=by intro x;simp
   simp only[Wh.Du,Int.toNat_natCast,pl,pg,c1,cond_true,cond_false,iy,Bool.and_self,Int.natCast_nonneg,decide_true,bn,
    w0,a1,w1,a2,w2,a3,w3,e2]
  ·simp[Wh.Du,zw,C4]
 simp[Wh.q16,cb hc,cv hc,sumC]
def zM (_:fT.D) (k:Int):fT.D:=(k,k+1,k+2,k+3,k+4,k+5,())
def wX (_:fT.D):Nat:=6
theorem Yg (a:List fT.D) (k:Int) (h0:0≤k) (h1:k+(nC wX a:Nat)<yY) (hl:a.length≤4611686018427387904):Wh.q26 (a,k)=some (k+(nC wX a:Nat),ov zM wX a k,()):=by
 have hc:Comes Wh.Dz (((0:Int),(),k),a) (k+(nC wX a:Nat),ov zM wX a k):=by
  have:=xR (r:=Wh.Dz) (st:=fun i=>(((i:Int),(),ks wX k a i),part zM wX k a i)) (n:=a.length) (y:=(k+(nC wX a:Nat),ov zM wX a k)) ?_ ?_ 0 (Nat.zero_le _)
  ·simpa[C6,La] using this
  ·intro i hi
   have b1:=B8 wX k a i
   have b2:=C5 wX k a i hi
   have b3:wX a[i]=6:=rfl
   have e2:=mb (i:=i) (by omega)
   have e4:=B9 wX k a i hi
   have e3:=K_ zM wX k a i hi
   have pl:=K9 zM wX k a i (Nat.le_of_lt hi)
   have pg:=fun z=>K8 zM wX k a i z hi
   have hi':i<(part zM wX k a i).length:=by omega
   simp only[zM] at e3
   rw[b3] at e4
   generalize ks wX k a i=q at *
   have w0:=w9 (k:=q) (by omega) (by omega)
   have w1:=w9 (k:=q+1) (by omega) (by omega)
   have w2:=w9 (k:=q+2) (by omega) (by omega)
   have w3:=w9 (k:=q+3) (by omega) (by omega)
   have w4:=w9 (k:=q+4) (by omega) (by omega)
   have w5:=w9 (k:=q+5) (by omega) (by omega)
   have a1:q+1+1=q+2:=by omega
   have a2:q+2+1=q+3:=by omega
   have a3:q+3+1=q+4:=by omega
   have a4:q+4+1=q+5:=by omega
   have a5:q+5+1=ks wX k a (i+1):=by rw[e4];omega
   rw[a1] at w1
   rw[a2] at w2
   rw[a3] at w3
   rw[a4] at w4
   rw[a5] at w5
   have c1:decide ((i:Int)<(a.length:Int))=true:=by simpa using hi
   simp only[Wh.Dz,Int.toNat_natCast,pl,pg,KK _ _ _ _ hi',LZ,List.length_set,c1,cond_true,iy,Bool.and_self,Int.natCast_nonneg,decide_true,w0,a1,w1,a2,w2,a3,w3,a4,w4,a5,w5,e2,e3]
  ·simp[Wh.Dz,C4,FQ,zw]
 simp[Wh.q26,cb hc,cv hc]
theorem WZ (a:List fT.D) (k:Int) (h0:0≤k) (h1:k+(nC wX a:Nat)<yY) (hl:a.length≤4611686018427387904):Wh.q23 (ov zM wX a k,k)=some (k+(nC wX a:Nat),()):=by
 have hc:Comes Wh.Dx (((0:Int),ov zM wX a k,k),()) (.inr (k+(nC wX a:Nat),())):=by
  have:=xR (r:=Wh.Dx) (st:=fun i=>(((i:Int),ov zM wX a k,ks wX k a i),())) (n:=a.length) (y:=.inr (k+(nC wX a:Nat),())) ?_ ?_ 0 (Nat.zero_le _)
  ·simpa[C6] using this
  ·intro i hi
   have b1:=B8 wX k a i
   have b2:=C5 wX k a i hi
   have b3:wX a[i]=6:=rfl
   have e2:=mb (i:=i) (by omega)
   have e4:=B9 wX k a i hi
   have pl:=zw zM wX a k
   have pg:=fun z=>K4 zM wX k a i z hi
   simp only[zM] at pg
   rw[b3] at e4
   generalize ks wX k a i=q at *
   have w0:=w9 (k:=q) (by omega) (by omega)
   have w1:=w9 (k:=q+1) (by omega) (by omega)
   have w2:=w9 (k:=q+2) (by omega) (by omega)
   have w3:=w9 (k:=q+3) (by omega) (by omega)
   have w4:=w9 (k:=q+4) (by omega) (by omega)
   have w5:=w9 (k:=q+5) (by omega) (by omega)
   have a1:q+1+1=q+2:=by omega
   have a2:q+2+1=q+3:=by omega
   have a3:q+3+1=q+4:=by omega
   have a4:q+4+1=q+5:=by omega
   have a5:q+5+1=ks wX k a (i+1):=by rw[e4];omega
   rw[a1] at w1
   rw[a2] at w2
   rw[a3] at w3
   rw[a4] at w4
   rw[a5] at w5
   have c1:decide ((i:Int)<(a.length:Int))=true:=by simpa using hi
   have bn:∀x:Int,(x != x)=false:=by intro x;simp
   simp only[Wh.Dx,Int.toNat_natCast,pl,pg,c1,cond_true,cond_false,iy,Bool.and_self,Int.natCast_nonneg,decide_true,bn,
    w0,a1,w1,a2,w2,a3,w3,a4,w4,a5,w5,e2]
  ·simp[Wh.Dx,zw,C4]
 simp[Wh.q23,cb hc,cv hc,sumC]
def zL (_:eA.D) (k:Int):eA.D:=(k,k+1,k+2,k+3,Int.tmod (k+4) 3==0,())
def we (_:eA.D):Nat:=5
theorem Yd (a:List eA.D) (k:Int) (h0:0≤k) (h1:k+(nC we a:Nat)<yY) (hl:a.length≤4611686018427387904):Wh.q25 (a,k)=some (k+(nC we a:Nat),ov zL we a k,()):=by
 have hc:Comes Wh.Dy (((0:Int),(),k),a) (k+(nC we a:Nat),ov zL we a k):=by
  have:=xR (r:=Wh.Dy) (st:=fun i=>(((i:Int),(),ks we k a i),part zL we k a i)) (n:=a.length) (y:=(k+(nC we a:Nat),ov zL we a k)) ?_ ?_ 0 (Nat.zero_le _)
  ·simpa[C6,La] using this
  ·intro i hi
   have b1:=B8 we k a i
   have b2:=C5 we k a i hi
   have b3:we a[i]=5:=rfl
   have e2:=mb (i:=i) (by omega)
   have e4:=B9 we k a i hi
   have e3:=K_ zL we k a i hi
   have pl:=K9 zL we k a i (Nat.le_of_lt hi)
   have pg:=fun z=>K8 zL we k a i z hi
   have hi':i<(part zL we k a i).length:=by omega
   simp only[zL] at e3
   rw[b3] at e4
   generalize ks we k a i=q at *
   have w0:=w9 (k:=q) (by omega) (by omega)
   have w1:=w9 (k:=q+1) (by omega) (by omega)
   have w2:=w9 (k:=q+2) (by omega) (by omega)
   have w3:=w9 (k:=q+3) (by omega) (by omega)
   have w4:=w9 (k:=q+4) (by omega) (by omega)
   have a1:q+1+1=q+2:=by omega
   have a2:q+2+1=q+3:=by omega
   have a3:q+3+1=q+4:=by omega
   have a4:q+4+1=ks we k a (i+1):=by rw[e4];omega
   rw[a1] at w1
   rw[a2] at w2
   rw[a3] at w3
   rw[a4] at w4
   have c1:decide ((i:Int)<(a.length:Int))=true:=by simpa using hi
   simp only[Wh.Dy,Int.toNat_natCast,pl,pg,KK _ _ _ _ hi',LZ,List.length_set,c1,cond_true,iy,Bool.and_self,Int.natCast_nonneg,decide_true,w0,a1,w1,a2,w2,a3,w3,a4,w4,e2,e3]
  ·simp[Wh.Dy,C4,FQ,zw]
 simp[Wh.q25,cb hc,cv hc]
theorem WW (a:List eA.D) (k:Int) (h0:0≤k) (h1:k+(nC we a:Nat)<yY) (hl:a.length≤4611686018427387904):Wh.q22 (ov zL we a k,k)=some (k+(nC we a:Nat),()):=by
 have hc:Comes Wh.Dw (((0:Int),ov zL we a k,k),()) (.inr (k+(nC we a:Nat),())):=by
  have:=xR (r:=Wh.Dw) (st:=fun i=>(((i:Int),ov zL we a k,ks we k a i),())) (n:=a.length) (y:=.inr (k+(nC we a:Nat),())) ?_ ?_ 0 (Nat.zero_le _)
  ·simpa[C6] using this
  ·intro i hi
   have b1:=B8 we k a i
   have b2:=C5 we k a i hi
   have b3:we a[i]=5:=rfl
   have e2:=mb (i:=i) (by omega)
   have e4:=B9 we k a i hi
   have pl:=zw zL we a k
   have pg:=fun z=>K4 zL we k a i z hi
   simp only[zL] at pg
   rw[b3] at e4
   generalize ks we k a i=q at *
   have w0:=w9 (k:=q) (by omega) (by omega)
   have w1:=w9 (k:=q+1) (by omega) (by omega)
   have w2:=w9 (k:=q+2) (by omega) (by omega)
   have w3:=w9 (k:=q+3) (by omega) (by omega)
   have w4:=w9 (k:=q+4) (by omega) (by omega)
   have a1:q+1+1=q+2:=by omega
   have a2:q+2+1=q+3:=by omega
   have a3:q+3+1=q+4:=by omega
   have a4:q+4+1=ks we k a (i+1):=by rw[e4];omega
   rw[a1] at w1
   rw[a2] at w2
   rw[a3] at w3
   rw[a4] at w4
   have c1:decide ((i:Int)<(a.length:Int))=true:=by simpa using hi
   have d4:((Int.tmod (q+4) 3==0)==(Int.tmod (q+4) 3==0))=true:=by simp
   have bn:∀x:Int,(x != x)=false:=by intro x;simp
   simp only[Wh.Dw,Int.toNat_natCast,pl,pg,c1,cond_true,cond_false,iy,Bool.and_self,Int.natCast_nonneg,decide_true,bn,
    w0,a1,w1,a2,w2,a3,w3,a4,w4,e2,d4,Bool.not_true]
  ·simp[Wh.Dw,zw,C4]
 simp[Wh.q22,cb hc,cv hc,sumC]
end Pl
open Go Go.Ab
namespace Pl
noncomputable def FL (c:bx.D) (k:Int):bx.D:=(c.1,ov mkItem wh c.2.1 k,c.2.2)
def yU (c:bx.D):Nat:=nC wh c.2.1
theorem Yc (c:bx.D) (k:Int) (h0:0≤k) (h1:k+(yU c:Nat)<yY) (hl:D5 c):Wh.q85 (c,k)=some (k+(yU c:Nat),FL c k,()):=by
 have e1:=Ye c.2.1 k h0 h1 (Nat.le_trans hl (by omega))
 simp[Wh.q85,e1,Wh.q38_v _ _ e1,iy,nQ,FL,yU]
theorem WV (c:bx.D) (k:Int) (h0:0≤k) (h1:k+(yU c:Nat)<yY) (hl:D5 c):Wh.q84 (FL c k,k)=some (k+(yU c:Nat),()):=by
 have e1:=WX c.2.1 k h0 h1 (Nat.le_trans hl (by omega))
 have n1:¬(k+(nC wh c.2.1:Nat))<0:=by omega
 simp[Wh.q84,FL,e1,Wh.q37_v _ _ e1,iy,nQ,yU,n1]
def FM (c:gd.D) (k:Int):gd.D:=(ov zL we c.1 k,c.2)
def zy (c:gd.D):Nat:=nC we c.1
theorem Yf (c:gd.D) (k:Int) (h0:0≤k) (h1:k+(zy c:Nat)<yY) (hl:B4 c):Wh.q59 (c,k)=some (k+(zy c:Nat),FM c k,()):=by
 have e1:=Yd c.1 k h0 h1 (Nat.le_trans hl (by omega))
 simp[Wh.q59,e1,Wh.q25_v _ _ e1,iy,nQ,FM,zy]
theorem WY (c:gd.D) (k:Int) (h0:0≤k) (h1:k+(zy c:Nat)<yY) (hl:B4 c):Wh.q58 (FM c k,k)=some (k+(zy c:Nat),()):=by
 have e1:=WW c.1 k h0 h1 (Nat.le_trans hl (by omega))
 have n1:¬(k+(nC we c.1:Nat))<0:=by omega
 simp[Wh.q58,FM,e1,Wh.q22_v _ _ e1,iy,nQ,zy,n1]
noncomputable def Cb (s:ct.D) (k:Int):ct.D:=
 (s.1,s.2.1,s.2.2.1,FL s.2.2.2.1 k,FM s.2.2.2.2.1 (k+(yU s.2.2.2.1:Nat)),ov zK s4 s.2.2.2.2.2.1 (k+(yU s.2.2.2.1:Nat)+(zy s.2.2.2.2.1:Nat)),
  ov zM wX s.2.2.2.2.2.2.1 (k+(yU s.2.2.2.1:Nat)+(zy s.2.2.2.2.1:Nat)+(nC s4 s.2.2.2.2.2.1:Nat)),s.2.2.2.2.2.2.2)
def AA (s:ct.D):Nat:=yU s.2.2.2.1+zy s.2.2.2.2.1+nC s4 s.2.2.2.2.2.1+nC wX s.2.2.2.2.2.2.1
theorem Yh (s:ct.D) (k:Int) (h0:0≤k) (h1:k+(AA s:Nat)<yY) (hl:y5 s):Wh.Cw (s,k)=some (k+(AA s:Nat),Cb s k,()):=by
 unfold AA at h1
 have e1:=Yc s.2.2.2.1 k h0 (by omega) hl.cat
 have e2:=Yf s.2.2.2.2.1 (k+(yU s.2.2.2.1:Nat)) (by omega) (by omega) hl.Bx
 have e3:=Yb s.2.2.2.2.2.1 (k+(yU s.2.2.2.1:Nat)+(zy s.2.2.2.2.1:Nat)) (by omega) (by omega) (Nat.le_trans hl.Bk (by omega))
 have e4:=Yg s.2.2.2.2.2.2.1 (k+(yU s.2.2.2.1:Nat)+(zy s.2.2.2.2.1:Nat)+(nC s4 s.2.2.2.2.2.1:Nat)) (by omega) (by omega) (Nat.le_trans hl.BU (by omega))
 have v1:=Wh.q85_v _ _ e1
 have v2:=Wh.q59_v _ _ e2
 have v3:=Wh.q17_v _ _ e3
 have v4:=Wh.q26_v _ _ e4
 simp only[Wh.Cw,e1,v1,e2,v2,e3,v3,e4,v4,iy,nQ,cond_true]
 simp[Cb,AA,FL,FM]
 omega
theorem W0 (s:ct.D) (k:Int) (h0:0≤k) (h1:k+(AA s:Nat)<yY) (hl:y5 s):Wh.Cv (Cb s k,k)=some (k+(AA s:Nat),()):=by
 unfold AA at h1
 have e1:=WV s.2.2.2.1 k h0 (by omega) hl.cat
 have e2:=WY s.2.2.2.2.1 (k+(yU s.2.2.2.1:Nat)) (by omega) (by omega) hl.Bx
 have e3:=WU s.2.2.2.2.2.1 (k+(yU s.2.2.2.1:Nat)+(zy s.2.2.2.2.1:Nat)) (by omega) (by omega) (Nat.le_trans hl.Bk (by omega))
 have e4:=WZ s.2.2.2.2.2.2.1 (k+(yU s.2.2.2.1:Nat)+(zy s.2.2.2.2.1:Nat)+(nC s4 s.2.2.2.2.2.1:Nat)) (by omega) (by omega) (Nat.le_trans hl.BU (by omega))
 have v1:=Wh.q84_v _ _ e1
 have v2:=Wh.q58_v _ _ e2
 have v3:=Wh.q16_v _ _ e3
 have v4:=Wh.q23_v _ _ e4
 have n1:decide ((k+(yU s.2.2.2.1:Nat))<0)=false:=by simp;omega
 have n2:decide ((k+(yU s.2.2.2.1:Nat)+(zy s.2.2.2.2.1:Nat))<0)=false:=by simp;omega
 have n3:decide ((k+(yU s.2.2.2.1:Nat)+(zy s.2.2.2.2.1:Nat)+(nC s4 s.2.2.2.2.2.1:Nat))<0)=false:=by simp;omega
 have n4:decide ((k+(yU s.2.2.2.1:Nat)+(zy s.2.2.2.2.1:Nat)+(nC s4 s.2.2.2.2.2.1:Nat)+(nC wX s.2.2.2.2.2.2.1:Nat))<0)=false:=by simp;omega
 simp only[Wh.Cv,Cb,e1,v1,e2,v2,e3,v3,e4,v4,iy,nQ,cond_true,cond_false,n1,n2,n3,n4]
 simp[AA]
 omega
end Pl
open Go Go.Ab Go.Lib
namespace Pl
theorem Bq (x y:Nat):((x:Int)==(y:Int))=(x==y):=by rw[Bool.eq_iff_iff,beq_iff_eq,beq_iff_eq];omega
noncomputable def Ed (log:List UInt8):Bool:=((xU hash log).2==log.length)&&decide (log.length≤9000)
noncomputable def Ag (log r:List UInt8):List UInt8×Bool:=
 if(Ed log&&decide (1≤r.length∧r.length≤500))=true∧(log++line hash (xU hash log).1.length r).length≤9000 then(log++line hash (xU hash log).1.length r,true) else([],false)
theorem Vo (log:List UInt8):(xU hash log).2≤log.length∧20*(xU hash log).1.length≤log.length:=by
 obtain⟨h1,h2,_⟩:=vQ hash Al (log.length+1) log 0
 exact⟨h1,Nat.le_trans h2 h1⟩
theorem XE (log:List UInt8) (hl:log.length≤9999999):Wh.EP log=some (Ed log,()):=by
 have a:=NV log hl
 simp only[Wh.EP,a,Wh.Hq _ _ a,nQ,iy,cond_true,Bq,Ed]
 cases e:(xU hash log).2==log.length with
 |false=>rfl
 |true=>
  have:(xU hash log).2=log.length:=by simpa using e
  rw[this]
  have:decide ((log.length:Int)≤9000)=decide (log.length≤9000):=by rw[Bool.eq_iff_iff,decide_eq_true_iff,decide_eq_true_iff];omega
  rw[this];rfl
theorem Sl (n a b:Nat):nG (n:Int) (a:Int) (b:Int)=decide (a≤n∧n≤b):=by
 unfold nG;rw[Bool.eq_iff_iff,decide_eq_true_iff,decide_eq_true_iff];omega
theorem SA (n:Nat) (r:List UInt8) (hn:n≤9999999) (hr:r.length≤9999999):(line hash n r).length≤r.length+40:=by
 rw[vJ hash Al]
 have:=zi n hn
 have:=zi r.length hr
 omega
theorem N3 (x:List UInt8):decide ((x.length:Int)>9000) = !decide (x.length≤9000):=by
 by_cases h:x.length≤9000
 ·rw[decide_eq_true h,decide_eq_false (by omega)];rfl
 ·rw[decide_eq_false h,decide_eq_true (by omega)];rfl
theorem abT (log r:List UInt8) (hl:log.length≤9999999) (hr:r.length≤9999999):Wh.EC (log,r)=some (Ag log r,()):=by
 have a:=NV log hl
 have b:=XE log hl
 obtain⟨r1,r2⟩:=Vo log
 have c:=N1 (xU hash log).1.length r (by omega) hr
 have hll:=SA (xU hash log).1.length r (by omega) hr
 have d:nG (r.length:Int) 1 500=decide (1≤r.length∧r.length≤500):=Sl _ 1 500
 have e:decide (log.length+(line hash (xU hash log).1.length r).length≤dh)=true:=by unfold dh;exact decide_eq_true (by omega)
 simp only[Wh.EC,a,Wh.Hq _ _ a,b,Wh.Us _ _ b,Ao,Wh.zc _ _ (Ao _ _ _),c,Wh.Lh _ _ c,d,e,nQ,iy,Bool.or_true,Bool.and_self,cond_true,Ag,N3]
 cases Ed log with
 |false=>rfl
 |true=>
 cases decide (1≤r.length∧r.length≤500) with
 |false=>rfl
 |true=>
 by_cases h:(log++line hash (xU hash log).1.length r).length≤9000
 ·rw[decide_eq_true h,if_pos ⟨rfl,h⟩];rfl
 ·rw[decide_eq_false h,if_neg (fun k=>h k.2)];rfl
theorem W4 (log r:List UInt8) (hl:log.length≤9999999) (hr:r.length≤9999999):Wh.Ev (log,r)=some (Ag log r,()):=by
 have a:=Rm log hl
 obtain⟨r1,r2⟩:=Vo log
 have c:=NZ (xU hash log).1.length r (by omega) hr
 have hll:=SA (xU hash log).1.length r (by omega) hr
 have d:nG (r.length:Int) 1 500=decide (1≤r.length∧r.length≤500):=Sl _ 1 500
 have e:decide (log.length+(line hash (xU hash log).1.length r).length≤dh)=true:=by unfold dh;exact decide_eq_true (by omega)
 have n1:(((xU hash log).2:Int) != (log.length:Int)) = !((xU hash log).2==log.length):=by rw[←Bq];rfl
 have n2:(bif !((xU hash log).2==log.length) then true else decide (((xU hash log).2:Int)>9000)) = !Ed log:=by
  unfold Ed
  cases k:(xU hash log).2==log.length with
  |false=>rfl
  |true=>
   have:(xU hash log).2=log.length:=by simpa using k
   rw[this,N3];rfl
 simp only[Wh.Ev,a,Wh.QA _ _ a,yS,Wh.zo _ _ (yS _ _ _),c,Wh.LL _ _ c,d,e,nQ,iy,n1,n2,Bool.or_true,Bool.and_self,cond_true,Ag,N3]
 cases Ed log with
 |false=>rfl
 |true=>
 cases decide (1≤r.length∧r.length≤500) with
 |false=>rfl
 |true=>
 by_cases h:(log++line hash (xU hash log).1.length r).length≤9000
 ·rw[decide_eq_true h,if_pos ⟨rfl,h⟩];rfl
 ·rw[decide_eq_false h,if_neg (fun k=>h k.2)];rfl
theorem VQ (log r:List UInt8) (h:(Ag log r).2=true):(Ag log r).1.length≤9000:=by
 unfold Ag at h ⊢
 split
 ·rename_i k;exact k.2
 ·rename_i k;rw[if_neg k] at h;cases h
theorem F_ {n:Nat} (h:n≤1048576):decide (0+n≤dh)=true:=by unfold dh;exact decide_eq_true (by omega)
theorem abZ (p:gd.D) (h:B4 p):Wh.q92 p=some (p,()):=by
 have:p.1.length≤1048576:=h
 simp only[Wh.q92,iy,F_ this,cond_true,List.nil_append]
theorem Xa (p:gd.D) (h:B4 p):Wh.q34 p=some (p,()):=by
 have:p.1.length≤1048576:=h
 simp only[Wh.q34,iy,F_ this,cond_true,List.nil_append]
theorem abV (s:ct.D) (S:y5 s) (h0:s.2.2.2.1.2.1.length≤99999):Wh.q93 s=some (s,()):=by
 have a:=copy_eq s.2.2.2.1 h0
 have b:=abZ s.2.2.2.2.1 S.Bx
 simp only[Wh.q93,a,Wh.FY _ _ a,b,Wh.q92_v _ _ b,iy,nQ,F_ S.Bk,F_ S.BU,cond_true,List.nil_append]
theorem W8 (s:ct.D) (S:y5 s) (h0:s.2.2.2.1.2.1.length≤99999):Wh.q14 s=some (s,()):=by
 have a:=Ky s.2.2.2.1 h0
 have b:=Xa s.2.2.2.2.1 S.Bx
 simp only[Wh.q14,a,Wh.DE _ _ a,b,Wh.q34_v _ _ b,iy,nQ,F_ S.Bk,F_ S.BU,cond_true,List.nil_append]
theorem Ox {s:ct.D} (h:okV s=true):yG s.2.2.2.1:=by
 unfold okV at h
 simp only[Bool.and_eq_true] at h
 obtain⟨_,_,hc,h⟩:=h
 cases hu:s.1 with
 |true=>
  rw[hu] at h
  simp only[cond_true,upV,Bool.and_eq_true,decide_eq_true_eq] at h
  rw[←h.2.1]
  exact NF hc
 |false=>
  rw[hu] at h
  simp only[cond_false,KE,Bool.and_eq_true,beq_iff_eq,List.length_eq_zero_iff] at h
  have e:s.2.2.2.1=((0:Int),[],()):=by
   rw[←h.1.1.1.1.2,←h.1.1.1.1.1]
  rw[e]
  exact Kw
theorem TE {s:ct.D} (h:okV s=true):s.2.2.1.length≤9000:=by
 unfold okV at h
 simp only[Bool.and_eq_true,decide_eq_true_eq] at h
 exact h.2.1
theorem sm_set {s:ct.D} (S:y5 s) {u:Bool} {log:List UInt8} {c:bx.D} (hl:log.length≤9000) (I:yG c):y5 (u,s.2.1,log,c,s.2.2.2.2):=by
 have h8:=I.len
 refine⟨by change log.length≤_;omega,by change c.2.1.length≤_;omega,fun x hx=>?_,S.Bx,S.Bk,S.BU⟩
 have:=I.ok x hx
 obtain⟨_,h1,h2⟩:=Hj this
 have:=Er _ h1
 exact⟨by omega,by omega⟩
def B3:ct.D:=(false,(0:Int),[],((0:Int),[],()),([],(0:Int),()),[],[],())
noncomputable def HN (s:ct.D) (h:Int) (n t:List UInt8):ct.D×Int:=
 bif !s.1 then(s,1) else bif(zb s.2.2.2.1 h n t).2 != 0 then(s,(zb s.2.2.2.1 h n t).2) else
  bif !(Ag s.2.2.1 (xO h n t)).2 then(s,4) else((s.1,s.2.1,(Ag s.2.2.1 (xO h n t)).1,(zb s.2.2.2.1 h n t).1,s.2.2.2.2),0)
noncomputable def Eu (s:ct.D) (h:Int) (n t:List UInt8):ct.D×Int:=bif !okV s then(B3,1) else HN s h n t
theorem Zk {c:Ct} {h:Int} {n t:List UInt8} (hp:(zb c h n t).2=0):zf h n t=true∧t ≠ []∧zA h n t=true:=by
 cases hb:zA h n t with
 |false=>rw[zb,hb] at hp;cases hp
 |true=>
  obtain⟨h1,h2,h3,h4⟩:=Hj hb
  exact⟨by unfold zf;rw[decide_eq_true h1,h2,decide_eq_true h4];rfl,by intro e;subst e;simp at h3,rfl⟩
theorem rec_is {h:Int} {n t:List UInt8} (hr:zf h n t=true):D3 (xO h n t) (h,n,t):=⟨hr,by unfold xO;rw[if_pos hr]⟩
theorem Vq {h:Int} {n t:List UInt8}:(xO h n t).length≤1000:=by
 unfold xO
 split
 ·rename_i hr
  obtain⟨h1,h2,h3⟩:=DR hr
  have:=Er n h2
  have:(decDigits h.toNat).length≤7:=zi _ (by omega)
  simp only[List.length_append,List.length_cons]
  omega
 ·simp
theorem ab1 (s:ct.D) (S:y5 s) (h:Int) (n t:List UInt8) (hn:n.length≤9999999) (ht:t.length≤9999999):Wh.q42 (s,h,n,t)=some (Eu s h n t,()):=by
 have a:=abY s S
 unfold Eu
 cases ho:okV s with
 |false=>
  rw[ho] at a
  simp only[Wh.q42,a,Wh.Qu _ _ a,nQ,iy,cond_true,Bool.not_false,B3]
 |true=>
 rw[ho] at a
 have I:=Ox ho
 have h8:=I.len
 have hl:=TE ho
 have b:=abV s S (by omega)
 have c:=VE s.2.2.2.1 I h n t hn ht
 have d:=QX h n t hn ht
 have hrl:=Vq (h:=h) (n:=n) (t:=t)
 have e:=abT s.2.2.1 (xO h n t) (by omega) (by omega)
 have f:=Sw s.2.2.2.1 I (xO h n t) (by omega)
 have g:Wh.EE (s,xO h n t)=some (bif !(Ag s.2.2.1 (xO h n t)).2 then(s,4) else bif !(zT s.2.2.2.1 (xO h n t)).2 then(s,1) else((s.1,s.2.1,(Ag s.2.2.1 (xO h n t)).1,(zT s.2.2.2.1 (xO h n t)).1,s.2.2.2.2),0),()):=by
  simp only[Wh.EE,e,Wh.T4 _ _ e,f,Wh.Lj _ _ f,nQ,iy,cond_true]
  cases (Ag s.2.2.1 (xO h n t)).2<;>cases (zT s.2.2.2.1 (xO h n t)).2<;>rfl
 simp only[Wh.q42,a,Wh.Qu _ _ a,b,Wh.q93_v _ _ b,c,Wh.OY _ _ c,d,Wh.LF _ _ d,g,Wh.Ua _ _ g,nQ,iy,Bool.and_self,cond_true,cond_false,Bool.not_true,HN]
 cases s.1 with
 |false=>rfl
 |true=>
 simp only[Bool.not_true,cond_false]
 cases hp:(zb s.2.2.2.1 h n t).2 != 0 with
 |true=>rfl
 |false=>
 have hp0:(zb s.2.2.2.1 h n t).2=0:=by simpa using hp
 obtain⟨k1,k2,_⟩:=Zk hp0
 have k3:=Ko (c:=s.2.2.2.1) (OB (rec_is k1))
 rw[if_neg k2,hp0] at k3
 rw[k3]
 simp only[cond_false,beq_self_eq_true,Bool.not_true]
theorem Xc (s:ct.D) (S:y5 s) (h:Int) (n t:List UInt8) (hn:n.length≤9999999) (ht:t.length≤9999999):Wh.CB (s,h,n,t)=some (Eu s h n t,()):=by
 have a:=W_ s S
 unfold Eu
 cases ho:okV s with
 |false=>
  rw[ho] at a
  simp only[Wh.CB,a,Wh.Qc _ _ a,nQ,iy,cond_true,Bool.not_false,B3]
 |true=>
 rw[ho] at a
 have I:=Ox ho
 have h8:=I.len
 have hl:=TE ho
 have b:=W8 s S (by omega)
 have c:=Si s.2.2.2.1 I h n t hn ht
 have d:=NS h n t hn ht
 have hrl:=Vq (h:=h) (n:=n) (t:=t)
 have e:=W4 s.2.2.1 (xO h n t) (by omega) (by omega)
 have f:Wh.q21 (s,h,n,t)=some (HN s h n t,()):=by
  simp only[Wh.q21,b,Wh.q14_v _ _ b,c,Wh.Qy _ _ c,d,Wh.LB _ _ d,e,Wh.TS _ _ e,nQ,iy,Bool.and_self,cond_true,HN]
  cases s.1 with
  |false=>rfl
  |true=>
  simp only[Bool.not_true,cond_false]
  cases hp:(zb s.2.2.2.1 h n t).2 != 0 with
  |true=>rfl
  |false=>
  cases (Ag s.2.2.1 (xO h n t)).2<;>rfl
 simp only[Wh.CB,a,Wh.Qc _ _ a,f,Wh.q21_v _ _ f,nQ,iy,cond_true,cond_false,Bool.not_true]
theorem acG:y5 B3:=⟨by simp[B3],by unfold D5;simp[B3],by simp[B3],by unfold B4;simp[B3],by simp[B3],by simp[B3]⟩
theorem Zj (s:ct.D) (S:y5 s) (h:Int) (n t:List UInt8):y5 (Eu s h n t).1:=by
 unfold Eu
 cases ho:okV s with
 |false=>exact acG
 |true=>
 unfold HN
 cases s.1 with
 |false=>exact S
 |true=>
 cases (zb s.2.2.2.1 h n t).2 != 0 with
 |true=>exact S
 |false=>
 cases ha:(Ag s.2.2.1 (xO h n t)).2 with
 |false=>exact S
 |true=>exact sm_set S (VQ _ _ ha) (TN _ (Ox ho) h n t)
end Pl
open Go Go.Ab Go.Lib
namespace Pl
theorem L0 {α:Type} (n1:α→Nat) (k:Nat) (h:∀a,n1 a=k) (l:List α):nC n1 l=k*l.length:=by
 induction l with
 |nil=>rfl
 |cons a l ih=>simp only[nC,List.map_cons,List.sum_cons,List.length_cons] at ih ⊢;rw[ih,h,Nat.mul_add];omega
theorem Tx (R:ct.D) (S:y5 R):1+((AA R:Nat):Int)<yY:=by
 have h1:R.2.2.2.1.2.1.length≤1048576:=S.cat
 have h2:R.2.2.2.2.1.1.length≤1048576:=S.Bx
 have h3:=S.Bk
 have h4:=S.BU
 unfold AA yU zy
 rw[L0 wh 4 (fun _=>rfl),L0 we 5 (fun _=>rfl),L0 s4 4 (fun _=>rfl),L0 wX 6 (fun _=>rfl)]
 unfold yY
 omega
structure MarkS (R:ct.D):Prop where
 eq:Wh.Bf (R,R)=some (true,())
 mrk:Wh.Cw (R,1)=some (1+((AA R:Nat):Int),Cb R 1,())
 hd:Wh.Cv ((R.1,R.2.1,R.2.2.1,(R.2.2.2.1.1,(Cb R 1).2.2.2.1.2.1,R.2.2.2.1.2.2),((Cb R 1).2.2.2.2.1.1,R.2.2.2.2.1.2),(Cb R 1).2.2.2.2.2.1,(Cb R 1).2.2.2.2.2.2.1,R.2.2.2.2.2.2.2),1)=some (1+((AA R:Nat):Int),())
 ng:decide (1+((AA R:Nat):Int)<0)=false
theorem markS (R:ct.D) (S:y5 R):MarkS R:=
 ⟨Wg R S,Yh R 1 (by omega) (Tx R S) S,W0 R 1 (by omega) (Tx R S) S,decide_eq_false (by omega)⟩
theorem bneS (x:Int):(x != x)=false:=by simp
theorem Xn (s:ct.D) (h:Int) (n t:List UInt8) (hb:fR ct s≤1048576) (hn:n.length≤9999999) (ht:t.length≤9999999):Wh.q5 (s,h,n,t)=some (true,()):=by
 have S:=abR s hb
 obtain⟨v,hv⟩:=ach s 1048576 S
 have e1:=acy s S
 have e3:=ab1 s S h n t hn ht
 have e4:=Xc s S h n t hn ht
 have SR:=Zj s S h n t
 generalize Eu s h n t=r at *
 obtain⟨R,code⟩:=r
 have M0:=markS s S
 have M:=markS R SR
 have v3:=Wh.q42_v _ _ e3
 have v4:=Wh.q33_v _ _ e4
 simp only[Wh.q5,hv,Wh.q63_v _ _ hv,e1,Wh.q67_v _ _ e1,e3,v3,e4,v4,M0.eq,Wh.Qo _ _ M0.eq,M0.mrk,Wh.PZ _ _ M0.mrk,M0.ng,M.eq,Wh.Qo _ _ M.eq,M.mrk,Wh.PZ _ _ M.mrk,M.hd,Wh.q24_v _ _ M.hd,M.ng,bneS,nQ,iy,Bool.or_true,Bool.and_self,Bool.not_true,Bool.not_false,cond_true,cond_false]
 cases decide ((n.length:Int)>1048576) with
 |true=>rfl
 |false=>
 cases decide ((t.length:Int)>1048576) with
 |true=>rfl
 |false=>
 cases decide (v<0)<;>rfl
end Pl
