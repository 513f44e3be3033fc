import Derived.Test.YtfeoanopdlpabaaGreatDoorX8
open Go Go.Ab
namespace Pl
theorem RW (w:an.D):Wh.q83 (w,w)=some (true,()):=by simp[Wh.q83]
theorem RU (a:List an.D) (h:a.length≤4611686018427387904):Wh.q64 (a,a)=some (true,()):=by
 have hl:Comes Wh.Dl (((0:Int),a,a),()) (.inr ((),())):=by
  refine xb (st:=fun i=>(((i:Int),a,a),())) (n:=a.length) ?_ ?_ 0 (Nat.zero_le _)
  ·intro i hi
   have h2:=lg (i:=i) (by omega)
   have h4:=RW (a[i])
   simp[Wh.Dl,Wh.q83_v _ _ h4,iy,h2,hi,h4,nQ]
  ·simp[Wh.Dl]
 simp[Wh.q64,cb hl,cv hl]
theorem Wz (a:an.D):Wh.q87 a=some (a,()):=rfl
theorem Wy (a:List an.D) (h:a.length≤1048576):Wh.q68 a=some (a,()):=by
 have hl:Comes Wh.Cv (((0:Int),a,()),List.replicate a.length ((0:Int),([]:List UInt8),(0:Int),([]:List UInt8),())) ((),a):=by
  have:=xb (r:=Wh.Cv) (st:=fun i=>(((i:Int),a,()),iB a ((0:Int),([]:List UInt8),(0:Int),([]:List UInt8),()) i)) (n:=a.length) (y:=((),a)) ?_ ?_ 0 (Nat.zero_le _)
  ·rw[HW] at this;exact this
  ·intro i hi
   have hi':decide ((i:Int)<(a.length:Int))=true:=by simpa using hi
   have h0:decide ((0:Int)≤(i:Int))=true:=by simp
   have he:=Wz (List.getD a i ((0:Int),([]:List UInt8),(0:Int),([]:List UInt8),()))
   have hs:(iB a ((0:Int),([]:List UInt8),(0:Int),([]:List UInt8),()) i).set i (List.getD a i ((0:Int),([]:List UInt8),(0:Int),([]:List UInt8),()))=iB a ((0:Int),([]:List UInt8),(0:Int),([]:List UInt8),()) (i+1):=HV a _ _ i hi
   simp only[Wh.Cv,hi',h0,Int.toNat_natCast,HU a ((0:Int),([]:List UInt8),(0:Int),([]:List UInt8),()) i (by omega),he,Wh.q87_v _ _ he,hs,lg (i:=i) (by omega),iy,nQ,cond_true,Bool.and_self]
  ·have hi':decide (((a.length:Nat):Int)<(a.length:Int))=false:=by simp
   simp only[Wh.Cv,hi',cond_false,HT]
 have b0:decide ((0:Int)≤(a.length:Int))=true:=by simp
 have b1:decide ((a.length:Int)≤(dh:Int))=true:=decide_eq_true (by unfold dh;omega)
 simp only[Wh.q68,Int.toNat_natCast,cb hl,cv hl,b0,b1,Int.le_refl,decide_true,iy,cond_true,Bool.and_self]
theorem Wm (a:an.D) (n:Int):∃v,Wh.q85 (a,n)=some (v,()):=by
 simp only[Wh.q85]
 repeat' (first|exact⟨_,rfl⟩|refine NN _ ?_ ?_)
theorem Wl (a:List an.D) (n:Int) (h:a.length≤1048576):∃v,Wh.q66 (a,n)=some (v,()):=by
 have hl:∀d k:Nat,k+d=a.length→∀m:Int,∃y,Comes Wh.Cu (((k:Int),m,a),()) y:=by
  intro d
  induction d with
  |zero=>
   intro k hk m
   have hk':decide ((k:Int)<(a.length:Int))=false:=by simp;omega
   exact⟨_,.out (by simp only[Wh.Cu,hk',cond_false];rfl)⟩
  |succ d ih=>
   intro k hk m
   have hk':decide ((k:Int)<(a.length:Int))=true:=by simp;omega
   have h0:decide ((0:Int)≤(k:Int))=true:=by simp
   have w:=lg (i:=k) (by omega)
   obtain⟨v,hv⟩:=Wm (List.getD a k ((0:Int),([]:List UInt8),(0:Int),([]:List UInt8),())) m
   cases hd:decide (v<0) with
   |true=>exact⟨_,.out (by simp only[Wh.Cu,hk',h0,Int.toNat_natCast,hv,Wh.M5 _ _ hv,hd,iy,nQ,cond_true,Bool.and_self];rfl)⟩
   |false=>
    obtain⟨y,hy⟩:=ih (k+1) (by omega) v
    exact⟨y,.again (by simp only[Wh.Cu,hk',h0,w,Int.toNat_natCast,hv,Wh.M5 _ _ hv,hd,iy,nQ,cond_true,cond_false,Bool.and_self]) hy⟩
 simp only[Wh.q66]
 cases decide (IntKind.wrap .i64 (n-(a.length:Int))<0) with
 |true=>exact⟨_,rfl⟩
 |false=>
  obtain⟨y,hy⟩:=hl a.length 0 (by omega) (IntKind.wrap .i64 (n-(a.length:Int)))
  have e1:=cb hy
  have e2:=cv hy Wh.MP
  rw[show(((0:Nat):Int))=0 from rfl] at e1 e2
  simp only[e1,e2,cond_true,cond_false]
  cases y with
  |inl y=>exact⟨_,rfl⟩
  |inr y=>exact⟨_,rfl⟩
theorem RT (w:e_.D):Wh.q63 (w,w)=some (true,()):=by simp[Wh.q63]
theorem RS (a:List e_.D) (h:a.length≤4611686018427387904):Wh.q40 (a,a)=some (true,()):=by
 have hl:Comes Wh.Dh (((0:Int),a,a),()) (.inr ((),())):=by
  refine xb (st:=fun i=>(((i:Int),a,a),())) (n:=a.length) ?_ ?_ 0 (Nat.zero_le _)
  ·intro i hi
   have h2:=lg (i:=i) (by omega)
   have h4:=RT (a[i])
   simp[Wh.Dh,Wh.q63_v _ _ h4,iy,h2,hi,h4,nQ]
  ·simp[Wh.Dh]
 simp[Wh.q40,cb hl,cv hl]
theorem Wx (a:e_.D):Wh.q67 a=some (a,()):=rfl
theorem Ww (a:List e_.D) (h:a.length≤1048576):Wh.q47 a=some (a,()):=by
 have hl:Comes Wh.Cp (((0:Int),a,()),List.replicate a.length ((0:Int),(0:Int),(0:Int),(0:Int),false,())) ((),a):=by
  have:=xb (r:=Wh.Cp) (st:=fun i=>(((i:Int),a,()),iB a ((0:Int),(0:Int),(0:Int),(0:Int),false,()) i)) (n:=a.length) (y:=((),a)) ?_ ?_ 0 (Nat.zero_le _)
  ·rw[HW] at this;exact this
  ·intro i hi
   have hi':decide ((i:Int)<(a.length:Int))=true:=by simpa using hi
   have h0:decide ((0:Int)≤(i:Int))=true:=by simp
   have he:=Wx (List.getD a i ((0:Int),(0:Int),(0:Int),(0:Int),false,()))
   have hs:(iB a ((0:Int),(0:Int),(0:Int),(0:Int),false,()) i).set i (List.getD a i ((0:Int),(0:Int),(0:Int),(0:Int),false,()))=iB a ((0:Int),(0:Int),(0:Int),(0:Int),false,()) (i+1):=HV a _ _ i hi
   simp only[Wh.Cp,hi',h0,Int.toNat_natCast,HU a ((0:Int),(0:Int),(0:Int),(0:Int),false,()) i (by omega),he,Wh.q67_v _ _ he,hs,lg (i:=i) (by omega),iy,nQ,cond_true,Bool.and_self]
  ·have hi':decide (((a.length:Nat):Int)<(a.length:Int))=false:=by simp
   simp only[Wh.Cp,hi',cond_false,HT]
 have b0:decide ((0:Int)≤(a.length:Int))=true:=by simp
 have b1:decide ((a.length:Int)≤(dh:Int))=true:=decide_eq_true (by unfold dh;omega)
 simp only[Wh.q47,Int.toNat_natCast,cb hl,cv hl,b0,b1,Int.le_refl,decide_true,iy,cond_true,Bool.and_self]
theorem Wk (a:List e_.D) (n:Int):∃v,Wh.q43 (a,n)=some (v,()):=by
 simp only[Wh.q43]
 cases decide (IntKind.wrap .i64 (n-(a.length:Int))<0)<;>exact⟨_,rfl⟩
theorem RQ (w:fN.D):Wh.q39 (w,w)=some (true,()):=by simp[Wh.q39]
theorem RP (a:List fN.D) (h:a.length≤4611686018427387904):Wh.q24 (a,a)=some (true,()):=by
 have hl:Comes Wh.Dd (((0:Int),a,a),()) (.inr ((),())):=by
  refine xb (st:=fun i=>(((i:Int),a,a),())) (n:=a.length) ?_ ?_ 0 (Nat.zero_le _)
  ·intro i hi
   have h2:=lg (i:=i) (by omega)
   have h4:=RQ (a[i])
   simp[Wh.Dd,Wh.q39_v _ _ h4,iy,h2,hi,h4,nQ]
  ·simp[Wh.Dd]
 simp[Wh.q24,cb hl,cv hl]
theorem Wu (a:fN.D):Wh.q46 a=some (a,()):=rfl
theorem Wt (a:List fN.D) (h:a.length≤1048576):Wh.q26 a=some (a,()):=by
 have hl:Comes Wh.Ck (((0:Int),a,()),List.replicate a.length ((0:Int),(0:Int),(0:Int),(0:Int),())) ((),a):=by
  have:=xb (r:=Wh.Ck) (st:=fun i=>(((i:Int),a,()),iB a ((0:Int),(0:Int),(0:Int),(0:Int),()) i)) (n:=a.length) (y:=((),a)) ?_ ?_ 0 (Nat.zero_le _)
  ·rw[HW] at this;exact this
  ·intro i hi
   have hi':decide ((i:Int)<(a.length:Int))=true:=by simpa using hi
   have h0:decide ((0:Int)≤(i:Int))=true:=by simp
   have he:=Wu (List.getD a i ((0:Int),(0:Int),(0:Int),(0:Int),()))
   have hs:(iB a ((0:Int),(0:Int),(0:Int),(0:Int),()) i).set i (List.getD a i ((0:Int),(0:Int),(0:Int),(0:Int),()))=iB a ((0:Int),(0:Int),(0:Int),(0:Int),()) (i+1):=HV a _ _ i hi
   simp only[Wh.Ck,hi',h0,Int.toNat_natCast,HU a ((0:Int),(0:Int),(0:Int),(0:Int),()) i (by omega),he,Wh.q46_v _ _ he,hs,lg (i:=i) (by omega),iy,nQ,cond_true,Bool.and_self]
  ·have hi':decide (((a.length:Nat):Int)<(a.length:Int))=false:=by simp
   simp only[Wh.Ck,hi',cond_false,HT]
 have b0:decide ((0:Int)≤(a.length:Int))=true:=by simp
 have b1:decide ((a.length:Int)≤(dh:Int))=true:=decide_eq_true (by unfold dh;omega)
 simp only[Wh.q26,Int.toNat_natCast,cb hl,cv hl,b0,b1,Int.le_refl,decide_true,iy,cond_true,Bool.and_self]
theorem Wj (a:List fN.D) (n:Int):∃v,Wh.q25 (a,n)=some (v,()):=by
 simp only[Wh.q25]
 cases decide (IntKind.wrap .i64 (n-(a.length:Int))<0)<;>exact⟨_,rfl⟩
theorem RZ (w:gd.D):Wh.q65 (w,w)=some (true,()):=by simp[Wh.q65]
theorem RY (a:List gd.D) (h:a.length≤4611686018427387904):Wh.q41 (a,a)=some (true,()):=by
 have hl:Comes Wh.Dj (((0:Int),a,a),()) (.inr ((),())):=by
  refine xb (st:=fun i=>(((i:Int),a,a),())) (n:=a.length) ?_ ?_ 0 (Nat.zero_le _)
  ·intro i hi
   have h2:=lg (i:=i) (by omega)
   have h4:=RZ (a[i])
   simp[Wh.Dj,Wh.q65_v _ _ h4,iy,h2,hi,h4,nQ]
  ·simp[Wh.Dj]
 simp[Wh.q41,cb hl,cv hl]
theorem WC (a:gd.D):Wh.q69 a=some (a,()):=rfl
theorem WB (a:List gd.D) (h:a.length≤1048576):Wh.q48 a=some (a,()):=by
 have hl:Comes Wh.Cq (((0:Int),a,()),List.replicate a.length ((0:Int),(0:Int),(0:Int),(0:Int),(0:Int),(0:Int),())) ((),a):=by
  have:=xb (r:=Wh.Cq) (st:=fun i=>(((i:Int),a,()),iB a ((0:Int),(0:Int),(0:Int),(0:Int),(0:Int),(0:Int),()) i)) (n:=a.length) (y:=((),a)) ?_ ?_ 0 (Nat.zero_le _)
  ·rw[HW] at this;exact this
  ·intro i hi
   have hi':decide ((i:Int)<(a.length:Int))=true:=by simpa using hi
   have h0:decide ((0:Int)≤(i:Int))=true:=by simp
   have he:=WC (List.getD a i ((0:Int),(0:Int),(0:Int),(0:Int),(0:Int),(0:Int),()))
   have hs:(iB a ((0:Int),(0:Int),(0:Int),(0:Int),(0:Int),(0:Int),()) i).set i (List.getD a i ((0:Int),(0:Int),(0:Int),(0:Int),(0:Int),(0:Int),()))=iB a ((0:Int),(0:Int),(0:Int),(0:Int),(0:Int),(0:Int),()) (i+1):=HV a _ _ i hi
   simp only[Wh.Cq,hi',h0,Int.toNat_natCast,HU a ((0:Int),(0:Int),(0:Int),(0:Int),(0:Int),(0:Int),()) i (by omega),he,Wh.q69_v _ _ he,hs,lg (i:=i) (by omega),iy,nQ,cond_true,Bool.and_self]
  ·have hi':decide (((a.length:Nat):Int)<(a.length:Int))=false:=by simp
   simp only[Wh.Cq,hi',cond_false,HT]
 have b0:decide ((0:Int)≤(a.length:Int))=true:=by simp
 have b1:decide ((a.length:Int)≤(dh:Int))=true:=decide_eq_true (by unfold dh;omega)
 simp only[Wh.q48,Int.toNat_natCast,cb hl,cv hl,b0,b1,Int.le_refl,decide_true,iy,cond_true,Bool.and_self]
theorem Wn (a:List gd.D) (n:Int):∃v,Wh.q44 (a,n)=some (v,()):=by
 simp only[Wh.q44]
 cases decide (IntKind.wrap .i64 (n-(a.length:Int))<0)<;>exact⟨_,rfl⟩
def HM (c:bn.D):Prop:=c.2.1.length≤1048576
def HN (p:fT.D):Prop:=p.1.length≤1048576
structure DJ (s:eB.D):Prop where
 log:s.2.2.1.length≤1048576
 cat:HM s.2.2.2.1
 items:∀x∈s.2.2.2.1.2.1,x.2.1.length≤1048576∧x.2.2.2.1.length≤1048576
 Iw:HN s.2.2.2.2.1
 bks:s.2.2.2.2.2.1.length≤1048576
 srv:s.2.2.2.2.2.2.1.length≤1048576
theorem RR (c:bn.D) (h:HM c):Wh.C5 (c,c)=some (true,()):=by
 have e:=RU c.2.1 (by unfold HM at h;omega)
 simp[Wh.C5,e,Wh.q64_v _ _ e,iy,nQ]
theorem RX (c:fT.D) (h:HN c):Wh.q84 (c,c)=some (true,()):=by
 have e:=RS c.1 (by unfold HN at h;omega)
 simp[Wh.q84,e,Wh.q40_v _ _ e,iy,nQ]
theorem R0 (s:eB.D) (h:DJ s):Wh.q42 (s,s)=some (true,()):=by
 have e1:=RR _ h.cat
 have e2:=RX _ h.Iw
 have e3:=RP s.2.2.2.2.2.1 (by have:=h.bks;omega)
 have e4:=RY s.2.2.2.2.2.2.1 (by have:=h.srv;omega)
 simp[Wh.q42,e1,e2,e3,e4,Wh.P3 _ _ e1,Wh.q84_v _ _ e2,Wh.q24_v _ _ e3,Wh.q41_v _ _ e4,iy,nQ]
theorem Wv (c:bn.D) (h:HM c):Wh.C7 c=some (c,()):=by
 have e:=Wy c.2.1 h
 simp only[Wh.C7,e,Wh.q68_v _ _ e,iy,nQ,cond_true]
theorem WA (c:fT.D) (h:HN c):Wh.q88 c=some (c,()):=by
 have e:=Ww c.1 h
 simp only[Wh.q88,e,Wh.q47_v _ _ e,iy,nQ,cond_true]
theorem WD (s:eB.D) (h:DJ s):Wh.Bx s=some (s,()):=by
 have e1:=Wv _ h.cat
 have e2:=WA _ h.Iw
 have e3:=Wt s.2.2.2.2.2.1 h.bks
 have e4:=WB s.2.2.2.2.2.2.1 h.srv
 simp only[Wh.Bx,e1,e2,e3,e4,Wh.P5 _ _ e1,Wh.q88_v _ _ e2,Wh.q26_v _ _ e3,Wh.q48_v _ _ e4,iy,nQ,cond_true]
theorem Wo (s:eB.D) (n:Int) (h:DJ s):∃v,Wh.q45 (s,n)=some (v,()):=by
 have c1:∀n,∃v,Wh.C6 (s.2.2.2.1,n)=some (v,()):=by
  intro n
  obtain⟨v,hv⟩:=Wl s.2.2.2.1.2.1 n h.cat
  simp only[Wh.C6,hv,Wh.q66_v _ _ hv,iy,nQ,cond_true]
  cases decide (v<0)<;>exact⟨_,rfl⟩
 have c2:∀n,∃v,Wh.q86 (s.2.2.2.2.1,n)=some (v,()):=by
  intro n
  obtain⟨v,hv⟩:=Wk s.2.2.2.2.1.1 n
  simp only[Wh.q86,hv,Wh.q43_v _ _ hv,iy,nQ,cond_true]
  cases decide (v<0)<;>exact⟨_,rfl⟩
 obtain⟨v1,h1⟩:=c1 (IntKind.wrap .i64 (n-(s.2.2.1.length:Int)))
 obtain⟨v2,h2⟩:=c2 v1
 obtain⟨v3,h3⟩:=Wj s.2.2.2.2.2.1 v2
 obtain⟨v4,h4⟩:=Wn s.2.2.2.2.2.2.1 v3
 simp only[Wh.q45,h1,h2,h3,h4,Wh.P4 _ _ h1,Wh.q86_v _ _ h2,Wh.q25_v _ _ h3,Wh.q44_v _ _ h4,iy,nQ,cond_true]
 repeat' (first|exact⟨_,rfl⟩|refine NN _ ?_ ?_)
theorem V4 (s:eB.D) (h:fR eB s≤1048576):DJ s:=by
 have e:fR eB s=1+(1+((s.2.2.1.length+1)+((1+(((s.2.2.2.1.2.1.map (fR an)).sum+1)+0))+((((s.2.2.2.2.1.1.map (fR e_)).sum+1)+(1+0))+(((s.2.2.2.2.2.1.map (fR fN)).sum+1)+(((s.2.2.2.2.2.2.1.map (fR gd)).sum+1)+0)))))):=rfl
 rw[e] at h
 have i0:∀x:an.D,fR an x=1+((x.2.1.length+1)+(1+((x.2.2.2.1.length+1)+0))):=fun _=>rfl
 have l1:=vH (fR an) (fun x=>by rw[i0];omega) s.2.2.2.1.2.1
 have l2:=vH (fR e_) (fun x=>by show 1≤1+(1+(1+(1+(1+0))));omega) s.2.2.2.2.1.1
 have l3:=vH (fR fN) (fun x=>by show 1≤1+(1+(1+(1+0)));omega) s.2.2.2.2.2.1
 have l4:=vH (fR gd) (fun x=>by show 1≤1+(1+(1+(1+(1+(1+0)))));omega) s.2.2.2.2.2.2.1
 refine⟨by omega,by show _≤_;omega,fun x hx=>?_,by show _≤_;omega,by omega,by omega⟩
 have:=xg (fR an) _ x hx
 rw[i0] at this
 exact⟨by omega,by omega⟩
end Pl
open Go Go.Ab Go.Lib
namespace Pl
instance itDec:DecidableEq It:=inferInstanceAs (DecidableEq (Int×List UInt8×Int×List UInt8×Unit))
instance ctDec:DecidableEq Ct:=fun a b=>if h1:a.1=b.1 then if h2:a.2.1=b.2.1 then .isTrue (by obtain⟨_,_,_⟩:=a;obtain⟨_,_,_⟩:=b;simp_all) else .isFalse (fun e=>h2 (by rw[e])) else .isFalse (fun e=>h1 (by rw[e]))
theorem H_ (a b:It):(a.1==b.1&&(a.2.1==b.2.1&&(a.2.2.1==b.2.2.1&&(a.2.2.2.1==b.2.2.2.1&&true))))=decide (a=b):=by
 obtain⟨a1,a2,a3,a4,a5⟩:=a
 obtain⟨b1,b2,b3,b4,b5⟩:=b
 rw[Bool.eq_iff_iff]
 simp
theorem OO (a b:List It) (h:a.length=b.length):jS a.length (fun i=>decide (a.getD i z0=b.getD i z0))=decide (a=b):=by
 rw[Bool.eq_iff_iff,oL,decide_eq_true_iff]
 constructor
 ·intro hh
  refine List.ext_getElem h fun i h1 h2=>?_
  have:=of_decide_eq_true (hh i h1)
  rwa[getD_eq _ _ _ h1,getD_eq _ _ _ h2] at this
 ·rintro rfl i _;exact decide_eq_true rfl
theorem ct_eq (a b:Ct) (hl:a.2.1.length=b.2.1.length):(decide (a.1=b.1)&&decide (a.2.1=b.2.1))=decide (a=b):=by
 obtain⟨a1,a2,a3⟩:=a
 obtain⟨b1,b2,b3⟩:=b
 rw[Bool.eq_iff_iff]
 simp
theorem Wb (a b:Ct) (hl:a.2.1.length≤9999999):Wh.BB (a,b)=some (decide (a=b),()):=by
 by_cases h1:a.1=b.1
 ·by_cases h2:a.2.1.length=b.2.1.length
  ·have c1:(a.1 != b.1)=false:=by simp[h1]
   have c2:((a.2.1.length:Int) != (b.2.1.length:Int))=false:=by simp[h2]
   have q:=y5 (r:=Wh.BD) (fun i=>(((i:Int),(),()),b,a)) (n:=a.2.1.length) (p:=fun i=>decide (a.2.1.getD i z0=b.2.1.getD i z0)) (yf:=.inl (false,())) (yt:=.inr ((),())) (fun i hi _ hp=>by
     have hp':=(H_ (a.2.1.getD i z0) (b.2.1.getD i z0)).trans hp
     unfold z0 at hp'
     simp only[Wh.BD,gl hi,gl (show i<b.2.1.length by omega),g0,Int.toNat_natCast,hp',iy,Bool.and_self,Bool.not_true,cond_true,cond_false,lg (show i≤4611686018427387904 by omega)]) (fun i hi _ hp=>by
     have hp':=(H_ (a.2.1.getD i z0) (b.2.1.getD i z0)).trans hp
     unfold z0 at hp'
     simp only[Wh.BD,gl hi,gl (show i<b.2.1.length by omega),g0,Int.toNat_natCast,hp',iy,Bool.and_self,Bool.not_false,cond_true]) (by
     have d1:decide ((a.2.1.length:Int)<(a.2.1.length:Int))=false:=decide_eq_false (by omega)
     simp only[Wh.BD,d1,cond_false])
   rw[OO _ _ h2] at q
   have q':Comes Wh.BD ((0,(),()),b,a) _:=q
   simp only[Wh.BB,c1,c2,cond_false,cb q',cv q',cond_true]
   rw[←ct_eq a b h2,decide_eq_true h1,Bool.true_and]
   cases decide (a.2.1=b.2.1)<;>rfl
  ·have c1:(a.1 != b.1)=false:=by simp[h1]
   have c2:((a.2.1.length:Int) != (b.2.1.length:Int))=true:=bne_iff_ne.2 (by omega)
   simp only[Wh.BB,c1,c2,cond_false,cond_true]
   rw[decide_eq_false (by rintro rfl;exact h2 rfl)]
 ·have c1:(a.1 != b.1)=true:=bne_iff_ne.2 h1
  simp only[Wh.BB,c1,cond_true]
  rw[decide_eq_false (by rintro rfl;exact h1 rfl)]
theorem Ss (a b:Ct) (hl:a.2.1.length≤9999999):Wh.q62 (a,b)=some (decide (a=b),()):=by
 have he:Wh.q10 (a.2.1,b.2.1)=some (decide (a.2.1=b.2.1),()):=by
  by_cases h2:a.2.1.length=b.2.1.length
  ·have c2:((a.2.1.length:Int) != (b.2.1.length:Int))=false:=by simp[h2]
   have q:=y5 (r:=Wh.Bd) (fun i=>(((i:Int),b.2.1,a.2.1,(a.2.1.length:Int)),())) (n:=a.2.1.length) (p:=fun i=>decide (a.2.1.getD i z0=b.2.1.getD i z0)) (yf:=.inl (false,())) (yt:=.inr ((),())) (fun i hi _ hp=>by
     have hp':=(H_ (a.2.1.getD i z0) (b.2.1.getD i z0)).trans hp
     unfold z0 at hp'
     simp only[Wh.Bd,gl hi,gl (show i<b.2.1.length by omega),g0,Int.toNat_natCast,hp',iy,Bool.and_self,Bool.not_true,cond_true,cond_false,lg (show i≤4611686018427387904 by omega)]) (fun i hi _ hp=>by
     have hp':=(H_ (a.2.1.getD i z0) (b.2.1.getD i z0)).trans hp
     unfold z0 at hp'
     simp only[Wh.Bd,gl hi,gl (show i<b.2.1.length by omega),g0,Int.toNat_natCast,hp',iy,Bool.and_self,Bool.not_false,cond_true]) (by
     have d1:decide ((a.2.1.length:Int)<(a.2.1.length:Int))=false:=decide_eq_false (by omega)
     simp only[Wh.Bd,d1,cond_false])
   rw[OO _ _ h2] at q
   have q':Comes Wh.Bd ((0,b.2.1,a.2.1,(a.2.1.length:Int)),()) _:=q
   simp only[Wh.q10,c2,cond_false,cb q',cv q',cond_true]
   cases decide (a.2.1=b.2.1)<;>rfl
  ·have c2:((a.2.1.length:Int) != (b.2.1.length:Int))=true:=bne_iff_ne.2 (by omega)
   simp only[Wh.q10,c2,cond_true]
   rw[decide_eq_false (fun e=>h2 (by rw[e]))]
 have hd:(bif a.1==b.1 then decide (a.2.1=b.2.1) else false)=decide (a=b):=by
  obtain⟨a1,a2,a3⟩:=a
  obtain⟨b1,b2,b3⟩:=b
  by_cases h1:a1=b1
  ·simp[h1]
  ·simp[h1]
 simp only[Wh.q62,he,Wh.q10_v _ _ he,nQ,Bool.or_true,iy,cond_true,hd]
def y7 (l:List It) (e:Int):Option Nat:=first l.length fun i=>(l.getD i z0).2.2.1==e
def edI (l:List It):Option Nat→It
 |some i=>l.getD i z0
 |none=>z0
theorem Rk (c:Ct) (e:Int) (hl:c.2.1.length≤9999999):Wh.q29 (c,e)=some ((edI c.2.1 (y7 c.2.1 e),(y7 c.2.1 e).isSome),()):=by
 obtain⟨ce,l,u⟩:=c
 have hl:l.length≤9999999:=hl
 have q:=DM (r:=Wh.Bp) (fun i=>(((),(i:Int),(),e),((0:Int),([]:List UInt8),(0:Int),([]:List UInt8),()),(ce,l,u))) (n:=l.length) (p:=fun i=>(l.getD i z0).2.2.1==e) (yt:=fun i=>.inl (((),true),l.getD i z0)) (yn:=.inr ((),(0:Int),[],(0:Int),[],())) (fun i hi hp=>by
   have hp':((l.getD i z0).2.2.1==e)=false:=hp
   unfold z0 at hp'
   simp only[Wh.Bp,gl hi,g0,Int.toNat_natCast,hp',iy,Bool.and_self,cond_true,cond_false,lg (show i≤4611686018427387904 by omega)]) (fun i hi hp=>by
   have hp':((l.getD i z0).2.2.1==e)=true:=hp
   unfold z0 at hp' ⊢
   simp only[Wh.Bp,gl hi,g0,Int.toNat_natCast,hp',iy,Bool.and_self,cond_true]) (by
   have d1:decide ((l.length:Int)<(l.length:Int))=false:=decide_eq_false (by omega)
   simp only[Wh.Bp,d1,cond_false])
 have q':Comes Wh.Bp (((),0,(),e),((0:Int),([]:List UInt8),(0:Int),([]:List UInt8),()),(ce,l,u)) _:=q
 simp only[Wh.q29,cb q',cv q',cond_true,y7]
 cases first l.length (fun i=>(l.getD i z0).2.2.1==e)<;>rfl
theorem Ov (c:Ct) (e:Int) (hl:c.2.1.length≤9999999):Wh.Bj (c,e)=some (zW (y7 c.2.1 e),()):=by
 obtain⟨ce,l,u⟩:=c
 have hl:l.length≤9999999:=hl
 have f (x:It):Wh.Eb (x,e)=some ((x.2.2.1==e),()):=rfl
 have q:=DM (r:=Wh.Bq) (fun i=>(((i:Int),l,(e,()),(l.length:Int)),())) (n:=l.length) (p:=fun i=>(l.getD i z0).2.2.1==e) (yt:=fun i=>.inl ((i:Int),())) (yn:=.inr ((),())) (fun i hi hp=>by
   have hp':((l.getD i z0).2.2.1==e)=false:=hp
   unfold z0 at hp'
   simp only[Wh.Bq,gl hi,g0,Int.toNat_natCast,f,Wh.q8_v _ _ (f _),hp',nQ,iy,Bool.and_self,cond_true,cond_false,lg (show i≤4611686018427387904 by omega)]) (fun i hi hp=>by
   have hp':((l.getD i z0).2.2.1==e)=true:=hp
   unfold z0 at hp'
   simp only[Wh.Bq,gl hi,g0,Int.toNat_natCast,f,Wh.q8_v _ _ (f _),hp',nQ,iy,Bool.and_self,cond_true]) (by
   have d1:decide ((l.length:Int)<(l.length:Int))=false:=decide_eq_false (by omega)
   simp only[Wh.Bq,d1,cond_false])
 have q':Comes Wh.Bq ((0,l,(e,()),(l.length:Int)),()) _:=q
 have h:Wh.q2 (l,e,())=some (zW (y7 l e),()):=by
  simp only[Wh.q2,cb q',cv q',cond_true,y7]
  cases first l.length (fun i=>(l.getD i z0).2.2.1==e)<;>rfl
 simp only[Wh.Bj,h,Wh.q2_v _ _ h,nQ,iy,cond_true]
theorem NX:Wh.Bk=Wh.AJ:=rfl
theorem NY:Wh.D8=Wh.Ea:=rfl
def zo (a b:Int):Int:=IntKind.wrap .i64 (Int.tdiv (IntKind.wrap .i64 (IntKind.wrap .i64 (a+b)-1)) b)
theorem count_eq (a b:Int) (x y:List Int) (u:Unit) (h:b≠0):Wh.AJ (a,b,x,y,u)=some (zo a b,()):=by
 have c:(b != 0)=true:=bne_iff_ne.2 h
 simp only[Wh.AJ,c,iy,cond_true];rfl
theorem RI (a b:Nat) (ha:a≤100000) (hb:1≤b) (bZ:b≤1000):zo a b=(((a+b-1) / b:Nat):Int):=by
 have w1:IntKind.wrap .i64 ((a:Int)+(b:Int))=((a+b:Nat):Int):=wi (by omega) (by omega)
 have w2:IntKind.wrap .i64 (((a+b:Nat):Int)-1)=((a+b-1:Nat):Int):=wi (by omega) (by omega)
 have w3:Int.tdiv ((a+b-1:Nat):Int) (b:Int)=(((a+b-1) / b:Nat):Int):=by rw[Int.tdiv_eq_ediv_of_nonneg (by omega)];rfl
 have hle:(a+b-1) / b≤a+b-1:=Nat.div_le_self _ _
 rw[zo,w1,w2,w3];exact wi rfl (by omega)
theorem Si (L:Nat) (hL:L≤300):∀d s:Nat,s+d=13→1≤s→∃s':Nat,1≤s'∧s'≤13∧Comes Wh.Bg (((),()),((L:Int),(s:Int),(),(),()),((0:Int),(0:Int),(),(),()),[],[],[],[]) (((),()),((0:Int),(0:Int),(),(),()),((L:Int),(s':Int),(),(),()),[],[],[],[]):=by
 intro d
 induction d with
 |zero=>
  intro s h1 h2
  have:s=13:=by omega
  subst this
  refine⟨13,by omega,by omega,.out ?_⟩
  have a:=count_eq (L:Int) ((13:Nat):Int) [] [] () (by omega)
  rw[RI L 13 (by omega) (by omega) (by omega)] at a
  have c1:decide ((((L+13-1) / 13:Nat):Int)>24)=false:=decide_eq_false (by omega)
  simp only[Wh.Bg,a,Wh.BE _ _ a,c1,nQ,iy,cond_true,cond_false]
 |succ d ih=>
  intro s h1 h2
  have a:=count_eq (L:Int) (s:Int) [] [] () (by omega)
  cases hc:decide (zo (L:Int) (s:Int)>24) with
  |true=>
   obtain⟨s',g1,g2,g3⟩:=ih (s+1) (by omega) (by omega)
   refine⟨s',g1,g2,.again ?_ g3⟩
   simp only[Wh.Bg,a,Wh.BE _ _ a,hc,nQ,iy,cond_true,lg (show s≤4611686018427387904 by omega)]
  |false=>
   refine⟨s,by omega,by omega,.out ?_⟩
   simp only[Wh.Bg,a,Wh.BE _ _ a,hc,nQ,iy,cond_true,cond_false]
theorem PN (L:Nat) (h1:1≤L) (hL:L≤300):∃P:xS.D,P.2.1≠0∧Wh.Ch (L:Int)=some (P,())∧Wh.q58 (L:Int)=some (P,()):=by
 obtain⟨s,g1,g2,g3⟩:=Si L hL 5 8 (by omega) (by omega)
 have g3':Comes Wh.Bg (((),()),((L:Int),(8:Int),(),(),()),((0:Int),(0:Int),(),(),()),[],[],[],[]) _:=g3
 have g4:Comes Wh.Fh (((),()),((L:Int),(8:Int),(),(),()),((0:Int),(0:Int),(),(),()),[],[],[],[]) _:=g3
 have a:=count_eq (L:Int) (s:Int) [] [] () (by omega)
 have wi1:mb (L:Int) 1 300=true:=decide_eq_true (by omega)
 cases hk:decide (IntKind.wrap .i64 (Int.tdiv (IntKind.wrap .i64 (zo (L:Int) (s:Int)+3)) 4)<zo (L:Int) (s:Int)) with
 |true=>
  refine⟨((L:Int),(s:Int),[IntKind.wrap .i64 (Int.tdiv (IntKind.wrap .i64 (zo (L:Int) (s:Int)+3)) 4),zo (L:Int) (s:Int)],[(2:Int),(3:Int)],()),by simp only;omega,?_,?_⟩
  ·simp only[Wh.Ch,cb g3',cv g3',cond_true,a,Wh.BE _ _ a,hk,nQ,iy]
  ·simp only[Wh.q58,yu,Wh.yL _ _ (yu _ _ _),wi1,cb g4,cv g4,cond_true,cond_false,Bool.not_true,NX,NY,a,Wh.BE _ _ a,hk,nQ,iy]
 |false=>
  refine⟨((L:Int),(s:Int),[zo (L:Int) (s:Int)],[(1:Int)],()),by simp only;omega,?_,?_⟩
  ·simp only[Wh.Ch,cb g3',cv g3',cond_true,a,Wh.BE _ _ a,hk,nQ,iy,cond_false]
  ·simp only[Wh.q58,yu,Wh.yL _ _ (yu _ _ _),wi1,cb g4,cv g4,cond_true,cond_false,Bool.not_true,NX,NY,a,Wh.BE _ _ a,hk,nQ,iy]
noncomputable def E6 (L:Int):Int:=zo (Wh.E_ L).1.1 (Wh.E_ L).1.2.1
noncomputable def A6 (c:Ct) (f:Fr):Bool:=bif decide (f.2.2.2.1>0) then true else bif decide (f.2.1>0) then(match y7 c.2.1 f.2.1 with
 |none=>true
 |some k=>bif(c.2.1.getD k z0).1 != f.1 then true else decide (f.2.2.1≥E6 ((c.2.1.getD k z0).2.2.2.1.length:Int))) else false
theorem KO {l:List It} {e:Int} {i:Nat} (h:y7 l e=some i):i<l.length:=(zX.1 h).1
theorem Rl (s:eB.D) (I:yd s.2.2.2.1) (i:Nat) (hi:i<s.2.2.2.2.1.1.length) (hl:s.2.2.2.2.1.1.length≤9999999) :
  Wh.zO (((i:Int),()),s)=if A6 s.2.2.2.1 (s.2.2.2.2.1.1.getD i zF)=true then some (.inr (.inl (false,()))) else some (.inl ((((i+1:Nat):Int),()),s)):=by
 have bI:s.2.2.2.1.2.1.length≤8:=I.len
 have ed:=Rk s.2.2.2.1 (s.2.2.2.2.1.1.getD i zF).2.1 (by omega)
 have w:=lg (show i≤4611686018427387904 by omega)
 unfold A6
 cases hw:decide ((s.2.2.2.2.1.1.getD i zF).2.2.2.1>0) with
 |true=>
  unfold zF at ed hw ⊢
  simp only[Wh.zO,gl hi,g0,Int.toNat_natCast,ed,Wh.Cl _ _ ed,hw,nQ,Bool.not_true,Bool.and_false,Bool.not_false,Bool.true_or,Bool.or_true,iy,Bool.and_self,cond_true,if_true]
 |false=>
  cases he:decide ((s.2.2.2.2.1.1.getD i zF).2.1>0) with
  |false=>
   unfold zF at ed hw he ⊢
   simp only[Wh.zO,gl hi,g0,Int.toNat_natCast,ed,Wh.Cl _ _ ed,hw,he,nQ,Bool.not_true,Bool.and_false,Bool.false_and,Bool.not_false,Bool.true_or,Bool.or_true,iy,Bool.and_self,cond_true,cond_false,w]
   rfl
  |true=>
   cases hk:y7 s.2.2.2.1.2.1 (s.2.2.2.2.1.1.getD i zF).2.1 with
   |none=>
    rw[hk] at ed
    unfold zF at ed hw he ⊢
    simp only[Wh.zO,gl hi,g0,Int.toNat_natCast,ed,Wh.Cl _ _ ed,hw,he,edI,Option.isSome,nQ,Bool.not_true,Bool.not_false,Bool.true_or,Bool.or_true,Bool.and_true,iy,Bool.and_self,cond_true,cond_false,if_true]
   |some k=>
    rw[hk] at ed
    have jf:=KO hk
    have hp:=LB (I.ok (s.2.2.2.1.2.1.getD k z0) (by rw[getD_eq _ _ _ jf];exact List.getElem_mem jf))
    obtain⟨P,hP,f1,_⟩:=PN _ hp.2.2.1 hp.2.2.2
    have f3 (x y:List Int) (u:Unit):=count_eq P.1 P.2.1 x y u hP
    have f4 (x y:List Int) (u:Unit):=Wh.BE _ _ (f3 x y u)
    cases hh:((s.2.2.2.1.2.1.getD k z0).1 != (s.2.2.2.2.1.1.getD i zF).1) with
    |true=>
     unfold zF at ed hw he hh ⊢
     simp only[Wh.zO,gl hi,g0,Int.toNat_natCast,ed,Wh.Cl _ _ ed,hw,he,hh,edI,Option.isSome,nQ,Bool.not_true,Bool.not_false,Bool.true_or,Bool.or_true,Bool.and_true,iy,Bool.and_self,cond_true,cond_false,if_true]
    |false=>
     have hc:E6 ((s.2.2.2.1.2.1.getD k z0).2.2.2.1.length:Int)=zo P.1 P.2.1:=by rw[E6,Wh.IG _ _ f1]
     unfold zF at ed hw he hh ⊢
     simp only[hc,Wh.zO,gl hi,g0,Int.toNat_natCast,ed,Wh.Cl _ _ ed,hw,he,hh,f1,Wh.IG _ _ f1,f3,f4,edI,Option.isSome,nQ,Bool.not_true,Bool.not_false,Bool.or_true,iy,Bool.and_self,cond_true,cond_false,w]
     cases decide ((s.2.2.2.2.1.1.getD i ((0:Int),(0:Int),(0:Int),(0:Int),false,())).2.2.1≥zo P.1 P.2.1)<;>rfl
theorem Ow (c:Ct) (I:yd c) (l:List Fr) (i:Nat) (hi:i<l.length) (hl:l.length≤9999999) (hok:okF (l.getD i zF)=true) :
  Wh.zN (((i:Int),(),l,(l.length:Int)),c)=if A6 c (l.getD i zF)=true then some (.inr (.inl (false,()))) else some (.inl ((((i+1:Nat):Int),(),l,(l.length:Int)),c)):=by
 have bI:c.2.1.length≤8:=I.len
 have ed:=Ov c (l.getD i zF).2.1 (by omega)
 have w:=lg (show i≤4611686018427387904 by omega)
 unfold A6
 cases hz:((l.getD i zF).2.1==0) with
 |true=>
  have h0:(l.getD i zF).2.1=0:=eq_of_beq hz
  have hw:decide ((l.getD i zF).2.2.2.1>0)=false:=by
   unfold okF at hok
   rw[hz,cond_true] at hok
   simp only[Bool.and_eq_true,beq_iff_eq] at hok
   exact decide_eq_false (by omega)
  have he:decide ((l.getD i zF).2.1>0)=false:=decide_eq_false (by omega)
  rw[hw,he]
  unfold zF at hz ⊢
  simp only[Wh.zN,gl hi,g0,Int.toNat_natCast,hz,iy,Bool.and_self,cond_true,cond_false,w]
  rfl
 |false=>
  have he:decide ((l.getD i zF).2.1>0)=true:=by
   unfold okF at hok
   rw[hz,cond_false] at hok
   simp only[Bool.and_eq_true,mb,decide_eq_true_iff] at hok
   exact decide_eq_true (by omega)
  rw[he]
  cases hw:decide ((l.getD i zF).2.2.2.1>0) with
  |true=>
   unfold zF at ed hz hw ⊢
   simp only[Wh.zN,gl hi,g0,Int.toNat_natCast,hz,ed,Wh.Dc _ _ ed,hw,nQ,Bool.not_true,Bool.not_false,Bool.true_or,iy,Bool.and_self,cond_true,cond_false,if_true]
  |false=>
   cases hk:y7 c.2.1 (l.getD i zF).2.1 with
   |none=>
    rw[hk] at ed
    unfold zF at ed hz hw ⊢
    simp only[Wh.zN,gl hi,g0,Int.toNat_natCast,hz,ed,Wh.Dc _ _ ed,hw,KF,nQ,Bool.not_true,Bool.not_false,Bool.true_or,iy,Bool.and_self,cond_true,cond_false,if_true]
   |some k=>
    rw[hk] at ed
    have jf:=KO hk
    have hp:=LB (I.ok (c.2.1.getD k z0) (by rw[getD_eq _ _ _ jf];exact List.getElem_mem jf))
    obtain⟨P,hP,f0,f1⟩:=PN _ hp.2.2.1 hp.2.2.2
    have f3 (x y:List Int) (u:Unit):Wh.Bk (P.1,P.2.1,x,y,u)=_:=count_eq P.1 P.2.1 x y u hP
    have f4 (x y:List Int) (u:Unit):=Wh.q17_v _ _ (f3 x y u)
    have ed':Wh.Bj (c,(l.getD i zF).2.1)=some ((k:Int),()):=ed
    have e1:decide ((k:Int)<0)=false:=decide_eq_false (by omega)
    cases hh:((c.2.1.getD k z0).1 != (l.getD i zF).1) with
    |true=>
     unfold zF at ed' hz hw hh ⊢
     unfold z0 at hh ⊢
     simp only[Wh.zN,gl hi,gl jf,g0,Int.toNat_natCast,hz,ed',Wh.Dc _ _ ed',hw,hh,e1,nQ,Bool.not_true,Bool.not_false,Bool.true_or,Bool.or_true,iy,Bool.and_self,cond_true,cond_false,if_true]
    |false=>
     have hc:E6 ((c.2.1.getD k z0).2.2.2.1.length:Int)=zo P.1 P.2.1:=by rw[E6,Wh.IG _ _ f0]
     unfold zF at ed' hz hw hh ⊢
     have hh2:=hh
     unfold z0 at hh2 f1
     simp only[hc,hh2,Wh.zN,gl hi,gl jf,g0,Int.toNat_natCast,hz,ed',Wh.Dc _ _ ed',hw,hh,e1,f1,Wh.q58_v _ _ f1,f3,f4,nQ,Bool.not_true,Bool.not_false,Bool.or_true,iy,Bool.and_self,cond_true,cond_false,w]
     cases decide ((l.getD i ((0:Int),(0:Int),(0:Int),(0:Int),false,())).2.2.1≥zo P.1 P.2.1)<;>rfl
abbrev Bu:Type:=Int×Int×Int×Int×Unit
def CK (b:Bu):Bool:=mb b.2.1 0 99999&&mb b.1 0 b.2.1&&mb b.2.2.1 0 99999&&mb b.2.2.2.1 0 99999
theorem Ri (b:Bu):Wh.q50 b=some (CK b,()):=by
 unfold CK
 simp only[Wh.q50,z6,Wh.yE _ _ (z6 _ _ _),nQ,Bool.or_true,iy,Bool.and_self,cond_true]
 cases mb b.2.1 0 99999<;>cases mb b.1 0 b.2.1<;>cases mb b.2.2.1 0 99999<;>cases mb b.2.2.2.1 0 99999<;>rfl
theorem Ot (b:Bu):Wh.q31 b=some (CK b,()):=by
 unfold CK
 simp only[Wh.q31,yu,Wh.yL _ _ (yu _ _ _),nQ,Bool.or_true,iy,Bool.and_self,cond_true]
 cases mb b.2.1 0 99999<;>cases mb b.1 0 b.2.1<;>cases mb b.2.2.1 0 99999<;>cases mb b.2.2.2.1 0 99999<;>rfl
def zB:Bu:=((0:Int),(0:Int),(0:Int),(0:Int),())
def A5 (now:Int) (b:Bu):Bool:=bif bif bif !CK b then true else b.2.1 != 40 then true else b.2.2.1 != 8 then true else decide (b.2.2.2.1>now)
theorem Rh (s:eB.D) (i:Nat) (hi:i<s.2.2.2.2.2.1.length) (hl:s.2.2.2.2.2.1.length≤9999999) :
  Wh.By (((i:Int),()),s)=if A5 s.2.1 (s.2.2.2.2.2.1.getD i zB)=true then some (.inr (.inl (false,()))) else some (.inl ((((i+1:Nat):Int),()),s)):=by
 have w:=lg (show i≤4611686018427387904 by omega)
 unfold A5 zB
 simp only[Wh.By,gl hi,g0,Int.toNat_natCast,Ri,Wh.q50_v _ _ (Ri _),nQ,iy,Bool.and_self,cond_true,w]
 generalize (bif bif bif !CK _ then true else _ then true else _ then true else _)=b
 cases b<;>rfl
theorem Oq (s:eB.D) (l:List Bu) (i:Nat) (hi:i<l.length) (hl:l.length≤9999999) :
  Wh.Br (((i:Int),(),l,(l.length:Int)),s)=if A5 s.2.1 (l.getD i zB)=true then some (.inr (.inl (false,()))) else some (.inl ((((i+1:Nat):Int),(),l,(l.length:Int)),s)):=by
 have w:=lg (show i≤4611686018427387904 by omega)
 unfold A5 zB
 simp only[Wh.Br,gl hi,g0,Int.toNat_natCast,Ot,Wh.q31_v _ _ (Ot _),nQ,iy,Bool.and_self,cond_true,w]
 generalize (bif bif bif !CK _ then true else _ then true else _ then true else _)=b
 cases b<;>rfl
end Pl
open Go Go.Ab Go.Lib
namespace Pl
abbrev Sv:Type:=Int×Int×Int×Int×Int×Int×Unit
def zS:Sv:=((0:Int),(0:Int),(0:Int),(0:Int),(0:Int),(0:Int),())
def E7 (l:List Sv) (i:Nat) (c:Int):Bool:=match i with
 |0=>false
 |m+1=>decide ((l.getD m zS).1≥c)
def EK (c:Ct) (s:Sv):Bool:=bif(y7 c.2.1 s.2.2.1).isSome then(edI c.2.1 (y7 c.2.1 s.2.2.1)).1 != Int.tmod s.1 2 else false
def Ar (c:Ct) (now:Int) (l:List Sv) (i:Nat):Bool:=
 ((((((!mb (l.getD i zS).1 0 3 || E7 l i (l.getD i zS).1) || !mb (l.getD i zS).2.1 1 99999) || !mb (l.getD i zS).2.2.1 1 c.1) || !mb (l.getD i zS).2.2.2.1 0 9999) || !mb (l.getD i zS).2.2.2.2.1 0 3) || !mb (l.getD i zS).2.2.2.2.2.1 0 now) || EK c (l.getD i zS)
theorem HP (a b:Bool):(bif a then true else b)=(a || b):=by cases a<;>rfl
theorem Rn (s:eB.D) (hc:s.2.2.2.1.2.1.length≤9999999) (i:Nat) (hi:i<s.2.2.2.2.2.2.1.length) (hl:s.2.2.2.2.2.2.1.length≤9999999) :
  Wh.AG (((i:Int),()),s)=if Ar s.2.2.2.1 s.2.1 s.2.2.2.2.2.2.1 i=true then some (.inr (.inl (false,()))) else some (.inl ((((i+1:Nat):Int),()),s)):=by
 have w:=lg (show i≤4611686018427387904 by omega)
 have ed:=Rk s.2.2.2.1 (s.2.2.2.2.2.2.1.getD i zS).2.2.1 hc
 have hh (x:Int):Wh.q52 x=some (Int.tmod x 2,()):=rfl
 have fin (A B:Bool) (X Y:Option ((((Int)×(Unit))×((eB.D)))⊕((((Bool))×(Unit))⊕((Unit)×(Unit))))):(bif A then X else bif B then X else Y)=if(A || B)=true then X else Y:=by cases A<;>cases B<;>rfl
 rcases Nat.eq_zero_or_pos i with h0|h0
 ·subst h0
  have d1:decide (((0:Nat):Int)>0)=false:=rfl
  unfold Ar EK E7
  unfold zS at ed ⊢
  simp only[Wh.AG,gl hi,g0,Int.toNat_natCast,z6,Wh.yE _ _ (z6 _ _ _),ed,Wh.Cl _ _ ed,hh,Wh.ME _ _ (hh _),d1,HP,nQ,Bool.or_true,Bool.false_and,Bool.not_false,Bool.true_or,Bool.or_false,iy,Bool.and_self,cond_true,cond_false,w]
  exact fin _ _ _ _
 ·obtain⟨m,rfl⟩:∃m,i=m+1:=⟨i-1,by omega⟩
  have d1:decide (((m+1:Nat):Int)>0)=true:=decide_eq_true (by omega)
  have w1:IntKind.wrap .i64 (((m+1:Nat):Int)-1)=(m:Int):=wi (by omega) (by omega)
  unfold Ar EK E7
  unfold zS at ed ⊢
  simp only[Wh.AG,gl hi,gl (show m<s.2.2.2.2.2.2.1.length by omega),g0,Int.toNat_natCast,w1,z6,Wh.yE _ _ (z6 _ _ _),ed,Wh.Cl _ _ ed,hh,Wh.ME _ _ (hh _),d1,HP,nQ,Bool.or_true,iy,Bool.and_self,cond_true,w]
  exact fin _ _ _ _
theorem HS (n:Int):Wh.q35 n=some (mb n 0 3,()):=by simp only[Wh.q35,yu,Wh.yL _ _ (yu _ _ _),nQ,iy,cond_true]
theorem Oz (s:eB.D) (hc:s.2.2.2.1.2.1.length≤9999999) (i:Nat) (hi:i<s.2.2.2.2.2.2.1.length) (hl:s.2.2.2.2.2.2.1.length≤9999999) :
  Wh.AH (((i:Int),(),s.2.2.2.2.2.2.1,(s.2.2.2.2.2.2.1.length:Int)),s)=if Ar s.2.2.2.1 s.2.1 s.2.2.2.2.2.2.1 i=true then some (.inr (.inl (false,()))) else some (.inl ((((i+1:Nat):Int),(),s.2.2.2.2.2.2.1,(s.2.2.2.2.2.2.1.length:Int)),s)):=by
 have w:=lg (show i≤4611686018427387904 by omega)
 have ed:=Ov s.2.2.2.1 (s.2.2.2.2.2.2.1.getD i zS).2.2.1 hc
 have hh (x:Int):Wh.q60 x=some (Int.tmod x 2,()):=rfl
 have he:∃v,zW (y7 s.2.2.2.1.2.1 (s.2.2.2.2.2.2.1.getD i zS).2.2.1)=v∧decide (v≥0)=(y7 s.2.2.2.1.2.1 (s.2.2.2.2.2.2.1.getD i zS).2.2.1).isSome∧(!decide (v≥0) || decide (0≤v))=true∧(!decide (v≥0) || decide (v<(s.2.2.2.1.2.1.length:Int)))=true ∧
   (bif decide (v≥0) then(s.2.2.2.1.2.1.getD (Int.toNat v) z0).1 != Int.tmod (s.2.2.2.2.2.2.1.getD i zS).1 2 else false)=EK s.2.2.2.1 (s.2.2.2.2.2.2.1.getD i zS):=by
  unfold EK
  cases e:y7 s.2.2.2.1.2.1 (s.2.2.2.2.2.2.1.getD i zS).2.2.1 with
  |none=>exact⟨-1,rfl,rfl,rfl,rfl,rfl⟩
  |some k=>
   have:=KO e
   have d:decide ((k:Int)≥0)=true:=decide_eq_true (by omega)
   refine⟨(k:Int),rfl,d,by rw[g0,Bool.or_true],by rw[gl this,Bool.or_true],?_⟩
   rw[d];rfl
 obtain⟨v,hv,_,Ag,hv3,hv4⟩:=he
 rw[hv] at ed
 have fin (A B C D:Bool) (X Y:Option ((((Int)×(Unit)×(List (gd.D))×(Int))×((eB.D)))⊕((((Bool))×(Unit))⊕((Unit)×(Unit))))) (h:(A || (B || C))=D):(bif A then X else bif B then X else bif C then X else Y)=if D=true then X else Y:=by subst h;cases A<;>cases B<;>cases C<;>rfl
 have bool8 (a b c d e f g h:Bool):((((b || !a) || !c) || !d) || (h || ((!e || !f) || !g)))=(((((((!a || b) || !c) || !d) || !e) || !f) || !g) || h):=by
  cases a<;>cases b<;>cases c<;>cases d<;>cases e<;>cases f<;>cases g<;>cases h<;>rfl
 have bool7 (a c d e f g h:Bool):(((!a || !c) || !d) || (h || ((!e || !f) || !g)))=((((((!a || !c) || !d) || !e) || !f) || !g) || h):=by
  cases a<;>cases c<;>cases d<;>cases e<;>cases f<;>cases g<;>cases h<;>rfl
 rcases Nat.eq_zero_or_pos i with h0|h0
 ·subst h0
  have d1:decide (((0:Nat):Int)>0)=false:=rfl
  unfold Ar E7
  unfold z0 at hv4
  unfold zS at ed hv4 ⊢
  simp only[Wh.AH,gl hi,g0,Int.toNat_natCast,HS,Wh.Mo _ _ (HS _),yu,Wh.yL _ _ (yu _ _ _),ed,Wh.Dc _ _ ed,hh,Wh.ML _ _ (hh _),Ag,hv3,hv4,d1,nQ,Bool.or_true,Bool.not_false,Bool.true_or,Bool.or_false,iy,Bool.and_self,cond_true,cond_false,w]
  refine fin _ _ _ _ _ _ ?_
  simp only[HP]
  exact bool7 _ _ _ _ _ _ _
 ·obtain⟨m,rfl⟩:∃m,i=m+1:=⟨i-1,by omega⟩
  have d1:decide (((m+1:Nat):Int)>0)=true:=decide_eq_true (by omega)
  have w1:IntKind.wrap .i64 (((m+1:Nat):Int)-1)=(m:Int):=wi (by omega) (by omega)
  unfold Ar E7
  unfold z0 at hv4
  unfold zS at ed hv4 ⊢
  simp only[Wh.AH,gl hi,gl (show m<s.2.2.2.2.2.2.1.length by omega),g0,Int.toNat_natCast,w1,HS,Wh.Mo _ _ (HS _),yu,Wh.yL _ _ (yu _ _ _),ed,Wh.Dc _ _ ed,hh,Wh.ML _ _ (hh _),Ag,hv3,hv4,d1,nQ,Bool.or_true,iy,Bool.and_self,cond_true,w]
  refine fin _ _ _ _ _ _ ?_
  simp only[HP]
  exact bool8 _ _ _ _ _ _ _ _
noncomputable def xQ (s:eB.D):List (List UInt8)×Nat:=Ah hash s.2.2.1
noncomputable def KN (s:eB.D):Bool:=(s.2.2.2.1.2.1.length==0&&s.2.2.2.1.1==0&&s.2.2.2.2.1.1.length==0&&s.2.2.2.2.1.2.1==0&&s.2.2.2.2.2.1.length==0&&s.2.2.2.2.2.2.1.length==0)
noncomputable def EN (s:eB.D):Bool:=jS s.2.2.2.2.1.1.length (fun i=> !A6 s.2.2.2.1 (s.2.2.2.2.1.1.getD i zF))
noncomputable def KH (s:eB.D):Bool:=jS s.2.2.2.2.2.1.length (fun i=> !A5 s.2.1 (s.2.2.2.2.2.1.getD i zB))
noncomputable def Fx (s:eB.D):Bool:=jS s.2.2.2.2.2.2.1.length (fun i=> !Ar s.2.2.2.1 s.2.1 s.2.2.2.2.2.2.1 i)
noncomputable def upV (s:eB.D):Bool:=(xQ s).2==s.2.2.1.length&&(decide ((yJ (xQ s).1).1=s.2.2.2.1)&&(AA s.2.2.2.2.1&&(s.2.2.2.2.2.1.length==2&&(Fx s&&(EN s&&KH s)))))
noncomputable def okV (s:eB.D):Bool:=mb s.2.1 0 99999&&(decide (s.2.2.1.length≤9000)&&((yJ (xQ s).1).2&&(bif s.1 then upV s else KN s)))
theorem NV {l:List (List UInt8)} (h:(yJ l).2=true):yd (yJ l).1:=by
 unfold yJ at h ⊢
 cases e:zm (0,[],()) l with
 |none=>rw[e] at h;cases h
 |some c=>exact NT l _ c KI e
theorem V3 (s:eB.D) (hc:s.2.2.2.1.2.1.length≤9999999) (hl:s.2.2.2.2.2.2.1.length≤9999999):Wh.q28 s=some (Fx s,()):=by
 have q:=y5 (r:=Wh.AG) (fun i=>(((i:Int),()),s)) (n:=s.2.2.2.2.2.2.1.length) (p:=fun i=> !Ar s.2.2.2.1 s.2.1 s.2.2.2.2.2.2.1 i) (yf:=.inl (false,())) (yt:=.inr ((),())) (fun i hi _ hp=>by
   rw[Rn s hc i hi hl,if_neg (by simpa using hp)]) (fun i hi _ hp=>by
   rw[Rn s hc i hi hl,if_pos (by simpa using hp)]) (by
   have d1:decide ((s.2.2.2.2.2.2.1.length:Int)<(s.2.2.2.2.2.2.1.length:Int))=false:=decide_eq_false (by omega)
   simp only[Wh.AG,d1,cond_false])
 have q':Comes Wh.AG ((0,()),s) _:=q
 simp only[Wh.q28,cb q',cv q',cond_true]
 unfold Fx
 cases jS s.2.2.2.2.2.2.1.length (fun i=> !Ar s.2.2.2.1 s.2.1 s.2.2.2.2.2.2.1 i)<;>rfl
theorem Rb (s:eB.D) (h:s.2.2.1.length≤9999999):(xQ s).1.length≤9999999∧∀r∈(xQ s).1,r.length≤9999999:=by
 obtain⟨h1,h2,h3⟩:=vQ hash zY (s.2.2.1.length+1) s.2.2.1 0
 refine⟨?_,fun r hr=>?_⟩
 ·change (eE hash (s.2.2.1.length+1) s.2.2.1 0).1.length≤9999999;omega
 ·have:=h3 r hr;omega
theorem V9 (s:eB.D) (S:DJ s):Wh.q51 s=some (okV s,()):=by
 have zI:=S.log
 have hbk:=S.bks
 have hsv:=S.srv
 have hfr:s.2.2.2.2.1.1.length≤1048576:=S.Iw
 have hct:s.2.2.2.1.2.1.length≤1048576:=S.cat
 have a:=SD s.2.2.1 (by omega)
 obtain⟨r1,r2⟩:=Rb s (by omega)
 have b:=V6 (xQ s).1 r1 r2
 unfold okV
 change Wh.BL s.2.2.1=some (((xQ s).1,((xQ s).2:Int)),()) at a
 have hle:decide ((s.2.2.1.length:Int)>9000) = !decide (s.2.2.1.length≤9000):=by
  by_cases h:s.2.2.1.length≤9000
  ·rw[decide_eq_true h,decide_eq_false (by omega)];rfl
  ·rw[decide_eq_false h,decide_eq_true (by omega)];rfl
 have CX (x y:Nat):((x:Int)==(y:Int))=(x==y):=by rw[Bool.eq_iff_iff,beq_iff_eq,beq_iff_eq];omega
 have Lq (x:Nat):((x:Int)==0)=(x==0):=CX x 0
 have Lr (x:Nat):((x:Int) != 2) = !(x==2):=by rw[←CX x 2];rfl
 simp only[Wh.q51,z6,Wh.yE _ _ (z6 _ _ _),hle,nQ,iy,cond_true]
 cases mb s.2.1 0 99999 with
 |false=>rfl
 |true=>
 cases decide (s.2.2.1.length≤9000) with
 |false=>rfl
 |true=>
 simp only[Bool.not_true,cond_false,Bool.true_and]
 cases cS:s.1 with
 |false=>
  have sy:Wh.q73 s=some ((yJ (xQ s).1).2,()):=by
   simp only[Wh.q73,a,Wh.Ng _ _ a,b,Wh.LQ _ _ b,nQ,iy,cond_true]
  simp only[Bool.not_false,cond_true,cond_false,sy,Wh.q73_v _ _ sy,Bool.or_true,Lq,KN]
  congr 2
  cases (yJ (xQ s).1).2<;>cases (s.2.2.2.1.2.1.length==0)<;>cases (s.2.2.2.1.1==0)<;>cases (s.2.2.2.2.1.1.length==0)<;>cases (s.2.2.2.2.1.2.1==0)<;>cases (s.2.2.2.2.2.1.length==0)<;>cases (s.2.2.2.2.2.2.1.length==0)<;>rfl
 |true=>
  have sm:=Wb (yJ (xQ s).1).1 s.2.2.2.1
  have po:=V_ s.2.2.2.2.1 (by omega)
  have sv:=V3 s (by omega) (by omega)
  have e1:(((xQ s).2:Int) != (s.2.2.1.length:Int)) = !((xQ s).2==s.2.2.1.length):=by rw[←CX];rfl
  simp only[Bool.not_true,cond_false,cond_true,a,Wh.Ng _ _ a,b,Wh.LQ _ _ b,po,Wh.q91_v _ _ po,sv,Wh.q28_v _ _ sv,Bool.or_true,e1,Lr]
  unfold upV
  cases hcat:(yJ (xQ s).1).2 with
  |false=>simp only[Bool.not_false,cond_true,Bool.not_true,Bool.true_or,Bool.and_self,Bool.false_and]
  |true=>
  cases hrd:((xQ s).2==s.2.2.1.length) with
  |false=>simp only[Bool.not_false,cond_true,cond_false,Bool.not_true,Bool.true_or,Bool.and_self,Bool.false_and,Bool.and_false]
  |true=>
  have I:=NV hcat
  have hI:=I.len
  have sm':=sm (by omega)
  simp only[sm',Wh.q72_v _ _ sm',Bool.not_true,Bool.not_false,cond_false,cond_true,Bool.or_true,Bool.true_and,Bool.and_self]
  by_cases hsame:(yJ (xQ s).1).1=s.2.2.2.1
  ·rw[decide_eq_true hsame]
   rw[hsame] at I
   cases hpo:AA s.2.2.2.2.1 with
   |false=>rfl
   |true=>
   cases bZ:(s.2.2.2.2.2.1.length==2) with
   |false=>rfl
   |true=>
   cases hsr:Fx s with
   |false=>rfl
   |true=>
    simp only[Bool.not_true,cond_false,Bool.true_and]
    have q:=y5 (r:=Wh.zO) (fun i=>(((i:Int),()),s)) (n:=s.2.2.2.2.1.1.length) (p:=fun i=> !A6 s.2.2.2.1 (s.2.2.2.2.1.1.getD i zF)) (yf:=.inl (false,())) (yt:=.inr ((),s)) (fun i hi _ hp=>by
      rw[Rl s I i hi (by omega),if_neg (by simpa using hp)]) (fun i hi _ hp=>by
      rw[Rl s I i hi (by omega),if_pos (by simpa using hp)]) (by
      have d1:decide ((s.2.2.2.2.1.1.length:Int)<(s.2.2.2.2.1.1.length:Int))=false:=decide_eq_false (by omega)
      simp only[Wh.zO,d1,cond_false])
    have q':Comes Wh.zO ((0,()),s) _:=q
    have q2:=y5 (r:=Wh.By) (fun i=>(((i:Int),()),s)) (n:=s.2.2.2.2.2.1.length) (p:=fun i=> !A5 s.2.1 (s.2.2.2.2.2.1.getD i zB)) (yf:=.inl (false,())) (yt:=.inr ((),())) (fun i hi _ hp=>by
      rw[Rh s i hi (by omega),if_neg (by simpa using hp)]) (fun i hi _ hp=>by
      rw[Rh s i hi (by omega),if_pos (by simpa using hp)]) (by
      have d1:decide ((s.2.2.2.2.2.1.length:Int)<(s.2.2.2.2.2.1.length:Int))=false:=decide_eq_false (by omega)
      simp only[Wh.By,d1,cond_false])
    have Bl:Comes Wh.By ((0,()),s) _:=q2
    simp only[cb q',cv q',cond_true]
    unfold EN KH
    cases hf:jS s.2.2.2.2.1.1.length (fun i=> !A6 s.2.2.2.1 (s.2.2.2.2.1.1.getD i zF)) with
    |false=>simp[sumC]
    |true=>
     simp only[if_true,sumC,cb Bl,cv Bl,cond_true,Bool.true_and]
     cases hb:jS s.2.2.2.2.2.1.length (fun i=> !A5 s.2.1 (s.2.2.2.2.2.1.getD i zB))<;>rfl
  ·rw[decide_eq_false hsame];rfl
theorem R3 (s:eB.D) (I:yd s.2.2.2.1) (hp:s.2.2.2.2.1.1.length≤9999999):Wh.q37 (s.2.2.2.2.1,s.2.2.2.1)=some (AA s.2.2.2.2.1&&EN s,()):=by
 have a:=Sq s.2.2.2.2.1 hp
 cases hv:AA s.2.2.2.2.1 with
 |false=>
  rw[hv] at a
  simp only[Wh.q37,a,Wh.M4 _ _ a,nQ,iy,cond_true,Bool.not_false,Bool.false_and]
 |true=>
  have hok:∀i,i<s.2.2.2.2.1.1.length→okF (s.2.2.2.2.1.1.getD i zF)=true:=by
   unfold AA at hv
   simp only[Bool.and_eq_true,beq_iff_eq] at hv
   intro i hi
   have:=oL.1 hv.2.1 i (by omega)
   unfold zh at this
   rw[Bool.and_eq_true] at this
   exact this.1
  rw[hv] at a
  have q:=y5 (r:=Wh.zN) (fun i=>(((i:Int),(),s.2.2.2.2.1.1,(s.2.2.2.2.1.1.length:Int)),s.2.2.2.1)) (n:=s.2.2.2.2.1.1.length) (p:=fun i=> !A6 s.2.2.2.1 (s.2.2.2.2.1.1.getD i zF)) (yf:=.inl (false,())) (yt:=.inr ((),())) (fun i hi _ hp=>by
    rw[Ow s.2.2.2.1 I _ i hi (by omega) (hok i hi),if_neg (by simpa using hp)]) (fun i hi _ hp=>by
    rw[Ow s.2.2.2.1 I _ i hi (by omega) (hok i hi),if_pos (by simpa using hp)]) (by
    have d1:decide ((s.2.2.2.2.1.1.length:Int)<(s.2.2.2.2.1.1.length:Int))=false:=decide_eq_false (by omega)
    simp only[Wh.zN,d1,cond_false])
  have q':Comes Wh.zN ((0,(),s.2.2.2.2.1.1,(s.2.2.2.2.1.1.length:Int)),s.2.2.2.1) _:=q
  simp only[Wh.q37,a,Wh.M4 _ _ a,nQ,iy,cond_true,cond_false,Bool.not_true,Bool.true_and,cb q',cv q']
  unfold EN
  cases jS s.2.2.2.2.1.1.length (fun i=> !A6 s.2.2.2.1 (s.2.2.2.2.1.1.getD i zF))<;>rfl
theorem Sp (s:eB.D) (S:DJ s):Wh.q34 s=some (okV s,()):=by
 have zI:=S.log
 have hbk:=S.bks
 have hsv:=S.srv
 have hfr:s.2.2.2.2.1.1.length≤1048576:=S.Iw
 have hct:s.2.2.2.1.2.1.length≤1048576:=S.cat
 have a:=Rv s.2.2.1 (by omega)
 obtain⟨r1,r2⟩:=Rb s (by omega)
 have b:=Sn (xQ s).1 r1 r2
 unfold okV
 change Wh.q57 s.2.2.1=some (((xQ s).1,((xQ s).2:Int)),()) at a
 have hle:decide ((s.2.2.1.length:Int)>9000) = !decide (s.2.2.1.length≤9000):=by
  by_cases h:s.2.2.1.length≤9000
  ·rw[decide_eq_true h,decide_eq_false (by omega)];rfl
  ·rw[decide_eq_false h,decide_eq_true (by omega)];rfl
 have CX (x y:Nat):((x:Int)==(y:Int))=(x==y):=by rw[Bool.eq_iff_iff,beq_iff_eq,beq_iff_eq];omega
 have Lq (x:Nat):((x:Int)==0)=(x==0):=CX x 0
 have Lr (x:Nat):((x:Int) != 2) = !(x==2):=by rw[←CX x 2];rfl
 simp only[Wh.q34,yu,Wh.yL _ _ (yu _ _ _),hle,nQ,iy,cond_true]
 cases mb s.2.1 0 99999 with
 |false=>rfl
 |true=>
 cases decide (s.2.2.1.length≤9000) with
 |false=>rfl
 |true=>
 simp only[Bool.not_true,cond_false,Bool.true_and,a,Wh.q57_v _ _ a,b,Wh.P0 _ _ b,cond_true]
 cases hcat:(yJ (xQ s).1).2 with
 |false=>rfl
 |true=>
 simp only[Bool.not_true,cond_false,Bool.true_and]
 cases cS:s.1 with
 |false=>
  simp only[Bool.not_false,cond_true,cond_false,Lq,KN]
  congr 2
  cases (s.2.2.2.1.2.1.length==0)<;>cases (s.2.2.2.1.1==0)<;>cases (s.2.2.2.2.1.1.length==0)<;>cases (s.2.2.2.2.1.2.1==0)<;>cases (s.2.2.2.2.2.1.length==0)<;>cases (s.2.2.2.2.2.2.1.length==0)<;>rfl
 |true=>
  have I:=NV hcat
  have hI:=I.len
  have sm:=Ss (yJ (xQ s).1).1 s.2.2.2.1 (by omega)
  have e1:(((xQ s).2:Int) != (s.2.2.1.length:Int)) = !((xQ s).2==s.2.2.1.length):=by rw[←CX];rfl
  simp only[Bool.not_true,cond_false,cond_true,sm,Wh.q62_v _ _ sm,Bool.or_true,e1,Lr]
  unfold upV
  cases hrd:((xQ s).2==s.2.2.1.length) with
  |false=>simp only[Bool.not_false,cond_true,Bool.not_true,Bool.true_or,Bool.and_self,Bool.false_and]
  |true=>
  by_cases hsame:(yJ (xQ s).1).1=s.2.2.2.1
  ·rw[decide_eq_true hsame]
   rw[hsame] at I
   have fi:=R3 s I (by omega)
   simp only[fi,Wh.q37_v _ _ fi,Bool.not_true,cond_false,Bool.or_true,Bool.and_self,cond_true,Bool.true_and]
   cases hpo:AA s.2.2.2.2.1 with
   |false=>rfl
   |true=>
   cases hfi:EN s with
   |false=>simp only[Bool.and_false,Bool.not_false,cond_true,Bool.false_and]
   |true=>
   cases bZ:(s.2.2.2.2.2.1.length==2) with
   |false=>rfl
   |true=>
    simp only[Bool.not_true,cond_false,Bool.true_and,Bool.and_self]
    have q:=y5 (r:=Wh.Br) (fun i=>(((i:Int),(),s.2.2.2.2.2.1,(s.2.2.2.2.2.1.length:Int)),s)) (n:=s.2.2.2.2.2.1.length) (p:=fun i=> !A5 s.2.1 (s.2.2.2.2.2.1.getD i zB)) (yf:=.inl (false,())) (yt:=.inr ((),s)) (fun i hi _ hp=>by
      rw[Oq s _ i hi (by omega),if_neg (by simpa using hp)]) (fun i hi _ hp=>by
      rw[Oq s _ i hi (by omega),if_pos (by simpa using hp)]) (by
      have d1:decide ((s.2.2.2.2.2.1.length:Int)<(s.2.2.2.2.2.1.length:Int))=false:=decide_eq_false (by omega)
      simp only[Wh.Br,d1,cond_false])
    have q':Comes Wh.Br ((0,(),s.2.2.2.2.2.1,(s.2.2.2.2.2.1.length:Int)),s) _:=q
    have q2:=y5 (r:=Wh.AH) (fun i=>(((i:Int),(),s.2.2.2.2.2.2.1,(s.2.2.2.2.2.2.1.length:Int)),s)) (n:=s.2.2.2.2.2.2.1.length) (p:=fun i=> !Ar s.2.2.2.1 s.2.1 s.2.2.2.2.2.2.1 i) (yf:=.inl (false,())) (yt:=.inr ((),())) (fun i hi _ hp=>by
      rw[Oz s (by omega) i hi (by omega),if_neg (by simpa using hp)]) (fun i hi _ hp=>by
      rw[Oz s (by omega) i hi (by omega),if_pos (by simpa using hp)]) (by
      have d1:decide ((s.2.2.2.2.2.2.1.length:Int)<(s.2.2.2.2.2.2.1.length:Int))=false:=decide_eq_false (by omega)
      simp only[Wh.AH,d1,cond_false])
    have Bl:Comes Wh.AH ((0,(),s.2.2.2.2.2.2.1,(s.2.2.2.2.2.2.1.length:Int)),s) _:=q2
    simp only[cb q',cv q',cond_true]
    unfold KH Fx
    cases hf:jS s.2.2.2.2.2.1.length (fun i=> !A5 s.2.1 (s.2.2.2.2.2.1.getD i zB)) with
    |false=>simp[sumC]
    |true=>
     simp only[if_true,sumC,cb Bl,cv Bl,cond_true,Bool.and_true]
     cases hb:jS s.2.2.2.2.2.2.1.length (fun i=> !Ar s.2.2.2.1 s.2.1 s.2.2.2.2.2.2.1 i)<;>rfl
  ·rw[decide_eq_false hsame];rfl
theorem SG (s:eB.D) (h:fR eB s≤1048576):Wh.q6 s=some (true,()):=by
 have S:=V4 s h
 obtain⟨v,hv⟩:=Wo s 1048576 S
 have e1:=WD s S
 have e2:=R0 s S
 have e3:=V9 s S
 have e4:=Sp s S
 have c:(okV s==okV s)=true:=beq_self_eq_true _
 simp only[Wh.q6,hv,Wh.q45_v _ _ hv,e1,Wh.q49_v _ _ e1,e2,Wh.q42_v _ _ e2,e3,Wh.q51_v _ _ e3,e4,Wh.q34_v _ _ e4,c,nQ,iy,Bool.and_self,cond_true,cond_false,Bool.not_true]
 cases decide (v<0)<;>rfl
end Pl
