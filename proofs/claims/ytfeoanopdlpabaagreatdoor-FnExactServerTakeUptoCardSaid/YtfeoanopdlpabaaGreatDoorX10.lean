import Derived.Test.YtfeoanopdlpabaaGreatDoorX9
open Go Go.Ab
namespace Pl
theorem WU (w:an.D):Wh.ES (w,w)=some (true,()):=by simp[Wh.ES]
theorem WT (a:List an.D) (h:a.length≤4611686018427387904):Wh.q83 (a,a)=some (true,()):=by
 have hl:Comes Wh.Ft (((0:Int),a,a),()) (.inr ((),())):=by
  refine xO (st:=fun i=>(((i:Int),a,a),())) (n:=a.length) ?_ ?_ 0 (Nat.zero_le _)
  ·intro i hi
   have h2:=lg (i:=i) (by omega)
   have h4:=WU (a[i])
   simp[Wh.Ft,Wh.UA _ _ h4,iy,h2,hi,h4,nQ]
  ·simp[Wh.Ft]
 simp[Wh.q83,cb hl,cv hl]
theorem adm (a:an.D):Wh.Gj a=some (a,()):=rfl
theorem adl (a:List an.D) (h:a.length≤1048576):Wh.q89 a=some (a,()):=by
 have hl:Comes Wh.D4 (((0:Int),a,()),List.replicate a.length ((0:Int),([]:List UInt8),(0:Int),([]:List UInt8),())) ((),a):=by
  have:=xO (r:=Wh.D4) (st:=fun i=>(((i:Int),a,()),iB a ((0:Int),([]:List UInt8),(0:Int),([]:List UInt8),()) i)) (n:=a.length) (y:=((),a)) ?_ ?_ 0 (Nat.zero_le _)
  ·rw[K0] at this;exact this
  ·intro i hi
   have hi':decide ((i:Int)<(a.length:Int))=true:=by simpa using hi
   have h0:decide ((0:Int)≤(i:Int))=true:=by simp
   have he:=adm (List.getD a i ((0:Int),([]:List UInt8),(0:Int),([]:List UInt8),()))
   have hs:(iB a ((0:Int),([]:List UInt8),(0:Int),([]:List UInt8),()) i).set i (List.getD a i ((0:Int),([]:List UInt8),(0:Int),([]:List UInt8),()))=iB a ((0:Int),([]:List UInt8),(0:Int),([]:List UInt8),()) (i+1):=KZ a _ _ i hi
   simp only[Wh.D4,hi',h0,Int.toNat_natCast,KY a ((0:Int),([]:List UInt8),(0:Int),([]:List UInt8),()) i (by omega),he,Wh.UF _ _ he,hs,lg (i:=i) (by omega),iy,nQ,cond_true,Bool.and_self]
  ·have hi':decide (((a.length:Nat):Int)<(a.length:Int))=false:=by simp
   simp only[Wh.D4,hi',cond_false,KX]
 have b0:decide ((0:Int)≤(a.length:Int))=true:=by simp
 have b1:decide ((a.length:Int)≤(dh:Int))=true:=decide_eq_true (by unfold dh;omega)
 simp only[Wh.q89,Int.toNat_natCast,cb hl,cv hl,b0,b1,Int.le_refl,decide_true,iy,cond_true,Bool.and_self]
theorem ac8 (a:an.D) (n:Int):∃v,Wh.EU (a,n)=some (v,()):=by
 simp only[Wh.EU]
 repeat' (first|exact⟨_,rfl⟩|refine R6 _ ?_ ?_)
theorem ac7 (a:List an.D) (n:Int) (h:a.length≤1048576):∃v,Wh.q87 (a,n)=some (v,()):=by
 have hl:∀d k:Nat,k+d=a.length→∀m:Int,∃y,Comes Wh.D3 (((k:Int),m,a),()) y:=by
  intro d
  induction d with
  |zero=>
   intro k hk m
   have hk':decide ((k:Int)<(a.length:Int))=false:=by simp;omega
   exact⟨_,.out (by simp only[Wh.D3,hk',cond_false];rfl)⟩
  |succ d ih=>
   intro k hk m
   have hk':decide ((k:Int)<(a.length:Int))=true:=by simp;omega
   have h0:decide ((0:Int)≤(k:Int))=true:=by simp
   have w:=lg (i:=k) (by omega)
   obtain⟨v,hv⟩:=ac8 (List.getD a k ((0:Int),([]:List UInt8),(0:Int),([]:List UInt8),())) m
   cases hd:decide (v<0) with
   |true=>exact⟨_,.out (by simp only[Wh.D3,hk',h0,Int.toNat_natCast,hv,Wh.Pu _ _ hv,hd,iy,nQ,cond_true,Bool.and_self];rfl)⟩
   |false=>
    obtain⟨y,hy⟩:=ih (k+1) (by omega) v
    exact⟨y,.again (by simp only[Wh.D3,hk',h0,w,Int.toNat_natCast,hv,Wh.Pu _ _ hv,hd,iy,nQ,cond_true,cond_false,Bool.and_self]) hy⟩
 simp only[Wh.q87]
 cases decide (IntKind.wrap .i64 (n-(a.length:Int))<0) with
 |true=>exact⟨_,rfl⟩
 |false=>
  obtain⟨y,hy⟩:=hl a.length 0 (by omega) (IntKind.wrap .i64 (n-(a.length:Int)))
  have e1:=cb hy
  have e2:=cv hy Wh.Ri
  rw[show(((0:Nat):Int))=0 from rfl] at e1 e2
  simp only[e1,e2,cond_true,cond_false]
  cases y with
  |inl y=>exact⟨_,rfl⟩
  |inr y=>exact⟨_,rfl⟩
theorem WS (w:ct.D):Wh.q82 (w,w)=some (true,()):=by simp[Wh.q82]
theorem WR (a:List ct.D) (h:a.length≤4611686018427387904):Wh.q56 (a,a)=some (true,()):=by
 have hl:Comes Wh.Fo (((0:Int),a,a),()) (.inr ((),())):=by
  refine xO (st:=fun i=>(((i:Int),a,a),())) (n:=a.length) ?_ ?_ 0 (Nat.zero_le _)
  ·intro i hi
   have h2:=lg (i:=i) (by omega)
   have h4:=WS (a[i])
   simp[Wh.Fo,Wh.q82_v _ _ h4,iy,h2,hi,h4,nQ]
  ·simp[Wh.Fo]
 simp[Wh.q56,cb hl,cv hl]
theorem adk (a:ct.D):Wh.q88 a=some (a,()):=rfl
theorem adj (a:List ct.D) (h:a.length≤1048576):Wh.q66 a=some (a,()):=by
 have hl:Comes Wh.DX (((0:Int),a,()),List.replicate a.length ((0:Int),(0:Int),(0:Int),(0:Int),false,())) ((),a):=by
  have:=xO (r:=Wh.DX) (st:=fun i=>(((i:Int),a,()),iB a ((0:Int),(0:Int),(0:Int),(0:Int),false,()) i)) (n:=a.length) (y:=((),a)) ?_ ?_ 0 (Nat.zero_le _)
  ·rw[K0] at this;exact this
  ·intro i hi
   have hi':decide ((i:Int)<(a.length:Int))=true:=by simpa using hi
   have h0:decide ((0:Int)≤(i:Int))=true:=by simp
   have he:=adk (List.getD a i ((0:Int),(0:Int),(0:Int),(0:Int),false,()))
   have hs:(iB a ((0:Int),(0:Int),(0:Int),(0:Int),false,()) i).set i (List.getD a i ((0:Int),(0:Int),(0:Int),(0:Int),false,()))=iB a ((0:Int),(0:Int),(0:Int),(0:Int),false,()) (i+1):=KZ a _ _ i hi
   simp only[Wh.DX,hi',h0,Int.toNat_natCast,KY a ((0:Int),(0:Int),(0:Int),(0:Int),false,()) i (by omega),he,Wh.q88_v _ _ he,hs,lg (i:=i) (by omega),iy,nQ,cond_true,Bool.and_self]
  ·have hi':decide (((a.length:Nat):Int)<(a.length:Int))=false:=by simp
   simp only[Wh.DX,hi',cond_false,KX]
 have b0:decide ((0:Int)≤(a.length:Int))=true:=by simp
 have b1:decide ((a.length:Int)≤(dh:Int))=true:=decide_eq_true (by unfold dh;omega)
 simp only[Wh.q66,Int.toNat_natCast,cb hl,cv hl,b0,b1,Int.le_refl,decide_true,iy,cond_true,Bool.and_self]
theorem ac6 (a:List ct.D) (n:Int):∃v,Wh.q62 (a,n)=some (v,()):=by
 simp only[Wh.q62]
 cases decide (IntKind.wrap .i64 (n-(a.length:Int))<0)<;>exact⟨_,rfl⟩
theorem WO (w:fT.D):Wh.q55 (w,w)=some (true,()):=by simp[Wh.q55]
theorem WN (a:List fT.D) (h:a.length≤4611686018427387904):Wh.q38 (a,a)=some (true,()):=by
 have hl:Comes Wh.Fj (((0:Int),a,a),()) (.inr ((),())):=by
  refine xO (st:=fun i=>(((i:Int),a,a),())) (n:=a.length) ?_ ?_ 0 (Nat.zero_le _)
  ·intro i hi
   have h2:=lg (i:=i) (by omega)
   have h4:=WO (a[i])
   simp[Wh.Fj,Wh.q55_v _ _ h4,iy,h2,hi,h4,nQ]
  ·simp[Wh.Fj]
 simp[Wh.q38,cb hl,cv hl]
theorem adh (a:fT.D):Wh.q65 a=some (a,()):=rfl
theorem adg (a:List fT.D) (h:a.length≤1048576):Wh.q42 a=some (a,()):=by
 have hl:Comes Wh.DP (((0:Int),a,()),List.replicate a.length ((0:Int),(0:Int),(0:Int),(0:Int),())) ((),a):=by
  have:=xO (r:=Wh.DP) (st:=fun i=>(((i:Int),a,()),iB a ((0:Int),(0:Int),(0:Int),(0:Int),()) i)) (n:=a.length) (y:=((),a)) ?_ ?_ 0 (Nat.zero_le _)
  ·rw[K0] at this;exact this
  ·intro i hi
   have hi':decide ((i:Int)<(a.length:Int))=true:=by simpa using hi
   have h0:decide ((0:Int)≤(i:Int))=true:=by simp
   have he:=adh (List.getD a i ((0:Int),(0:Int),(0:Int),(0:Int),()))
   have hs:(iB a ((0:Int),(0:Int),(0:Int),(0:Int),()) i).set i (List.getD a i ((0:Int),(0:Int),(0:Int),(0:Int),()))=iB a ((0:Int),(0:Int),(0:Int),(0:Int),()) (i+1):=KZ a _ _ i hi
   simp only[Wh.DP,hi',h0,Int.toNat_natCast,KY a ((0:Int),(0:Int),(0:Int),(0:Int),()) i (by omega),he,Wh.q65_v _ _ he,hs,lg (i:=i) (by omega),iy,nQ,cond_true,Bool.and_self]
  ·have hi':decide (((a.length:Nat):Int)<(a.length:Int))=false:=by simp
   simp only[Wh.DP,hi',cond_false,KX]
 have b0:decide ((0:Int)≤(a.length:Int))=true:=by simp
 have b1:decide ((a.length:Int)≤(dh:Int))=true:=decide_eq_true (by unfold dh;omega)
 simp only[Wh.q42,Int.toNat_natCast,cb hl,cv hl,b0,b1,Int.le_refl,decide_true,iy,cond_true,Bool.and_self]
theorem ac5 (a:List fT.D) (n:Int):∃v,Wh.q41 (a,n)=some (v,()):=by
 simp only[Wh.q41]
 cases decide (IntKind.wrap .i64 (n-(a.length:Int))<0)<;>exact⟨_,rfl⟩
theorem WX (w:gd.D):Wh.q84 (w,w)=some (true,()):=by simp[Wh.q84]
theorem WW (a:List gd.D) (h:a.length≤4611686018427387904):Wh.q57 (a,a)=some (true,()):=by
 have hl:Comes Wh.Fp (((0:Int),a,a),()) (.inr ((),())):=by
  refine xO (st:=fun i=>(((i:Int),a,a),())) (n:=a.length) ?_ ?_ 0 (Nat.zero_le _)
  ·intro i hi
   have h2:=lg (i:=i) (by omega)
   have h4:=WX (a[i])
   simp[Wh.Fp,Wh.q84_v _ _ h4,iy,h2,hi,h4,nQ]
  ·simp[Wh.Fp]
 simp[Wh.q57,cb hl,cv hl]
theorem adp (a:gd.D):Wh.q90 a=some (a,()):=rfl
theorem ado (a:List gd.D) (h:a.length≤1048576):Wh.q67 a=some (a,()):=by
 have hl:Comes Wh.DY (((0:Int),a,()),List.replicate a.length ((0:Int),(0:Int),(0:Int),(0:Int),(0:Int),(0:Int),())) ((),a):=by
  have:=xO (r:=Wh.DY) (st:=fun i=>(((i:Int),a,()),iB a ((0:Int),(0:Int),(0:Int),(0:Int),(0:Int),(0:Int),()) i)) (n:=a.length) (y:=((),a)) ?_ ?_ 0 (Nat.zero_le _)
  ·rw[K0] at this;exact this
  ·intro i hi
   have hi':decide ((i:Int)<(a.length:Int))=true:=by simpa using hi
   have h0:decide ((0:Int)≤(i:Int))=true:=by simp
   have he:=adp (List.getD a i ((0:Int),(0:Int),(0:Int),(0:Int),(0:Int),(0:Int),()))
   have hs:(iB a ((0:Int),(0:Int),(0:Int),(0:Int),(0:Int),(0:Int),()) i).set i (List.getD a i ((0:Int),(0:Int),(0:Int),(0:Int),(0:Int),(0:Int),()))=iB a ((0:Int),(0:Int),(0:Int),(0:Int),(0:Int),(0:Int),()) (i+1):=KZ a _ _ i hi
   simp only[Wh.DY,hi',h0,Int.toNat_natCast,KY a ((0:Int),(0:Int),(0:Int),(0:Int),(0:Int),(0:Int),()) i (by omega),he,Wh.q90_v _ _ he,hs,lg (i:=i) (by omega),iy,nQ,cond_true,Bool.and_self]
  ·have hi':decide (((a.length:Nat):Int)<(a.length:Int))=false:=by simp
   simp only[Wh.DY,hi',cond_false,KX]
 have b0:decide ((0:Int)≤(a.length:Int))=true:=by simp
 have b1:decide ((a.length:Int)≤(dh:Int))=true:=decide_eq_true (by unfold dh;omega)
 simp only[Wh.q67,Int.toNat_natCast,cb hl,cv hl,b0,b1,Int.le_refl,decide_true,iy,cond_true,Bool.and_self]
theorem ac9 (a:List gd.D) (n:Int):∃v,Wh.q63 (a,n)=some (v,()):=by
 simp only[Wh.q63]
 cases decide (IntKind.wrap .i64 (n-(a.length:Int))<0)<;>exact⟨_,rfl⟩
def Ei (c:bx.D):Prop:=c.2.1.length≤1048576
def A9 (p:fN.D):Prop:=p.1.length≤1048576
structure zb (s:cx.D):Prop where
 log:s.2.2.1.length≤1048576
 cat:Ei s.2.2.2.1
 items:∀x∈s.2.2.2.1.2.1,x.2.1.length≤1048576∧x.2.2.2.1.length≤1048576
 AG:A9 s.2.2.2.2.1
 Ba:s.2.2.2.2.2.1.length≤1048576
 Bo:s.2.2.2.2.2.2.1.length≤1048576
theorem WQ (c:bx.D) (h:Ei c):Wh.E8 (c,c)=some (true,()):=by
 have e:=WT c.2.1 (by unfold Ei at h;omega)
 simp[Wh.E8,e,Wh.q83_v _ _ e,iy,nQ]
theorem WV (c:fN.D) (h:A9 c):Wh.ET (c,c)=some (true,()):=by
 have e:=WR c.1 (by unfold A9 at h;omega)
 simp[Wh.ET,e,Wh.q56_v _ _ e,iy,nQ]
theorem WY (s:cx.D) (h:zb s):Wh.Bk (s,s)=some (true,()):=by
 have e1:=WQ _ h.cat
 have e2:=WV _ h.AG
 have e3:=WN s.2.2.2.2.2.1 (by have:=h.Ba;omega)
 have e4:=WW s.2.2.2.2.2.2.1 (by have:=h.Bo;omega)
 simp[Wh.Bk,e1,e2,e3,e4,Wh.U1 _ _ e1,Wh.UC _ _ e2,Wh.q38_v _ _ e3,Wh.q57_v _ _ e4,iy,nQ]
theorem adi (c:bx.D) (h:Ei c):Wh.E_ c=some (c,()):=by
 have e:=adl c.2.1 h
 simp only[Wh.E_,e,Wh.q89_v _ _ e,iy,nQ,cond_true]
theorem adn (c:fN.D) (h:A9 c):Wh.EX c=some (c,()):=by
 have e:=adj c.1 h
 simp only[Wh.EX,e,Wh.q66_v _ _ e,iy,nQ,cond_true]
theorem adq (s:cx.D) (h:zb s):Wh.BX s=some (s,()):=by
 have e1:=adi _ h.cat
 have e2:=adn _ h.AG
 have e3:=adg s.2.2.2.2.2.1 h.Ba
 have e4:=ado s.2.2.2.2.2.2.1 h.Bo
 simp only[Wh.BX,e1,e2,e3,e4,Wh.U3 _ _ e1,Wh.UG _ _ e2,Wh.q42_v _ _ e3,Wh.q67_v _ _ e4,iy,nQ,cond_true]
theorem ac_ (s:cx.D) (n:Int) (h:zb s):∃v,Wh.q64 (s,n)=some (v,()):=by
 have c1:∀n,∃v,Wh.E9 (s.2.2.2.1,n)=some (v,()):=by
  intro n
  obtain⟨v,hv⟩:=ac7 s.2.2.2.1.2.1 n h.cat
  simp only[Wh.E9,hv,Wh.q87_v _ _ hv,iy,nQ,cond_true]
  cases decide (v<0)<;>exact⟨_,rfl⟩
 have c2:∀n,∃v,Wh.EW (s.2.2.2.2.1,n)=some (v,()):=by
  intro n
  obtain⟨v,hv⟩:=ac6 s.2.2.2.2.1.1 n
  simp only[Wh.EW,hv,Wh.q62_v _ _ hv,iy,nQ,cond_true]
  cases decide (v<0)<;>exact⟨_,rfl⟩
 obtain⟨v1,h1⟩:=c1 (IntKind.wrap .i64 (n-(s.2.2.1.length:Int)))
 obtain⟨v2,h2⟩:=c2 v1
 obtain⟨v3,h3⟩:=ac5 s.2.2.2.2.2.1 v2
 obtain⟨v4,h4⟩:=ac9 s.2.2.2.2.2.2.1 v3
 simp only[Wh.q64,h1,h2,h3,h4,Wh.U2 _ _ h1,Wh.UE _ _ h2,Wh.q41_v _ _ h3,Wh.q63_v _ _ h4,iy,nQ,cond_true]
 repeat' (first|exact⟨_,rfl⟩|refine R6 _ ?_ ?_)
theorem acL (s:cx.D) (h:fR cx s≤1048576):zb s:=by
 have e:fR cx s=1+(1+((s.2.2.1.length+1)+((1+(((s.2.2.2.1.2.1.map (fR an)).sum+1)+0))+((((s.2.2.2.2.1.1.map (fR ct)).sum+1)+(1+0))+(((s.2.2.2.2.2.1.map (fR fT)).sum+1)+(((s.2.2.2.2.2.2.1.map (fR gd)).sum+1)+0)))))):=rfl
 rw[e] at h
 have i0:∀x:an.D,fR an x=1+((x.2.1.length+1)+(1+((x.2.2.2.1.length+1)+0))):=fun _=>rfl
 have l1:=vH (fR an) (fun x=>by rw[i0];omega) s.2.2.2.1.2.1
 have l2:=vH (fR ct) (fun x=>by show 1≤1+(1+(1+(1+(1+0))));omega) s.2.2.2.2.1.1
 have l3:=vH (fR fT) (fun x=>by show 1≤1+(1+(1+(1+0)));omega) s.2.2.2.2.2.1
 have l4:=vH (fR gd) (fun x=>by show 1≤1+(1+(1+(1+(1+(1+0)))));omega) s.2.2.2.2.2.2.1
 refine⟨by omega,by show _≤_;omega,fun x hx=>?_,by show _≤_;omega,by omega,by omega⟩
 have:=xg (fR an) _ x hx
 rw[i0] at this
 exact⟨by omega,by omega⟩
end Pl
open Go Go.Ab Go.Lib
namespace Pl
instance itDec:DecidableEq It:=inferInstanceAs (DecidableEq (Int×List UInt8×Int×List UInt8×Unit))
instance ctDec:DecidableEq Ct:=fun a b=>if h1:a.1=b.1 then if h2:a.2.1=b.2.1 then .isTrue (by obtain⟨_,_,_⟩:=a;obtain⟨_,_,_⟩:=b;simp_all) else .isFalse (fun e=>h2 (by rw[e])) else .isFalse (fun e=>h1 (by rw[e]))
theorem Lc (a b:It):(a.1==b.1&&(a.2.1==b.2.1&&(a.2.2.1==b.2.2.1&&(a.2.2.2.1==b.2.2.2.1&&true))))=decide (a=b):=by
 obtain⟨a1,a2,a3,a4,a5⟩:=a
 obtain⟨b1,b2,b3,b4,b5⟩:=b
 rw[Bool.eq_iff_iff]
 simp
theorem Tb (a b:List It) (h:a.length=b.length):jS a.length (fun i=>decide (a.getD i z0=b.getD i z0))=decide (a=b):=by
 rw[Bool.eq_iff_iff,oL,decide_eq_true_iff]
 constructor
 ·intro hh
  refine List.ext_getElem h fun i h1 h2=>?_
  have:=of_decide_eq_true (hh i h1)
  rwa[getD_eq _ _ _ h1,getD_eq _ _ _ h2] at this
 ·rintro rfl i _;exact decide_eq_true rfl
theorem ct_eq (a b:Ct) (hl:a.2.1.length=b.2.1.length):(decide (a.1=b.1)&&decide (a.2.1=b.2.1))=decide (a=b):=by
 obtain⟨a1,a2,a3⟩:=a
 obtain⟨b1,b2,b3⟩:=b
 rw[Bool.eq_iff_iff]
 simp
theorem acW (a b:Ct) (hl:a.2.1.length≤9999999):Wh.CY (a,b)=some (decide (a=b),()):=by
 by_cases h1:a.1=b.1
 ·by_cases h2:a.2.1.length=b.2.1.length
  ·have c1:(a.1 != b.1)=false:=by simp[h1]
   have c2:((a.2.1.length:Int) != (b.2.1.length:Int))=false:=by simp[h2]
   have q:=zY (r:=Wh.CZ) (fun i=>(((i:Int),(),()),b,a)) (n:=a.2.1.length) (p:=fun i=>decide (a.2.1.getD i z0=b.2.1.getD i z0)) (yf:=.inl (false,())) (yt:=.inr ((),())) (fun i hi _ hp=>by
     have hp':=(Lc (a.2.1.getD i z0) (b.2.1.getD i z0)).trans hp
     unfold z0 at hp'
     simp only[Wh.CZ,gl hi,gl (show i<b.2.1.length by omega),g0,Int.toNat_natCast,hp',iy,Bool.and_self,Bool.not_true,cond_true,cond_false,lg (show i≤4611686018427387904 by omega)]) (fun i hi _ hp=>by
     have hp':=(Lc (a.2.1.getD i z0) (b.2.1.getD i z0)).trans hp
     unfold z0 at hp'
     simp only[Wh.CZ,gl hi,gl (show i<b.2.1.length by omega),g0,Int.toNat_natCast,hp',iy,Bool.and_self,Bool.not_false,cond_true]) (by
     have d1:decide ((a.2.1.length:Int)<(a.2.1.length:Int))=false:=decide_eq_false (by omega)
     simp only[Wh.CZ,d1,cond_false])
   rw[Tb _ _ h2] at q
   have q':Comes Wh.CZ ((0,(),()),b,a) _:=q
   simp only[Wh.CY,c1,c2,cond_false,cb q',cv q',cond_true]
   rw[←ct_eq a b h2,decide_eq_true h1,Bool.true_and]
   cases decide (a.2.1=b.2.1)<;>rfl
  ·have c1:(a.1 != b.1)=false:=by simp[h1]
   have c2:((a.2.1.length:Int) != (b.2.1.length:Int))=true:=bne_iff_ne.2 (by omega)
   simp only[Wh.CY,c1,c2,cond_false,cond_true]
   rw[decide_eq_false (by rintro rfl;exact h2 rfl)]
 ·have c1:(a.1 != b.1)=true:=bne_iff_ne.2 h1
  simp only[Wh.CY,c1,cond_true]
  rw[decide_eq_false (by rintro rfl;exact h1 rfl)]
theorem XU (a b:Ct) (hl:a.2.1.length≤9999999):Wh.q81 (a,b)=some (decide (a=b),()):=by
 have he:Wh.q10 (a.2.1,b.2.1)=some (decide (a.2.1=b.2.1),()):=by
  by_cases h2:a.2.1.length=b.2.1.length
  ·have c2:((a.2.1.length:Int) != (b.2.1.length:Int))=false:=by simp[h2]
   have q:=zY (r:=Wh.Co) (fun i=>(((i:Int),b.2.1,a.2.1,(a.2.1.length:Int)),())) (n:=a.2.1.length) (p:=fun i=>decide (a.2.1.getD i z0=b.2.1.getD i z0)) (yf:=.inl (false,())) (yt:=.inr ((),())) (fun i hi _ hp=>by
     have hp':=(Lc (a.2.1.getD i z0) (b.2.1.getD i z0)).trans hp
     unfold z0 at hp'
     simp only[Wh.Co,gl hi,gl (show i<b.2.1.length by omega),g0,Int.toNat_natCast,hp',iy,Bool.and_self,Bool.not_true,cond_true,cond_false,lg (show i≤4611686018427387904 by omega)]) (fun i hi _ hp=>by
     have hp':=(Lc (a.2.1.getD i z0) (b.2.1.getD i z0)).trans hp
     unfold z0 at hp'
     simp only[Wh.Co,gl hi,gl (show i<b.2.1.length by omega),g0,Int.toNat_natCast,hp',iy,Bool.and_self,Bool.not_false,cond_true]) (by
     have d1:decide ((a.2.1.length:Int)<(a.2.1.length:Int))=false:=decide_eq_false (by omega)
     simp only[Wh.Co,d1,cond_false])
   rw[Tb _ _ h2] at q
   have q':Comes Wh.Co ((0,b.2.1,a.2.1,(a.2.1.length:Int)),()) _:=q
   simp only[Wh.q10,c2,cond_false,cb q',cv q',cond_true]
   cases decide (a.2.1=b.2.1)<;>rfl
  ·have c2:((a.2.1.length:Int) != (b.2.1.length:Int))=true:=bne_iff_ne.2 (by omega)
   simp only[Wh.q10,c2,cond_true]
   rw[decide_eq_false (fun e=>h2 (by rw[e]))]
 have hd:(bif a.1==b.1 then decide (a.2.1=b.2.1) else false)=decide (a=b):=by
  obtain⟨a1,a2,a3⟩:=a
  obtain⟨b1,b2,b3⟩:=b
  by_cases h1:a1=b1
  ·simp[h1]
  ·simp[h1]
 simp only[Wh.q81,he,Wh.q10_v _ _ he,nQ,Bool.or_true,iy,cond_true,hd]
def zZ (l:List It) (e:Int):Option Nat:=first l.length fun i=>(l.getD i z0).2.2.1==e
def edI (l:List It):Option Nat→It
 |some i=>l.getD i z0
 |none=>z0
theorem We (c:Ct) (e:Int) (hl:c.2.1.length≤9999999):Wh.q45 (c,e)=some ((edI c.2.1 (zZ c.2.1 e),(zZ c.2.1 e).isSome),()):=by
 obtain⟨ce,l,u⟩:=c
 have hl:l.length≤9999999:=hl
 have q:=FZ (r:=Wh.CR) (fun i=>(((),(i:Int),(),e),((0:Int),([]:List UInt8),(0:Int),([]:List UInt8),()),(ce,l,u))) (n:=l.length) (p:=fun i=>(l.getD i z0).2.2.1==e) (yt:=fun i=>.inl (((),true),l.getD i z0)) (yn:=.inr ((),(0:Int),[],(0:Int),[],())) (fun i hi hp=>by
   have hp':((l.getD i z0).2.2.1==e)=false:=hp
   unfold z0 at hp'
   simp only[Wh.CR,gl hi,g0,Int.toNat_natCast,hp',iy,Bool.and_self,cond_true,cond_false,lg (show i≤4611686018427387904 by omega)]) (fun i hi hp=>by
   have hp':((l.getD i z0).2.2.1==e)=true:=hp
   unfold z0 at hp' ⊢
   simp only[Wh.CR,gl hi,g0,Int.toNat_natCast,hp',iy,Bool.and_self,cond_true]) (by
   have d1:decide ((l.length:Int)<(l.length:Int))=false:=decide_eq_false (by omega)
   simp only[Wh.CR,d1,cond_false])
 have q':Comes Wh.CR (((),0,(),e),((0:Int),([]:List UInt8),(0:Int),([]:List UInt8),()),(ce,l,u)) _:=q
 simp only[Wh.q45,cb q',cv q',cond_true,zZ]
 cases first l.length (fun i=>(l.getD i z0).2.2.1==e)<;>rfl
theorem SP (c:Ct) (e:Int) (hl:c.2.1.length≤9999999):Wh.Cv (c,e)=some (Aj (zZ c.2.1 e),()):=by
 obtain⟨ce,l,u⟩:=c
 have hl:l.length≤9999999:=hl
 have f (x:It):Wh.Gw (x,e)=some ((x.2.2.1==e),()):=rfl
 have q:=FZ (r:=Wh.CL) (fun i=>(((i:Int),l,(e,()),(l.length:Int)),())) (n:=l.length) (p:=fun i=>(l.getD i z0).2.2.1==e) (yt:=fun i=>.inl ((i:Int),())) (yn:=.inr ((),())) (fun i hi hp=>by
   have hp':((l.getD i z0).2.2.1==e)=false:=hp
   unfold z0 at hp'
   simp only[Wh.CL,gl hi,g0,Int.toNat_natCast,f,Wh.q8_v _ _ (f _),hp',nQ,iy,Bool.and_self,cond_true,cond_false,lg (show i≤4611686018427387904 by omega)]) (fun i hi hp=>by
   have hp':((l.getD i z0).2.2.1==e)=true:=hp
   unfold z0 at hp'
   simp only[Wh.CL,gl hi,g0,Int.toNat_natCast,f,Wh.q8_v _ _ (f _),hp',nQ,iy,Bool.and_self,cond_true]) (by
   have d1:decide ((l.length:Int)<(l.length:Int))=false:=decide_eq_false (by omega)
   simp only[Wh.CL,d1,cond_false])
 have q':Comes Wh.CL ((0,l,(e,()),(l.length:Int)),()) _:=q
 have h:Wh.q2 (l,e,())=some (Aj (zZ l e),()):=by
  simp only[Wh.q2,cb q',cv q',cond_true,zZ]
  cases first l.length (fun i=>(l.getD i z0).2.2.1==e)<;>rfl
 simp only[Wh.Cv,h,Wh.q2_v _ _ h,nQ,iy,cond_true]
theorem Sd:Wh.CG=Wh.BJ:=rfl
theorem Se:Wh.Gs=Wh.Gi:=rfl
def Am (a b:Int):Int:=IntKind.wrap .i64 (Int.tdiv (IntKind.wrap .i64 (IntKind.wrap .i64 (a+b)-1)) b)
theorem count_eq (a b:Int) (x y:List Int) (u:Unit) (h:b≠0):Wh.BJ (a,b,x,y,u)=some (Am a b,()):=by
 have c:(b != 0)=true:=bne_iff_ne.2 h
 simp only[Wh.BJ,c,iy,cond_true];rfl
theorem WH (a b:Nat) (ha:a≤100000) (hb:1≤b) (bZ:b≤1000):Am a b=(((a+b-1) / b:Nat):Int):=by
 have w1:IntKind.wrap .i64 ((a:Int)+(b:Int))=((a+b:Nat):Int):=wi (by omega) (by omega)
 have w2:IntKind.wrap .i64 (((a+b:Nat):Int)-1)=((a+b-1:Nat):Int):=wi (by omega) (by omega)
 have w3:Int.tdiv ((a+b-1:Nat):Int) (b:Int)=(((a+b-1) / b:Nat):Int):=by rw[Int.tdiv_eq_ediv_of_nonneg (by omega)];rfl
 have hle:(a+b-1) / b≤a+b-1:=Nat.div_le_self _ _
 rw[Am,w1,w2,w3];exact wi rfl (by omega)
theorem XA (L:Nat) (hL:L≤300):∀d s:Nat,s+d=13→1≤s→∃s':Nat,1≤s'∧s'≤13∧Comes Wh.CC (((),()),((L:Int),(s:Int),(),(),()),((0:Int),(0:Int),(),(),()),[],[],[],[]) (((),()),((0:Int),(0:Int),(),(),()),((L:Int),(s':Int),(),(),()),[],[],[],[]):=by
 intro d
 induction d with
 |zero=>
  intro s h1 h2
  have:s=13:=by omega
  subst this
  refine⟨13,by omega,by omega,.out ?_⟩
  have a:=count_eq (L:Int) ((13:Nat):Int) [] [] () (by omega)
  rw[WH L 13 (by omega) (by omega) (by omega)] at a
  have c1:decide ((((L+13-1) / 13:Nat):Int)>24)=false:=decide_eq_false (by omega)
  simp only[Wh.CC,a,Wh.Cl _ _ a,c1,nQ,iy,cond_true,cond_false]
 |succ d ih=>
  intro s h1 h2
  have a:=count_eq (L:Int) (s:Int) [] [] () (by omega)
  cases hc:decide (Am (L:Int) (s:Int)>24) with
  |true=>
   obtain⟨s',g1,g2,g3⟩:=ih (s+1) (by omega) (by omega)
   refine⟨s',g1,g2,.again ?_ g3⟩
   simp only[Wh.CC,a,Wh.Cl _ _ a,hc,nQ,iy,cond_true,lg (show s≤4611686018427387904 by omega)]
  |false=>
   refine⟨s,by omega,by omega,.out ?_⟩
   simp only[Wh.CC,a,Wh.Cl _ _ a,hc,nQ,iy,cond_true,cond_false]
theorem Un (L:Nat) (h1:1≤L) (hL:L≤300):∃P:yD.D,P.2.1≠0∧Wh.DD (L:Int)=some (P,())∧Wh.q77 (L:Int)=some (P,()):=by
 obtain⟨s,g1,g2,g3⟩:=XA L hL 5 8 (by omega) (by omega)
 have g3':Comes Wh.CC (((),()),((L:Int),(8:Int),(),(),()),((0:Int),(0:Int),(),(),()),[],[],[],[]) _:=g3
 have g4:Comes Wh.HV (((),()),((L:Int),(8:Int),(),(),()),((0:Int),(0:Int),(),(),()),[],[],[],[]) _:=g3
 have a:=count_eq (L:Int) (s:Int) [] [] () (by omega)
 have wi1:nP (L:Int) 1 300=true:=decide_eq_true (by omega)
 cases hk:decide (IntKind.wrap .i64 (Int.tdiv (IntKind.wrap .i64 (Am (L:Int) (s:Int)+3)) 4)<Am (L:Int) (s:Int)) with
 |true=>
  refine⟨((L:Int),(s:Int),[IntKind.wrap .i64 (Int.tdiv (IntKind.wrap .i64 (Am (L:Int) (s:Int)+3)) 4),Am (L:Int) (s:Int)],[(2:Int),(3:Int)],()),by simp only;omega,?_,?_⟩
  ·simp only[Wh.DD,cb g3',cv g3',cond_true,a,Wh.Cl _ _ a,hk,nQ,iy]
  ·simp only[Wh.q77,yX,Wh.zv _ _ (yX _ _ _),wi1,cb g4,cv g4,cond_true,cond_false,Bool.not_true,Sd,Se,a,Wh.Cl _ _ a,hk,nQ,iy]
 |false=>
  refine⟨((L:Int),(s:Int),[Am (L:Int) (s:Int)],[(1:Int)],()),by simp only;omega,?_,?_⟩
  ·simp only[Wh.DD,cb g3',cv g3',cond_true,a,Wh.Cl _ _ a,hk,nQ,iy,cond_false]
  ·simp only[Wh.q77,yX,Wh.zv _ _ (yX _ _ _),wi1,cb g4,cv g4,cond_true,cond_false,Bool.not_true,Sd,Se,a,Wh.Cl _ _ a,hk,nQ,iy]
noncomputable def HF (L:Int):Int:=Am (Wh.HO L).1.1 (Wh.HO L).1.2.1
noncomputable def Cc (c:Ct) (f:Fr):Bool:=bif decide (f.2.2.2.1>0) then true else bif decide (f.2.1>0) then(match zZ c.2.1 f.2.1 with
 |none=>true
 |some k=>bif(c.2.1.getD k z0).1 != f.1 then true else decide (f.2.2.1≥HF ((c.2.1.getD k z0).2.2.2.1.length:Int))) else false
theorem N7 {l:List It} {e:Int} {i:Nat} (h:zZ l e=some i):i<l.length:=(Ay.1 h).1
theorem Wf (s:cx.D) (I:yE s.2.2.2.1) (i:Nat) (hi:i<s.2.2.2.2.1.1.length) (hl:s.2.2.2.2.1.1.length≤9999999) :
  Wh.AL (((i:Int),()),s)=if Cc s.2.2.2.1 (s.2.2.2.2.1.1.getD i zF)=true then some (.inr (.inl (false,()))) else some (.inl ((((i+1:Nat):Int),()),s)):=by
 have bI:s.2.2.2.1.2.1.length≤8:=I.len
 have ed:=We s.2.2.2.1 (s.2.2.2.2.1.1.getD i zF).2.1 (by omega)
 have w:=lg (show i≤4611686018427387904 by omega)
 unfold Cc
 cases hw:decide ((s.2.2.2.2.1.1.getD i zF).2.2.2.1>0) with
 |true=>
  unfold zF at ed hw ⊢
  simp only[Wh.AL,gl hi,g0,Int.toNat_natCast,ed,Wh.DQ _ _ ed,hw,nQ,Bool.not_true,Bool.and_false,Bool.not_false,Bool.true_or,Bool.or_true,iy,Bool.and_self,cond_true,if_true]
 |false=>
  cases he:decide ((s.2.2.2.2.1.1.getD i zF).2.1>0) with
  |false=>
   unfold zF at ed hw he ⊢
   simp only[Wh.AL,gl hi,g0,Int.toNat_natCast,ed,Wh.DQ _ _ ed,hw,he,nQ,Bool.not_true,Bool.and_false,Bool.false_and,Bool.not_false,Bool.true_or,Bool.or_true,iy,Bool.and_self,cond_true,cond_false,w]
   rfl
  |true=>
   cases hk:zZ s.2.2.2.1.2.1 (s.2.2.2.2.1.1.getD i zF).2.1 with
   |none=>
    rw[hk] at ed
    unfold zF at ed hw he ⊢
    simp only[Wh.AL,gl hi,g0,Int.toNat_natCast,ed,Wh.DQ _ _ ed,hw,he,edI,Option.isSome,nQ,Bool.not_true,Bool.not_false,Bool.true_or,Bool.or_true,Bool.and_true,iy,Bool.and_self,cond_true,cond_false,if_true]
   |some k=>
    rw[hk] at ed
    have jf:=N7 hk
    have hp:=HH (I.ok (s.2.2.2.1.2.1.getD k z0) (by rw[getD_eq _ _ _ jf];exact List.getElem_mem jf))
    obtain⟨P,hP,f1,_⟩:=Un _ hp.2.2.1 hp.2.2.2
    have f3 (x y:List Int) (u:Unit):=count_eq P.1 P.2.1 x y u hP
    have f4 (x y:List Int) (u:Unit):=Wh.Cl _ _ (f3 x y u)
    cases hh:((s.2.2.2.1.2.1.getD k z0).1 != (s.2.2.2.2.1.1.getD i zF).1) with
    |true=>
     unfold zF at ed hw he hh ⊢
     simp only[Wh.AL,gl hi,g0,Int.toNat_natCast,ed,Wh.DQ _ _ ed,hw,he,hh,edI,Option.isSome,nQ,Bool.not_true,Bool.not_false,Bool.true_or,Bool.or_true,Bool.and_true,iy,Bool.and_self,cond_true,cond_false,if_true]
    |false=>
     have hc:HF ((s.2.2.2.1.2.1.getD k z0).2.2.2.1.length:Int)=Am P.1 P.2.1:=by rw[HF,Wh.LQ _ _ f1]
     unfold zF at ed hw he hh ⊢
     simp only[hc,Wh.AL,gl hi,g0,Int.toNat_natCast,ed,Wh.DQ _ _ ed,hw,he,hh,f1,Wh.LQ _ _ f1,f3,f4,edI,Option.isSome,nQ,Bool.not_true,Bool.not_false,Bool.or_true,iy,Bool.and_self,cond_true,cond_false,w]
     cases decide ((s.2.2.2.2.1.1.getD i ((0:Int),(0:Int),(0:Int),(0:Int),false,())).2.2.1≥Am P.1 P.2.1)<;>rfl
theorem SQ (c:Ct) (I:yE c) (l:List Fr) (i:Nat) (hi:i<l.length) (hl:l.length≤9999999) (hok:okF (l.getD i zF)=true) :
  Wh.AK (((i:Int),(),l,(l.length:Int)),c)=if Cc c (l.getD i zF)=true then some (.inr (.inl (false,()))) else some (.inl ((((i+1:Nat):Int),(),l,(l.length:Int)),c)):=by
 have bI:c.2.1.length≤8:=I.len
 have ed:=SP c (l.getD i zF).2.1 (by omega)
 have w:=lg (show i≤4611686018427387904 by omega)
 unfold Cc
 cases hz:((l.getD i zF).2.1==0) with
 |true=>
  have h0:(l.getD i zF).2.1=0:=eq_of_beq hz
  have hw:decide ((l.getD i zF).2.2.2.1>0)=false:=by
   unfold okF at hok
   rw[hz,cond_true] at hok
   simp only[Bool.and_eq_true,beq_iff_eq] at hok
   exact decide_eq_false (by omega)
  have he:decide ((l.getD i zF).2.1>0)=false:=decide_eq_false (by omega)
  rw[hw,he]
  unfold zF at hz ⊢
  simp only[Wh.AK,gl hi,g0,Int.toNat_natCast,hz,iy,Bool.and_self,cond_true,cond_false,w]
  rfl
 |false=>
  have he:decide ((l.getD i zF).2.1>0)=true:=by
   unfold okF at hok
   rw[hz,cond_false] at hok
   simp only[Bool.and_eq_true,nP,decide_eq_true_iff] at hok
   exact decide_eq_true (by omega)
  rw[he]
  cases hw:decide ((l.getD i zF).2.2.2.1>0) with
  |true=>
   unfold zF at ed hz hw ⊢
   simp only[Wh.AK,gl hi,g0,Int.toNat_natCast,hz,ed,Wh.Fc _ _ ed,hw,nQ,Bool.not_true,Bool.not_false,Bool.true_or,iy,Bool.and_self,cond_true,cond_false,if_true]
  |false=>
   cases hk:zZ c.2.1 (l.getD i zF).2.1 with
   |none=>
    rw[hk] at ed
    unfold zF at ed hz hw ⊢
    simp only[Wh.AK,gl hi,g0,Int.toNat_natCast,hz,ed,Wh.Fc _ _ ed,hw,Hf,nQ,Bool.not_true,Bool.not_false,Bool.true_or,iy,Bool.and_self,cond_true,cond_false,if_true]
   |some k=>
    rw[hk] at ed
    have jf:=N7 hk
    have hp:=HH (I.ok (c.2.1.getD k z0) (by rw[getD_eq _ _ _ jf];exact List.getElem_mem jf))
    obtain⟨P,hP,f0,f1⟩:=Un _ hp.2.2.1 hp.2.2.2
    have f3 (x y:List Int) (u:Unit):Wh.CG (P.1,P.2.1,x,y,u)=_:=count_eq P.1 P.2.1 x y u hP
    have f4 (x y:List Int) (u:Unit):=Wh.q21_v _ _ (f3 x y u)
    have ed':Wh.Cv (c,(l.getD i zF).2.1)=some ((k:Int),()):=ed
    have e1:decide ((k:Int)<0)=false:=decide_eq_false (by omega)
    cases hh:((c.2.1.getD k z0).1 != (l.getD i zF).1) with
    |true=>
     unfold zF at ed' hz hw hh ⊢
     unfold z0 at hh ⊢
     simp only[Wh.AK,gl hi,gl jf,g0,Int.toNat_natCast,hz,ed',Wh.Fc _ _ ed',hw,hh,e1,nQ,Bool.not_true,Bool.not_false,Bool.true_or,Bool.or_true,iy,Bool.and_self,cond_true,cond_false,if_true]
    |false=>
     have hc:HF ((c.2.1.getD k z0).2.2.2.1.length:Int)=Am P.1 P.2.1:=by rw[HF,Wh.LQ _ _ f0]
     unfold zF at ed' hz hw hh ⊢
     have hh2:=hh
     unfold z0 at hh2 f1
     simp only[hc,hh2,Wh.AK,gl hi,gl jf,g0,Int.toNat_natCast,hz,ed',Wh.Fc _ _ ed',hw,hh,e1,f1,Wh.q77_v _ _ f1,f3,f4,nQ,Bool.not_true,Bool.not_false,Bool.or_true,iy,Bool.and_self,cond_true,cond_false,w]
     cases decide ((l.getD i ((0:Int),(0:Int),(0:Int),(0:Int),false,())).2.2.1≥Am P.1 P.2.1)<;>rfl
abbrev Bu:Type:=Int×Int×Int×Int×Unit
def Ep (b:Bu):Bool:=nP b.2.1 0 99999&&nP b.1 0 b.2.1&&nP b.2.2.1 0 99999&&nP b.2.2.2.1 0 99999
theorem Wc (b:Bu):Wh.q69 b=some (Ep b,()):=by
 unfold Ep
 simp only[Wh.q69,Ar,Wh.zg _ _ (Ar _ _ _),nQ,Bool.or_true,iy,Bool.and_self,cond_true]
 cases nP b.2.1 0 99999<;>cases nP b.1 0 b.2.1<;>cases nP b.2.2.1 0 99999<;>cases nP b.2.2.2.1 0 99999<;>rfl
theorem SN (b:Bu):Wh.q47 b=some (Ep b,()):=by
 unfold Ep
 simp only[Wh.q47,yX,Wh.zv _ _ (yX _ _ _),nQ,Bool.or_true,iy,Bool.and_self,cond_true]
 cases nP b.2.1 0 99999<;>cases nP b.1 0 b.2.1<;>cases nP b.2.2.1 0 99999<;>cases nP b.2.2.2.1 0 99999<;>rfl
def zB:Bu:=((0:Int),(0:Int),(0:Int),(0:Int),())
def Ca (now:Int) (b:Bu):Bool:=bif bif bif !Ep b then true else b.2.1 != 40 then true else b.2.2.1 != 8 then true else decide (b.2.2.2.1>now)
theorem Wb (s:cx.D) (i:Nat) (hi:i<s.2.2.2.2.2.1.length) (hl:s.2.2.2.2.2.1.length≤9999999) :
  Wh.CU (((i:Int),()),s)=if Ca s.2.1 (s.2.2.2.2.2.1.getD i zB)=true then some (.inr (.inl (false,()))) else some (.inl ((((i+1:Nat):Int),()),s)):=by
 have w:=lg (show i≤4611686018427387904 by omega)
 unfold Ca zB
 simp only[Wh.CU,gl hi,g0,Int.toNat_natCast,Wc,Wh.q69_v _ _ (Wc _),nQ,iy,Bool.and_self,cond_true,w]
 generalize (bif bif bif !Ep _ then true else _ then true else _ then true else _)=b
 cases b<;>rfl
theorem SM (s:cx.D) (l:List Bu) (i:Nat) (hi:i<l.length) (hl:l.length≤9999999) :
  Wh.CT (((i:Int),(),l,(l.length:Int)),s)=if Ca s.2.1 (l.getD i zB)=true then some (.inr (.inl (false,()))) else some (.inl ((((i+1:Nat):Int),(),l,(l.length:Int)),s)):=by
 have w:=lg (show i≤4611686018427387904 by omega)
 unfold Ca zB
 simp only[Wh.CT,gl hi,g0,Int.toNat_natCast,SN,Wh.q47_v _ _ (SN _),nQ,iy,Bool.and_self,cond_true,w]
 generalize (bif bif bif !Ep _ then true else _ then true else _ then true else _)=b
 cases b<;>rfl
end Pl
open Go Go.Ab Go.Lib
namespace Pl
abbrev Sv:Type:=Int×Int×Int×Int×Int×Int×Unit
def zS:Sv:=((0:Int),(0:Int),(0:Int),(0:Int),(0:Int),(0:Int),())
def HG (l:List Sv) (i:Nat) (c:Int):Bool:=match i with
 |0=>false
 |m+1=>decide ((l.getD m zS).1≥c)
def Hh (c:Ct) (s:Sv):Bool:=bif(zZ c.2.1 s.2.2.1).isSome then(edI c.2.1 (zZ c.2.1 s.2.2.1)).1 != Int.tmod s.1 2 else false
def Bp (c:Ct) (now:Int) (l:List Sv) (i:Nat):Bool:=
 ((((((!nP (l.getD i zS).1 0 3 || HG l i (l.getD i zS).1) || !nP (l.getD i zS).2.1 1 99999) || !nP (l.getD i zS).2.2.1 1 c.1) || !nP (l.getD i zS).2.2.2.1 0 9999) || !nP (l.getD i zS).2.2.2.2.1 0 3) || !nP (l.getD i zS).2.2.2.2.2.1 0 now) || Hh c (l.getD i zS)
theorem KR (a b:Bool):(bif a then true else b)=(a || b):=by cases a<;>rfl
theorem Wi (s:cx.D) (hc:s.2.2.2.1.2.1.length≤9999999) (i:Nat) (hi:i<s.2.2.2.2.2.2.1.length) (hl:s.2.2.2.2.2.2.1.length≤9999999) :
  Wh.BU (((i:Int),()),s)=if Bp s.2.2.2.1 s.2.1 s.2.2.2.2.2.2.1 i=true then some (.inr (.inl (false,()))) else some (.inl ((((i+1:Nat):Int),()),s)):=by
 have w:=lg (show i≤4611686018427387904 by omega)
 have ed:=We s.2.2.2.1 (s.2.2.2.2.2.2.1.getD i zS).2.2.1 hc
 have hh (x:Int):Wh.q71 x=some (Int.tmod x 2,()):=rfl
 have fin (A B:Bool) (X Y:Option ((((Int)×(Unit))×((cx.D)))⊕((((Bool))×(Unit))⊕((Unit)×(Unit))))):(bif A then X else bif B then X else Y)=if(A || B)=true then X else Y:=by cases A<;>cases B<;>rfl
 rcases Nat.eq_zero_or_pos i with h0|h0
 ·subst h0
  have d1:decide (((0:Nat):Int)>0)=false:=rfl
  unfold Bp Hh HG
  unfold zS at ed ⊢
  simp only[Wh.BU,gl hi,g0,Int.toNat_natCast,Ar,Wh.zg _ _ (Ar _ _ _),ed,Wh.DQ _ _ ed,hh,Wh.Q9 _ _ (hh _),d1,KR,nQ,Bool.or_true,Bool.false_and,Bool.not_false,Bool.true_or,Bool.or_false,iy,Bool.and_self,cond_true,cond_false,w]
  exact fin _ _ _ _
 ·obtain⟨m,rfl⟩:∃m,i=m+1:=⟨i-1,by omega⟩
  have d1:decide (((m+1:Nat):Int)>0)=true:=decide_eq_true (by omega)
  have w1:IntKind.wrap .i64 (((m+1:Nat):Int)-1)=(m:Int):=wi (by omega) (by omega)
  unfold Bp Hh HG
  unfold zS at ed ⊢
  simp only[Wh.BU,gl hi,gl (show m<s.2.2.2.2.2.2.1.length by omega),g0,Int.toNat_natCast,w1,Ar,Wh.zg _ _ (Ar _ _ _),ed,Wh.DQ _ _ ed,hh,Wh.Q9 _ _ (hh _),d1,KR,nQ,Bool.or_true,iy,Bool.and_self,cond_true,w]
  exact fin _ _ _ _
theorem KV (n:Int):Wh.q51 n=some (nP n 0 3,()):=by simp only[Wh.q51,yX,Wh.zv _ _ (yX _ _ _),nQ,iy,cond_true]
theorem SV (s:cx.D) (hc:s.2.2.2.1.2.1.length≤9999999) (i:Nat) (hi:i<s.2.2.2.2.2.2.1.length) (hl:s.2.2.2.2.2.2.1.length≤9999999) :
  Wh.BV (((i:Int),(),s.2.2.2.2.2.2.1,(s.2.2.2.2.2.2.1.length:Int)),s)=if Bp s.2.2.2.1 s.2.1 s.2.2.2.2.2.2.1 i=true then some (.inr (.inl (false,()))) else some (.inl ((((i+1:Nat):Int),(),s.2.2.2.2.2.2.1,(s.2.2.2.2.2.2.1.length:Int)),s)):=by
 have w:=lg (show i≤4611686018427387904 by omega)
 have ed:=SP s.2.2.2.1 (s.2.2.2.2.2.2.1.getD i zS).2.2.1 hc
 have hh (x:Int):Wh.q79 x=some (Int.tmod x 2,()):=rfl
 have he:∃v,Aj (zZ s.2.2.2.1.2.1 (s.2.2.2.2.2.2.1.getD i zS).2.2.1)=v∧decide (v≥0)=(zZ s.2.2.2.1.2.1 (s.2.2.2.2.2.2.1.getD i zS).2.2.1).isSome∧(!decide (v≥0) || decide (0≤v))=true∧(!decide (v≥0) || decide (v<(s.2.2.2.1.2.1.length:Int)))=true ∧
   (bif decide (v≥0) then(s.2.2.2.1.2.1.getD (Int.toNat v) z0).1 != Int.tmod (s.2.2.2.2.2.2.1.getD i zS).1 2 else false)=Hh s.2.2.2.1 (s.2.2.2.2.2.2.1.getD i zS):=by
  unfold Hh
  cases e:zZ s.2.2.2.1.2.1 (s.2.2.2.2.2.2.1.getD i zS).2.2.1 with
  |none=>exact⟨-1,rfl,rfl,rfl,rfl,rfl⟩
  |some k=>
   have:=N7 e
   have d:decide ((k:Int)≥0)=true:=decide_eq_true (by omega)
   refine⟨(k:Int),rfl,d,by rw[g0,Bool.or_true],by rw[gl this,Bool.or_true],?_⟩
   rw[d];rfl
 obtain⟨v,hv,_,Bd,hv3,hv4⟩:=he
 rw[hv] at ed
 have fin (A B C D:Bool) (X Y:Option ((((Int)×(Unit)×(List (gd.D))×(Int))×((cx.D)))⊕((((Bool))×(Unit))⊕((Unit)×(Unit))))) (h:(A || (B || C))=D):(bif A then X else bif B then X else bif C then X else Y)=if D=true then X else Y:=by subst h;cases A<;>cases B<;>cases C<;>rfl
 have bool8 (a b c d e f g h:Bool):((((b || !a) || !c) || !d) || (h || ((!e || !f) || !g)))=(((((((!a || b) || !c) || !d) || !e) || !f) || !g) || h):=by
  cases a<;>cases b<;>cases c<;>cases d<;>cases e<;>cases f<;>cases g<;>cases h<;>rfl
 have bool7 (a c d e f g h:Bool):(((!a || !c) || !d) || (h || ((!e || !f) || !g)))=((((((!a || !c) || !d) || !e) || !f) || !g) || h):=by
  cases a<;>cases c<;>cases d<;>cases e<;>cases f<;>cases g<;>cases h<;>rfl
 rcases Nat.eq_zero_or_pos i with h0|h0
 ·subst h0
  have d1:decide (((0:Nat):Int)>0)=false:=rfl
  unfold Bp HG
  unfold z0 at hv4
  unfold zS at ed hv4 ⊢
  simp only[Wh.BV,gl hi,g0,Int.toNat_natCast,KV,Wh.QS _ _ (KV _),yX,Wh.zv _ _ (yX _ _ _),ed,Wh.Fc _ _ ed,hh,Wh.Rf _ _ (hh _),Bd,hv3,hv4,d1,nQ,Bool.or_true,Bool.not_false,Bool.true_or,Bool.or_false,iy,Bool.and_self,cond_true,cond_false,w]
  refine fin _ _ _ _ _ _ ?_
  simp only[KR]
  exact bool7 _ _ _ _ _ _ _
 ·obtain⟨m,rfl⟩:∃m,i=m+1:=⟨i-1,by omega⟩
  have d1:decide (((m+1:Nat):Int)>0)=true:=decide_eq_true (by omega)
  have w1:IntKind.wrap .i64 (((m+1:Nat):Int)-1)=(m:Int):=wi (by omega) (by omega)
  unfold Bp HG
  unfold z0 at hv4
  unfold zS at ed hv4 ⊢
  simp only[Wh.BV,gl hi,gl (show m<s.2.2.2.2.2.2.1.length by omega),g0,Int.toNat_natCast,w1,KV,Wh.QS _ _ (KV _),yX,Wh.zv _ _ (yX _ _ _),ed,Wh.Fc _ _ ed,hh,Wh.Rf _ _ (hh _),Bd,hv3,hv4,d1,nQ,Bool.or_true,iy,Bool.and_self,cond_true,w]
  refine fin _ _ _ _ _ _ ?_
  simp only[KR]
  exact bool8 _ _ _ _ _ _ _ _
noncomputable def yC (s:cx.D):List (List UInt8)×Nat:=xW hash s.2.2.1
noncomputable def K4 (s:cx.D):Bool:=(s.2.2.2.1.2.1.length==0&&s.2.2.2.1.1==0&&s.2.2.2.2.1.1.length==0&&s.2.2.2.2.1.2.1==0&&s.2.2.2.2.2.1.length==0&&s.2.2.2.2.2.2.1.length==0)
noncomputable def Hl (s:cx.D):Bool:=jS s.2.2.2.2.1.1.length (fun i=> !Cc s.2.2.2.1 (s.2.2.2.2.1.1.getD i zF))
noncomputable def N1 (s:cx.D):Bool:=jS s.2.2.2.2.2.1.length (fun i=> !Ca s.2.1 (s.2.2.2.2.2.1.getD i zB))
noncomputable def Ig (s:cx.D):Bool:=jS s.2.2.2.2.2.2.1.length (fun i=> !Bp s.2.2.2.1 s.2.1 s.2.2.2.2.2.2.1 i)
noncomputable def upV (s:cx.D):Bool:=(yC s).2==s.2.2.1.length&&(decide ((zA (yC s).1).1=s.2.2.2.1)&&(BG s.2.2.2.2.1&&(s.2.2.2.2.2.1.length==2&&(Ig s&&(Hl s&&N1 s)))))
noncomputable def okV (s:cx.D):Bool:=nP s.2.1 0 99999&&(decide (s.2.2.1.length≤9000)&&((zA (yC s).1).2&&(bif s.1 then upV s else K4 s)))
theorem N3 {l:List (List UInt8)} (h:(zA l).2=true):yE (zA l).1:=by
 unfold zA at h ⊢
 cases e:Al (0,[],()) l with
 |none=>rw[e] at h;cases h
 |some c=>exact Sb l _ c KU e
theorem acK (s:cx.D) (hc:s.2.2.2.1.2.1.length≤9999999) (hl:s.2.2.2.2.2.2.1.length≤9999999):Wh.q44 s=some (Ig s,()):=by
 have q:=zY (r:=Wh.BU) (fun i=>(((i:Int),()),s)) (n:=s.2.2.2.2.2.2.1.length) (p:=fun i=> !Bp s.2.2.2.1 s.2.1 s.2.2.2.2.2.2.1 i) (yf:=.inl (false,())) (yt:=.inr ((),())) (fun i hi _ hp=>by
   rw[Wi s hc i hi hl,if_neg (by simpa using hp)]) (fun i hi _ hp=>by
   rw[Wi s hc i hi hl,if_pos (by simpa using hp)]) (by
   have d1:decide ((s.2.2.2.2.2.2.1.length:Int)<(s.2.2.2.2.2.2.1.length:Int))=false:=decide_eq_false (by omega)
   simp only[Wh.BU,d1,cond_false])
 have q':Comes Wh.BU ((0,()),s) _:=q
 simp only[Wh.q44,cb q',cv q',cond_true]
 unfold Ig
 cases jS s.2.2.2.2.2.2.1.length (fun i=> !Bp s.2.2.2.1 s.2.1 s.2.2.2.2.2.2.1 i)<;>rfl
theorem V7 (s:cx.D) (h:s.2.2.1.length≤9999999):(yC s).1.length≤9999999∧∀r∈(yC s).1,r.length≤9999999:=by
 obtain⟨h1,h2,h3⟩:=vQ hash Ao (s.2.2.1.length+1) s.2.2.1 0
 refine⟨?_,fun r hr=>?_⟩
 ·change (eE hash (s.2.2.1.length+1) s.2.2.1 0).1.length≤9999999;omega
 ·have:=h3 r hr;omega
theorem acT (s:cx.D) (S:zb s):Wh.q70 s=some (okV s,()):=by
 have AA:=S.log
 have hbk:=S.Ba
 have hsv:=S.Bo
 have hfr:s.2.2.2.2.1.1.length≤1048576:=S.AG
 have hct:s.2.2.2.1.2.1.length≤1048576:=S.cat
 have a:=Om s.2.2.1 (by omega)
 obtain⟨r1,r2⟩:=V7 s (by omega)
 have b:=acO (yC s).1 r1 r2
 unfold okV
 change Wh.Bh s.2.2.1=some (((yC s).1,((yC s).2:Int)),()) at a
 have hle:decide ((s.2.2.1.length:Int)>9000) = !decide (s.2.2.1.length≤9000):=by
  by_cases h:s.2.2.1.length≤9000
  ·rw[decide_eq_true h,decide_eq_false (by omega)];rfl
  ·rw[decide_eq_false h,decide_eq_true (by omega)];rfl
 have BB (x y:Nat):((x:Int)==(y:Int))=(x==y):=by rw[Bool.eq_iff_iff,beq_iff_eq,beq_iff_eq];omega
 have OY (x:Nat):((x:Int)==0)=(x==0):=BB x 0
 have OZ (x:Nat):((x:Int) != 2) = !(x==2):=by rw[←BB x 2];rfl
 simp only[Wh.q70,Ar,Wh.zg _ _ (Ar _ _ _),hle,nQ,iy,cond_true]
 cases nP s.2.1 0 99999 with
 |false=>rfl
 |true=>
 cases decide (s.2.2.1.length≤9000) with
 |false=>rfl
 |true=>
 simp only[Bool.not_true,cond_false,Bool.true_and]
 cases cS:s.1 with
 |false=>
  have sy:Wh.q97 s=some ((zA (yC s).1).2,()):=by
   simp only[Wh.q97,a,Wh.HK _ _ a,b,Wh.P6 _ _ b,nQ,iy,cond_true]
  simp only[Bool.not_false,cond_true,cond_false,sy,Wh.q97_v _ _ sy,Bool.or_true,OY,K4]
  congr 2
  cases (zA (yC s).1).2<;>cases (s.2.2.2.1.2.1.length==0)<;>cases (s.2.2.2.1.1==0)<;>cases (s.2.2.2.2.1.1.length==0)<;>cases (s.2.2.2.2.1.2.1==0)<;>cases (s.2.2.2.2.2.1.length==0)<;>cases (s.2.2.2.2.2.2.1.length==0)<;>rfl
 |true=>
  have sm:=acW (zA (yC s).1).1 s.2.2.2.1
  have po:=acU s.2.2.2.2.1 (by omega)
  have sv:=acK s (by omega) (by omega)
  have e1:(((yC s).2:Int) != (s.2.2.1.length:Int)) = !((yC s).2==s.2.2.1.length):=by rw[←BB];rfl
  simp only[Bool.not_true,cond_false,cond_true,a,Wh.HK _ _ a,b,Wh.P6 _ _ b,po,Wh.UO _ _ po,sv,Wh.q44_v _ _ sv,Bool.or_true,e1,OZ]
  unfold upV
  cases hcat:(zA (yC s).1).2 with
  |false=>simp only[Bool.not_false,cond_true,Bool.not_true,Bool.true_or,Bool.and_self,Bool.false_and]
  |true=>
  cases hrd:((yC s).2==s.2.2.1.length) with
  |false=>simp only[Bool.not_false,cond_true,cond_false,Bool.not_true,Bool.true_or,Bool.and_self,Bool.false_and,Bool.and_false]
  |true=>
  have I:=N3 hcat
  have hI:=I.len
  have sm':=sm (by omega)
  simp only[sm',Wh.q96_v _ _ sm',Bool.not_true,Bool.not_false,cond_false,cond_true,Bool.or_true,Bool.true_and,Bool.and_self]
  by_cases hsame:(zA (yC s).1).1=s.2.2.2.1
  ·rw[decide_eq_true hsame]
   rw[hsame] at I
   cases hpo:BG s.2.2.2.2.1 with
   |false=>rfl
   |true=>
   cases bZ:(s.2.2.2.2.2.1.length==2) with
   |false=>rfl
   |true=>
   cases hsr:Ig s with
   |false=>rfl
   |true=>
    simp only[Bool.not_true,cond_false,Bool.true_and]
    have q:=zY (r:=Wh.AL) (fun i=>(((i:Int),()),s)) (n:=s.2.2.2.2.1.1.length) (p:=fun i=> !Cc s.2.2.2.1 (s.2.2.2.2.1.1.getD i zF)) (yf:=.inl (false,())) (yt:=.inr ((),s)) (fun i hi _ hp=>by
      rw[Wf s I i hi (by omega),if_neg (by simpa using hp)]) (fun i hi _ hp=>by
      rw[Wf s I i hi (by omega),if_pos (by simpa using hp)]) (by
      have d1:decide ((s.2.2.2.2.1.1.length:Int)<(s.2.2.2.2.1.1.length:Int))=false:=decide_eq_false (by omega)
      simp only[Wh.AL,d1,cond_false])
    have q':Comes Wh.AL ((0,()),s) _:=q
    have q2:=zY (r:=Wh.CU) (fun i=>(((i:Int),()),s)) (n:=s.2.2.2.2.2.1.length) (p:=fun i=> !Ca s.2.1 (s.2.2.2.2.2.1.getD i zB)) (yf:=.inl (false,())) (yt:=.inr ((),())) (fun i hi _ hp=>by
      rw[Wb s i hi (by omega),if_neg (by simpa using hp)]) (fun i hi _ hp=>by
      rw[Wb s i hi (by omega),if_pos (by simpa using hp)]) (by
      have d1:decide ((s.2.2.2.2.2.1.length:Int)<(s.2.2.2.2.2.1.length:Int))=false:=decide_eq_false (by omega)
      simp only[Wh.CU,d1,cond_false])
    have CF:Comes Wh.CU ((0,()),s) _:=q2
    simp only[cb q',cv q',cond_true]
    unfold Hl N1
    cases hf:jS s.2.2.2.2.1.1.length (fun i=> !Cc s.2.2.2.1 (s.2.2.2.2.1.1.getD i zF)) with
    |false=>simp[sumC]
    |true=>
     simp only[if_true,sumC,cb CF,cv CF,cond_true,Bool.true_and]
     cases hb:jS s.2.2.2.2.2.1.length (fun i=> !Ca s.2.1 (s.2.2.2.2.2.1.getD i zB))<;>rfl
  ·rw[decide_eq_false hsame];rfl
theorem W3 (s:cx.D) (I:yE s.2.2.2.1) (hp:s.2.2.2.2.1.1.length≤9999999):Wh.q53 (s.2.2.2.2.1,s.2.2.2.1)=some (BG s.2.2.2.2.1&&Hl s,()):=by
 have a:=XS s.2.2.2.2.1 hp
 cases hv:BG s.2.2.2.2.1 with
 |false=>
  rw[hv] at a
  simp only[Wh.q53,a,Wh.Pn _ _ a,nQ,iy,cond_true,Bool.not_false,Bool.false_and]
 |true=>
  have hok:∀i,i<s.2.2.2.2.1.1.length→okF (s.2.2.2.2.1.1.getD i zF)=true:=by
   unfold BG at hv
   simp only[Bool.and_eq_true,beq_iff_eq] at hv
   intro i hi
   have:=oL.1 hv.2.1 i (by omega)
   unfold Af at this
   rw[Bool.and_eq_true] at this
   exact this.1
  rw[hv] at a
  have q:=zY (r:=Wh.AK) (fun i=>(((i:Int),(),s.2.2.2.2.1.1,(s.2.2.2.2.1.1.length:Int)),s.2.2.2.1)) (n:=s.2.2.2.2.1.1.length) (p:=fun i=> !Cc s.2.2.2.1 (s.2.2.2.2.1.1.getD i zF)) (yf:=.inl (false,())) (yt:=.inr ((),())) (fun i hi _ hp=>by
    rw[SQ s.2.2.2.1 I _ i hi (by omega) (hok i hi),if_neg (by simpa using hp)]) (fun i hi _ hp=>by
    rw[SQ s.2.2.2.1 I _ i hi (by omega) (hok i hi),if_pos (by simpa using hp)]) (by
    have d1:decide ((s.2.2.2.2.1.1.length:Int)<(s.2.2.2.2.1.1.length:Int))=false:=decide_eq_false (by omega)
    simp only[Wh.AK,d1,cond_false])
  have q':Comes Wh.AK ((0,(),s.2.2.2.2.1.1,(s.2.2.2.2.1.1.length:Int)),s.2.2.2.1) _:=q
  simp only[Wh.q53,a,Wh.Pn _ _ a,nQ,iy,cond_true,cond_false,Bool.not_true,Bool.true_and,cb q',cv q']
  unfold Hl
  cases jS s.2.2.2.2.1.1.length (fun i=> !Cc s.2.2.2.1 (s.2.2.2.2.1.1.getD i zF))<;>rfl
theorem XR (s:cx.D) (S:zb s):Wh.q50 s=some (okV s,()):=by
 have AA:=S.log
 have hbk:=S.Ba
 have hsv:=S.Bo
 have hfr:s.2.2.2.2.1.1.length≤1048576:=S.AG
 have hct:s.2.2.2.1.2.1.length≤1048576:=S.cat
 have a:=R0 s.2.2.1 (by omega)
 obtain⟨r1,r2⟩:=V7 s (by omega)
 have b:=XN (yC s).1 r1 r2
 unfold okV
 change Wh.CW s.2.2.1=some (((yC s).1,((yC s).2:Int)),()) at a
 have hle:decide ((s.2.2.1.length:Int)>9000) = !decide (s.2.2.1.length≤9000):=by
  by_cases h:s.2.2.1.length≤9000
  ·rw[decide_eq_true h,decide_eq_false (by omega)];rfl
  ·rw[decide_eq_false h,decide_eq_true (by omega)];rfl
 have BB (x y:Nat):((x:Int)==(y:Int))=(x==y):=by rw[Bool.eq_iff_iff,beq_iff_eq,beq_iff_eq];omega
 have OY (x:Nat):((x:Int)==0)=(x==0):=BB x 0
 have OZ (x:Nat):((x:Int) != 2) = !(x==2):=by rw[←BB x 2];rfl
 simp only[Wh.q50,yX,Wh.zv _ _ (yX _ _ _),hle,nQ,iy,cond_true]
 cases nP s.2.1 0 99999 with
 |false=>rfl
 |true=>
 cases decide (s.2.2.1.length≤9000) with
 |false=>rfl
 |true=>
 simp only[Bool.not_true,cond_false,Bool.true_and,a,Wh.Rc _ _ a,b,Wh.UY _ _ b,cond_true]
 cases hcat:(zA (yC s).1).2 with
 |false=>rfl
 |true=>
 simp only[Bool.not_true,cond_false,Bool.true_and]
 cases cS:s.1 with
 |false=>
  simp only[Bool.not_false,cond_true,cond_false,OY,K4]
  congr 2
  cases (s.2.2.2.1.2.1.length==0)<;>cases (s.2.2.2.1.1==0)<;>cases (s.2.2.2.2.1.1.length==0)<;>cases (s.2.2.2.2.1.2.1==0)<;>cases (s.2.2.2.2.2.1.length==0)<;>cases (s.2.2.2.2.2.2.1.length==0)<;>rfl
 |true=>
  have I:=N3 hcat
  have hI:=I.len
  have sm:=XU (zA (yC s).1).1 s.2.2.2.1 (by omega)
  have e1:(((yC s).2:Int) != (s.2.2.1.length:Int)) = !((yC s).2==s.2.2.1.length):=by rw[←BB];rfl
  simp only[Bool.not_true,cond_false,cond_true,sm,Wh.q81_v _ _ sm,Bool.or_true,e1,OZ]
  unfold upV
  cases hrd:((yC s).2==s.2.2.1.length) with
  |false=>simp only[Bool.not_false,cond_true,Bool.not_true,Bool.true_or,Bool.and_self,Bool.false_and]
  |true=>
  by_cases hsame:(zA (yC s).1).1=s.2.2.2.1
  ·rw[decide_eq_true hsame]
   rw[hsame] at I
   have fi:=W3 s I (by omega)
   simp only[fi,Wh.q53_v _ _ fi,Bool.not_true,cond_false,Bool.or_true,Bool.and_self,cond_true,Bool.true_and]
   cases hpo:BG s.2.2.2.2.1 with
   |false=>rfl
   |true=>
   cases hfi:Hl s with
   |false=>simp only[Bool.and_false,Bool.not_false,cond_true,Bool.false_and]
   |true=>
   cases bZ:(s.2.2.2.2.2.1.length==2) with
   |false=>rfl
   |true=>
    simp only[Bool.not_true,cond_false,Bool.true_and,Bool.and_self]
    have q:=zY (r:=Wh.CT) (fun i=>(((i:Int),(),s.2.2.2.2.2.1,(s.2.2.2.2.2.1.length:Int)),s)) (n:=s.2.2.2.2.2.1.length) (p:=fun i=> !Ca s.2.1 (s.2.2.2.2.2.1.getD i zB)) (yf:=.inl (false,())) (yt:=.inr ((),s)) (fun i hi _ hp=>by
      rw[SM s _ i hi (by omega),if_neg (by simpa using hp)]) (fun i hi _ hp=>by
      rw[SM s _ i hi (by omega),if_pos (by simpa using hp)]) (by
      have d1:decide ((s.2.2.2.2.2.1.length:Int)<(s.2.2.2.2.2.1.length:Int))=false:=decide_eq_false (by omega)
      simp only[Wh.CT,d1,cond_false])
    have q':Comes Wh.CT ((0,(),s.2.2.2.2.2.1,(s.2.2.2.2.2.1.length:Int)),s) _:=q
    have q2:=zY (r:=Wh.BV) (fun i=>(((i:Int),(),s.2.2.2.2.2.2.1,(s.2.2.2.2.2.2.1.length:Int)),s)) (n:=s.2.2.2.2.2.2.1.length) (p:=fun i=> !Bp s.2.2.2.1 s.2.1 s.2.2.2.2.2.2.1 i) (yf:=.inl (false,())) (yt:=.inr ((),())) (fun i hi _ hp=>by
      rw[SV s (by omega) i hi (by omega),if_neg (by simpa using hp)]) (fun i hi _ hp=>by
      rw[SV s (by omega) i hi (by omega),if_pos (by simpa using hp)]) (by
      have d1:decide ((s.2.2.2.2.2.2.1.length:Int)<(s.2.2.2.2.2.2.1.length:Int))=false:=decide_eq_false (by omega)
      simp only[Wh.BV,d1,cond_false])
    have CF:Comes Wh.BV ((0,(),s.2.2.2.2.2.2.1,(s.2.2.2.2.2.2.1.length:Int)),s) _:=q2
    simp only[cb q',cv q',cond_true]
    unfold N1 Ig
    cases hf:jS s.2.2.2.2.2.1.length (fun i=> !Ca s.2.1 (s.2.2.2.2.2.1.getD i zB)) with
    |false=>simp[sumC]
    |true=>
     simp only[if_true,sumC,cb CF,cv CF,cond_true,Bool.and_true]
     cases hb:jS s.2.2.2.2.2.2.1.length (fun i=> !Bp s.2.2.2.1 s.2.1 s.2.2.2.2.2.2.1 i)<;>rfl
  ·rw[decide_eq_false hsame];rfl
end Pl
open Go Go.Ab
namespace Pl
section
variable {α:Type} (yP:α→Int→α) (n1:α→Nat)
def ov:List α→Int→List α
 | [],_=>[]
 |a::l,k=>yP a k::ov l (k+n1 a)
def nE (l:List α):Nat:=(l.map n1).sum
def ks (k:Int) (l:List α) (i:Nat):Int:=k+(nE n1 (l.take i):Nat)
def part (k:Int) (l:List α) (i:Nat):List α:=ov yP n1 (l.take i) k++l.drop i
theorem zd:∀(l:List α) (k:Int),(ov yP n1 l k).length=l.length
 | [],_=>rfl
 |_::l,k=>by simp[ov,zd l]
theorem OX:∀(p q:List α) (k:Int),ov yP n1 (p++q) k=ov yP n1 p k++ov yP n1 q (k+(nE n1 p:Nat))
 | [],q,k=>by simp[ov,nE]
 |a::p,q,k=>by
  simp only[List.cons_append,ov,OX p q,nE,List.map_cons,List.sum_cons]
  rw[show k+(n1 a:Int)+((p.map n1).sum:Nat)=k+((n1 a+(p.map n1).sum:Nat):Int) by omega]
theorem ac1 (l:List α) (i:Nat) (h:i<l.length):l=l.take i++l[i]::l.drop (i+1):=by
 rw[List.getElem_cons_drop,List.take_append_drop]
theorem Wl (l:List α) (i:Nat) (h:i<l.length):l.take (i+1)=l.take i ++ [l[i]]:=by
 rw[List.take_add_one,List.getElem?_eq_getElem h];rfl
theorem Dh (k:Int) (l:List α):ks n1 k l 0=k:=by simp[ks,nE]
theorem Ce (k:Int) (l:List α) (i:Nat) (h:i<l.length):ks n1 k l (i+1)=ks n1 k l i+n1 l[i]:=by
 simp only[ks,Wl l i h,nE,List.map_append,List.sum_append,List.map_cons,List.map_nil,List.sum_cons,List.sum_nil]
 omega
theorem Df (k:Int) (l:List α):ks n1 k l l.length=k+(nE n1 l:Nat):=by simp[ks]
theorem Cd (k:Int) (l:List α) (i:Nat):k≤ks n1 k l i∧ks n1 k l i≤k+(nE n1 l:Nat):=by
 have:nE n1 (l.take i)≤nE n1 l:=by
  have e:nE n1 l=nE n1 (l.take i)+nE n1 (l.drop i):=by
   unfold nE
   rw[←List.sum_append,←List.map_append,List.take_append_drop]
  omega
 unfold ks
 omega
theorem Dg (k:Int) (l:List α) (i:Nat) (h:i<l.length):ks n1 k l i+n1 l[i]≤k+(nE n1 l:Nat):=by
 rw[←Ce n1 k l i h]
 exact(Cd n1 k l (i+1)).2
theorem Gf (k:Int) (l:List α):part yP n1 k l 0=l:=by simp[part,ov]
theorem Dl (k:Int) (l:List α):part yP n1 k l l.length=ov yP n1 l k:=by simp[part]
theorem EK (k:Int) (l:List α) (i:Nat) (h:i≤l.length):(part yP n1 k l i).length=l.length:=by simp[part,zd];omega
theorem EJ (k:Int) (l:List α) (i:Nat) (z:α) (h:i<l.length):(part yP n1 k l i).getD i z=l[i]:=by
 have hl:(ov yP n1 (l.take i) k).length=i:=by rw[zd];simp;omega
 unfold part
 rw[List.getD_eq_getElem?_getD,List.getElem?_append_right (by omega),hl,Nat.sub_self,List.getElem?_drop,List.getElem?_eq_getElem (by omega)]
 simp
theorem Hz (k:Int) (l:List α) (i:Nat) (h:i<l.length):(part yP n1 k l i).set i (yP l[i] (ks n1 k l i))=part yP n1 k l (i+1):=by
 have hl:(ov yP n1 (l.take i) k).length=i:=by rw[zd];simp;omega
 unfold part
 rw[Wl l i h,OX,←List.getElem_cons_drop h,List.set_append_right _ _ (by omega),hl,Nat.sub_self,List.set_cons_zero]
 simp[ov,ks]
theorem Lr (k:Int) (l:List α) (i:Nat) (z:α) (h:i<l.length):(ov yP n1 l k).getD i z=yP l[i] (ks n1 k l i):=by
 rw[←Dl,List.getD_eq_getElem?_getD]
 have hl:(ov yP n1 (l.take i) k).length=i:=by rw[zd];simp;omega
 have e:ov yP n1 l k=ov yP n1 (l.take i) k++yP l[i] (ks n1 k l i)::ov yP n1 (l.drop (i+1)) (ks n1 k l i+n1 l[i]):=by
  conv=>lhs;rw[ac1 l i h]
  rw[OX]
  rfl
 rw[Dl,e,List.getElem?_append_right (by omega),hl,Nat.sub_self]
 rfl
end
noncomputable def mt (k:Int):List UInt8:=(Wh.Fq k).1
theorem Y2:∀(d:Nat) (k:Int) (out:List UInt8),0≤k→k<(10:Int) ^ d→d≤18→out.length+d≤100→∃s:List UInt8,s.length≤100∧Comes Wh.DW ((k,out),()) (s,()):=by
 intro d
 induction d with
 |zero=>
  intro k out h0 h1 _ h2
  have hk:k=0:=by simp at h1;omega
  subst hk
  exact⟨out,by omega,.out (by simp[Wh.DW])⟩
 |succ d ih=>
  intro k out h0 h1 hd h2
  by_cases hk:k>0
  ·have hq:k.tdiv 10<(10:Int) ^ d:=by
    rw[Int.tdiv_eq_ediv_of_nonneg h0]
    rw[Int.pow_succ] at h1
    omega
   have hq0:0≤k.tdiv 10:=by rw[Int.tdiv_eq_ediv_of_nonneg h0];omega
   have hp:(10:Int) ^ d≤(10:Int) ^ 18:=by
    have:(10:Nat) ^ d≤10 ^ 18:=Nat.pow_le_pow_right (by decide) (by omega)
    exact_mod_cast this
   have hw:IntKind.wrap .i64 (k.tdiv 10)=k.tdiv 10:=by rw[wrap64]<;>omega
   obtain⟨s,hs,hc⟩:=ih (k.tdiv 10) (qp [IntKind.wrap .u8 (IntKind.wrap .i64 (48+k.tmod 10))]++out) hq0 hq (by omega) (by simp[qp];omega)
   refine⟨s,hs,.again (x':=((k.tdiv 10,qp [IntKind.wrap .u8 (IntKind.wrap .i64 (48+k.tmod 10))]++out),())) ?_ hc⟩
   have hl:1+out.length≤dh:=by unfold dh;omega
   simp[Wh.DW,hk,hl,iy,hw]
  ·exact⟨out,by omega,.out (by simp[Wh.DW,hk])⟩
def y7:Int:=1000000000000000000
theorem Lt (k:Int) (h0:0≤k) (h1:k<y7):Wh.A4 k=some (mt k,()):=by
 have main:∃s,Wh.A4 k=some (s,()):=by
  by_cases hk:k≤0
  ·exact⟨[109,48],by simp[Wh.A4,hk]⟩
  ·obtain⟨s,hs,hc⟩:=Y2 18 k [] h0 (by simpa[y7] using h1) (by omega) (by simp)
   have hl:1+s.length≤dh:=by unfold dh;omega
   exact⟨109::s,by simp[Wh.A4,hk,cb hc,cv hc,iy,hl]⟩
 obtain⟨s,hs⟩:=main
 rw[hs,mt,Wh.Gu _ _ hs]
theorem w9 {k:Int} (h0:0≤k) (h1:k≤y7):IntKind.wrap .i64 (k+1)=k+1:=by unfold y7 at h1;rw[wrap64]<;>omega
end Pl
open Go Go.Ab
namespace Pl
noncomputable def mkItem (_:an.D) (k:Int):an.D:=(k,mt (k+1),k+2,mt (k+3),())
def w7 (_:an.D):Nat:=4
theorem YY (a:List an.D) (k:Int) (h0:0≤k) (h1:k+(nE w7 a:Nat)<y7) (hl:a.length≤4611686018427387904):Wh.q40 (a,k)=some (k+(nE w7 a:Nat),ov mkItem w7 a k,()):=by
 have hc:Comes Wh.DO (((0:Int),(),k),a) (k+(nE w7 a:Nat),ov mkItem w7 a k):=by
  have:=xO (r:=Wh.DO) (st:=fun i=>(((i:Int),(),ks w7 k a i),part mkItem w7 k a i)) (n:=a.length) (y:=(k+(nE w7 a:Nat),ov mkItem w7 a k)) ?_ ?_ 0 (Nat.zero_le _)
  ·simpa[Dh,Gf] using this
  ·intro i hi
   have b1:=Cd w7 k a i
   have b2:=Dg w7 k a i hi
   have b3:w7 a[i]=4:=rfl
   have e2:=lg (i:=i) (by omega)
   have e4:=Ce w7 k a i hi
   have e3:=Hz mkItem w7 k a i hi
   have pl:=EK mkItem w7 k a i (Nat.le_of_lt hi)
   have pg:=fun z=>EJ mkItem w7 k a i z hi
   have hi':i<(part mkItem w7 k a i).length:=by omega
   simp only[mkItem] at e3
   rw[b3] at e4
   generalize ks w7 k a i=q at *
   have w0:=w9 (k:=q) (by omega) (by omega)
   have w1:=w9 (k:=q+1) (by omega) (by omega)
   have w2:=w9 (k:=q+2) (by omega) (by omega)
   have w3:=w9 (k:=q+3) (by omega) (by omega)
   have a1:q+1+1=q+2:=by omega
   have a2:q+2+1=q+3:=by omega
   have a3:q+3+1=ks w7 k a (i+1):=by rw[e4];omega
   rw[a1] at w1
   rw[a2] at w2
   rw[a3] at w3
   have t1:=Lt (q+1) (by omega) (by omega)
   have t3:=Lt (q+3) (by omega) (by omega)
   have c1:decide ((i:Int)<(a.length:Int))=true:=by simpa using hi
   simp only[Wh.DO,Int.toNat_natCast,pl,pg,K_ _ _ _ _ hi',Mi,List.length_set,c1,cond_true,iy,Bool.and_self,Int.natCast_nonneg,decide_true,nQ,
    w0,a1,w1,a2,w2,a3,w3,Wh.Gu _ _ t1,t1,Wh.Gu _ _ t3,t3,e2,e3]
  ·simp[Wh.DO,Df,Dl,zd]
 simp[Wh.q40,cb hc,cv hc]
theorem XF (a:List an.D) (k:Int) (h0:0≤k) (h1:k+(nE w7 a:Nat)<y7) (hl:a.length≤4611686018427387904):Wh.q39 (ov mkItem w7 a k,k)=some (k+(nE w7 a:Nat),()):=by
 have hc:Comes Wh.DN (((0:Int),ov mkItem w7 a k,k),()) (.inr (k+(nE w7 a:Nat),())):=by
  have:=xO (r:=Wh.DN) (st:=fun i=>(((i:Int),ov mkItem w7 a k,ks w7 k a i),())) (n:=a.length) (y:=.inr (k+(nE w7 a:Nat),())) ?_ ?_ 0 (Nat.zero_le _)
  ·simpa[Dh] using this
  ·intro i hi
   have b1:=Cd w7 k a i
   have b2:=Dg w7 k a i hi
   have b3:w7 a[i]=4:=rfl
   have e2:=lg (i:=i) (by omega)
   have e4:=Ce w7 k a i hi
   have pl:=zd mkItem w7 a k
   have pg:=fun z=>Lr mkItem w7 k a i z hi
   simp only[mkItem] at pg
   rw[b3] at e4
   generalize ks w7 k a i=q at *
   have w0:=w9 (k:=q) (by omega) (by omega)
   have w1:=w9 (k:=q+1) (by omega) (by omega)
   have w2:=w9 (k:=q+2) (by omega) (by omega)
   have w3:=w9 (k:=q+3) (by omega) (by omega)
   have a1:q+1+1=q+2:=by omega
   have a2:q+2+1=q+3:=by omega
   have a3:q+3+1=ks w7 k a (i+1):=by rw[e4];omega
   rw[a1] at w1
   rw[a2] at w2
   rw[a3] at w3
   have t1:=Lt (q+1) (by omega) (by omega)
   have t3:=Lt (q+3) (by omega) (by omega)
   have c1:decide ((i:Int)<(a.length:Int))=true:=by simpa using hi
   have d1:(mt (q+1)==mt (q+1))=true:=by simp
   have d3:(mt (q+3)==mt (q+3))=true:=by simp
   have bn:∀x:Int,(x != x)=false:=by intro x;simp
   simp only[Wh.DN,Int.toNat_natCast,pl,pg,c1,cond_true,cond_false,iy,Bool.and_self,Int.natCast_nonneg,decide_true,nQ,bn,
    w0,a1,w1,a2,w2,a3,w3,Wh.Gu _ _ t1,t1,Wh.Gu _ _ t3,t3,e2,d1,d3,Bool.not_true]
  ·simp[Wh.DN,zd,Df]
 simp[Wh.q39,cb hc,cv hc,sumC]
def zL (_:fT.D) (k:Int):fT.D:=(k,k+1,k+2,k+3,())
def th (_:fT.D):Nat:=4
theorem YV (a:List fT.D) (k:Int) (h0:0≤k) (h1:k+(nE th a:Nat)<y7) (hl:a.length≤4611686018427387904):Wh.q18 (a,k)=some (k+(nE th a:Nat),ov zL th a k,()):=by
 have hc:Comes Wh.DH (((0:Int),(),k),a) (k+(nE th a:Nat),ov zL th a k):=by
  have:=xO (r:=Wh.DH) (st:=fun i=>(((i:Int),(),ks th k a i),part zL th k a i)) (n:=a.length) (y:=(k+(nE th a:Nat),ov zL th a k)) ?_ ?_ 0 (Nat.zero_le _)
  ·simpa[Dh,Gf] using this
  ·intro i hi
   have b1:=Cd th k a i
   have b2:=Dg th k a i hi
   have b3:th a[i]=4:=rfl
   have e2:=lg (i:=i) (by omega)
   have e4:=Ce th k a i hi
   have e3:=Hz zL th k a i hi
   have pl:=EK zL th k a i (Nat.le_of_lt hi)
   have pg:=fun z=>EJ zL th k a i z hi
   have hi':i<(part zL th k a i).length:=by omega
   simp only[zL] at e3
   rw[b3] at e4
   generalize ks th k a i=q at *
   have w0:=w9 (k:=q) (by omega) (by omega)
   have w1:=w9 (k:=q+1) (by omega) (by omega)
   have w2:=w9 (k:=q+2) (by omega) (by omega)
   have w3:=w9 (k:=q+3) (by omega) (by omega)
   have a1:q+1+1=q+2:=by omega
   have a2:q+2+1=q+3:=by omega
   have a3:q+3+1=ks th k a (i+1):=by rw[e4];omega
   rw[a1] at w1
   rw[a2] at w2
   rw[a3] at w3
   have c1:decide ((i:Int)<(a.length:Int))=true:=by simpa using hi
   simp only[Wh.DH,Int.toNat_natCast,pl,pg,K_ _ _ _ _ hi',Mi,List.length_set,c1,cond_true,iy,Bool.and_self,Int.natCast_nonneg,decide_true,w0,a1,w1,a2,w2,a3,w3,e2,e3]
  ·simp[Wh.DH,Df,Dl,zd]
 simp[Wh.q18,cb hc,cv hc]
theorem XC (a:List fT.D) (k:Int) (h0:0≤k) (h1:k+(nE th a:Nat)<y7) (hl:a.length≤4611686018427387904):Wh.q17 (ov zL th a k,k)=some (k+(nE th a:Nat),()):=by
 have hc:Comes Wh.DG (((0:Int),ov zL th a k,k),()) (.inr (k+(nE th a:Nat),())):=by
  have:=xO (r:=Wh.DG) (st:=fun i=>(((i:Int),ov zL th a k,ks th k a i),())) (n:=a.length) (y:=.inr (k+(nE th a:Nat),())) ?_ ?_ 0 (Nat.zero_le _)
  ·simpa[Dh] using this
  ·intro i hi
   have b1:=Cd th k a i
   have b2:=Dg th k a i hi
   have b3:th a[i]=4:=rfl
   have e2:=lg (i:=i) (by omega)
   have e4:=Ce th k a i hi
   have pl:=zd zL th a k
   have pg:=fun z=>Lr zL th k a i z hi
   simp only[zL] at pg
   rw[b3] at e4
   generalize ks th k a i=q at *
   have w0:=w9 (k:=q) (by omega) (by omega)
   have w1:=w9 (k:=q+1) (by omega) (by omega)
   have w2:=w9 (k:=q+2) (by omega) (by omega)
   have w3:=w9 (k:=q+3) (by omega) (by omega)
   have a1:q+1+1=q+2:=by omega
   have a2:q+2+1=q+3:=by omega
   have a3:q+3+1=ks th k a (i+1):=by rw[e4];omega
   rw[a1] at w1
   rw[a2] at w2
   rw[a3] at w3
   have c1:decide ((i:Int)<(a.length:Int))=true:=by simpa using hi
   have bn:∀x:Int,(x != x)=false:=by intro x;simp
   simp only[Wh.DG,Int.toNat_natCast,pl,pg,c1,cond_true,cond_false,iy,Bool.and_self,Int.natCast_nonneg,decide_true,bn,
    w0,a1,w1,a2,w2,a3,w3,e2]
  ·simp[Wh.DG,zd,Df]
 simp[Wh.q17,cb hc,cv hc,sumC]
def zN (_:gd.D) (k:Int):gd.D:=(k,k+1,k+2,k+3,k+4,k+5,())
def w8 (_:gd.D):Nat:=6
theorem Y0 (a:List gd.D) (k:Int) (h0:0≤k) (h1:k+(nE w8 a:Nat)<y7) (hl:a.length≤4611686018427387904):Wh.q27 (a,k)=some (k+(nE w8 a:Nat),ov zN w8 a k,()):=by
 have hc:Comes Wh.DL (((0:Int),(),k),a) (k+(nE w8 a:Nat),ov zN w8 a k):=by
  have:=xO (r:=Wh.DL) (st:=fun i=>(((i:Int),(),ks w8 k a i),part zN w8 k a i)) (n:=a.length) (y:=(k+(nE w8 a:Nat),ov zN w8 a k)) ?_ ?_ 0 (Nat.zero_le _)
  ·simpa[Dh,Gf] using this
  ·intro i hi
   have b1:=Cd w8 k a i
   have b2:=Dg w8 k a i hi
   have b3:w8 a[i]=6:=rfl
   have e2:=lg (i:=i) (by omega)
   have e4:=Ce w8 k a i hi
   have e3:=Hz zN w8 k a i hi
   have pl:=EK zN w8 k a i (Nat.le_of_lt hi)
   have pg:=fun z=>EJ zN w8 k a i z hi
   have hi':i<(part zN w8 k a i).length:=by omega
   simp only[zN] at e3
   rw[b3] at e4
   generalize ks w8 k a i=q at *
   have w0:=w9 (k:=q) (by omega) (by omega)
   have w1:=w9 (k:=q+1) (by omega) (by omega)
   have w2:=w9 (k:=q+2) (by omega) (by omega)
   have w3:=w9 (k:=q+3) (by omega) (by omega)
   have w4:=w9 (k:=q+4) (by omega) (by omega)
   have w5:=w9 (k:=q+5) (by omega) (by omega)
   have a1:q+1+1=q+2:=by omega
   have a2:q+2+1=q+3:=by omega
   have a3:q+3+1=q+4:=by omega
   have a4:q+4+1=q+5:=by omega
   have a5:q+5+1=ks w8 k a (i+1):=by rw[e4];omega
   rw[a1] at w1
   rw[a2] at w2
   rw[a3] at w3
   rw[a4] at w4
   rw[a5] at w5
   have c1:decide ((i:Int)<(a.length:Int))=true:=by simpa using hi
   simp only[Wh.DL,Int.toNat_natCast,pl,pg,K_ _ _ _ _ hi',Mi,List.length_set,c1,cond_true,iy,Bool.and_self,Int.natCast_nonneg,decide_true,w0,a1,w1,a2,w2,a3,w3,a4,w4,a5,w5,e2,e3]
  ·simp[Wh.DL,Df,Dl,zd]
 simp[Wh.q27,cb hc,cv hc]
theorem XH (a:List gd.D) (k:Int) (h0:0≤k) (h1:k+(nE w8 a:Nat)<y7) (hl:a.length≤4611686018427387904):Wh.q24 (ov zN w8 a k,k)=some (k+(nE w8 a:Nat),()):=by
 have hc:Comes Wh.DJ (((0:Int),ov zN w8 a k,k),()) (.inr (k+(nE w8 a:Nat),())):=by
  have:=xO (r:=Wh.DJ) (st:=fun i=>(((i:Int),ov zN w8 a k,ks w8 k a i),())) (n:=a.length) (y:=.inr (k+(nE w8 a:Nat),())) ?_ ?_ 0 (Nat.zero_le _)
  ·simpa[Dh] using this
  ·intro i hi
   have b1:=Cd w8 k a i
   have b2:=Dg w8 k a i hi
   have b3:w8 a[i]=6:=rfl
   have e2:=lg (i:=i) (by omega)
   have e4:=Ce w8 k a i hi
   have pl:=zd zN w8 a k
   have pg:=fun z=>Lr zN w8 k a i z hi
   simp only[zN] at pg
   rw[b3] at e4
   generalize ks w8 k a i=q at *
   have w0:=w9 (k:=q) (by omega) (by omega)
   have w1:=w9 (k:=q+1) (by omega) (by omega)
   have w2:=w9 (k:=q+2) (by omega) (by omega)
   have w3:=w9 (k:=q+3) (by omega) (by omega)
   have w4:=w9 (k:=q+4) (by omega) (by omega)
   have w5:=w9 (k:=q+5) (by omega) (by omega)
   have a1:q+1+1=q+2:=by omega
   have a2:q+2+1=q+3:=by omega
   have a3:q+3+1=q+4:=by omega
   have a4:q+4+1=q+5:=by omega
   have a5:q+5+1=ks w8 k a (i+1):=by rw[e4];omega
   rw[a1] at w1
   rw[a2] at w2
   rw[a3] at w3
   rw[a4] at w4
   rw[a5] at w5
   have c1:decide ((i:Int)<(a.length:Int))=true:=by simpa using hi
   have bn:∀x:Int,(x != x)=false:=by intro x;simp
   simp only[Wh.DJ,Int.toNat_natCast,pl,pg,c1,cond_true,cond_false,iy,Bool.and_self,Int.natCast_nonneg,decide_true,bn,
    w0,a1,w1,a2,w2,a3,w3,a4,w4,a5,w5,e2]
  ·simp[Wh.DJ,zd,Df]
 simp[Wh.q24,cb hc,cv hc,sumC]
def zM (_:ct.D) (k:Int):ct.D:=(k,k+1,k+2,k+3,Int.tmod (k+4) 3==0,())
def wX (_:ct.D):Nat:=5
theorem YX (a:List ct.D) (k:Int) (h0:0≤k) (h1:k+(nE wX a:Nat)<y7) (hl:a.length≤4611686018427387904):Wh.q26 (a,k)=some (k+(nE wX a:Nat),ov zM wX a k,()):=by
 have hc:Comes Wh.DK (((0:Int),(),k),a) (k+(nE wX a:Nat),ov zM wX a k):=by
  have:=xO (r:=Wh.DK) (st:=fun i=>(((i:Int),(),ks wX k a i),part zM wX k a i)) (n:=a.length) (y:=(k+(nE wX a:Nat),ov zM wX a k)) ?_ ?_ 0 (Nat.zero_le _)
  ·simpa[Dh,Gf] using this
  ·intro i hi
   have b1:=Cd wX k a i
   have b2:=Dg wX k a i hi
   have b3:wX a[i]=5:=rfl
   have e2:=lg (i:=i) (by omega)
   have e4:=Ce wX k a i hi
   have e3:=Hz zM wX k a i hi
   have pl:=EK zM wX k a i (Nat.le_of_lt hi)
   have pg:=fun z=>EJ zM wX k a i z hi
   have hi':i<(part zM wX k a i).length:=by omega
   simp only[zM] at e3
   rw[b3] at e4
   generalize ks wX k a i=q at *
   have w0:=w9 (k:=q) (by omega) (by omega)
   have w1:=w9 (k:=q+1) (by omega) (by omega)
   have w2:=w9 (k:=q+2) (by omega) (by omega)
   have w3:=w9 (k:=q+3) (by omega) (by omega)
   have w4:=w9 (k:=q+4) (by omega) (by omega)
   have a1:q+1+1=q+2:=by omega
   have a2:q+2+1=q+3:=by omega
   have a3:q+3+1=q+4:=by omega
   have a4:q+4+1=ks wX k a (i+1):=by rw[e4];omega
   rw[a1] at w1
   rw[a2] at w2
   rw[a3] at w3
   rw[a4] at w4
   have c1:decide ((i:Int)<(a.length:Int))=true:=by simpa using hi
   simp only[Wh.DK,Int.toNat_natCast,pl,pg,K_ _ _ _ _ hi',Mi,List.length_set,c1,cond_true,iy,Bool.and_self,Int.natCast_nonneg,decide_true,w0,a1,w1,a2,w2,a3,w3,a4,w4,e2,e3]
  ·simp[Wh.DK,Df,Dl,zd]
 simp[Wh.q26,cb hc,cv hc]
theorem XE (a:List ct.D) (k:Int) (h0:0≤k) (h1:k+(nE wX a:Nat)<y7) (hl:a.length≤4611686018427387904):Wh.q23 (ov zM wX a k,k)=some (k+(nE wX a:Nat),()):=by
 have hc:Comes Wh.DI (((0:Int),ov zM wX a k,k),()) (.inr (k+(nE wX a:Nat),())):=by
  have:=xO (r:=Wh.DI) (st:=fun i=>(((i:Int),ov zM wX a k,ks wX k a i),())) (n:=a.length) (y:=.inr (k+(nE wX a:Nat),())) ?_ ?_ 0 (Nat.zero_le _)
  ·simpa[Dh] using this
  ·intro i hi
   have b1:=Cd wX k a i
   have b2:=Dg wX k a i hi
   have b3:wX a[i]=5:=rfl
   have e2:=lg (i:=i) (by omega)
   have e4:=Ce wX k a i hi
   have pl:=zd zM wX a k
   have pg:=fun z=>Lr zM wX k a i z hi
   simp only[zM] at pg
   rw[b3] at e4
   generalize ks wX k a i=q at *
   have w0:=w9 (k:=q) (by omega) (by omega)
   have w1:=w9 (k:=q+1) (by omega) (by omega)
   have w2:=w9 (k:=q+2) (by omega) (by omega)
   have w3:=w9 (k:=q+3) (by omega) (by omega)
   have w4:=w9 (k:=q+4) (by omega) (by omega)
   have a1:q+1+1=q+2:=by omega
   have a2:q+2+1=q+3:=by omega
   have a3:q+3+1=q+4:=by omega
   have a4:q+4+1=ks wX k a (i+1):=by rw[e4];omega
   rw[a1] at w1
   rw[a2] at w2
   rw[a3] at w3
   rw[a4] at w4
   have c1:decide ((i:Int)<(a.length:Int))=true:=by simpa using hi
   have d4:((Int.tmod (q+4) 3==0)==(Int.tmod (q+4) 3==0))=true:=by simp
   have bn:∀x:Int,(x != x)=false:=by intro x;simp
   simp only[Wh.DI,Int.toNat_natCast,pl,pg,c1,cond_true,cond_false,iy,Bool.and_self,Int.natCast_nonneg,decide_true,bn,
    w0,a1,w1,a2,w2,a3,w3,a4,w4,e2,d4,Bool.not_true]
  ·simp[Wh.DI,zd,Df]
 simp[Wh.q23,cb hc,cv hc,sumC]
end Pl
open Go Go.Ab
namespace Pl
noncomputable def F_ (c:bx.D) (k:Int):bx.D:=(c.1,ov mkItem w7 c.2.1 k,c.2.2)
def y3 (c:bx.D):Nat:=nE w7 c.2.1
theorem YW (c:bx.D) (k:Int) (h0:0≤k) (h1:k+(y3 c:Nat)<y7) (hl:Ei c):Wh.q86 (c,k)=some (k+(y3 c:Nat),F_ c k,()):=by
 have e1:=YY c.2.1 k h0 h1 (Nat.le_trans hl (by omega))
 simp[Wh.q86,e1,Wh.q40_v _ _ e1,iy,nQ,F_,y3]
theorem XD (c:bx.D) (k:Int) (h0:0≤k) (h1:k+(y3 c:Nat)<y7) (hl:Ei c):Wh.q85 (F_ c k,k)=some (k+(y3 c:Nat),()):=by
 have e1:=XF c.2.1 k h0 h1 (Nat.le_trans hl (by omega))
 have n1:¬(k+(nE w7 c.2.1:Nat))<0:=by omega
 simp[Wh.q85,F_,e1,Wh.q39_v _ _ e1,iy,nQ,y3,n1]
def Ga (c:fN.D) (k:Int):fN.D:=(ov zM wX c.1 k,c.2)
def zD (c:fN.D):Nat:=nE wX c.1
theorem YZ (c:fN.D) (k:Int) (h0:0≤k) (h1:k+(zD c:Nat)<y7) (hl:A9 c):Wh.q60 (c,k)=some (k+(zD c:Nat),Ga c k,()):=by
 have e1:=YX c.1 k h0 h1 (Nat.le_trans hl (by omega))
 simp[Wh.q60,e1,Wh.q26_v _ _ e1,iy,nQ,Ga,zD]
theorem XG (c:fN.D) (k:Int) (h0:0≤k) (h1:k+(zD c:Nat)<y7) (hl:A9 c):Wh.q59 (Ga c k,k)=some (k+(zD c:Nat),()):=by
 have e1:=XE c.1 k h0 h1 (Nat.le_trans hl (by omega))
 have n1:¬(k+(nE wX c.1:Nat))<0:=by omega
 simp[Wh.q59,Ga,e1,Wh.q23_v _ _ e1,iy,nQ,zD,n1]
noncomputable def Ch (s:cx.D) (k:Int):cx.D:=
 (s.1,s.2.1,s.2.2.1,F_ s.2.2.2.1 k,Ga s.2.2.2.2.1 (k+(y3 s.2.2.2.1:Nat)),ov zL th s.2.2.2.2.2.1 (k+(y3 s.2.2.2.1:Nat)+(zD s.2.2.2.2.1:Nat)),
  ov zN w8 s.2.2.2.2.2.2.1 (k+(y3 s.2.2.2.1:Nat)+(zD s.2.2.2.2.1:Nat)+(nE th s.2.2.2.2.2.1:Nat)),s.2.2.2.2.2.2.2)
def AE (s:cx.D):Nat:=y3 s.2.2.2.1+zD s.2.2.2.2.1+nE th s.2.2.2.2.2.1+nE w8 s.2.2.2.2.2.2.1
theorem Y1 (s:cx.D) (k:Int) (h0:0≤k) (h1:k+(AE s:Nat)<y7) (hl:zb s):Wh.CJ (s,k)=some (k+(AE s:Nat),Ch s k,()):=by
 unfold AE at h1
 have e1:=YW s.2.2.2.1 k h0 (by omega) hl.cat
 have e2:=YZ s.2.2.2.2.1 (k+(y3 s.2.2.2.1:Nat)) (by omega) (by omega) hl.AG
 have e3:=YV s.2.2.2.2.2.1 (k+(y3 s.2.2.2.1:Nat)+(zD s.2.2.2.2.1:Nat)) (by omega) (by omega) (Nat.le_trans hl.Ba (by omega))
 have e4:=Y0 s.2.2.2.2.2.2.1 (k+(y3 s.2.2.2.1:Nat)+(zD s.2.2.2.2.1:Nat)+(nE th s.2.2.2.2.2.1:Nat)) (by omega) (by omega) (Nat.le_trans hl.Bo (by omega))
 have v1:=Wh.q86_v _ _ e1
 have v2:=Wh.q60_v _ _ e2
 have v3:=Wh.q18_v _ _ e3
 have v4:=Wh.q27_v _ _ e4
 simp only[Wh.CJ,e1,v1,e2,v2,e3,v3,e4,v4,iy,nQ,cond_true]
 simp[Ch,AE,F_,Ga]
 omega
theorem XI (s:cx.D) (k:Int) (h0:0≤k) (h1:k+(AE s:Nat)<y7) (hl:zb s):Wh.CI (Ch s k,k)=some (k+(AE s:Nat),()):=by
 unfold AE at h1
 have e1:=XD s.2.2.2.1 k h0 (by omega) hl.cat
 have e2:=XG s.2.2.2.2.1 (k+(y3 s.2.2.2.1:Nat)) (by omega) (by omega) hl.AG
 have e3:=XC s.2.2.2.2.2.1 (k+(y3 s.2.2.2.1:Nat)+(zD s.2.2.2.2.1:Nat)) (by omega) (by omega) (Nat.le_trans hl.Ba (by omega))
 have e4:=XH s.2.2.2.2.2.2.1 (k+(y3 s.2.2.2.1:Nat)+(zD s.2.2.2.2.1:Nat)+(nE th s.2.2.2.2.2.1:Nat)) (by omega) (by omega) (Nat.le_trans hl.Bo (by omega))
 have v1:=Wh.q85_v _ _ e1
 have v2:=Wh.q59_v _ _ e2
 have v3:=Wh.q17_v _ _ e3
 have v4:=Wh.q24_v _ _ e4
 have n1:decide ((k+(y3 s.2.2.2.1:Nat))<0)=false:=by simp;omega
 have n2:decide ((k+(y3 s.2.2.2.1:Nat)+(zD s.2.2.2.2.1:Nat))<0)=false:=by simp;omega
 have n3:decide ((k+(y3 s.2.2.2.1:Nat)+(zD s.2.2.2.2.1:Nat)+(nE th s.2.2.2.2.2.1:Nat))<0)=false:=by simp;omega
 have n4:decide ((k+(y3 s.2.2.2.1:Nat)+(zD s.2.2.2.2.1:Nat)+(nE th s.2.2.2.2.2.1:Nat)+(nE w8 s.2.2.2.2.2.2.1:Nat))<0)=false:=by simp;omega
 simp only[Wh.CI,Ch,e1,v1,e2,v2,e3,v3,e4,v4,iy,nQ,cond_true,cond_false,n1,n2,n3,n4]
 simp[AE]
 omega
end Pl
open Go Go.Ab Go.Lib
namespace Pl
theorem BB (x y:Nat):((x:Int)==(y:Int))=(x==y):=by rw[Bool.eq_iff_iff,beq_iff_eq,beq_iff_eq];omega
noncomputable def Et (log:List UInt8):Bool:=((xW hash log).2==log.length)&&decide (log.length≤9000)
noncomputable def zV (log r:List UInt8):List UInt8×Bool:=
 if(Et log&&decide (1≤r.length∧r.length≤500))=true∧(log++line hash (xW hash log).1.length r).length≤9000 then(log++line hash (xW hash log).1.length r,true) else([],false)
theorem V2 (log:List UInt8):(xW hash log).2≤log.length∧20*(xW hash log).1.length≤log.length:=by
 obtain⟨h1,h2,_⟩:=vQ hash Ao (log.length+1) log 0
 exact⟨h1,Nat.le_trans h2 h1⟩
theorem Yl (log:List UInt8) (hl:log.length≤9999999):Wh.Fb log=some (Et log,()):=by
 have a:=Om log hl
 simp only[Wh.Fb,a,Wh.HK _ _ a,nQ,iy,cond_true,BB,Et]
 cases e:(xW hash log).2==log.length with
 |false=>rfl
 |true=>
  have:(xW hash log).2=log.length:=by simpa using e
  rw[this]
  have:decide ((log.length:Int)≤9000)=decide (log.length≤9000):=by rw[Bool.eq_iff_iff,decide_eq_true_iff,decide_eq_true_iff];omega
  rw[this];rfl
theorem SY (n a b:Nat):nP (n:Int) (a:Int) (b:Int)=decide (a≤n∧n≤b):=by
 unfold nP;rw[Bool.eq_iff_iff,decide_eq_true_iff,decide_eq_true_iff];omega
theorem Ta (n:Nat) (r:List UInt8) (hn:n≤9999999) (hr:r.length≤9999999):(line hash n r).length≤r.length+40:=by
 rw[vJ hash Ao]
 have:=zm n hn
 have:=zm r.length hr
 omega
theorem Ox (x:List UInt8):decide ((x.length:Int)>9000) = !decide (x.length≤9000):=by
 by_cases h:x.length≤9000
 ·rw[decide_eq_true h,decide_eq_false (by omega)];rfl
 ·rw[decide_eq_false h,decide_eq_true (by omega)];rfl
theorem acN (log r:List UInt8) (hl:log.length≤9999999) (hr:r.length≤9999999):Wh.EY (log,r)=some (zV log r,()):=by
 have a:=Om log hl
 have b:=Yl log hl
 obtain⟨r1,r2⟩:=V2 log
 have c:=Ov (xW hash log).1.length r (by omega) hr
 have hll:=Ta (xW hash log).1.length r (by omega) hr
 have d:nP (r.length:Int) 1 500=decide (1≤r.length∧r.length≤500):=SY _ 1 500
 have e:decide (log.length+(line hash (xW hash log).1.length r).length≤dh)=true:=by unfold dh;exact decide_eq_true (by omega)
 simp only[Wh.EY,a,Wh.HK _ _ a,b,Wh.U8 _ _ b,Ar,Wh.zg _ _ (Ar _ _ _),c,Wh.LD _ _ c,d,e,nQ,iy,Bool.or_true,Bool.and_self,cond_true,zV,Ox]
 cases Et log with
 |false=>rfl
 |true=>
 cases decide (1≤r.length∧r.length≤500) with
 |false=>rfl
 |true=>
 by_cases h:(log++line hash (xW hash log).1.length r).length≤9000
 ·rw[decide_eq_true h,if_pos ⟨rfl,h⟩];rfl
 ·rw[decide_eq_false h,if_neg (fun k=>h k.2)];rfl
theorem XK (log r:List UInt8) (hl:log.length≤9999999) (hr:r.length≤9999999):Wh.ER (log,r)=some (zV log r,()):=by
 have a:=R0 log hl
 obtain⟨r1,r2⟩:=V2 log
 have c:=Ot (xW hash log).1.length r (by omega) hr
 have hll:=Ta (xW hash log).1.length r (by omega) hr
 have d:nP (r.length:Int) 1 500=decide (1≤r.length∧r.length≤500):=SY _ 1 500
 have e:decide (log.length+(line hash (xW hash log).1.length r).length≤dh)=true:=by unfold dh;exact decide_eq_true (by omega)
 have n1:(((xW hash log).2:Int) != (log.length:Int)) = !((xW hash log).2==log.length):=by rw[←BB];rfl
 have n2:(bif !((xW hash log).2==log.length) then true else decide (((xW hash log).2:Int)>9000)) = !Et log:=by
  unfold Et
  cases k:(xW hash log).2==log.length with
  |false=>rfl
  |true=>
   have:(xW hash log).2=log.length:=by simpa using k
   rw[this,Ox];rfl
 simp only[Wh.ER,a,Wh.Rc _ _ a,yX,Wh.zv _ _ (yX _ _ _),c,Wh.L5 _ _ c,d,e,nQ,iy,n1,n2,Bool.or_true,Bool.and_self,cond_true,zV,Ox]
 cases Et log with
 |false=>rfl
 |true=>
 cases decide (1≤r.length∧r.length≤500) with
 |false=>rfl
 |true=>
 by_cases h:(log++line hash (xW hash log).1.length r).length≤9000
 ·rw[decide_eq_true h,if_pos ⟨rfl,h⟩];rfl
 ·rw[decide_eq_false h,if_neg (fun k=>h k.2)];rfl
theorem Wv (log r:List UInt8) (h:(zV log r).2=true):(zV log r).1.length≤9000:=by
 unfold zV at h ⊢
 split
 ·rename_i k;exact k.2
 ·rename_i k;rw[if_neg k] at h;cases h
theorem Gx {n:Nat} (h:n≤1048576):decide (0+n≤dh)=true:=by unfold dh;exact decide_eq_true (by omega)
theorem Wg (p:fN.D) (h:A9 p):Wh.q93 p=some (p,()):=by
 have:p.1.length≤1048576:=h
 simp only[Wh.q93,iy,Gx this,cond_true,List.nil_append]
theorem SU (p:fN.D) (h:A9 p):Wh.q36 p=some (p,()):=by
 have:p.1.length≤1048576:=h
 simp only[Wh.q36,iy,Gx this,cond_true,List.nil_append]
theorem acP (s:cx.D) (S:zb s) (h0:s.2.2.2.1.2.1.length≤99999):Wh.q95 s=some (s,()):=by
 have a:=copy_eq s.2.2.2.1 h0
 have b:=Wg s.2.2.2.2.1 S.AG
 simp only[Wh.q95,a,Wh.Gm _ _ a,b,Wh.Rk _ _ b,iy,nQ,Gx S.Ba,Gx S.Bo,cond_true,List.nil_append]
theorem XO (s:cx.D) (S:zb s) (h0:s.2.2.2.1.2.1.length≤99999):Wh.q15 s=some (s,()):=by
 have a:=KW s.2.2.2.1 h0
 have b:=SU s.2.2.2.2.1 S.AG
 simp only[Wh.q15,a,Wh.DR _ _ a,b,Wh.QD _ _ b,iy,nQ,Gx S.Ba,Gx S.Bo,cond_true,List.nil_append]
theorem O2 {s:cx.D} (h:okV s=true):yE s.2.2.2.1:=by
 unfold okV at h
 simp only[Bool.and_eq_true] at h
 obtain⟨_,_,hc,h⟩:=h
 cases hu:s.1 with
 |true=>
  rw[hu] at h
  simp only[cond_true,upV,Bool.and_eq_true,decide_eq_true_eq] at h
  rw[←h.2.1]
  exact N3 hc
 |false=>
  rw[hu] at h
  simp only[cond_false,K4,Bool.and_eq_true,beq_iff_eq,List.length_eq_zero_iff] at h
  have e:s.2.2.2.1=((0:Int),[],()):=by
   rw[←h.1.1.1.1.2,←h.1.1.1.1.1]
  rw[e]
  exact KU
theorem Ui {s:cx.D} (h:okV s=true):s.2.2.1.length≤9000:=by
 unfold okV at h
 simp only[Bool.and_eq_true,decide_eq_true_eq] at h
 exact h.2.1
theorem sm_set {s:cx.D} (S:zb s) {u:Bool} {log:List UInt8} {c:bx.D} (hl:log.length≤9000) (I:yE c):zb (u,s.2.1,log,c,s.2.2.2.2):=by
 have h8:=I.len
 refine⟨by change log.length≤_;omega,by change c.2.1.length≤_;omega,fun x hx=>?_,S.AG,S.Ba,S.Bo⟩
 have:=I.ok x hx
 obtain⟨_,h1,h2⟩:=HH this
 have:=EI _ h1
 exact⟨by omega,by omega⟩
def B9:cx.D:=(false,(0:Int),[],((0:Int),[],()),([],(0:Int),()),[],[],())
theorem rec_is {h:Int} {n t:List UInt8} (hr:zi h n t=true):Eg (xe h n t) (h,n,t):=⟨hr,by unfold xe;rw[if_pos hr]⟩
theorem V4 {h:Int} {n t:List UInt8}:(xe h n t).length≤1000:=by
 unfold xe
 split
 ·rename_i hr
  obtain⟨h1,h2,h3⟩:=D9 hr
  have:=EI n h2
  have:(decDigits h.toNat).length≤7:=zm _ (by omega)
  simp only[List.length_append,List.length_cons]
  omega
 ·simp
theorem ady:zb B9:=⟨by simp[B9],by unfold Ei;simp[B9],by simp[B9],by unfold A9;simp[B9],by simp[B9],by simp[B9]⟩
end Pl
open Go Go.Ab Go.Lib
namespace Pl
theorem Mj {α:Type} (n1:α→Nat) (k:Nat) (h:∀a,n1 a=k) (l:List α):nE n1 l=k*l.length:=by
 induction l with
 |nil=>rfl
 |cons a l ih=>simp only[nE,List.map_cons,List.sum_cons,List.length_cons] at ih ⊢;rw[ih,h,Nat.mul_add];omega
theorem Ud (R:cx.D) (S:zb R):1+((AE R:Nat):Int)<y7:=by
 have h1:R.2.2.2.1.2.1.length≤1048576:=S.cat
 have h2:R.2.2.2.2.1.1.length≤1048576:=S.AG
 have h3:=S.Ba
 have h4:=S.Bo
 unfold AE y3 zD
 rw[Mj w7 4 (fun _=>rfl),Mj wX 5 (fun _=>rfl),Mj th 4 (fun _=>rfl),Mj w8 6 (fun _=>rfl)]
 unfold y7
 omega
structure MarkS (R:cx.D):Prop where
 eq:Wh.Bk (R,R)=some (true,())
 mrk:Wh.CJ (R,1)=some (1+((AE R:Nat):Int),Ch R 1,())
 hd:Wh.CI ((R.1,R.2.1,R.2.2.1,(R.2.2.2.1.1,(Ch R 1).2.2.2.1.2.1,R.2.2.2.1.2.2),((Ch R 1).2.2.2.2.1.1,R.2.2.2.2.1.2),(Ch R 1).2.2.2.2.2.1,(Ch R 1).2.2.2.2.2.2.1,R.2.2.2.2.2.2.2),1)=some (1+((AE R:Nat):Int),())
 ng:decide (1+((AE R:Nat):Int)<0)=false
theorem markS (R:cx.D) (S:zb R):MarkS R:=
 ⟨WY R S,Y1 R 1 (by omega) (Ud R S) S,XI R 1 (by omega) (Ud R S) S,decide_eq_false (by omega)⟩
theorem bneS (x:Int):(x != x)=false:=by simp
end Pl
open Go Go.Ab Go.Lib
namespace Pl
def F0 (e:Int) (f:Fr):Bool:=bif f.2.1==e then f.2.2.2.1==0 else false
def zI (e:Int) (f:Fr) (_:Int):Fr:=bif F0 e f then zF else f
def Aa (_:Fr):Nat:=0
def Es (l:List Fr) (e:Int):List Fr:=ov (zI e) Aa l 0
def Hg (p:Po) (e:Int):Po:=(Es p.1 e,p.2)
theorem drop_set (l:List Fr) (e:Int) (i:Nat) (hi:i<l.length):(bif F0 e l[i] then(part (zI e) Aa 0 l i).set i zF else part (zI e) Aa 0 l i)=part (zI e) Aa 0 l (i+1):=by
 have h:=Hz (zI e) Aa 0 l i hi
 have g:=EJ (zI e) Aa 0 l i zF hi
 have pl:=EK (zI e) Aa 0 l i (by omega)
 rw[getD_eq _ _ _ (by omega)] at g
 rw[←h]
 have k:∀j,zI e l[i] j=bif F0 e l[i] then zF else l[i]:=fun _=>rfl
 rw[k]
 cases hd:F0 e l[i] with
 |true=>rfl
 |false=>
  simp only[cond_false]
  rw[←g]
  exact(List.set_getElem_self (by omega)).symm
theorem acQ (p:Po) (e:Int) (h:A9 p):Wh.q94 (p,e)=some (Hg p e,()):=by
 have hl:p.1.length≤1048576:=h
 have a:=Wg p h
 have q:=xO (r:=Wh.D6) (st:=fun i=>(((i:Int),(),e,()),((),p.2),((),(0:Int),()),part (zI e) Aa 0 p.1 i,[])) (n:=p.1.length) (y:=(((),()),((),(0:Int),()),((),p.2),[],Es p.1 e)) ?_ ?_ 0 (Nat.zero_le _)
 ·have q':Comes Wh.D6 (((0:Int),(),e,()),((),p.2),((),(0:Int),()),p.1,[]) (((),()),((),(0:Int),()),((),p.2),[],Es p.1 e):=by
   have z:=Gf (zI e) Aa 0 p.1
   rw[z] at q;exact q
  simp only[Wh.q94,a,Wh.Rk _ _ a,cb q',cv q',nQ,iy,cond_true,Hg]
 ·intro i hi
  have w:=lg (i:=i) (by omega)
  have pl:=EK (zI e) Aa 0 p.1 i (by omega)
  have g:=EJ (zI e) Aa 0 p.1 i zF hi
  have d:=drop_set p.1 e i hi
  rw[←d]
  unfold zF at g ⊢
  simp only[Wh.D6,pl,gl hi,g0,Int.toNat_natCast,g,w,Bool.or_true,iy,Bool.and_self,cond_true]
  unfold F0
  cases (bif p.1[i].2.1==e then p.1[i].2.2.2.1==0 else false)<;>rfl
 ·have d1:decide ((p.1.length:Int)<(p.1.length:Int))=false:=decide_eq_false (by omega)
  simp only[Wh.D6,Dl,zd,d1,cond_false]
  rfl
theorem XP (p:Po) (e:Int) (h:A9 p):Wh.q34 (p,e)=some (Hg p e,()):=by
 have hl:p.1.length≤1048576:=h
 have a:=SU p h
 have q:=xO (r:=Wh.DM) (st:=fun i=>(((i:Int),(),e,(),(),(p.1.length:Int)),((),p.2),part (zI e) Aa 0 p.1 i,((),(0:Int),()),[])) (n:=p.1.length) (y:=(((),()),((),(0:Int),()),((),p.2),[],Es p.1 e)) ?_ ?_ 0 (Nat.zero_le _)
 ·have q':Comes Wh.DM (((0:Int),(),e,(),(),(p.1.length:Int)),((),p.2),p.1,((),(0:Int),()),[]) (((),()),((),(0:Int),()),((),p.2),[],Es p.1 e):=by
   have z:=Gf (zI e) Aa 0 p.1
   rw[z] at q;exact q
  simp only[Wh.q34,a,Wh.QD _ _ a,cb q',cv q',nQ,iy,cond_true,Hg]
 ·intro i hi
  have w:=lg (i:=i) (by omega)
  have pl:=EK (zI e) Aa 0 p.1 i (by omega)
  have g:=EJ (zI e) Aa 0 p.1 i zF hi
  have d:=drop_set p.1 e i hi
  rw[←d]
  unfold zF at g ⊢
  simp only[Wh.DM,pl,gl hi,g0,Int.toNat_natCast,g,w,iy,Bool.and_self,cond_true]
  unfold F0
  cases (bif p.1[i].2.1==e then p.1[i].2.2.2.1==0 else false)<;>rfl
 ·have d1:decide ((p.1.length:Int)<(p.1.length:Int))=false:=decide_eq_false (by omega)
  simp only[Wh.DM,d1,cond_false,Dl]
  rfl
noncomputable def Ie (s:cx.D) (h:Int) (n:List UInt8):cx.D×Int:=
 bif !s.1 then(s,1) else match yT s.2.2.2.1.2.1 h n with
  |none=>(s,3)
  |some i=>bif !(zV s.2.2.1 (xe h n [])).2 then(s,4) else
   ((s.1,s.2.1,(zV s.2.2.1 (xe h n [])).1,(AP s.2.2.2.1 h n).1,Hg s.2.2.2.2.1 (s.2.2.2.1.2.1.getD i z0).2.2.1,s.2.2.2.2.2),0)
noncomputable def FE (s:cx.D) (h:Int) (n:List UInt8):cx.D×Int:=bif !okV s then(B9,1) else Ie s h n
theorem NZ {l:List It} {h:Int} {n:List UInt8} {i:Nat} (e:yT l h n=some i):i<l.length∧(l.getD i z0).1=h∧(l.getD i z0).2.1=n:=by
 obtain⟨h1,h2,_⟩:=Ay.1 e
 simp only[Bool.and_eq_true,beq_iff_eq] at h2
 exact⟨h1,h2.1,h2.2⟩
theorem adb {c:Ct} (I:yE c) {h:Int} {n:List UInt8} {i:Nat} (e:yT c.2.1 h n=some i):zi h n []=true:=by
 obtain⟨h1,h2,h3⟩:=NZ e
 have hm:c.2.1.getD i z0∈c.2.1:=by rw[getD_eq _ _ _ h1];exact List.getElem_mem h1
 obtain⟨p1,p2,p3⟩:=HH (I.ok _ hm)
 rw[h2] at p1
 rw[h3] at p2
 unfold zi
 rw[decide_eq_true p1,p2];rfl
theorem acX (s:cx.D) (S:zb s) (h:Int) (n:List UInt8) (hn:n.length≤9999999):Wh.CK (s,h,n)=some (FE s h n,()):=by
 have a:=acT s S
 unfold FE
 cases ho:okV s with
 |false=>
  rw[ho] at a
  simp only[Wh.CK,a,Wh.L3 _ _ a,nQ,iy,cond_true,Bool.not_false,B9]
 |true=>
 rw[ho] at a
 have I:=O2 ho
 have h8:=I.len
 have hl:=Ui ho
 have b:=acP s S (by omega)
 have c1:=Rw s.2.2.2.1 h n (by omega)
 have c2:=N2 s.2.2.2.1 I
 have d:=Ry h n [] hn (by simp)
 have hrl:=V4 (h:=h) (n:=n) (t:=[])
 have e:=acN s.2.2.1 (xe h n []) (by omega) (by omega)
 have f:=S7 s.2.2.2.1 I (xe h n []) (by omega)
 have g:Wh.E0 (s,xe h n [])=some (bif !(zV s.2.2.1 (xe h n [])).2 then(s,4) else bif !(zW s.2.2.2.1 (xe h n [])).2 then(s,1) else((s.1,s.2.1,(zV s.2.2.1 (xe h n [])).1,(zW s.2.2.2.1 (xe h n [])).1,s.2.2.2.2),0),()):=by
  simp only[Wh.E0,e,Wh.UI _ _ e,f,Wh.LG _ _ f,nQ,iy,cond_true]
  cases (zV s.2.2.1 (xe h n [])).2<;>cases (zW s.2.2.2.1 (xe h n [])).2<;>rfl
 unfold Ie
 cases cE:yT s.2.2.2.1.2.1 h n with
 |none=>
  rw[cE] at c1
  have c:Wh.Cp (s.2.2.2.1,h,n)=some ((((0:Int),[],(0:Int),[],()),false),()):=by
   simp only[Wh.Cp,c1,Wh.Fi _ _ c1,c2,Wh.Dy _ _ c2,nQ,iy,cond_true,Bool.not_true,cond_false,Hf]
  simp only[Wh.CK,a,Wh.L3 _ _ a,b,Wh.Rm _ _ b,c,Wh.Pz _ _ c,nQ,iy,cond_true,cond_false,Bool.not_true,Bool.not_false]
  cases s.1<;>rfl
 |some i=>
  rw[cE] at c1
  obtain⟨hi,_,_⟩:=NZ cE
  have c:Wh.Cp (s.2.2.2.1,h,n)=some ((s.2.2.2.1.2.1.getD i z0,true),()):=by
   have p1:decide ((0:Int)≤(i:Int))=true:=decide_eq_true (by omega)
   have p2:decide ((i:Int)<(s.2.2.2.1.2.1.length:Int))=true:=decide_eq_true (by omega)
   have p3:decide ((i:Int)<0)=false:=decide_eq_false (by omega)
   simp only[Wh.Cp,c1,Wh.Fi _ _ c1,c2,Wh.Dy _ _ c2,nQ,iy,cond_true,Bool.not_true,cond_false,Aj,p1,p2,p3,Int.toNat_natCast,Bool.and_self,z0]
  have k1:=adb I cE
  have k3:=KP (c:=s.2.2.2.1) (O6 (rec_is k1))
  have k4:(AP s.2.2.2.1 h n).2=0:=by unfold AP;rw[cE]
  rw[if_pos rfl,k4] at k3
  rw[k3] at g
  have dr:=acQ s.2.2.2.2.1 (s.2.2.2.1.2.1.getD i z0).2.2.1 S.AG
  simp only[Wh.CK,a,Wh.L3 _ _ a,b,Wh.Rm _ _ b,c,Wh.Pz _ _ c,d,Wh.LZ _ _ d,g,Wh.UP _ _ g,nQ,iy,Bool.and_self,cond_true,cond_false,Bool.not_true,beq_self_eq_true]
  cases s.1 with
  |false=>rfl
  |true=>
  cases (zV s.2.2.1 (xe h n [])).2 with
  |false=>rfl
  |true=>
   simp only[Bool.not_true,cond_false,dr,Wh.q94_v _ _ dr,cond_true]
   rfl
theorem XV (s:cx.D) (S:zb s) (h:Int) (n:List UInt8) (hn:n.length≤9999999):Wh.CH (s,h,n)=some (FE s h n,()):=by
 have a:=XR s S
 unfold FE
 cases ho:okV s with
 |false=>
  rw[ho] at a
  simp only[Wh.CH,a,Wh.QO _ _ a,nQ,iy,cond_true,Bool.not_false,B9]
 |true=>
 rw[ho] at a
 have I:=O2 ho
 have h8:=I.len
 have hl:=Ui ho
 have b:=XO s S (by omega)
 have c1:=Oi s.2.2.2.1 h n (by omega)
 have d:=Oj h n [] hn (by simp)
 have hrl:=V4 (h:=h) (n:=n) (t:=[])
 have e:=XK s.2.2.1 (xe h n []) (by omega) (by omega)
 have t:=SW s.2.2.2.1 h n (by omega)
 have f:Wh.q14 (s,h,n)=some (Ie s h n,()):=by
  unfold Ie
  cases cE:yT s.2.2.2.1.2.1 h n with
  |none=>
   rw[cE] at c1
   simp only[Wh.q14,b,Wh.Qo _ _ b,c1,Wh.Fk _ _ c1,nQ,iy,cond_true,Hf]
   cases s.1<;>rfl
  |some i=>
   rw[cE] at c1
   obtain⟨hi,_,_⟩:=NZ cE
   have p1:decide ((0:Int)≤(i:Int))=true:=decide_eq_true (by omega)
   have p2:decide ((i:Int)<(s.2.2.2.1.2.1.length:Int))=true:=decide_eq_true (by omega)
   have p3:decide ((i:Int)<0)=false:=decide_eq_false (by omega)
   have dr:=XP s.2.2.2.2.1 (s.2.2.2.1.2.1.getD i z0).2.2.1 S.AG
   unfold z0 at dr ⊢
   simp only[Wh.q14,b,Wh.Qo _ _ b,c1,Wh.Fk _ _ c1,d,Wh.LV _ _ d,e,Wh.Uw _ _ e,t,Wh.QL _ _ t,Aj,p1,p2,p3,Int.toNat_natCast,dr,Wh.q34_v _ _ dr,nQ,iy,Bool.and_self,cond_true,cond_false]
   cases s.1 with
   |false=>rfl
   |true=>
   cases (zV s.2.2.1 (xe h n [])).2<;>rfl
 simp only[Wh.CH,a,Wh.QO _ _ a,f,Wh.q14_v _ _ f,nQ,iy,cond_true,cond_false,Bool.not_true]
theorem ada (s:cx.D) (S:zb s) (h:Int) (n:List UInt8):zb (FE s h n).1:=by
 unfold FE
 cases ho:okV s with
 |false=>exact ady
 |true=>
 unfold Ie
 cases s.1 with
 |false=>exact S
 |true=>
 cases yT s.2.2.2.1.2.1 h n with
 |none=>exact S
 |some i=>
 cases ha:(zV s.2.2.1 (xe h n [])).2 with
 |false=>exact S
 |true=>
  have k:=sm_set S (u:=true) (Wv _ _ ha) (Wk _ (O2 ho) h n)
  refine⟨k.log,k.cat,k.items,?_,k.Ba,k.Bo⟩
  change (Es s.2.2.2.2.1.1 _).length≤_
  unfold Es
  rw[zd]
  exact S.AG
theorem X5 (s:cx.D) (h:Int) (n:List UInt8) (hb:fR cx s≤1048576) (hn:n.length≤9999999):Wh.q5 (s,h,n)=some (true,()):=by
 have S:=acL s hb
 obtain⟨v,hv⟩:=ac_ s 1048576 S
 have e1:=adq s S
 have e3:=acX s S h n hn
 have e4:=XV s S h n hn
 have SR:=ada s S h n
 generalize FE s h n=r at *
 obtain⟨R,code⟩:=r
 have M0:=markS s S
 have M:=markS R SR
 have v3:=Wh.q29_v _ _ e3
 have v4:=Wh.q22_v _ _ e4
 simp only[Wh.q5,hv,Wh.q64_v _ _ hv,e1,Wh.q68_v _ _ e1,e3,v3,e4,v4,M0.eq,Wh.Q3 _ _ M0.eq,M0.mrk,Wh.Qx _ _ M0.mrk,M0.ng,M.eq,Wh.Q3 _ _ M.eq,M.mrk,Wh.Qx _ _ M.mrk,M.hd,Wh.q25_v _ _ M.hd,M.ng,bneS,nQ,iy,Bool.or_true,Bool.and_self,Bool.not_true,Bool.not_false,cond_true,cond_false]
 cases decide ((n.length:Int)>1048576) with
 |true=>rfl
 |false=>
 cases decide (v<0)<;>rfl
end Pl
