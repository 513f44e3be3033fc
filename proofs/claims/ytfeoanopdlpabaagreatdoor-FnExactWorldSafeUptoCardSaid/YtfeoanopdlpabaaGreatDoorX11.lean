import Derived.Test.YtfeoanopdlpabaaGreatDoorX10
open Go Go.Ab Go.Lib
namespace Pl
def Ez (c:nc.D):List UInt8:=Pc.HQ c.2.2.2.2.2.1
def Dx (w:Wd)(c:nc.D):It:=w.2.2.2.1.getD (c.2.2.2.2.1-1).toNat z0
def Ew (w:Wd)(c:nc.D):Bool:=bif c.2.2.2.2.1==0 then false else
 (((((Dx w c).1 != Int.tmod c.1 2) || !((Dx w c).2.1==c.2.2.2.1)) || !decide (Ez c <+:(Dx w c).2.2.2.1)) || (c.2.2.2.2.2.1.1.1 != ((Dx w c).2.2.2.1.length:Int))) || (bif c.2.2.1==3 then !(Ez c==(Dx w c).2.2.2.1) else false)
def HN (w:Wd):Bool:=jS w.2.1.length fun i=> !Ew w (w.2.1.getD i zC)
theorem WC {w:Wd}(h:Bc w=true){i:Nat}(hi:i<w.2.1.length):Pc.AH (w.2.1.getD i zC)=true∧(w.2.1.getD i zC).2.2.2.2.1≤(w.2.2.2.1.length:Int):=by
 unfold Bc at h
 simp only[Bool.and_eq_true] at h
 have:=oL.1 h.2.1 i hi
 unfold EL at this
 cases hk:Pc.AH (w.2.1.getD i zC) with
 |false=>rw[hk] at this;cases this
 |true=>
  rw[hk] at this
  cases h1:((w.2.1.getD i zC).1 != (i:Int)) with
  |true=>rw[h1] at this;cases this
  |false=>
   rw[h1] at this
   simp only[Bool.not_true,cond_false,Bool.not_eq_true',decide_eq_false_iff_not] at this
   exact⟨rfl,by omega⟩
theorem cl_ed {c:nc.D}(h:Pc.AH c=true):0≤c.2.2.2.2.1∧c.2.2.2.2.1≤99999:=by
 unfold Pc.AH at h
 simp only[Bool.and_eq_true,decide_eq_true_eq] at h
 exact h.1.1.2
theorem ac_ {c:nc.D}(hg:Pc.z6 c.2.2.2.2.2.1=true):(Ez c).length≤384:=by
 obtain⟨hp,hs,_,_⟩:=Pc.JQ hg
 have h1:=(Pc.IV hs).1
 have h2:=Pc.Tc c.2.2.2.2.2.1.2.1
 have h3:=Pc.PD hs (Pc.pre c.2.2.2.2.2.1.2.1)
 unfold Ez Pc.HQ
 rw[List.length_take]
 omega
theorem edc {w:Wd}(h:Bc w=true){i:Nat}(hi:i<w.2.1.length)(hne:((w.2.1.getD i zC).2.2.2.2.1==0)=false) :
  ∃e:Nat,(w.2.1.getD i zC).2.2.2.2.1=(e:Int)∧1≤e∧e≤99999∧e≤w.2.2.2.1.length:=by
 obtain⟨hc,hl⟩:=WC h hi
 have h2:=cl_ed hc
 have h3:(w.2.1.getD i zC).2.2.2.2.1≠0:=by simpa using hne
 exact⟨(w.2.1.getD i zC).2.2.2.2.1.toNat,by omega,by omega,by omega,by omega⟩
theorem preB (s t:List UInt8):(decide ((s.length:Int)>(t.length:Int)) || !(List.take s.length t==s)) = !decide (s <+:t):=by
 by_cases h:s <+:t
 ·have h1:=List.prefix_iff_eq_take.1 h
  have h2:=h.length_le
  rw[decide_eq_true h,decide_eq_false (by omega),←h1]
  simp
 ·rw[decide_eq_false h]
  by_cases h1:(s.length:Int)>(t.length:Int)
  ·rw[decide_eq_true h1];rfl
  ·have:(List.take s.length t==s)=false:=by
    rw[beq_eq_false_iff_ne]
    intro e
    exact h (List.prefix_iff_eq_take.2 e.symm)
   rw[this,Bool.not_false,Bool.or_true]
theorem ac1 (w:Wd)(S:zD w)(W:Bc w=true)(i:Nat)(hi:i<w.2.1.length) :
  Wh.C0 (((i:Int),()),w)=if Ew w (w.2.1.getD i zC)=true then some (.inr (.inl (false,()))) else some (.inl ((((i+1:Nat):Int),()),w)):=by
 have hl:=S.cls
 have wr:=lg (show i≤4611686018427387904 by omega)
 have hS:=S.cl _ (show w.2.1.getD i zC∈w.2.1 by rw[getD_eq _ _ _ hi];exact List.getElem_mem hi)
 obtain⟨hc,_⟩:=WC W hi
 cases hz:((w.2.1.getD i zC).2.2.2.2.1==0) with
 |true=>
  unfold Ew
  rw[hz]
  unfold zC at hz
  simp only[Wh.C0,gl hi,g0,Int.toNat_natCast,hz,iy,Bool.and_self,cond_true,wr]
  rfl
 |false=>
  obtain⟨e,he,h1,h2,h3⟩:=edc W hi hz
  have hg:=Pc.R1 hc hz
  have a:=Pc.alg _ hS.sm hg
  have tl:=ac_ hg
  change Wh.Ff (w.2.1.getD i zC).2.2.2.2.2.1=some (Ez (w.2.1.getD i zC),()) at a
  have we:=edw h1 h2
  have hh (x:Int):Wh.q80 x=some (Int.tmod x 2,()):=rfl
  have et:((e:Int)-1).toNat=e-1:=by omega
  have c0:decide ((0:Int)≤((e-1:Nat):Int))=true:=decide_eq_true (by omega)
  have c1:decide (((e-1:Nat):Int)<(w.2.2.2.1.length:Int))=true:=decide_eq_true (by omega)
  have z00:decide ((0:Int)≤0)=true:=rfl
  unfold Ew
  rw[hz]
  simp only[cond_false]
  have hT:Dx w (w.2.1.getD i zC)=w.2.2.2.1.getD (e-1) z0:=by unfold Dx;rw[he,et]
  rw[hT]
  have c3 (A:Bool) (T s:List UInt8):((!!(A || decide ((s.length:Int)>(T.length:Int)))) || decide ((s.length:Int)≤(T.length:Int)))=true:=by
   by_cases h:(s.length:Int)≤(T.length:Int)
   ·rw[decide_eq_true h,Bool.or_true]
   ·rw[decide_eq_true (show(s.length:Int)>(T.length:Int) by omega),Bool.or_true];rfl
  generalize Ez (w.2.1.getD i zC)=s at *
  have fin (A B E F:Bool) (T:List UInt8) (X Y:Option ((((Int)×(Unit))×((gv.D)))⊕((((Bool))×(Unit))⊕((Unit)×(Unit))))) :
    (bif(((((A || B) || decide ((s.length:Int)>(T.length:Int))) || !(List.take s.length T==s)) || E) || F) then X else Y)=if((((A || B) || !decide (s <+:T)) || E) || F)=true then X else Y:=by
   rw[←preB s T,←BJ]
   simp only[Bool.or_assoc]
  have hz':((e:Int)==0)=false:=by rw[he] at hz;exact hz
  unfold zC at he hz a ⊢
  unfold z0
  simp only[Wh.C0,gl hi,g0,Int.toNat_natCast,hz',he,we,c0,c1,a,Wh.aa7 _ _ a,hh,Wh.Pd _ _ (hh _),Ia,c3,z00,nQ,iy,Bool.or_true,Bool.and_self,cond_true,cond_false,wr,Int.sub_zero,show Int.toNat 0=0 from rfl,List.drop_zero]
  exact fin _ _ _ _ _ _ _
theorem Yw (w:Wd)(S:zD w)(W:Bc w=true)(i:Nat)(hi:i<w.2.1.length) :
  Wh.CZ (((i:Int),(),w.2.1,(w.2.1.length:Int)),w)=if Ew w (w.2.1.getD i zC)=true then some (.inr (.inl (false,()))) else some (.inl ((((i+1:Nat):Int),(),w.2.1,(w.2.1.length:Int)),w)):=by
 have hl:=S.cls
 have wr:=lg (show i≤4611686018427387904 by omega)
 have hS:=S.cl _ (show w.2.1.getD i zC∈w.2.1 by rw[getD_eq _ _ _ hi];exact List.getElem_mem hi)
 obtain⟨hc,_⟩:=WC W hi
 cases hz:((w.2.1.getD i zC).2.2.2.2.1==0) with
 |true=>
  unfold Ew
  rw[hz]
  unfold zC at hz
  simp only[Wh.CZ,gl hi,g0,Int.toNat_natCast,hz,iy,Bool.and_self,cond_true,wr]
  rfl
 |false=>
  obtain⟨e,he,h1,h2,h3⟩:=edc W hi hz
  have hg:=Pc.R1 hc hz
  have hnm:=hS.name
  have a:=Pc.afb _ hS.sm (by omega:(w.2.1.getD i zC).2.2.2.1.length≤4611686018427387904)
  have tl:=ac_ hg
  have ht:Pc.Ic (w.2.1.getD i zC)=Ez (w.2.1.getD i zC):=by
   unfold Pc.Ic
   rw[hc,hz];rfl
  rw[ht] at a
  have we:=edw h1 h2
  have hh (x:Int):Wh.q92 x=some (Int.tmod x 2,()):=rfl
  have et:((e:Int)-1).toNat=e-1:=by omega
  have c0:decide ((0:Int)≤((e-1:Nat):Int))=true:=decide_eq_true (by omega)
  have c1:decide (((e-1:Nat):Int)<(w.2.2.2.1.length:Int))=true:=decide_eq_true (by omega)
  unfold Ew
  rw[hz]
  simp only[cond_false]
  have hT:Dx w (w.2.1.getD i zC)=w.2.2.2.1.getD (e-1) z0:=by unfold Dx;rw[he,et]
  rw[hT]
  have hm:w.2.2.2.1.getD (e-1) z0∈w.2.2.2.1:=by rw[getD_eq _ _ _ (by omega)];exact List.getElem_mem _
  have b:=Sk (w.2.2.2.1.getD (e-1) z0).2.2.2.1 (Ez (w.2.1.getD i zC)) (by have:=(S.its _ hm).2;omega) (by omega)
  generalize Ez (w.2.1.getD i zC)=s at *
  have fin (A B P E F:Bool) (X Y:Option ((((Int)×(Unit)×(List (nc.D))×(Int))×((gv.D)))⊕((((Bool))×(Unit))⊕((Unit)×(Unit))))) :
    (bif(((A || B) || P) || E) then X else(bif F then X else Y))=if((((A || B) || P) || E) || F)=true then X else Y:=by
   rw[←BJ]
   cases (((A || B) || P) || E)<;>rfl
  have hz':((e:Int)==0)=false:=by rw[he] at hz;exact hz
  unfold zC at he hz a ⊢
  unfold z0 at b ⊢
  simp only[Wh.CZ,gl hi,g0,Int.toNat_natCast,hz',he,we,c0,c1,a,Wh.q19_v _ _ a,b,Wh.OH _ _ b,hh,Wh.Pg _ _ (hh _),Ia,nQ,iy,Bool.or_true,Bool.and_self,cond_true,cond_false,wr]
  exact fin _ _ _ _ _ _ _
theorem ak1 (w:Wd)(S:zD w):Wh.q42 w=some (Bc w&&HN w,()):=by
 have a:=ak4 w S
 cases W:Bc w with
 |false=>
  rw[W] at a
  simp only[Wh.q42,a,Wh.Tp _ _ a,nQ,iy,cond_true,Bool.not_false,Bool.false_and]
 |true=>
  rw[W] at a
  have q:=xW (r:=Wh.C0) (fun i=>(((i:Int),()),w)) (n:=w.2.1.length) (p:=fun i=> !Ew w (w.2.1.getD i zC)) (yf:=.inl (false,())) (yt:=.inr ((),())) (fun i hi _ hp=>by
    rw[ac1 w S W i hi,if_neg (by simpa using hp)]) (fun i hi _ hp=>by
    rw[ac1 w S W i hi,if_pos (by simpa using hp)]) (by simp only[Wh.C0,BO,cond_false])
  have q':Comes Wh.C0 (((0:Int),()),w) (if HN w=true then _ else _):=q
  simp only[Wh.q42,a,Wh.Tp _ _ a,cb q',cv q',nQ,iy,cond_true,cond_false,Bool.not_true,Bool.true_and]
  cases HN w<;>rfl
theorem ae8 (w:Wd)(S:zD w):Wh.q27 w=some (Bc w&&HN w,()):=by
 have a:=afa w S
 cases W:Bc w with
 |false=>
  rw[W] at a
  simp only[Wh.q27,a,Wh.V8 _ _ a,nQ,iy,cond_true,Bool.not_false,Bool.false_and]
 |true=>
  rw[W] at a
  have q:=xW (r:=Wh.CZ) (fun i=>(((i:Int),(),w.2.1,(w.2.1.length:Int)),w)) (n:=w.2.1.length) (p:=fun i=> !Ew w (w.2.1.getD i zC)) (yf:=.inl (false,())) (yt:=.inr ((),())) (fun i hi _ hp=>by
    rw[Yw w S W i hi,if_neg (by simpa using hp)]) (fun i hi _ hp=>by
    rw[Yw w S W i hi,if_pos (by simpa using hp)]) (by simp only[Wh.CZ,BO,cond_false])
  have q':Comes Wh.CZ (((0:Int),(),w.2.1,(w.2.1.length:Int)),w) (if HN w=true then _ else _):=q
  simp only[Wh.q27,a,Wh.V8 _ _ a,cb q',cv q',nQ,iy,cond_true,cond_false,Bool.not_true,Bool.true_and]
  cases HN w<;>rfl
theorem afw (w:Wd)(h:fR gv w≤1048576):Wh.q5 w=some (true,()):=by
 have S:=smW_of w h
 obtain⟨v,hv⟩:=alC w 1048576 S
 have e1:=alZ w S
 have e2:=adV w S
 have e3:=ak1 w S
 have e4:=ae8 w S
 generalize (Bc w&&HN w)=x at e3 e4
 have c:(x==x)=true:=beq_self_eq_true _
 simp only[Wh.q5,hv,Wh.aan _ _ hv,e1,Wh.aar _ _ e1,e2,Wh.q98_v _ _ e2,e3,Wh.q42_v _ _ e3,e4,Wh.q27_v _ _ e4,c,nQ,iy,Bool.and_self,cond_true,cond_false,Bool.not_true]
 cases decide (v<0)<;>rfl
end Pl
