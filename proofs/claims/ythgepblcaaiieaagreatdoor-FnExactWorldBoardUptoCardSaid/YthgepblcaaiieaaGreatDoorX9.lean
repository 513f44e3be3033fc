import Derived.Test.YthgepblcaaiieaaGreatDoorX8
set_option linter.defProp false
namespace Wh
end Wh
open Wh
open Go Go.Ab Go.Lib
namespace Pl
instance itDec:DecidableEq It:=inferInstanceAs (DecidableEq (Int×List UInt8×Int×List UInt8×Unit))
instance ctDec:DecidableEq Ct:=fun a b=>if h1:a.1=b.1 then if h2:a.2.1=b.2.1 then .isTrue (by obtain⟨_,_,_⟩:=a;obtain⟨_,_,_⟩:=b;simp_all) else .isFalse (fun e=>h2 (by rw[e])) else .isFalse (fun e=>h1 (by rw[e]))
def F1 (a b:It):(a.1==b.1&&(a.2.1==b.2.1&&(a.2.2.1==b.2.2.1&&(a.2.2.2.1==b.2.2.2.1&&true))))=decide (a=b):=by
 obtain⟨a1,a2,a3,a4,a5⟩:=a
 obtain⟨b1,b2,b3,b4,b5⟩:=b
 rw[zl105]
 simp
def Yi (a b:List It)(h:a.length=b.length):cx a.length (fun i=>decide (a.getD i z0=b.getD i z0))=decide (a=b):=by
 rw[zl105,oc,zl106]
 constructor
 ·intro hh
  refine List.ext_getElem h fun i h1 h2=>?_
  have:=zl79 (hh i h1)
  rwa[getD_eq _ _ _ h1,getD_eq _ _ _ h2] at this
 ·rintro rfl i _;exact zl86 rfl
def ct_eq (a b:Ct)(hl:a.2.1.length=b.2.1.length):(decide (a.1=b.1)&&decide (a.2.1=b.2.1))=decide (a=b):=by
 obtain⟨a1,a2,a3⟩:=a
 obtain⟨b1,b2,b3⟩:=b
 rw[zl105]
 simp
def akf (a b:Ct)(hl:a.2.1.length≤9999999):DS (a,b)=some (decide (a=b),()):=by
 by_cases h1:a.1=b.1
 ·by_cases h2:a.2.1.length=b.2.1.length
  ·have c1:(a.1 != b.1)=false:=by simp[h1]
   have c2:((a.2.1.length:Int) != (b.2.1.length:Int))=false:=by simp[h2]
   have q:=nC (r:=EL) (fun i=>(((i:Int),(),()),b,a)) (n:=a.2.1.length) (p:=fun i=>decide (a.2.1.getD i z0=b.2.1.getD i z0)) (yf:=.inl (false,())) (yt:=.inr ((),())) (fun i hi _ hp=>by
     have hp':=(F1 (a.2.1.getD i z0) (b.2.1.getD i z0)).trans hp
     unfold z0 at hp'
     simp only[EL,gl hi,gl (show i<b.2.1.length by omega),g0,zl94,hp',zU,zl92,zl70,aG,eF,gT (i:=i)]) (fun i hi _ hp=>by
     have hp':=(F1 (a.2.1.getD i z0) (b.2.1.getD i z0)).trans hp
     unfold z0 at hp'
     simp only[EL,gl hi,gl (show i<b.2.1.length by omega),g0,zl94,hp',zU,zl92,zl98,aG]) (by
     have d1:decide ((a.2.1.length:Int)<(a.2.1.length:Int))=false:=zdf
     simp only[EL,d1,eF])
   rw[Yi _ _ h2] at q
   have q':Comes EL ((0,(),()),b,a) _:=q
   simp only[DS,c1,c2,eF,cb q',cv q',aG]
   rw[←ct_eq a b h2,zl86 h1,zl108]
   cases decide (a.2.1=b.2.1)<;>rfl
  ·have c1:(a.1 != b.1)=false:=by simp[h1]
   have c2:((a.2.1.length:Int) != (b.2.1.length:Int))=true:=bne_iff_ne.2 (by omega)
   simp only[DS,c1,c2,eF,aG]
   rw[zl90 (by rintro rfl;exact h2 rfl)]
 ·have c1:(a.1 != b.1)=true:=bne_iff_ne.2 h1
  simp only[DS,c1,aG]
  rw[zl90 (by rintro rfl;exact h1 rfl)]
def aea (a b:Ct)(hl:a.2.1.length≤9999999):q96 (a,b)=some (decide (a=b),()):=by
 have he:EP (a.2.1,b.2.1)=some (decide (a.2.1=b.2.1),()):=by
  by_cases h2:a.2.1.length=b.2.1.length
  ·have c2:((a.2.1.length:Int) != (b.2.1.length:Int))=false:=by simp[h2]
   have q:=nC (r:=ET) (fun i=>(((i:Int),b.2.1,a.2.1,(a.2.1.length:Int)),())) (n:=a.2.1.length) (p:=fun i=>decide (a.2.1.getD i z0=b.2.1.getD i z0)) (yf:=.inl (false,())) (yt:=.inr ((),())) (fun i hi _ hp=>by
     have hp':=(F1 (a.2.1.getD i z0) (b.2.1.getD i z0)).trans hp
     unfold z0 at hp'
     simp only[ET,gl hi,gl (show i<b.2.1.length by omega),g0,zl94,hp',zU,zl92,zl70,aG,eF,gT (i:=i)]) (fun i hi _ hp=>by
     have hp':=(F1 (a.2.1.getD i z0) (b.2.1.getD i z0)).trans hp
     unfold z0 at hp'
     simp only[ET,gl hi,gl (show i<b.2.1.length by omega),g0,zl94,hp',zU,zl92,zl98,aG]) (by
     have d1:decide ((a.2.1.length:Int)<(a.2.1.length:Int))=false:=zdf
     simp only[ET,d1,eF])
   rw[Yi _ _ h2] at q
   have q':Comes ET ((0,b.2.1,a.2.1,(a.2.1.length:Int)),()) _:=q
   simp only[EP,c2,eF,cb q',cv q',aG]
   cases decide (a.2.1=b.2.1)<;>rfl
  ·have c2:((a.2.1.length:Int) != (b.2.1.length:Int))=true:=bne_iff_ne.2 (by omega)
   simp only[EP,c2,aG]
   rw[zl90 (fun e=>h2 (by rw[e]))]
 have hd:(bif a.1==b.1 then decide (a.2.1=b.2.1) else false)=decide (a=b):=by
  obtain⟨a1,a2,a3⟩:=a
  obtain⟨b1,b2,b3⟩:=b
  by_cases h1:a1=b1
  ·simp[h1]
  ·simp[h1]
 simp only[q96,he,zov he,isSm,zl99,zU,aG,hd]
def Bi (l:List It)(e:Int):Option Nat:=first l.length fun i=>(l.getD i z0).2.2.1==e
def edI (l:List It):Option Nat→It
 |some i=>l.getD i z0
 |none=>z0
def abK (c:Ct)(e:Int)(hl:c.2.1.length≤9999999):Fm (c,e)=some ((edI c.2.1 (Bi c.2.1 e),(Bi c.2.1 e).isSome),()):=by
 obtain⟨ce,l,u⟩:=c
 have hl:l.length≤9999999:=hl
 have q:=C0 (r:=Fo) (fun i=>(((),(i:Int),(),e),((0:Int),([]:List UInt8),(0:Int),([]:List UInt8),()),(ce,l,u))) (n:=l.length) (p:=fun i=>(l.getD i z0).2.2.1==e) (yt:=fun i=>.inl (((),true),l.getD i z0)) (yn:=.inr ((),(0:Int),[],(0:Int),[],())) (fun i hi hp=>by
   have hp':((l.getD i z0).2.2.1==e)=false:=hp
   unfold z0 at hp'
   simp only[Fo,gl hi,g0,zl94,hp',zU,zl92,aG,eF,gT (i:=i)]) (fun i hi hp=>by
   have hp':((l.getD i z0).2.2.1==e)=true:=hp
   unfold z0 at hp' ⊢
   simp only[Fo,gl hi,g0,zl94,hp',zU,zl92,aG]) (by
   have d1:decide ((l.length:Int)<(l.length:Int))=false:=zdf
   simp only[Fo,d1,eF])
 have q':Comes Fo (((),0,(),e),((0:Int),([]:List UInt8),(0:Int),([]:List UInt8),()),(ce,l,u)) _:=q
 simp only[Fm,cb q',cv q',aG,Bi]
 cases first l.length (fun i=>(l.getD i z0).2.2.1==e)<;>rfl
def XN (c:Ct)(e:Int)(hl:c.2.1.length≤9999999):EZ (c,e)=some (Cy (Bi c.2.1 e),()):=by
 obtain⟨ce,l,u⟩:=c
 have hl:l.length≤9999999:=hl
 have f (x:It):IC (x,e)=some ((x.2.2.1==e),()):=rfl
 have q:=C0 (r:=Fi) (fun i=>(((i:Int),l,(e,()),(l.length:Int)),())) (n:=l.length) (p:=fun i=>(l.getD i z0).2.2.1==e) (yt:=fun i=>.inl ((i:Int),())) (yn:=.inr ((),())) (fun i hi hp=>by
   have hp':((l.getD i z0).2.2.1==e)=false:=hp
   unfold z0 at hp'
   simp only[Fi,gl hi,g0,zl94,f,zov (f _),hp',isSm,zU,zl92,aG,eF,gT (i:=i)]) (fun i hi hp=>by
   have hp':((l.getD i z0).2.2.1==e)=true:=hp
   unfold z0 at hp'
   simp only[Fi,gl hi,g0,zl94,f,zov (f _),hp',isSm,zU,zl92,aG]) (by
   have d1:decide ((l.length:Int)<(l.length:Int))=false:=zdf
   simp only[Fi,d1,eF])
 have q':Comes Fi ((0,l,(e,()),(l.length:Int)),()) _:=q
 have h:Wh.q2 (l,e,())=some (Cy (Bi l e),()):=by
  simp only[Wh.q2,cb q',cv q',aG,Bi]
  cases first l.length (fun i=>(l.getD i z0).2.2.1==e)<;>rfl
 simp only[EZ,h,zov h,isSm,zU,aG]
def WR:Ax=zT:=rfl
def BF (a b:Int):Int:=IntKind.wrap .i64 (Int.tdiv (IntKind.wrap .i64 (IntKind.wrap .i64 (a+b)-1)) b)
def count_eq (a b:Int)(x y:List Int)(u:Unit)(h:b≠0):zT (a,b,x,y,u)=some (BF a b,()):=by
 have c:(b != 0)=true:=bne_iff_ne.2 h
 simp only[zT,c,zU,aG];rfl
def aci (a b:Nat)(ha:a≤100000)(hb:1≤b)(cH:b≤1000):BF a b=(((a+b-1) / b:Nat):Int):=by
 have w1:IntKind.wrap .i64 ((a:Int)+(b:Int))=((a+b:Nat):Int):=wi (by omega) (by omega)
 have w2:IntKind.wrap .i64 (((a+b:Nat):Int)-1)=((a+b-1:Nat):Int):=wi (by omega) (by omega)
 have w3:Int.tdiv ((a+b-1:Nat):Int) (b:Int)=(((a+b-1) / b:Nat):Int):=by rw[zl91 (by omega)];rfl
 have hle:(a+b-1) / b≤a+b-1:=Nat.div_le_self _ _
 rw[BF,w1,w2,w3];exact wi rfl (by omega)
def adR (L:Nat)(hL:L≤300):∀d s:Nat,s+d=13→1≤s→∃s':Nat,1≤s'∧s'≤13∧Comes Fa (((),()),((L:Int),(s:Int),(),(),()),((0:Int),(0:Int),(),(),()),[],[],[],[]) (((),()),((0:Int),(0:Int),(),(),()),((L:Int),(s':Int),(),(),()),[],[],[],[]):=by
 intro d
 induction d with
 |zero=>
  intro s h1 h2
  have:s=13:=by omega
  subst this
  refine⟨13,by omega,by omega,.out ?_⟩
  have a:=count_eq (L:Int) ((13:Nat):Int) [] [] () (by omega)
  rw[aci L 13 (by omega) (by omega) (by omega)] at a
  have c1:decide ((((L+13-1) / 13:Nat):Int)>24)=false:=zdf
  simp only[Fa,a,zov a,c1,isSm,zU,aG,eF]
 |succ d ih=>
  intro s h1 h2
  have a:=count_eq (L:Int) (s:Int) [] [] () (by omega)
  cases hc:decide (BF (L:Int) (s:Int)>24) with
  |true=>
   obtain⟨s',g1,g2,g3⟩:=ih (s+1) (by omega) (by omega)
   refine⟨s',g1,g2,.again ?_ g3⟩
   simp only[Fa,a,zov a,hc,isSm,zU,aG,gT (i:=s)]
  |false=>
   refine⟨s,by omega,by omega,.out ?_⟩
   simp only[Fa,a,zov a,hc,isSm,zU,aG,eF]
def ZM (L:Nat)(h1:1≤L)(hL:L≤300):∃P:fe.D,P.2.1≠0∧Df (L:Int)=some (P,())∧Fy (L:Int)=some (P,()):=by
 obtain⟨s,g1,g2,g3⟩:=adR L hL 5 8 (by omega) (by omega)
 have g3':Comes Fa (((),()),((L:Int),(8:Int),(),(),()),((0:Int),(0:Int),(),(),()),[],[],[],[]) _:=g3
 have g4:Comes La (((),()),((L:Int),(8:Int),(),(),()),((0:Int),(0:Int),(),(),()),[],[],[],[]) _:=g3
 have a:=count_eq (L:Int) (s:Int) [] [] () (by omega)
 have wi1:gk (L:Int) 1 300=true:=zdt
 cases hk:decide (IntKind.wrap .i64 (Int.tdiv (IntKind.wrap .i64 (BF (L:Int) (s:Int)+3)) 4)<BF (L:Int) (s:Int)) with
 |true=>
  refine⟨((L:Int),(s:Int),[IntKind.wrap .i64 (Int.tdiv (IntKind.wrap .i64 (BF (L:Int) (s:Int)+3)) 4),BF (L:Int) (s:Int)],[(2:Int),(3:Int)],()),by simp only;omega,?_,?_⟩
  ·simp only[Df,cb g3',cv g3',aG,a,zov a,hk,isSm,zU]
  ·simp only[Fy,Ad,zov (Ad _ _ _),wi1,cb g4,cv g4,aG,eF,zl70,WR,a,zov a,hk,isSm,zU]
 |false=>
  refine⟨((L:Int),(s:Int),[BF (L:Int) (s:Int)],[(1:Int)],()),by simp only;omega,?_,?_⟩
  ·simp only[Df,cb g3',cv g3',aG,a,zov a,hk,isSm,zU,eF]
  ·simp only[Fy,Ad,zov (Ad _ _ _),wi1,cb g4,cv g4,aG,eF,zl70,WR,a,zov a,hk,isSm,zU]
noncomputable def K4 (L:Int):Int:=BF (zog Df L).1.1 (zog Df L).1.2.1
noncomputable def Ew (c:Ct) (f:Fr):Bool:=bif decide (f.2.2.2.1>0) then true else bif decide (f.2.1>0) then(match Bi c.2.1 f.2.1 with
 |none=>true
 |some k=>bif(c.2.1.getD k z0).1 != f.1 then true else decide (f.2.2.1≥K4 ((c.2.1.getD k z0).2.2.2.1.length:Int))) else false
def Sk {l:List It}{e:Int}{i:Nat}(h:Bi l e=some i):i<l.length:=(CC.1 h).1
def abL (s:dj.D)(I:se s.2.2.2.1)(i:Nat)(hi:i<s.2.2.2.2.1.1.length)(hl:s.2.2.2.2.1.1.length≤9999999) :
  Cl (((i:Int),()),s)=if Ew s.2.2.2.1 (s.2.2.2.2.1.1.getD i zF)=true then some (.inr (.inl (false,()))) else some (.inl ((((i+1:Nat):Int),()),s)):=by
 have bO:s.2.2.2.1.2.1.length≤8:=I.len
 have ed:=abK s.2.2.2.1 (s.2.2.2.2.1.1.getD i zF).2.1 (by omega)
 have w:=gT (i:=i)
 unfold Ew
 cases hw:decide ((s.2.2.2.2.1.1.getD i zF).2.2.2.1>0) with
 |true=>
  unfold zF at ed hw ⊢
  simp only[Cl,gl hi,g0,zl94,ed,zov ed,hw,isSm,zl70,kG,zl98,zl76,zl99,zU,zl92,aG,cj]
 |false=>
  cases he:decide ((s.2.2.2.2.1.1.getD i zF).2.1>0) with
  |false=>
   unfold zF at ed hw he ⊢
   simp only[Cl,gl hi,g0,zl94,ed,zov ed,hw,he,isSm,zl70,kG,zl93,zl98,zl76,zl99,zU,zl92,aG,eF,w]
   rfl
  |true=>
   cases hk:Bi s.2.2.2.1.2.1 (s.2.2.2.2.1.1.getD i zF).2.1 with
   |none=>
    rw[hk] at ed
    unfold zF at ed hw he ⊢
    simp only[Cl,gl hi,g0,zl94,ed,zov ed,hw,he,edI,Option.isSome,isSm,zl70,zl98,zl76,zl99,Bool.and_true,zU,zl92,aG,eF,cj]
   |some k=>
    rw[hk] at ed
    have jO:=Sk hk
    have hp:=TC (I.ok (s.2.2.2.1.2.1.getD k z0) (by rw[getD_eq _ _ _ jO];exact zl96 jO))
    obtain⟨P,hP,f1,_⟩:=ZM _ hp.2.2.1 hp.2.2.2
    have f3 (x y:List Int) (u:Unit):=count_eq P.1 P.2.1 x y u hP
    have f4 (x y:List Int) (u:Unit):=zov (f3 x y u)
    cases hh:((s.2.2.2.1.2.1.getD k z0).1 != (s.2.2.2.2.1.1.getD i zF).1) with
    |true=>
     unfold zF at ed hw he hh ⊢
     simp only[Cl,gl hi,g0,zl94,ed,zov ed,hw,he,hh,edI,Option.isSome,isSm,zl70,zl98,zl76,zl99,Bool.and_true,zU,zl92,aG,eF,cj]
    |false=>
     have hc:K4 ((s.2.2.2.1.2.1.getD k z0).2.2.2.1.length:Int)=BF P.1 P.2.1:=by rw[K4,zov f1]
     unfold zF at ed hw he hh ⊢
     simp only[hc,Cl,gl hi,g0,zl94,ed,zov ed,hw,he,hh,f1,zov f1,f3,f4,edI,Option.isSome,isSm,zl70,zl98,zl99,zU,zl92,aG,eF,w]
     cases decide ((s.2.2.2.2.1.1.getD i ((0:Int),(0:Int),(0:Int),(0:Int),false,())).2.2.1≥BF P.1 P.2.1)<;>rfl
def XO (c:Ct)(I:se c)(l:List Fr)(i:Nat)(hi:i<l.length)(hl:l.length≤9999999)(hok:okF (l.getD i zF)=true) :
  Cj (((i:Int),(),l,(l.length:Int)),c)=if Ew c (l.getD i zF)=true then some (.inr (.inl (false,()))) else some (.inl ((((i+1:Nat):Int),(),l,(l.length:Int)),c)):=by
 have bO:c.2.1.length≤8:=I.len
 have ed:=XN c (l.getD i zF).2.1 (by omega)
 have w:=gT (i:=i)
 unfold Ew
 cases hz:((l.getD i zF).2.1==0) with
 |true=>
  have h0:(l.getD i zF).2.1=0:=eq_of_beq hz
  have hw:decide ((l.getD i zF).2.2.2.1>0)=false:=by
   unfold okF at hok
   rw[hz,aG] at hok
   simp only[aF,zl78] at hok
   exact zdf
  have he:decide ((l.getD i zF).2.1>0)=false:=zdf
  rw[hw,he]
  unfold zF at hz ⊢
  simp only[Cj,gl hi,g0,zl94,hz,zU,zl92,aG,eF,w]
  rfl
 |false=>
  have he:decide ((l.getD i zF).2.1>0)=true:=by
   unfold okF at hok
   rw[hz,eF] at hok
   simp only[aF,gk,zl106] at hok
   exact zdt
  rw[he]
  cases hw:decide ((l.getD i zF).2.2.2.1>0) with
  |true=>
   unfold zF at ed hz hw ⊢
   simp only[Cj,gl hi,g0,zl94,hz,ed,hw,isSm,zl70,zl98,zl76,zU,zl92,aG,eF,cj]
  |false=>
   cases hk:Bi c.2.1 (l.getD i zF).2.1 with
   |none=>
    rw[hk] at ed
    unfold zF at ed hz hw ⊢
    simp only[Cj,gl hi,g0,zl94,hz,ed,zov ed,hw,R7,isSm,zl70,zl98,zl76,zU,zl92,aG,eF,cj]
   |some k=>
    rw[hk] at ed
    have jO:=Sk hk
    have hp:=TC (I.ok (c.2.1.getD k z0) (by rw[getD_eq _ _ _ jO];exact zl96 jO))
    obtain⟨P,hP,f0,f1⟩:=ZM _ hp.2.2.1 hp.2.2.2
    have f3 (x y:List Int) (u:Unit):Ax (P.1,P.2.1,x,y,u)=_:=count_eq P.1 P.2.1 x y u hP
    have f4 (x y:List Int) (u:Unit):=zov (f3 x y u)
    have ed':EZ (c,(l.getD i zF).2.1)=some ((k:Int),()):=ed
    have e1:decide ((k:Int)<0)=false:=zdf
    cases hh:((c.2.1.getD k z0).1 != (l.getD i zF).1) with
    |true=>
     unfold zF at ed' hz hw hh ⊢
     unfold z0 at hh ⊢
     simp only[Cj,gl hi,gl jO,g0,zl94,hz,ed',zov ed',hw,hh,e1,isSm,zl70,zl98,zl76,zl99,zU,zl92,aG,eF,cj]
    |false=>
     have hc:K4 ((c.2.1.getD k z0).2.2.2.1.length:Int)=BF P.1 P.2.1:=by rw[K4,zov f0]
     unfold zF at ed' hz hw hh ⊢
     have hh2:=hh
     unfold z0 at hh2 f1
     simp only[hc,hh2,Cj,gl hi,gl jO,g0,zl94,hz,ed',zov ed',hw,hh,e1,f1,zov f1,f3,f4,isSm,zl70,zl98,zl99,zU,zl92,aG,eF,w]
     cases decide ((l.getD i ((0:Int),(0:Int),(0:Int),(0:Int),false,())).2.2.1≥BF P.1 P.2.1)<;>rfl
abbrev Bu:Type:=Int×Int×Int×Int×Unit
def Hx (b:Bu):Bool:=gk b.2.1 0 99999&&gk b.1 0 b.2.1&&gk b.2.2.1 0 99999&&gk b.2.2.2.1 0 99999
def abF (b:Bu):q78 b=some (Hx b,()):=by
 unfold Hx
 simp only[q78,A6,zov (A6 _ _ _),isSm,zl99,zU,zl92,aG]
 cases gk b.2.1 0 99999<;>cases gk b.1 0 b.2.1<;>cases gk b.2.2.1 0 99999<;>cases gk b.2.2.2.1 0 99999<;>rfl
def XI (b:Bu):q48 b=some (Hx b,()):=by
 unfold Hx
 simp only[q48,Ad,zov (Ad _ _ _),isSm,zl99,zU,zl92,aG]
 cases gk b.2.1 0 99999<;>cases gk b.1 0 b.2.1<;>cases gk b.2.2.1 0 99999<;>cases gk b.2.2.2.1 0 99999<;>rfl
def zB:Bu:=((0:Int),(0:Int),(0:Int),(0:Int),())
def Eo (now:Int)(b:Bu):Bool:=bif bif bif !Hx b then true else b.2.1 != 40 then true else b.2.2.1 != 8 then true else decide (b.2.2.2.1>now)
def abE (s:dj.D)(i:Nat)(hi:i<s.2.2.2.2.2.1.length)(hl:s.2.2.2.2.2.1.length≤9999999) :
  Ft (((i:Int),()),s)=if Eo s.2.1 (s.2.2.2.2.2.1.getD i zB)=true then some (.inr (.inl (false,()))) else some (.inl ((((i+1:Nat):Int),()),s)):=by
 have w:=gT (i:=i)
 unfold Eo zB
 simp only[Ft,gl hi,g0,zl94,abF,zov (abF _),isSm,zU,zl92,aG,w]
 generalize (bif bif bif !Hx _ then true else _ then true else _ then true else _)=b
 cases b<;>rfl
def XH (s:dj.D)(l:List Bu)(i:Nat)(hi:i<l.length)(hl:l.length≤9999999) :
  Fp (((i:Int),(),l,(l.length:Int)),s)=if Eo s.2.1 (l.getD i zB)=true then some (.inr (.inl (false,()))) else some (.inl ((((i+1:Nat):Int),(),l,(l.length:Int)),s)):=by
 have w:=gT (i:=i)
 unfold Eo zB
 simp only[Fp,gl hi,g0,zl94,XI,zov (XI _),isSm,zU,zl92,aG,w]
 generalize (bif bif bif !Hx _ then true else _ then true else _ then true else _)=b
 cases b<;>rfl
abbrev Sv:Type:=Int×Int×Int×Int×Int×Int×Unit
def zS:Sv:=((0:Int),(0:Int),(0:Int),(0:Int),(0:Int),(0:Int),())
def K5 (l:List Sv)(i:Nat)(c:Int):Bool:=match i with
 |0=>false
 |m+1=>decide ((l.getD m zS).1≥c)
def KB (c:Ct)(s:Sv):Bool:=bif(Bi c.2.1 s.2.2.1).isSome then(edI c.2.1 (Bi c.2.1 s.2.2.1)).1 != Int.tmod s.1 2 else false
def Du (c:Ct)(now:Int)(l:List Sv)(i:Nat):Bool:=
 ((((((!gk (l.getD i zS).1 0 3 || K5 l i (l.getD i zS).1) || !gk (l.getD i zS).2.1 1 99999) || !gk (l.getD i zS).2.2.1 1 c.1) || !gk (l.getD i zS).2.2.2.1 0 9999) || !gk (l.getD i zS).2.2.2.2.1 0 3) || !gk (l.getD i zS).2.2.2.2.2.1 0 now) || KB c (l.getD i zS)
def Om (a b:Bool):(bif a then true else b)=(a || b):=by cases a<;>rfl
def abQ (s:dj.D)(hc:s.2.2.2.1.2.1.length≤9999999)(i:Nat)(hi:i<s.2.2.2.2.2.2.1.length)(hl:s.2.2.2.2.2.2.1.length≤9999999) :
  Ec (((i:Int),()),s)=if Du s.2.2.2.1 s.2.1 s.2.2.2.2.2.2.1 i=true then some (.inr (.inl (false,()))) else some (.inl ((((i+1:Nat):Int),()),s)):=by
 have w:=gT (i:=i)
 have ed:=abK s.2.2.2.1 (s.2.2.2.2.2.2.1.getD i zS).2.2.1 hc
 have hh (x:Int):q82 x=some (Int.tmod x 2,()):=rfl
 have fin (A B:Bool) (X Y:Option ((((Int)×(Unit))×((dj.D)))⊕((((Bool))×(Unit))⊕((Unit)×(Unit))))):(bif A then X else bif B then X else Y)=if(A || B)=true then X else Y:=by cases A<;>cases B<;>rfl
 rcases zl83 i with h0|h0
 ·subst h0
  have d1:decide (((0:Nat):Int)>0)=false:=rfl
  unfold Du KB K5
  unfold zS at ed ⊢
  simp only[Ec,gl hi,g0,zl94,A6,zov (A6 _ _ _),ed,zov ed,hh,zov (hh _),d1,Om,isSm,zl99,zl93,zl98,zl76,Bool.or_false,zU,zl92,aG,eF,w]
  exact fin _ _ _ _
 ·obtain⟨m,rfl⟩:∃m,i=m+1:=⟨i-1,by omega⟩
  have d1:decide (((m+1:Nat):Int)>0)=true:=zdt
  have w1:IntKind.wrap .i64 (((m+1:Nat):Int)-1)=(m:Int):=wi (by omega) (by omega)
  unfold Du KB K5
  unfold zS at ed ⊢
  simp only[Ec,gl hi,gl (show m<s.2.2.2.2.2.2.1.length by omega),g0,zl94,w1,A6,zov (A6 _ _ _),ed,zov ed,hh,zov (hh _),d1,Om,isSm,zl99,zU,zl92,aG,w]
  exact fin _ _ _ _
def Jh (n:Int):Bx n=some (gk n 0 3,()):=by simp only[Bx,Ad,zov (Ad _ _ _),isSm,zU,aG]
def XT (s:dj.D)(hc:s.2.2.2.1.2.1.length≤9999999)(i:Nat)(hi:i<s.2.2.2.2.2.2.1.length)(hl:s.2.2.2.2.2.2.1.length≤9999999) :
  Ed (((i:Int),(),s.2.2.2.2.2.2.1,(s.2.2.2.2.2.2.1.length:Int)),s)=if Du s.2.2.2.1 s.2.1 s.2.2.2.2.2.2.1 i=true then some (.inr (.inl (false,()))) else some (.inl ((((i+1:Nat):Int),(),s.2.2.2.2.2.2.1,(s.2.2.2.2.2.2.1.length:Int)),s)):=by
 have w:=gT (i:=i)
 have ed:=XN s.2.2.2.1 (s.2.2.2.2.2.2.1.getD i zS).2.2.1 hc
 have hh (x:Int):q94 x=some (Int.tmod x 2,()):=rfl
 have he:∃v,Cy (Bi s.2.2.2.1.2.1 (s.2.2.2.2.2.2.1.getD i zS).2.2.1)=v∧decide (v≥0)=(Bi s.2.2.2.1.2.1 (s.2.2.2.2.2.2.1.getD i zS).2.2.1).isSome∧(!decide (v≥0) || decide (0≤v))=true∧(!decide (v≥0) || decide (v<(s.2.2.2.1.2.1.length:Int)))=true ∧
   (bif decide (v≥0) then(s.2.2.2.1.2.1.getD (Int.toNat v) z0).1 != Int.tmod (s.2.2.2.2.2.2.1.getD i zS).1 2 else false)=KB s.2.2.2.1 (s.2.2.2.2.2.2.1.getD i zS):=by
  unfold KB
  cases e:Bi s.2.2.2.1.2.1 (s.2.2.2.2.2.2.1.getD i zS).2.2.1 with
  |none=>exact⟨-1,rfl,rfl,rfl,rfl,rfl⟩
  |some k=>
   have:=Sk e
   have d:decide ((k:Int)≥0)=true:=zdt
   refine⟨(k:Int),rfl,d,by rw[g0,zl99],by rw[gl this,zl99],?_⟩
   rw[d];rfl
 obtain⟨v,hv,_,C5,hv3,hv4⟩:=he
 rw[hv] at ed
 have fin (A B C D:Bool) (X Y:Option ((((Int)×(Unit)×(List (e_.D))×(Int))×((dj.D)))⊕((((Bool))×(Unit))⊕((Unit)×(Unit))))) (h:(A || (B || C))=D):(bif A then X else bif B then X else bif C then X else Y)=if D=true then X else Y:=by subst h;cases A<;>cases B<;>cases C<;>rfl
 have bool8 (a b c d e f g h:Bool):((((b || !a) || !c) || !d) || (h || ((!e || !f) || !g)))=(((((((!a || b) || !c) || !d) || !e) || !f) || !g) || h):=by
  cases a<;>cases b<;>cases c<;>cases d<;>cases e<;>cases f<;>cases g<;>cases h<;>rfl
 have bool7 (a c d e f g h:Bool):(((!a || !c) || !d) || (h || ((!e || !f) || !g)))=((((((!a || !c) || !d) || !e) || !f) || !g) || h):=by
  cases a<;>cases c<;>cases d<;>cases e<;>cases f<;>cases g<;>cases h<;>rfl
 rcases zl83 i with h0|h0
 ·subst h0
  have d1:decide (((0:Nat):Int)>0)=false:=rfl
  unfold Du K5
  unfold z0 at hv4
  unfold zS at ed hv4 ⊢
  simp only[Ed,gl hi,g0,zl94,Jh,zov (Jh _),Ad,zov (Ad _ _ _),ed,zov ed,hh,zov (hh _),C5,hv3,hv4,d1,isSm,zl99,zl98,zl76,Bool.or_false,zU,zl92,aG,eF,w]
  refine fin _ _ _ _ _ _ ?_
  simp only[Om]
  exact bool7 _ _ _ _ _ _ _
 ·obtain⟨m,rfl⟩:∃m,i=m+1:=⟨i-1,by omega⟩
  have d1:decide (((m+1:Nat):Int)>0)=true:=zdt
  have w1:IntKind.wrap .i64 (((m+1:Nat):Int)-1)=(m:Int):=wi (by omega) (by omega)
  unfold Du K5
  unfold z0 at hv4
  unfold zS at ed hv4 ⊢
  simp only[Ed,gl hi,gl (show m<s.2.2.2.2.2.2.1.length by omega),g0,zl94,w1,Jh,zov (Jh _),Ad,zov (Ad _ _ _),ed,zov ed,hh,zov (hh _),C5,hv3,hv4,d1,isSm,zl99,zU,zl92,aG,w]
  refine fin _ _ _ _ _ _ ?_
  simp only[Om]
  exact bool8 _ _ _ _ _ _ _ _
noncomputable def nP (s:dj.D):List (List UInt8)×Nat:=C6 hash s.2.2.1
noncomputable def Kz (s:dj.D):Bool:=(s.2.2.2.1.2.1.length==0&&s.2.2.2.1.1==0&&s.2.2.2.2.1.1.length==0&&s.2.2.2.2.1.2.1==0&&s.2.2.2.2.2.1.length==0&&s.2.2.2.2.2.2.1.length==0)
noncomputable def KG (s:dj.D):Bool:=cx s.2.2.2.2.1.1.length (fun i=> !Ew s.2.2.2.1 (s.2.2.2.2.1.1.getD i zF))
noncomputable def R_ (s:dj.D):Bool:=cx s.2.2.2.2.2.1.length (fun i=> !Eo s.2.1 (s.2.2.2.2.2.1.getD i zB))
noncomputable def Ln (s:dj.D):Bool:=cx s.2.2.2.2.2.2.1.length (fun i=> !Du s.2.2.2.1 s.2.1 s.2.2.2.2.2.2.1 i)
noncomputable def upV (s:dj.D):Bool:=(nP s).2==s.2.2.1.length&&(decide ((Af (nP s).1).1=s.2.2.2.1)&&(DN s.2.2.2.2.1&&(s.2.2.2.2.2.1.length==2&&(Ln s&&(KG s&&R_ s)))))
noncomputable def okV (s:dj.D):Bool:=gk s.2.1 0 99999&&(decide (s.2.2.1.length≤9000)&&((Af (nP s).1).2&&(bif s.1 then upV s else Kz s)))
def Ot {l:List (List UInt8)}(h:(Af l).2=true):se (Af l).1:=by
 unfold Af at h ⊢
 cases e:BE (0,[],()) l with
 |none=>rw[e] at h;cases h
 |some c=>exact WK l _ c Oq e
def aj3 (s:dj.D)(hc:s.2.2.2.1.2.1.length≤9999999)(hl:s.2.2.2.2.2.2.1.length≤9999999):q44 s=some (Ln s,()):=by
 have q:=nC (r:=Ec) (fun i=>(((i:Int),()),s)) (n:=s.2.2.2.2.2.2.1.length) (p:=fun i=> !Du s.2.2.2.1 s.2.1 s.2.2.2.2.2.2.1 i) (yf:=.inl (false,())) (yt:=.inr ((),())) (fun i hi _ hp=>by
   rw[abQ s hc i hi hl,bY (by simpa using hp)]) (fun i hi _ hp=>by
   rw[abQ s hc i hi hl,bf (by simpa using hp)]) (by
   have d1:decide ((s.2.2.2.2.2.2.1.length:Int)<(s.2.2.2.2.2.2.1.length:Int))=false:=zdf
   simp only[Ec,d1,eF])
 have q':Comes Ec ((0,()),s) _:=q
 simp only[q44,cb q',cv q',aG]
 unfold Ln
 cases cx s.2.2.2.2.2.2.1.length (fun i=> !Du s.2.2.2.1 s.2.1 s.2.2.2.2.2.2.1 i)<;>rfl
def Pt (s:dj.D)(h:s.2.2.1.length≤9999999):(nP s).1.length≤9999999∧∀r∈(nP s).1,r.length≤9999999:=by
 obtain⟨h1,h2,h3⟩:=Yk hash CE (s.2.2.1.length+1) s.2.2.1 0
 refine⟨?_,fun r hr=>?_⟩
 ·change (xb hash (s.2.2.1.length+1) s.2.2.1 0).1.length≤9999999;omega
 ·have:=h3 r hr;omega
def akc (s:dj.D)(S:Hs s):q80 s=some (okV s,()):=by
 have BZ:=S.log
 have hbk:=S.bks
 have hsv:=S.Bd
 have hfr:s.2.2.2.2.1.1.length≤1048576:=S.Pa
 have hct:s.2.2.2.1.2.1.length≤1048576:=S.cat
 have a:=Yb s.2.2.1 (by omega)
 obtain⟨r1,r2⟩:=Pt s (by omega)
 have b:=abH (nP s).1 r1 r2
 unfold okV
 change Db s.2.2.1=some (((nP s).1,((nP s).2:Int)),()) at a
 have hle:decide ((s.2.2.1.length:Int)>9000) = !decide (s.2.2.1.length≤9000):=by
  by_cases h:s.2.2.1.length≤9000
  ·rw[zl86 h,zdf];rfl
  ·rw[zl90 h,zdt];rfl
 have DK (x y:Nat):((x:Int)==(y:Int))=(x==y):=by rw[zl105,zl78,zl78];omega
 have Ti (x:Nat):((x:Int)==0)=(x==0):=DK x 0
 have Tj (x:Nat):((x:Int) != 2) = !(x==2):=by rw[←DK x 2];rfl
 simp only[q80,A6,zov (A6 _ _ _),hle,isSm,zU,aG]
 cases gk s.2.1 0 99999 with
 |false=>rfl
 |true=>
 cases decide (s.2.2.1.length≤9000) with
 |false=>rfl
 |true=>
 simp only[zl70,eF,zl108]
 cases dR:s.1 with
 |false=>
  have sy:Ge s=some ((Af (nP s).1).2,()):=by
   simp only[Ge,a,zov a,b,zov b,isSm,zU,aG]
  simp only[zl98,aG,eF,sy,zov sy,zl99,Ti,Kz]
  congr 2
  cases (Af (nP s).1).2<;>cases (s.2.2.2.1.2.1.length==0)<;>cases (s.2.2.2.1.1==0)<;>cases (s.2.2.2.2.1.1.length==0)<;>cases (s.2.2.2.2.1.2.1==0)<;>cases (s.2.2.2.2.2.1.length==0)<;>cases (s.2.2.2.2.2.2.1.length==0)<;>rfl
 |true=>
  have sm:=akf (Af (nP s).1).1 s.2.2.2.1
  have po:=akd s.2.2.2.2.1 (by omega)
  have sv:=aj3 s (by omega) (by omega)
  have e1:(((nP s).2:Int) != (s.2.2.1.length:Int)) = !((nP s).2==s.2.2.1.length):=by rw[←DK];rfl
  simp only[zl70,eF,aG,a,zov a,b,zov b,po,zov po,sv,zov sv,zl99,e1,Tj]
  unfold upV
  cases hcat:(Af (nP s).1).2 with
  |false=>simp only[zl98,aG,zl70,zl76,zl92,zl93]
  |true=>
  cases hrd:((nP s).2==s.2.2.1.length) with
  |false=>simp only[zl98,aG,eF,zl70,zl76,zl92,zl93,kG]
  |true=>
  have I:=Ot hcat
  have hI:=I.len
  have sm':=sm (by omega)
  simp only[sm',zov sm',zl70,zl98,eF,aG,zl99,zl108,zl92]
  by_cases hsame:(Af (nP s).1).1=s.2.2.2.1
  ·rw[zl86 hsame]
   rw[hsame] at I
   cases hpo:DN s.2.2.2.2.1 with
   |false=>rfl
   |true=>
   cases cH:(s.2.2.2.2.2.1.length==2) with
   |false=>rfl
   |true=>
   cases hsr:Ln s with
   |false=>rfl
   |true=>
    simp only[zl70,eF,zl108]
    have q:=nC (r:=Cl) (fun i=>(((i:Int),()),s)) (n:=s.2.2.2.2.1.1.length) (p:=fun i=> !Ew s.2.2.2.1 (s.2.2.2.2.1.1.getD i zF)) (yf:=.inl (false,())) (yt:=.inr ((),s)) (fun i hi _ hp=>by
      rw[abL s I i hi (by omega),bY (by simpa using hp)]) (fun i hi _ hp=>by
      rw[abL s I i hi (by omega),bf (by simpa using hp)]) (by
      have d1:decide ((s.2.2.2.2.1.1.length:Int)<(s.2.2.2.2.1.1.length:Int))=false:=zdf
      simp only[Cl,d1,eF])
    have q':Comes Cl ((0,()),s) _:=q
    have q2:=nC (r:=Ft) (fun i=>(((i:Int),()),s)) (n:=s.2.2.2.2.2.1.length) (p:=fun i=> !Eo s.2.1 (s.2.2.2.2.2.1.getD i zB)) (yf:=.inl (false,())) (yt:=.inr ((),())) (fun i hi _ hp=>by
      rw[abE s i hi (by omega),bY (by simpa using hp)]) (fun i hi _ hp=>by
      rw[abE s i hi (by omega),bf (by simpa using hp)]) (by
      have d1:decide ((s.2.2.2.2.2.1.length:Int)<(s.2.2.2.2.2.1.length:Int))=false:=zdf
      simp only[Ft,d1,eF])
    have q2':Comes Ft ((0,()),s) _:=q2
    simp only[cb q',cv q',aG]
    unfold KG R_
    cases hf:cx s.2.2.2.2.1.1.length (fun i=> !Ew s.2.2.2.1 (s.2.2.2.2.1.1.getD i zF)) with
    |false=>simp[sumC]
    |true=>
     simp only[cj,sumC,cb q2',cv q2',aG,zl108]
     cases hb:cx s.2.2.2.2.2.1.length (fun i=> !Eo s.2.1 (s.2.2.2.2.2.1.getD i zB))<;>rfl
  ·rw[zl90 hsame];rfl
def acS (s:dj.D)(I:se s.2.2.2.1)(hp:s.2.2.2.2.1.1.length≤9999999):Fs (s.2.2.2.2.1,s.2.2.2.1)=some (DN s.2.2.2.2.1&&KG s,()):=by
 have a:=ad9 s.2.2.2.2.1 hp
 cases hv:DN s.2.2.2.2.1 with
 |false=>
  rw[hv] at a
  simp only[Fs,a,zov a,isSm,zU,aG,zl98,zl93]
 |true=>
  have hok:∀i,i<s.2.2.2.2.1.1.length→okF (s.2.2.2.2.1.1.getD i zF)=true:=by
   unfold DN at hv
   simp only[aF,zl78] at hv
   intro i hi
   have:=oc.1 hv.2.1 i (by omega)
   unfold By at this
   rw[aF] at this
   exact this.1
  rw[hv] at a
  have q:=nC (r:=Cj) (fun i=>(((i:Int),(),s.2.2.2.2.1.1,(s.2.2.2.2.1.1.length:Int)),s.2.2.2.1)) (n:=s.2.2.2.2.1.1.length) (p:=fun i=> !Ew s.2.2.2.1 (s.2.2.2.2.1.1.getD i zF)) (yf:=.inl (false,())) (yt:=.inr ((),())) (fun i hi _ hp=>by
    rw[XO s.2.2.2.1 I _ i hi (by omega) (hok i hi),bY (by simpa using hp)]) (fun i hi _ hp=>by
    rw[XO s.2.2.2.1 I _ i hi (by omega) (hok i hi),bf (by simpa using hp)]) (by
    have d1:decide ((s.2.2.2.2.1.1.length:Int)<(s.2.2.2.2.1.1.length:Int))=false:=zdf
    simp only[Cj,d1,eF])
  have q':Comes Cj ((0,(),s.2.2.2.2.1.1,(s.2.2.2.2.1.1.length:Int)),s.2.2.2.1) _:=q
  simp only[Fs,a,zov a,isSm,zU,aG,eF,zl70,zl108,cb q',cv q']
  unfold KG
  cases cx s.2.2.2.2.1.1.length (fun i=> !Ew s.2.2.2.1 (s.2.2.2.2.1.1.getD i zF))<;>rfl
def ad8 (s:dj.D)(S:Hs s):q52 s=some (okV s,()):=by
 have BZ:=S.log
 have hbk:=S.bks
 have hsv:=S.Bd
 have hfr:s.2.2.2.2.1.1.length≤1048576:=S.Pa
 have hct:s.2.2.2.1.2.1.length≤1048576:=S.cat
 have a:=Ww s.2.2.1 (by omega)
 obtain⟨r1,r2⟩:=Pt s (by omega)
 have b:=XK (nP s).1 r1 r2
 unfold okV
 change Ee s.2.2.1=some (((nP s).1,((nP s).2:Int)),()) at a
 have hle:decide ((s.2.2.1.length:Int)>9000) = !decide (s.2.2.1.length≤9000):=by
  by_cases h:s.2.2.1.length≤9000
  ·rw[zl86 h,zdf];rfl
  ·rw[zl90 h,zdt];rfl
 have DK (x y:Nat):((x:Int)==(y:Int))=(x==y):=by rw[zl105,zl78,zl78];omega
 have Ti (x:Nat):((x:Int)==0)=(x==0):=DK x 0
 have Tj (x:Nat):((x:Int) != 2) = !(x==2):=by rw[←DK x 2];rfl
 simp only[q52,Ad,zov (Ad _ _ _),hle,isSm,zU,aG]
 cases gk s.2.1 0 99999 with
 |false=>rfl
 |true=>
 cases decide (s.2.2.1.length≤9000) with
 |false=>rfl
 |true=>
 simp only[zl70,eF,zl108,a,zov a,b,zov b,aG]
 cases hcat:(Af (nP s).1).2 with
 |false=>rfl
 |true=>
 simp only[zl70,eF,zl108]
 cases dR:s.1 with
 |false=>
  simp only[zl98,aG,eF,Ti,Kz]
  congr 2
  cases (s.2.2.2.1.2.1.length==0)<;>cases (s.2.2.2.1.1==0)<;>cases (s.2.2.2.2.1.1.length==0)<;>cases (s.2.2.2.2.1.2.1==0)<;>cases (s.2.2.2.2.2.1.length==0)<;>cases (s.2.2.2.2.2.2.1.length==0)<;>rfl
 |true=>
  have I:=Ot hcat
  have hI:=I.len
  have sm:=aea (Af (nP s).1).1 s.2.2.2.1 (by omega)
  have e1:(((nP s).2:Int) != (s.2.2.1.length:Int)) = !((nP s).2==s.2.2.1.length):=by rw[←DK];rfl
  simp only[zl70,eF,aG,sm,zov sm,zl99,e1,Tj]
  unfold upV
  cases hrd:((nP s).2==s.2.2.1.length) with
  |false=>simp only[zl98,aG,zl70,zl76,zl92,zl93]
  |true=>
  by_cases hsame:(Af (nP s).1).1=s.2.2.2.1
  ·rw[zl86 hsame]
   rw[hsame] at I
   have fi:=acS s I (by omega)
   simp only[fi,zov fi,zl70,eF,zl99,zl92,aG,zl108]
   cases hpo:DN s.2.2.2.2.1 with
   |false=>rfl
   |true=>
   cases kQ:KG s with
   |false=>simp only[kG,zl98,aG,zl93]
   |true=>
   cases cH:(s.2.2.2.2.2.1.length==2) with
   |false=>rfl
   |true=>
    simp only[zl70,eF,zl108,zl92]
    have q:=nC (r:=Fp) (fun i=>(((i:Int),(),s.2.2.2.2.2.1,(s.2.2.2.2.2.1.length:Int)),s)) (n:=s.2.2.2.2.2.1.length) (p:=fun i=> !Eo s.2.1 (s.2.2.2.2.2.1.getD i zB)) (yf:=.inl (false,())) (yt:=.inr ((),s)) (fun i hi _ hp=>by
      rw[XH s _ i hi (by omega),bY (by simpa using hp)]) (fun i hi _ hp=>by
      rw[XH s _ i hi (by omega),bf (by simpa using hp)]) (by
      have d1:decide ((s.2.2.2.2.2.1.length:Int)<(s.2.2.2.2.2.1.length:Int))=false:=zdf
      simp only[Fp,d1,eF])
    have q':Comes Fp ((0,(),s.2.2.2.2.2.1,(s.2.2.2.2.2.1.length:Int)),s) _:=q
    have q2:=nC (r:=Ed) (fun i=>(((i:Int),(),s.2.2.2.2.2.2.1,(s.2.2.2.2.2.2.1.length:Int)),s)) (n:=s.2.2.2.2.2.2.1.length) (p:=fun i=> !Du s.2.2.2.1 s.2.1 s.2.2.2.2.2.2.1 i) (yf:=.inl (false,())) (yt:=.inr ((),())) (fun i hi _ hp=>by
      rw[XT s (by omega) i hi (by omega),bY (by simpa using hp)]) (fun i hi _ hp=>by
      rw[XT s (by omega) i hi (by omega),bf (by simpa using hp)]) (by
      have d1:decide ((s.2.2.2.2.2.2.1.length:Int)<(s.2.2.2.2.2.2.1.length:Int))=false:=zdf
      simp only[Ed,d1,eF])
    have q2':Comes Ed ((0,(),s.2.2.2.2.2.2.1,(s.2.2.2.2.2.2.1.length:Int)),s) _:=q2
    simp only[cb q',cv q',aG]
    unfold R_ Ln
    cases hf:cx s.2.2.2.2.2.1.length (fun i=> !Eo s.2.1 (s.2.2.2.2.2.1.getD i zB)) with
    |false=>simp[sumC]
    |true=>
     simp only[cj,sumC,cb q2',cv q2',aG,Bool.and_true]
     cases hb:cx s.2.2.2.2.2.2.1.length (fun i=> !Du s.2.2.2.1 s.2.1 s.2.2.2.2.2.2.1 i)<;>rfl
  ·rw[zl90 hsame];rfl
end Pl
open Go Go.Ab
namespace Pc
def wrap64 {n:Int}(h1: -9223372036854775808≤n)(h2:n≤9223372036854775807):IntKind.wrap .i64 n=n:=by
 simp[IntKind.wrap,IntKind.signed,IntKind.bits]
 omega
def lO {X Y:Type}{r:X→Option (X⊕Y)}(st:Nat→X){n:Nat}{y:Y}(hs:∀i,i<n→r (st i)=some (.inl (st (i+1))))(he:r (st n)=some (.inr y)):∀k,k≤n→Comes r (st k) y:=by
 intro k hk
 have:∀d k,k+d=n→Comes r (st k) y:=by
  intro d
  induction d with
  |zero=>intro k hk;have:k=n:=by omega
         subst this;exact .out he
  |succ d ih=>intro k hk;exact .again (hs k (by omega)) (ih (k+1) (by omega))
 exact this (n-k) k (by omega)
def cb {X Y:Type}{r:X→Option (X⊕Y)}{x:X}{y:Y}(h:Comes r x y):pY r x=true:=(h.is (y0:=y)).1
def cv {X Y:Type}{r:X→Option (X⊕Y)}{x:X}{y:Y}(h:Comes r x y)(y0:Y):oa r y0 x=y:=h.is.2
def getD_eq {α:Type}(l:List α)(i:Nat)(z:α)(h:i<l.length):l.getD i z=l[i]:=by simp[h]
def Sm (a:List Int)(h:a.length≤4611686018427387904):ER (a,a)=some (true,()):=by
 have hl:Comes H6 (((0:Int),a,a),()) (.inr ((),())):=by
  refine lO (st:=fun i=>(((i:Int),a,a),())) (n:=a.length) ?_ ?_ 0 (lz _)
  ·intro i hi
   have h1:decide ((i:Int)<(a.length:Int))=true:=by simpa using hi
   have h2:IntKind.wrap .i64 ((i:Int)+1)=((i+1:Nat):Int):=by rw[wrap64]<;>omega
   have h3:decide ((0:Int)≤(i:Int))=true:=by simp
   simp[H6,zU,h2,hi]
  ·simp[H6]
 simp[ER,cb hl,cv hl]
def acJ (a:fe.D)(h1:a.2.2.1.length≤4611686018427387904)(h2:a.2.2.2.1.length≤4611686018427387904):H7 (a,a)=some (true,()):=by
 simp[H7,zog,Sm _ h1,Sm _ h2,zU,isSm]
def acC (a:er.D)(h1:a.1.length≤4611686018427387904):GC (a,a)=some (true,()):=by
 simp[GC,zog,Sm _ h1,zU,isSm]
def acB (a:List er.D)(h:a.length≤4611686018427387904)(hr:∀x∈a,x.1.length≤4611686018427387904):Ij (a,a)=some (true,()):=by
 have hl:Comes Ik (((0:Int),a,a),()) (.inr ((),())):=by
  refine lO (st:=fun i=>(((i:Int),a,a),())) (n:=a.length) ?_ ?_ 0 (lz _)
  ·intro i hi
   have h2:IntKind.wrap .i64 ((i:Int)+1)=((i+1:Nat):Int):=by rw[wrap64]<;>omega
   have h4:=acC (a[i]) (hr _ (by simp))
   simp[Ik,zog,zU,h2,hi,h4,isSm]
  ·simp[Ik]
 simp[Ij,cb hl,cv hl]
def acO (a:b7.D)(h:a.2.2.1.length≤4611686018427387904)(hr:∀x∈a.2.2.1,x.1.length≤4611686018427387904):q64 (a,a)=some (true,()):=by
 simp[q64,zog,acB _ h hr,zU,isSm]
def SmPlan (a:fe.D):Prop:=a.2.2.1.length≤4611686018427387904∧a.2.2.2.1.length≤4611686018427387904
def Cv (a:b7.D):Prop:=a.2.2.1.length≤4611686018427387904∧∀x∈a.2.2.1,x.1.length≤4611686018427387904
def Cu (a:fk.D):Prop:=SmPlan a.1∧Cv a.2.1
def ab3 (a:b9.D):Prop:=Cu a.2.2.2.2.2.1
def acF (a:fk.D)(h:Cu a):q33 (a,a)=some (true,()):=by
 simp[q33,zog,zog,acJ _ h.1.1 h.1.2,acO _ h.2.1 h.2.2,zU,isSm]
def acA (a:b9.D)(h:ab3 a):q59 (a,a)=some (true,()):=by
 simp[q59,zog,acF _ h,zU,isSm]
def nW (n lo hi:Int):cr (n,lo,hi)=some (decide (lo≤n∧n≤hi),()):=by
 by_cases h:lo≤n<;>simp[cr,h]
def n5 (n lo hi:Int):eo (n,lo,hi)=some (decide (lo≤n∧n≤hi),()):=by
 by_cases h:lo≤n<;>simp[eo,h]
def WM (n:Int):Bx n=some (decide (0≤n∧n≤3),()):=by
 simp[Bx,zog,n5,zU,isSm]
def cx:Nat→(Nat→Bool)→Bool
 |0,_=>true
 |n+1,p=>cx n p&&p n
def oc {p:Nat→Bool}:∀{n:Nat},cx n p=true↔∀i,i<n→p i=true
 |0=>by simp[cx]
 |n+1=>by
  rw[cx,aF,oc]
  constructor
  ·rintro⟨h1,h2⟩ i hi
   by_cases e:i=n
   ·subst e;exact h2
   ·exact h1 i (by omega)
  ·intro h
   exact⟨fun i hi=>h i (by omega),h n (by omega)⟩
def Ol {p q:Nat→Bool}:∀{n:Nat},(∀i,i<n→p i=q i)→cx n p=cx n q
 |0,_=>rfl
 |n+1,h=>by rw[cx,cx,Ol fun i hi=>h i (by omega),h n (by omega)]
def nC {X Y:Type}{r:X→Option (X⊕Y)}(st:Nat→X){n:Nat}{p:Nat→Bool}{yf yt:Y}(hs:∀i,i<n→(∀j,j<i→p j=true)→p i=true→r (st i)=some (.inl (st (i+1))))
  (hf:∀i,i<n→(∀j,j<i→p j=true)→p i=false→r (st i)=some (.inr yf)) (he:r (st n)=some (.inr yt)):Comes r (st 0) (if cx n p=true then yt else yf):=by
 have main:∀d k,k+d=n→(∀j,j<k→p j=true)→Comes r (st k) (if cx n p=true then yt else yf):=by
  intro d
  induction d with
  |zero=>
   intro k hk hp
   have:k=n:=by omega
   subst this
   rw[bf (oc.2 hp)]
   exact .out he
  |succ d ih=>
   intro k hk hp
   cases hpk:p k with
   |true=>
    refine .again (hs k (by omega) hp hpk) (ih (k+1) (by omega) fun j hj=>?_)
    by_cases e:j=k
    ·subst e;exact hpk
    ·exact hp j (by omega)
   |false=>
    have:¬cx n p=true:=by
     intro h
     have:=oc.1 h k (by omega)
     rw[hpk] at this;cases this
    rw[bY this]
    exact .out (hf k (by omega) hp hpk)
 exact main n 0 (by omega) (fun j hj=>by omega)
def jb {i:Nat}(h:i≤4611686018427387904):IntKind.wrap .i64 ((i:Int)+1)=((i+1:Nat):Int):=by rw[wrap64]<;>omega
def Dz {i:Nat}(h:i≤4611686018427387904):IntKind.wrap .i64 ((i:Int)-1)=(i:Int)-1:=by rw[wrap64]<;>omega
def LC:IntKind.wrap .i64 1=1:=by decide
def ED (t:List UInt8)(i:Nat):Bool:=decide (97≤(t.getD i 0).toNat)&&decide ((t.getD i 0).toNat≤122)
def EC (t:List UInt8):Bool:=cx t.length (ED t)&&decide (1≤t.length∧t.length≤6)
def akj (t:List UInt8)(h:t.length≤4611686018427387904):Ci t=some (EC t,()):=by
 have hl:Comes BR (((0:Int),t),()) (if cx t.length (ED t)=true then .inr (t,()) else .inl (false,())):=by
  refine nC (fun i=>(((i:Int),t),())) ?_ ?_ ?_
  ·intro i hi _ hp
   have e0:t.getD i 0=t[i]:=by simp[hi]
   simp only[ED,aF,gQ,e0] at hp
   have h1:¬(((t[i].toNat:Nat):Int)<97):=by omega
   have h2:¬(122<((t[i].toNat:Nat):Int)):=by omega
   have h3:=jb (i:=i) (by omega)
   simp[BR,hi,zU,h1,h2,h3]
  ·intro i hi _ hp
   have e0:t.getD i 0=t[i]:=by simp[hi]
   simp only[ED,zl81,zl97,e0] at hp
   by_cases h1:((t[i].toNat:Nat):Int)<97
   ·simp[BR,hi,zU,h1]
   ·have h2:122<((t[i].toNat:Nat):Int):=by omega
    simp[BR,hi,zU,h1,h2]
  ·simp[BR]
 have e:decide ((1:Int)≤(t.length:Int)∧(t.length:Int)≤6)=decide (1≤t.length∧t.length≤6):=by congr 1;exact propext ⟨fun h=>by omega,fun h=>by omega⟩
 cases hp:cx t.length (ED t) with
 |true=>
  rw[hp,bf rfl] at hl
  simp only[Ci,cb hl,cv hl,EC,hp,zog,nW,zU,isSm,aG,zl108]
  exact congrArg (fun b=>some (b,())) e
 |false=>
  rw[hp,bY (by simp)] at hl
  simp[Ci,cb hl,cv hl,EC,hp]
def aef (t:List UInt8)(h:t.length≤4611686018427387904):Br t=some (EC t,()):=by
 have hl:Comes BQ (((0:Int),t,(t.length:Int)),()) (if cx t.length (ED t)=true then .inr (t,()) else .inl (false,())):=by
  refine nC (fun i=>(((i:Int),t,(t.length:Int)),())) ?_ ?_ ?_
  ·intro i hi _ hp
   have e0:t.getD i 0=t[i]:=by simp[hi]
   simp only[ED,aF,gQ,e0] at hp
   have h1:¬(((t[i].toNat:Nat):Int)<97):=by omega
   have h2:¬(122<((t[i].toNat:Nat):Int)):=by omega
   have h3:=jb (i:=i) (by omega)
   simp[BQ,hi,zU,h1,h2,h3]
  ·intro i hi _ hp
   have e0:t.getD i 0=t[i]:=by simp[hi]
   simp only[ED,zl81,zl97,e0] at hp
   by_cases h1:((t[i].toNat:Nat):Int)<97
   ·simp[BQ,hi,zU,h1]
   ·have h2:122<((t[i].toNat:Nat):Int):=by omega
    simp[BQ,hi,zU,h1,h2]
  ·simp[BQ]
 have e:decide ((1:Int)≤(t.length:Int)∧(t.length:Int)≤6)=decide (1≤t.length∧t.length≤6):=by congr 1;exact propext ⟨fun h=>by omega,fun h=>by omega⟩
 cases hp:cx t.length (ED t) with
 |true=>
  rw[hp,bf rfl] at hl
  simp only[Br,cb hl,cv hl,EC,hp,zog,n5,zU,isSm,aG,zl108]
  exact congrArg (fun b=>some (b,())) e
 |false=>
  rw[hp,bY (by simp)] at hl
  simp[Br,cb hl,cv hl,EC,hp]
def Co (row:List Int)(count:Int)(i:Nat):Bool:=decide (0≤row.getD i 0∧row.getD i 0≤count-1)&&(decide (i=0) || decide (row.getD (i-1) 0<row.getD i 0))
def Aq (row:List Int)(count:Int):Bool:=cx row.length (Co row count)&&decide (0≤count∧count≤24)
def akn (row:List Int)(count:Int)(h:row.length≤4611686018427387904)(hc: -9223372036854775807≤count)(aM:count≤9223372036854775807):D8 (row,count)=some (Aq row count,()):=by
 have hl:Comes D9 (((0:Int),row,count),()) (if cx row.length (Co row count)=true then .inr (count,()) else .inl (false,())):=by
  refine nC (fun i=>(((i:Int),row,count),())) ?_ ?_ ?_
  ·intro i hi _ hp
   have e0:row.getD i 0=row[i]:=by simp[hi]
   simp only[Co,aF,kE,gQ,e0] at hp
   have h3:=jb (i:=i) (by omega)
   have h4:IntKind.wrap .i64 (count-1)=count-1:=by rw[wrap64]<;>omega
   have h5:=Dz (i:=i) (by omega)
   obtain⟨hp1,hp2⟩:=hp
   by_cases hz:i=0
   ·subst hz
    simp[D9,hi,zU,h4,LC,zog,nW,isSm,hp1]
   ·have h6:(0:Int)<i:=by omega
    have h7:row.getD (i-1) 0<row[i]:=hp2.resolve_left hz
    have h8:((i:Int)-1).toNat=i-1:=by omega
    have h9:¬row[i]≤row[i-1]:=by
     have:row.getD (i-1) 0=row[i-1]:=by simp[show i-1<row.length by omega]
     omega
    have h10:i-1<row.length:=by omega
    have h11:(0:Int)≤(i:Int)-1:=by omega
    have h12:(i:Int)-1<row.length:=by omega
    have AL:(1:Int)≤i:=by omega
    simp[D9,hi,zU,h3,h4,h5,h8,h9,h10,h12,AL,zog,nW,isSm,hp1,show 0<i by omega]
  ·intro i hi _ hp
   have e0:row.getD i 0=row[i]:=by simp[hi]
   simp only[Co,zl81,jD,zl97,e0] at hp
   have h4:IntKind.wrap .i64 (count-1)=count-1:=by rw[wrap64]<;>omega
   have h5:=Dz (i:=i) (by omega)
   by_cases hp1:0≤row[i]∧row[i]≤count-1
   ·have hp2:=hp.resolve_left (fun h=>h hp1)
    have h6:(0:Int)<i:=by omega
    have h8:((i:Int)-1).toNat=i-1:=by omega
    have h9:row[i]≤row[i-1]:=by
     have:row.getD (i-1) 0=row[i-1]:=by simp[show i-1<row.length by omega]
     omega
    have h10:i-1<row.length:=by omega
    have h11:(0:Int)≤(i:Int)-1:=by omega
    have h12:(i:Int)-1<row.length:=by omega
    have AL:(1:Int)≤i:=by omega
    simp[D9,hi,zU,h4,h5,h8,h9,h10,h12,AL,zog,nW,isSm,hp1,show 0<i by omega]
   ·simp[D9,hi,zU,h4,zog,nW,isSm,hp1]
  ·simp[D9]
 cases hp:cx row.length (Co row count) with
 |true=>
  rw[hp,bf rfl] at hl
  simp[D8,cb hl,cv hl,Aq,hp,zog,nW,zU,isSm]
 |false=>
  rw[hp,bY (by simp)] at hl
  simp[D8,cb hl,cv hl,Aq,hp]
def aei (row:List Int)(count:Int)(h:row.length≤4611686018427387904)(hc: -9223372036854775807≤count)(aM:count≤9223372036854775807):D5 (row,count)=some (Aq row count,()):=by
 have hl:Comes D6 (((0:Int),row,count,row,(row.length:Int)),()) (if cx row.length (Co row count)=true then .inr (count,()) else .inl (false,())):=by
  refine nC (fun i=>(((i:Int),row,count,row,(row.length:Int)),())) ?_ ?_ ?_
  ·intro i hi _ hp
   have e0:row.getD i 0=row[i]:=by simp[hi]
   simp only[Co,aF,kE,gQ,e0] at hp
   have h3:=jb (i:=i) (by omega)
   have h4:IntKind.wrap .i64 (count-1)=count-1:=by rw[wrap64]<;>omega
   have h5:=Dz (i:=i) (by omega)
   obtain⟨hp1,hp2⟩:=hp
   by_cases hz:i=0
   ·subst hz
    simp[D6,hi,zU,h4,LC,zog,n5,isSm,hp1]
   ·have h6:(0:Int)<i:=by omega
    have h7:row.getD (i-1) 0<row[i]:=hp2.resolve_left hz
    have h8:((i:Int)-1).toNat=i-1:=by omega
    have h9:¬row[i]≤row[i-1]:=by
     have:row.getD (i-1) 0=row[i-1]:=by simp[show i-1<row.length by omega]
     omega
    have h10:i-1<row.length:=by omega
    have h11:(0:Int)≤(i:Int)-1:=by omega
    have h12:(i:Int)-1<row.length:=by omega
    have AL:(1:Int)≤i:=by omega
    simp[D6,hi,zU,h3,h4,h5,h8,h9,h10,h12,AL,zog,n5,isSm,hp1,show 0<i by omega]
  ·intro i hi _ hp
   have e0:row.getD i 0=row[i]:=by simp[hi]
   simp only[Co,zl81,jD,zl97,e0] at hp
   have h4:IntKind.wrap .i64 (count-1)=count-1:=by rw[wrap64]<;>omega
   have h5:=Dz (i:=i) (by omega)
   by_cases hp1:0≤row[i]∧row[i]≤count-1
   ·have hp2:=hp.resolve_left (fun h=>h hp1)
    have h6:(0:Int)<i:=by omega
    have h8:((i:Int)-1).toNat=i-1:=by omega
    have h9:row[i]≤row[i-1]:=by
     have:row.getD (i-1) 0=row[i-1]:=by simp[show i-1<row.length by omega]
     omega
    have h10:i-1<row.length:=by omega
    have h11:(0:Int)≤(i:Int)-1:=by omega
    have h12:(i:Int)-1<row.length:=by omega
    have AL:(1:Int)≤i:=by omega
    simp[D6,hi,zU,h4,h5,h8,h9,h10,h12,AL,zog,n5,isSm,hp1,show 0<i by omega]
   ·simp[D6,hi,zU,h4,zog,n5,isSm,hp1]
  ·simp[D6]
 cases hp:cx row.length (Co row count) with
 |true=>
  rw[hp,bf rfl] at hl
  simp[D5,cb hl,cv hl,Aq,hp,zog,n5,zU,isSm]
 |false=>
  rw[hp,bY (by simp)] at hl
  simp[D5,cb hl,cv hl,Aq,hp]
def cnt (p:fe.D):Int:=(p.1+p.2.1-1).tdiv p.2.1
def Ou (p:fe.D)(h1:1≤p.1∧p.1≤300)(h2:1≤p.2.1∧p.2.1≤16):1≤cnt p∧cnt p≤400:=by
 unfold cnt
 rw[zl91 (by omega)]
 constructor
 ·exact(Int.le_ediv_iff_mul_le (by omega)).2 (by omega)
 ·have:(p.1+p.2.1-1) / p.2.1≤(p.1+p.2.1-1):=Int.ediv_le_self _ (by omega)
  omega
def Pw (p:fe.D)(h1:1≤p.1∧p.1≤300)(h2:1≤p.2.1∧p.2.1≤16):zT p=some (cnt p,()):=by
 have hb:=Ou p h1 h2
 have e1:IntKind.wrap .i64 (p.1+p.2.1)=p.1+p.2.1:=by rw[wrap64]<;>omega
 have e2:IntKind.wrap .i64 (p.1+p.2.1-1)=p.1+p.2.1-1:=by rw[wrap64]<;>omega
 have e3:IntKind.wrap .i64 ((p.1+p.2.1-1).tdiv p.2.1)=(p.1+p.2.1-1).tdiv p.2.1:=by unfold cnt at hb;rw[wrap64]<;>omega
 have hz:(p.2.1 != 0)=true:=by simp;omega
 simp[zT,e1,e2,e3,zU,cnt,hz]
def SD (p:fe.D)(h1:1≤p.1∧p.1≤300)(h2:1≤p.2.1∧p.2.1≤16):Ax p=some (cnt p,()):=by
 have hb:=Ou p h1 h2
 have e1:IntKind.wrap .i64 (p.1+p.2.1)=p.1+p.2.1:=by rw[wrap64]<;>omega
 have e2:IntKind.wrap .i64 (p.1+p.2.1-1)=p.1+p.2.1-1:=by rw[wrap64]<;>omega
 have e3:IntKind.wrap .i64 ((p.1+p.2.1-1).tdiv p.2.1)=(p.1+p.2.1-1).tdiv p.2.1:=by unfold cnt at hb;rw[wrap64]<;>omega
 have hz:(p.2.1 != 0)=true:=by simp;omega
 simp[Ax,e1,e2,e3,zU,cnt,hz]
def EI (p:fe.D)(i:Nat):Bool:=
 decide (1≤p.2.2.1.getD i 0∧p.2.2.1.getD i 0≤cnt p)&&(decide (i=0) || decide (p.2.2.1.getD (i-1) 0<p.2.2.1.getD i 0))&&decide (1≤p.2.2.2.1.getD i 0∧p.2.2.2.1.getD i 0≤99)
def An (p:fe.D):Bool:=decide (1≤p.1∧p.1≤300)&&decide (1≤p.2.1∧p.2.1≤16)&&decide (cnt p≤24)&&decide (1≤p.2.2.1.length∧p.2.2.1.length≤3)&&decide (p.2.2.2.1.length=p.2.2.1.length)
def zR (p:fe.D):Bool:=An p&&cx p.2.2.1.length (EI p)&&decide (p.2.2.1.getD (p.2.2.1.length-1) 0=cnt p)
def akm (p:fe.D)(h:An p=true):Comes CK (((0:Int),()),p) (if cx p.2.2.1.length (EI p)=true then .inr ((),p) else .inl (false,())):=by
 simp only[An,aF,gQ] at h
 obtain⟨⟨⟨⟨a1,a2⟩,a3⟩,a4⟩,a5⟩:=h
 have hc:=Pw p a1 a2
 refine nC (fun i=>(((i:Int),()),p)) ?_ ?_ ?_
 ·intro i hi _ hp
  have hi2:i<p.2.2.2.1.length:=by omega
  have e0:p.2.2.1.getD i 0=p.2.2.1[i]:=by simp[hi]
  have e1:p.2.2.2.1.getD i 0=p.2.2.2.1[i]:=by simp[hi2]
  simp only[EI,aF,kE,gQ,e0,e1] at hp
  obtain⟨⟨hp1,hp2⟩,B3⟩:=hp
  have h3:=jb (i:=i) (by omega)
  have h5:=Dz (i:=i) (by omega)
  by_cases hz:i=0
  ·subst hz
   simp[CK,hi,hi2,zU,LC,zog,zog,hc,nW,isSm,hp1,B3]
  ·have h6:(0:Int)<i:=by omega
   have h8:((i:Int)-1).toNat=i-1:=by omega
   have h10:i-1<p.2.2.1.length:=by omega
   have h9:¬p.2.2.1[i]≤p.2.2.1[i-1]:=by
    have:p.2.2.1.getD (i-1) 0=p.2.2.1[i-1]:=by simp[h10]
    have:=hp2.resolve_left hz
    omega
   have h11:(0:Int)≤(i:Int)-1:=by omega
   have h12:(i:Int)-1<p.2.2.1.length:=by omega
   have AL:(1:Int)≤i:=by omega
   simp[CK,hi,hi2,zU,h3,h5,h8,h9,h10,h12,AL,zog,zog,hc,nW,isSm,hp1,B3,show 0<i by omega]
 ·intro i hi _ hp
  have hi2:i<p.2.2.2.1.length:=by omega
  have e0:p.2.2.1.getD i 0=p.2.2.1[i]:=by simp[hi]
  have e1:p.2.2.2.1.getD i 0=p.2.2.2.1[i]:=by simp[hi2]
  simp only[EI,zl81,jD,zl97,e0,e1] at hp
  have h5:=Dz (i:=i) (by omega)
  by_cases hp1:1≤p.2.2.1[i]∧p.2.2.1[i]≤cnt p
  ·by_cases hz:i=0
   ·subst hz
    have B3:¬((1:Int)≤p.2.2.2.1[0]∧p.2.2.2.1[0]≤(99:Int)):=by
     rcases hp with(hp|hp)|hp
     ·exact absurd hp1 hp
     ·exact absurd rfl hp.1
     ·exact hp
    simp[CK,hi,hi2,zU,zog,zog,hc,nW,isSm,hp1,B3]
   ·have h6:(0:Int)<i:=by omega
    have h8:((i:Int)-1).toNat=i-1:=by omega
    have h10:i-1<p.2.2.1.length:=by omega
    have e2:p.2.2.1.getD (i-1) 0=p.2.2.1[i-1]:=by simp[h10]
    rw[e2] at hp
    have h11:(0:Int)≤(i:Int)-1:=by omega
    have h12:(i:Int)-1<p.2.2.1.length:=by omega
    have AL:(1:Int)≤i:=by omega
    by_cases h9:p.2.2.1[i]≤p.2.2.1[i-1]
    ·simp[CK,hi,zU,h5,h8,h9,h10,h12,AL,zog,zog,hc,nW,isSm,hp1,show 0<i by omega]
    ·have B3:¬(1≤p.2.2.2.1[i]∧p.2.2.2.1[i]≤99):=by
      rcases hp with(hp|hp)|hp
      ·exact absurd hp1 hp
      ·exact absurd hp.2 (by omega)
      ·exact hp
     simp[CK,hi,hi2,zU,h5,h8,h9,h10,h12,AL,zog,zog,hc,nW,isSm,hp1,B3,show 0<i by omega]
  ·simp[CK,hi,zU,zog,zog,hc,nW,isSm,hp1]
 ·simp[CK]
def akl (p:fe.D):BT p=some (zR p,()):=by
 by_cases a1:1≤p.1∧p.1≤300
 case neg=>simp[BT,zog,nW,zU,isSm,a1,zR,An]
 by_cases a2:1≤p.2.1∧p.2.1≤16
 case neg=>simp[BT,zog,nW,zU,isSm,a1,a2,zR,An]
 have hc:=Pw p a1 a2
 have hb:=Ou p a1 a2
 by_cases a3:cnt p≤24
 case neg=>simp[BT,zog,zog,hc,nW,zU,isSm,a1,a2,a3,zR,An]
 by_cases a4:1≤p.2.2.1.length∧p.2.2.1.length≤3
 case neg=>
  have AJ:¬((1:Int)≤(p.2.2.1.length:Int)∧(p.2.2.1.length:Int)≤3):=by omega
  simp only[BT,zog,zog,hc,nW,zU,isSm,a1,a2,a3,a4,AJ,hb.1,zR,An,and_self,zl73,pI,zl70,zl98,aG,eF,zl93,kG,zl99,zl92]
 by_cases a5:p.2.2.2.1.length=p.2.2.1.length
 case neg=>
  have AJ:((1:Int)≤(p.2.2.1.length:Int)∧(p.2.2.1.length:Int)≤3):=by omega
  have DC:((p.2.2.2.1.length:Int) != (p.2.2.1.length:Int))=true:=by simp;omega
  simp only[BT,zog,zog,hc,nW,zU,isSm,a1,a2,a3,a4,AJ,a5,DC,hb.1,zR,An,and_self,zl73,pI,zl70,zl98,aG,eF,zl93,kG,zl99,zl92]
 have hA:An p=true:=by simp only[An,a1,a2,a3,a4,a5,and_self,zl73,zl92]
 have hl:=akm p hA
 have AJ:((1:Int)≤(p.2.2.1.length:Int)∧(p.2.2.1.length:Int)≤3):=by omega
 have DC:((p.2.2.2.1.length:Int) != (p.2.2.1.length:Int))=false:=by simp;omega
 have w1:IntKind.wrap .i64 ((p.2.2.1.length:Int)-1)=(p.2.2.1.length:Int)-1:=Dz (by omega)
 have w2:((p.2.2.1.length:Int)-1).toNat=p.2.2.1.length-1:=by omega
 have w3:(0:Int)≤(p.2.2.1.length:Int)-1:=by omega
 have w4:(p.2.2.1.length:Int)-1<(p.2.2.1.length:Int):=by omega
 cases hp:cx p.2.2.1.length (EI p) with
 |true=>
  rw[hp,bf rfl] at hl
  simp only[BT,cb hl,cv hl,zog,zog,hc,nW,zU,isSm,a1,a2,a3,AJ,DC,hb.1,zR,hA,hp,and_self,zl73,zl70,zl98,aG,eF,zl108,zl99,zl92]
  dsimp only[sumC]
  simp only[hc,w1,w2,w3,w4,zl73,zl92,aG]
  rfl
 |false=>
  rw[hp,bY (by simp)] at hl
  simp only[BT,cb hl,cv hl,zog,zog,hc,nW,zU,isSm,a1,a2,a3,AJ,DC,hb.1,zR,hA,hp,and_self,zl73,zl70,zl98,aG,eF,zl93,kG,zl99,zl92]
def aeh (p:fe.D)(h:An p=true):Comes CJ (((0:Int),(),p.2.2.1,(p.2.2.1.length:Int)),p) (if cx p.2.2.1.length (EI p)=true then .inr ((),()) else .inl (false,())):=by
 simp only[An,aF,gQ] at h
 obtain⟨⟨⟨⟨a1,a2⟩,a3⟩,a4⟩,a5⟩:=h
 have hc:=SD p a1 a2
 refine nC (fun i=>(((i:Int),(),p.2.2.1,(p.2.2.1.length:Int)),p)) ?_ ?_ ?_
 ·intro i hi _ hp
  have hi2:i<p.2.2.2.1.length:=by omega
  have e0:p.2.2.1.getD i 0=p.2.2.1[i]:=by simp[hi]
  have e1:p.2.2.2.1.getD i 0=p.2.2.2.1[i]:=by simp[hi2]
  simp only[EI,aF,kE,gQ,e0,e1] at hp
  obtain⟨⟨hp1,hp2⟩,B3⟩:=hp
  have h3:=jb (i:=i) (by omega)
  have h5:=Dz (i:=i) (by omega)
  by_cases hz:i=0
  ·subst hz
   simp[CJ,hi,hi2,zU,LC,zog,zog,hc,n5,isSm,hp1,B3]
  ·have h6:(0:Int)<i:=by omega
   have h8:((i:Int)-1).toNat=i-1:=by omega
   have h10:i-1<p.2.2.1.length:=by omega
   have h9:¬p.2.2.1[i]≤p.2.2.1[i-1]:=by
    have:p.2.2.1.getD (i-1) 0=p.2.2.1[i-1]:=by simp[h10]
    have:=hp2.resolve_left hz
    omega
   have h11:(0:Int)≤(i:Int)-1:=by omega
   have h12:(i:Int)-1<p.2.2.1.length:=by omega
   have AL:(1:Int)≤i:=by omega
   simp[CJ,hi,hi2,zU,h3,h5,h8,h9,h10,h12,AL,zog,zog,hc,n5,isSm,hp1,B3,show 0<i by omega]
 ·intro i hi _ hp
  have hi2:i<p.2.2.2.1.length:=by omega
  have e0:p.2.2.1.getD i 0=p.2.2.1[i]:=by simp[hi]
  have e1:p.2.2.2.1.getD i 0=p.2.2.2.1[i]:=by simp[hi2]
  simp only[EI,zl81,jD,zl97,e0,e1] at hp
  have h5:=Dz (i:=i) (by omega)
  by_cases hp1:1≤p.2.2.1[i]∧p.2.2.1[i]≤cnt p
  ·by_cases hz:i=0
   ·subst hz
    have B3:¬((1:Int)≤p.2.2.2.1[0]∧p.2.2.2.1[0]≤(99:Int)):=by
     rcases hp with(hp|hp)|hp
     ·exact absurd hp1 hp
     ·exact absurd rfl hp.1
     ·exact hp
    simp[CJ,hi,hi2,zU,zog,zog,hc,n5,isSm,hp1,B3]
   ·have h6:(0:Int)<i:=by omega
    have h8:((i:Int)-1).toNat=i-1:=by omega
    have h10:i-1<p.2.2.1.length:=by omega
    have e2:p.2.2.1.getD (i-1) 0=p.2.2.1[i-1]:=by simp[h10]
    rw[e2] at hp
    have h11:(0:Int)≤(i:Int)-1:=by omega
    have h12:(i:Int)-1<p.2.2.1.length:=by omega
    have AL:(1:Int)≤i:=by omega
    by_cases h9:p.2.2.1[i]≤p.2.2.1[i-1]
    ·simp[CJ,hi,zU,h5,h8,h9,h10,h12,AL,zog,zog,hc,n5,isSm,hp1,show 0<i by omega]
    ·have B3:¬(1≤p.2.2.2.1[i]∧p.2.2.2.1[i]≤99):=by
      rcases hp with(hp|hp)|hp
      ·exact absurd hp1 hp
      ·exact absurd hp.2 (by omega)
      ·exact hp
     simp[CJ,hi,hi2,zU,h5,h8,h9,h10,h12,AL,zog,zog,hc,n5,isSm,hp1,B3,show 0<i by omega]
  ·simp[CJ,hi,zU,zog,zog,hc,n5,isSm,hp1]
 ·simp[CJ]
def aeg (p:fe.D):Bt p=some (zR p,()):=by
 by_cases a1:1≤p.1∧p.1≤300
 case neg=>simp[Bt,zog,n5,zU,isSm,a1,zR,An]
 by_cases a2:1≤p.2.1∧p.2.1≤16
 case neg=>simp[Bt,zog,n5,zU,isSm,a1,a2,zR,An]
 have hc:=SD p a1 a2
 have hb:=Ou p a1 a2
 by_cases a3:cnt p≤24
 case neg=>
  have a3':cnt p>24:=by omega
  simp[Bt,zog,zog,hc,n5,zU,isSm,a1,a2,a3,a3',zR,An]
 have a3':¬cnt p>24:=by omega
 by_cases a4:1≤p.2.2.1.length∧p.2.2.1.length≤3
 case neg=>
  have AJ:¬((1:Int)≤(p.2.2.1.length:Int)∧(p.2.2.1.length:Int)≤3):=by omega
  simp only[Bt,zog,zog,hc,n5,zU,isSm,a1,a2,a3,a3',a4,AJ,zR,An,and_self,zl73,pI,zl70,zl98,aG,eF,zl93,kG,zl76,zl99,zl92]
 by_cases a5:p.2.2.2.1.length=p.2.2.1.length
 case neg=>
  have AJ:((1:Int)≤(p.2.2.1.length:Int)∧(p.2.2.1.length:Int)≤3):=by omega
  have DC:((p.2.2.2.1.length:Int) != (p.2.2.1.length:Int))=true:=by simp;omega
  simp only[Bt,zog,zog,hc,n5,zU,isSm,a1,a2,a3,a3',a4,AJ,a5,DC,zR,An,and_self,zl73,pI,zl70,zl98,aG,eF,zl93,kG,zl76,zl99,zl92]
 have hA:An p=true:=by simp only[An,a1,a2,a3,a4,a5,and_self,zl73,zl92]
 have hl:=aeh p hA
 have AJ:((1:Int)≤(p.2.2.1.length:Int)∧(p.2.2.1.length:Int)≤3):=by omega
 have DC:((p.2.2.2.1.length:Int) != (p.2.2.1.length:Int))=false:=by simp;omega
 have w1:IntKind.wrap .i64 ((p.2.2.1.length:Int)-1)=(p.2.2.1.length:Int)-1:=Dz (by omega)
 have w2:((p.2.2.1.length:Int)-1).toNat=p.2.2.1.length-1:=by omega
 have w3:(0:Int)≤(p.2.2.1.length:Int)-1:=by omega
 have w4:(p.2.2.1.length:Int)-1<(p.2.2.1.length:Int):=by omega
 by_cases a6:p.2.2.1.getD (p.2.2.1.length-1) 0=cnt p
 case neg=>
  have a6':(p.2.2.1.getD (p.2.2.1.length-1) 0 != cnt p)=true:=by simpa using a6
  simp only[Bt,zog,zog,hc,n5,zU,isSm,a1,a2,a3',AJ,DC,a6,a6',zR,hA,w1,w2,w3,w4,and_self,zl73,pI,zl70,zl98,aG,eF,zl108,kG,zl99,zl92]
 have a6':(p.2.2.1.getD (p.2.2.1.length-1) 0 != cnt p)=false:=by simpa using a6
 have a7:decide (p.2.2.1.getD (p.2.2.1.length-1) 0=cnt p)=true:=by simpa using a6
 cases hp:cx p.2.2.1.length (EI p) with
 |true=>
  rw[hp,bf rfl] at hl
  simp only[Bt,cb hl,cv hl,zog,zog,hc,n5,zU,isSm,a1,a2,a3',AJ,DC,a6',a7,zR,hA,hp,w1,w2,w3,w4,and_self,zl73,pI,zl70,zl98,aG,eF,zl99,zl92]
 |false=>
  rw[hp,bY (by simp)] at hl
  simp only[Bt,cb hl,cv hl,zog,zog,hc,n5,zU,isSm,a1,a2,a3',AJ,DC,a6',a7,zR,hA,hp,w1,w2,w3,w4,and_self,zl73,pI,zl70,zl98,aG,eF,zl93,kG,zl99,zl92]
def qe (l:List Int):Nat:=l.foldl (fun m x=>m |||2 ^ x.toNat) 0
def Zx (l:List Int)(x:Int):qe (l ++ [x])=qe l |||2 ^ x.toNat:=by simp[qe,List.foldl_append]
def aeT (l:List Int)(j:Nat):∀m:Nat,(l.foldl (fun m x=>m |||2 ^ x.toNat) m).testBit j=(m.testBit j || l.any fun x=>decide (x.toNat=j)):=by
 induction l with
 |nil=>simp
 |cons x l ih=>
  intro m
  rw[List.foldl_cons,ih]
  simp[Nat.testBit_or,Nat.testBit_two_pow,Bool.or_assoc]
def O0 (l:List Int)(j:Nat):(qe l).testBit j=l.any fun x=>decide (x.toNat=j):=by
 rw[qe,aeT];simp
def mk_lt (l:List Int)(h:∀x∈l,x<24):∀m:Nat,m<2 ^ 24→l.foldl (fun m x=>m |||2 ^ x.toNat) m<2 ^ 24:=by
 induction l with
 |nil=>intro m hm;exact hm
 |cons x l ih=>
  intro m hm
  rw[List.foldl_cons]
  refine ih (fun y hy=>h y (gP _ hy)) _ (Nat.or_lt_two_pow hm ?_)
  exact Nat.pow_lt_pow_right (by decide) (by have:=h x lu;omega)
def OZ (l:List Int)(h:∀x∈l,x<24):qe l<2 ^ 24:=mk_lt l h 0 (by decide)
def O2 {a:Nat}(ha:a<2 ^ 24):(BitVec.ofInt 32 (a:Int)).toNat=a:=by
 rw[BitVec.ofInt_natCast,BitVec.toNat_ofNat];omega
def wrap32 {n:Nat}(h:n<2 ^ 24):IntKind.wrap .u32 (n:Int)=(n:Int):=by
 simp[IntKind.wrap,IntKind.bits,IntKind.signed];omega
def or32 {a b:Nat}(ha:a<2 ^ 24)(hb:b<2 ^ 24):pS .or .u32 (a:Int) (b:Int)=((a |||b:Nat):Int):=by
 show IntKind.wrap .u32 (((BitVec.ofInt 32 (a:Int) |||BitVec.ofInt 32 (b:Int)).toNat:Nat):Int)=_
 rw[BitVec.toNat_or,O2 ha,O2 hb,wrap32 (Nat.or_lt_two_pow ha hb)]
def and32 {a b:Nat}(ha:a<2 ^ 24)(hb:b<2 ^ 24):pS .and .u32 (a:Int) (b:Int)=((a &&& b:Nat):Int):=by
 show IntKind.wrap .u32 (((BitVec.ofInt 32 (a:Int) &&& BitVec.ofInt 32 (b:Int)).toNat:Nat):Int)=_
 rw[BitVec.toNat_and,O2 ha,O2 hb,wrap32 (Nat.and_lt_two_pow _ hb)]
def shl32 {n:Int}(h:0≤n)(h':n<24):IntKind.wrap .u32 ((1:Int)*(2:Int) ^ Min.min (Int.toNat n) (IntKind.bits .u32))=((2 ^ n.toNat:Nat):Int):=by
 obtain⟨k,rfl⟩:∃k:Nat,n=k:=⟨n.toNat,by omega⟩
 have hk:k<24:=by omega
 have hm:min k 32=k:=by omega
 have h2:2 ^ k<2 ^ 24:=Nat.pow_lt_pow_right (by decide) hk
 have e:(1:Int)*(2:Int) ^ Min.min (Int.toNat k) (IntKind.bits .u32)=((2 ^ k:Nat):Int):=by
  simp[IntKind.bits,hm]
 rw[e,wrap32 h2];simp
def pow24 {n:Int}(h':n<24):2 ^ n.toNat<2 ^ 24:=Nat.pow_lt_pow_right (by decide) (by omega)
def aeo (row:List Int)(hl:row.length≤4611686018427387904)(h:∀x∈row,0≤x∧x<24):Fc row=some ((qe row:Int),()):=by
 have hc:Comes Iu (((0:Int),(0:Int),row,(row.length:Int)),()) ((qe row:Int),()):=by
  refine lO (st:=fun i=>(((i:Int),(qe (row.take i):Int),row,(row.length:Int)),())) (n:=row.length) ?_ ?_ 0 (lz _)
  ·intro i hi
   have h0:=h row[i] (by simp)
   have h3:=jb (i:=i) (by omega)
   have e:qe (row.take (i+1))=qe (row.take i) |||2 ^ (row[i]).toNat:=by rw[zl88 hi,Zx]
   have h4:=shl32 h0.1 h0.2
   have h5:=or32 (OZ (row.take i) fun x hx=>(h x (List.mem_of_mem_take hx)).2) (pow24 h0.2)
   simp only[Iu,getD_eq _ _ _ hi,zl94,h3,h4,h5,e,zU,Int.ofNat_lt,hi,h0.1,zl73,aG,zl111,zl92]
  ·simp[Iu]
 simp[Fc,cb hc,cv hc]
def ab1 {i:Nat}(h:i≤4611686018427387904)(h0:0<i):IntKind.wrap .i64 ((i:Int)-1)=((i-1:Nat):Int):=by rw[wrap64]<;>omega
def b8 (s:b7.D)(i:Nat):er.D:=s.2.2.1.getD i ([],[],())
def eJ (s:b7.D)(i:Nat):Int:=(b8 s i).1.getD 0 0
def nE (s:b7.D)(i:Nat):Bool:=
 Aq (b8 s i).1 s.1&&decide ((b8 s i).1.length≠0)&&decide (((b8 s i).2.1.length:Int)=s.2.1)&&(decide (i=0) || decide (eJ s (i-1)<eJ s i))
def Ox (s:b7.D)(i:Nat)(h:i<s.2.2.1.length):b8 s i∈s.2.2.1:=by
 rw[b8,getD_eq _ _ _ h];simp
def akp (s:b7.D)(hs:Cv s)(h1:1≤s.1∧s.1≤24):Comes Fu (((0:Int),()),s) (if cx s.2.2.1.length (nE s)=true then .inr ((),s) else .inl (false,())):=by
 have z8:∀i,i<s.2.2.1.length→(∀j,j<i→nE s j=true)→Fu (((i:Int),()),s)=bif nE s i then some (.inl ((((i+1:Nat):Int),()),s)) else some (.inr (.inl (false,()))):=by
  intro i hi hp
  have hm:=Ox s i hi
  have hr:=akn (b8 s i).1 s.1 (hs.2 _ hm) (by omega) (by omega)
  have hr':zog D8 ((b8 s i).1,s.1)=(Aq (b8 s i).1 s.1,()):=by simp only[zog,hr]
  have eA:List.getD s.2.2.1 i ([],[],())=b8 s i:=rfl
  have hi':decide ((i:Int)<(s.2.2.1.length:Int))=true:=by simpa using hi
  have h0:decide ((0:Int)≤(i:Int))=true:=by simp
  have w:=jb (i:=i) (by have:=hs.1;omega)
  have d1:(((b8 s i).1.length:Int)==0) = !decide ((b8 s i).1.length≠0):=by
   by_cases e:(b8 s i).1.length=0<;>simp[e]
  have d2:(((b8 s i).2.1.length:Int) != s.2.1) = !decide (((b8 s i).2.1.length:Int)=s.2.1):=rfl
  have d3:decide ((0:Int)<((b8 s i).1.length:Int))=decide ((b8 s i).1.length≠0):=by
   by_cases e:(b8 s i).1.length=0<;>simp[e];omega
  rcases zl83 i with hz|hz
  ·subst hz
   have g0:decide (((0:Nat):Int)>0)=false:=by decide
   cases hA:Aq (b8 s 0).1 s.1<;>cases hB:decide ((b8 s 0).1.length≠0)<;>cases hC:decide (((b8 s 0).2.1.length:Int)=s.2.1)<;>
    simp only[Fu,hi',h0,zl94,eA,hr',hr,d1,d2,d3,g0,hA,hB,hC,w,nE,zU,isSm,aG,eF,zl70,zl98,Bool.and_true,kG,zl76,zl99,zl92,zl73]
  ·have g0:decide ((i:Int)>0)=true:=by simpa using hz
   have gz:decide (i=0)=false:=by simp;omega
   have w2:=ab1 (i:=i) (by have:=hs.1;omega) hz
   have eB:List.getD s.2.2.1 (i-1) ([],[],())=b8 s (i-1):=rfl
   have hq:=hp (i-1) (by omega)
   simp only[nE,aF,gQ] at hq
   have q1:decide ((0:Int)<((b8 s (i-1)).1.length:Int))=true:=by have:=hq.1.1.2;simp;omega
   have q2:decide (((i-1:Nat):Int)<(s.2.2.1.length:Int))=true:=by simp;omega
   have q3:decide ((0:Int)≤((i-1:Nat):Int))=true:=by simp
   have f1:List.getD (b8 s i).1 0 0=eJ s i:=rfl
   have f2:List.getD (b8 s (i-1)).1 0 0=eJ s (i-1):=rfl
   have d4:decide (eJ s (i-1)≥eJ s i) = !decide (eJ s (i-1)<eJ s i):=by
    by_cases e:eJ s (i-1)<eJ s i
    ·have:¬eJ s i≤eJ s (i-1):=by omega
     simp[e,this]
    ·have:eJ s i≤eJ s (i-1):=by omega
     simp[e,this]
   cases hA:Aq (b8 s i).1 s.1<;>cases hB:decide ((b8 s i).1.length≠0)<;>cases hC:decide (((b8 s i).2.1.length:Int)=s.2.1)<;>cases hD:decide (eJ s (i-1)<eJ s i)<;>
    simp only[Fu,hi',h0,zl94,Int.toNat_zero,eA,eB,f1,f2,hr',hr,d1,d2,d3,d4,g0,gz,hA,hB,hC,hD,w,w2,q1,q2,q3,nE,zU,isSm,aG,eF,zl70,zl98,Bool.and_true,kG,zl99,Bool.or_false,zl92,zl73,Int.le_refl]
 refine nC (fun i=>(((i:Int),()),s)) ?_ ?_ ?_
 ·intro i hi hp h
  rw[z8 i hi hp,h];rfl
 ·intro i hi hp h
  rw[z8 i hi hp,h];rfl
 ·simp[Fu]
def DF (row:List Int)(n:Int):Bool:= !cx row.length fun j=> !(row.getD j 0==n)
def Xz (row:List Int)(n:Int):DF row n=true↔∃j,j<row.length∧row.getD j 0=n:=by
 unfold DF
 cases h:cx row.length fun j=> !(row.getD j 0==n) with
 |true=>
  rw[oc] at h
  simp only[zl70,dI,false_iff,not_exists,not_and]
  intro j hj e
  have:=h j hj
  simp only[e,zl95,zl70,dI] at this
 |false=>
  simp only[zl98,true_iff]
  by_cases e:∃j,j<row.length∧row.getD j 0=n
  ·exact e
  ·exfalso
   have:cx row.length (fun j=> !(row.getD j 0==n))=true:=by
    rw[oc];intro j hj
    simp only[i_,zl89,ne_eq]
    intro e2;exact e ⟨j,hj,e2⟩
   rw[h] at this;cases this
def aks (row:List Int)(n:Int)(h:row.length≤4611686018427387904):Ea (row,n)=some (DF row n,()):=by
 have hl:Comes GA (((0:Int),n,row),()) (if(cx row.length fun j=> !(row.getD j 0==n))=true then .inr ((),()) else .inl (true,())):=by
  refine nC (fun i=>(((i:Int),n,row),())) ?_ ?_ ?_
  ·intro i hi _ hp
   have hi':decide ((i:Int)<(row.length:Int))=true:=by simpa using hi
   have h0:decide ((0:Int)≤(i:Int))=true:=by simp
   have hp':(row.getD i 0==n)=false:=by simpa using hp
   simp only[GA,hi',h0,zl94,hp',jb (i:=i) (by omega),zU,aG,eF,zl92]
  ·intro i hi _ hp
   have hi':decide ((i:Int)<(row.length:Int))=true:=by simpa using hi
   have h0:decide ((0:Int)≤(i:Int))=true:=by simp
   have hp':(row.getD i 0==n)=true:=by simpa using hp
   simp only[GA,hi',h0,zl94,hp',zU,aG,zl92]
  ·simp[GA]
 cases hp:(cx row.length fun j=> !(row.getD j 0==n)) with
 |true=>
  rw[hp,bf rfl] at hl
  simp only[Ea,cb hl,cv hl,DF,hp,aG,zl70]
 |false=>
  rw[hp,bY (by simp)] at hl
  simp only[Ea,cb hl,cv hl,DF,hp,aG,zl98]
def Ji (s:b7.D)(i k:Nat):Bool:=decide (k=i) || !DF (b8 s k).1 (eJ s i)
def cross (s:b7.D):Bool:=cx s.2.2.1.length fun i=>cx s.2.2.1.length (Ji s i)
def abT (s:b7.D)(hs:Cv s)(i:Nat)(hi:i<s.2.2.1.length)(hne:(b8 s i).1.length≠0) :
  Comes GS (((0:Int),(i:Int),()),s) (if cx s.2.2.1.length (Ji s i)=true then .inr (((),(i:Int)),s) else .inl (false,())):=by
 have z8:∀k,k<s.2.2.1.length→GS (((k:Int),(i:Int),()),s)=bif Ji s i k then some (.inl ((((k+1:Nat):Int),(i:Int),()),s)) else some (.inr (.inl (false,()))):=by
  intro k hk
  have hr:=aks (b8 s k).1 (eJ s i) (hs.2 _ (Ox s k hk))
  have hr':zog Ea ((b8 s k).1,eJ s i)=(DF (b8 s k).1 (eJ s i),()):=by simp only[zog,hr]
  have eA:List.getD s.2.2.1 i ([],[],())=b8 s i:=rfl
  have eB:List.getD s.2.2.1 k ([],[],())=b8 s k:=rfl
  have f1:List.getD (b8 s i).1 0 0=eJ s i:=rfl
  have hi':decide ((i:Int)<(s.2.2.1.length:Int))=true:=by simpa using hi
  have hk':decide ((k:Int)<(s.2.2.1.length:Int))=true:=by simpa using hk
  have h0:decide ((0:Int)≤(i:Int))=true:=by simp
  have h1:decide ((0:Int)≤(k:Int))=true:=by simp
  have h2:decide ((0:Int)<((b8 s i).1.length:Int))=true:=by simp;omega
  have w:=jb (i:=k) (by have:=hs.1;omega)
  have d1:((k:Int) != (i:Int)) = !decide (k=i):=by
   by_cases e:k=i
   ·subst e;simp
   ·have:(k:Int)≠i:=by omega
    simp[e,this]
  cases hA:decide (k=i)<;>cases hB:DF (b8 s k).1 (eJ s i)<;>
   simp only[GS,hi',hk',h0,h1,h2,zl94,Int.toNat_zero,eA,eB,f1,hr,hr',d1,hA,hB,w,Ji,zU,isSm,aG,eF,zl70,zl98,zl99,Bool.or_false,zl92,Bool.or_self,zl73,Int.le_refl]
 refine nC (fun k=>(((k:Int),(i:Int),()),s)) ?_ ?_ ?_
 ·intro k hk _ h
  rw[z8 k hk,h];rfl
 ·intro k hk _ h
  rw[z8 k hk,h];rfl
 ·simp[GS]
def akq (s:b7.D)(hs:Cv s)(hne:∀i,i<s.2.2.1.length→(b8 s i).1.length≠0) :
  Comes GR (((0:Int),()),s) (if cross s=true then .inr ((),()) else .inl (false,())):=by
 refine nC (fun i=>(((i:Int),()),s)) ?_ ?_ ?_
 ·intro i hi _ h
  have hl:=abT s hs i hi (hne i hi)
  rw[h,bf rfl] at hl
  have hi':decide ((i:Int)<(s.2.2.1.length:Int))=true:=by simpa using hi
  simp only[GR,hi',cb hl,cv hl,aG]
  dsimp only[sumC]
  rw[jb (i:=i) (by have:=hs.1;omega)]
 ·intro i hi _ h
  have hl:=abT s hs i hi (hne i hi)
  rw[h,bY (by simp)] at hl
  have hi':decide ((i:Int)<(s.2.2.1.length:Int))=true:=by simpa using hi
  simp only[GR,hi',cb hl,cv hl,aG]
 ·simp[GR]
def y4 (s:b7.D):Bool:=decide (1≤s.1∧s.1≤24)&&decide (1≤s.2.1∧s.2.1≤16)&&cx s.2.2.1.length (nE s)&&cross s
def Sn {s:b7.D}(h:cx s.2.2.1.length (nE s)=true)(i:Nat)(hi:i<s.2.2.1.length):(b8 s i).1.length≠0:=by
 have:=oc.1 h i hi
 simp only[nE,aF,gQ] at this
 exact this.1.1.2
def ako (s:b7.D)(hs:Cv s):CM s=some (y4 s,()):=by
 by_cases a1:1≤s.1∧s.1≤24
 case neg=>simp[CM,zog,nW,zU,isSm,a1,y4]
 by_cases a2:1≤s.2.1∧s.2.1≤16
 case neg=>simp[CM,zog,nW,zU,isSm,a1,a2,y4]
 have hl:=akp s hs a1
 cases h1:cx s.2.2.1.length (nE s) with
 |false=>
  rw[h1,bY (by simp)] at hl
  simp[CM,zog,nW,zU,isSm,a1,a2,y4,cb hl,cv hl,h1]
 |true=>
  rw[h1,bf rfl] at hl
  have hl2:=akq s hs (Sn h1)
  cases h2:cross s with
  |false=>
   rw[h2,bY (by simp)] at hl2
   simp[CM,zog,nW,zU,isSm,a1,a2,y4,cb hl,cv hl,h1,h2]
   dsimp only[sumC]
   simp only[cb hl2,cv hl2,aG]
  |true=>
   rw[h2,bf rfl] at hl2
   simp[CM,zog,nW,zU,isSm,a1,a2,y4,cb hl,cv hl,h1,h2]
   dsimp only[sumC]
   simp only[cb hl2,cv hl2,aG]
def VC {row:List Int}{count:Int}(h:Aq row count=true)(x:Int)(hx:x∈row):0≤x∧x<24:=by
 simp only[Aq,aF,gQ] at h
 obtain⟨i,hi,e⟩:=List.mem_iff_getElem.1 hx
 have:=oc.1 h.1 i hi
 simp only[Co,aF,gQ,getD_eq _ _ _ hi,e] at this
 omega
def zG (s:b7.D)(i:Nat):List Int:=(List.range i).map (eJ s)
def adY (s:b7.D)(i:Nat):zG s (i+1)=zG s i ++ [eJ s i]:=by simp[zG,List.range_succ]
def OF {s:b7.D}{i:Nat}(h:nE s i=true):0≤eJ s i∧eJ s i<24:=by
 simp only[nE,aF,gQ] at h
 have hp:0<(b8 s i).1.length:=by have:=h.1.1.2;omega
 refine VC h.1.1.1 _ ?_
 rw[eJ,getD_eq _ _ _ hp];simp
def XE {s:b7.D}{i:Nat}(h:∀j,j<i→nE s j=true):∀x∈zG s i,x<24:=by
 intro x hx
 simp only[zG,eV,List.mem_range] at hx
 obtain⟨j,hj,rfl⟩:=hx
 exact(OF (h j hj)).2
def aek (s:b7.D)(hs:Cv s)(h1:1≤s.1∧s.1≤24) :
  Comes Dn (((0:Int),(0:Int),(),s.2.2.1,(s.2.2.1.length:Int)),s) (if cx s.2.2.1.length (nE s)=true then .inr ((((qe (zG s s.2.2.1.length):Nat):Int),()),s) else .inl (false,())):=by
 have z8:∀i,i<s.2.2.1.length→(∀j,j<i→nE s j=true)→Dn (((i:Int),((qe (zG s i):Nat):Int),(),s.2.2.1,(s.2.2.1.length:Int)),s)=bif nE s i then some (.inl ((((i+1:Nat):Int),((qe (zG s (i+1)):Nat):Int),(),s.2.2.1,(s.2.2.1.length:Int)),s)) else some (.inr (.inl (false,()))):=by
  intro i hi hp
  have hm:=Ox s i hi
  have hr:=aei (b8 s i).1 s.1 (hs.2 _ hm) (by omega) (by omega)
  have hr':zog D5 ((b8 s i).1,s.1)=(Aq (b8 s i).1 s.1,()):=by simp only[zog,hr]
  have eA:List.getD s.2.2.1 i ([],[],())=b8 s i:=rfl
  have hi':decide ((i:Int)<(s.2.2.1.length:Int))=true:=by simpa using hi
  have h0:decide ((0:Int)≤(i:Int))=true:=by simp
  have w:=jb (i:=i) (by have:=hs.1;omega)
  have d1:(((b8 s i).1.length:Int)==0) = !decide ((b8 s i).1.length≠0):=by
   by_cases e:(b8 s i).1.length=0<;>simp[e]
  have d2:(((b8 s i).2.1.length:Int) != s.2.1) = !decide (((b8 s i).2.1.length:Int)=s.2.1):=rfl
  have d3:decide ((0:Int)<((b8 s i).1.length:Int))=decide ((b8 s i).1.length≠0):=by
   by_cases e:(b8 s i).1.length=0<;>simp[e];omega
  have f1:List.getD (b8 s i).1 0 0=eJ s i:=rfl
  have mk:nE s i=true→pS .or .u32 ((qe (zG s i):Nat):Int) (IntKind.wrap .u32 ((1:Int)*(2:Int) ^ Min.min (Int.toNat (eJ s i)) (IntKind.bits .u32)))=((qe (zG s (i+1)):Nat):Int):=by
   intro h
   have:=OF h
   rw[shl32 this.1 this.2,or32 (OZ _ (XE hp)) (pow24 this.2),adY,Zx]
  have mk0:nE s i=true→decide (0≤eJ s i)=true:=fun h=>zl86 (OF h).1
  rcases zl83 i with hz|hz
  ·subst hz
   have g0:decide (((0:Nat):Int)>0)=false:=by decide
   cases hA:Aq (b8 s 0).1 s.1<;>cases hB:decide ((b8 s 0).1.length≠0)<;>cases hC:decide (((b8 s 0).2.1.length:Int)=s.2.1)
   case true.true.true=>
    have hE:nE s 0=true:=by simp only[nE,hA,hB,hC,zl73,zl76,zl92]
    simp only[Dn,hi',h0,zl94,Int.toNat_zero,eA,f1,hr',hr,d1,d2,d3,g0,hA,hB,hC,w,mk hE,mk0 hE,hE,zU,isSm,aG,eF,zl70,zl98,Bool.and_true,zl76,zl99,zl92]
   all_goals
    simp only[Dn,hi',h0,zl94,eA,hr',hr,d1,d2,d3,g0,hA,hB,hC,w,nE,zU,isSm,aG,eF,zl70,zl98,Bool.and_true,kG,zl76,zl99,zl92,zl73]
  ·have g0:decide ((i:Int)>0)=true:=by simpa using hz
   have gz:decide (i=0)=false:=by simp;omega
   have w2:=ab1 (i:=i) (by have:=hs.1;omega) hz
   have eB:List.getD s.2.2.1 (i-1) ([],[],())=b8 s (i-1):=rfl
   have hq:=hp (i-1) (by omega)
   simp only[nE,aF,gQ] at hq
   have q1:decide ((0:Int)<((b8 s (i-1)).1.length:Int))=true:=by have:=hq.1.1.2;simp;omega
   have q2:decide (((i-1:Nat):Int)<(s.2.2.1.length:Int))=true:=by simp;omega
   have q3:decide ((0:Int)≤((i-1:Nat):Int))=true:=by simp
   have f2:List.getD (b8 s (i-1)).1 0 0=eJ s (i-1):=rfl
   have d4:decide (eJ s (i-1)≥eJ s i) = !decide (eJ s (i-1)<eJ s i):=by
    by_cases e:eJ s (i-1)<eJ s i
    ·have:¬eJ s i≤eJ s (i-1):=by omega
     simp[e,this]
    ·have:eJ s i≤eJ s (i-1):=by omega
     simp[e,this]
   cases hA:Aq (b8 s i).1 s.1<;>cases hB:decide ((b8 s i).1.length≠0)<;>cases hC:decide (((b8 s i).2.1.length:Int)=s.2.1)<;>cases hD:decide (eJ s (i-1)<eJ s i)
   case true.true.true.true=>
    have hE:nE s i=true:=by simp only[nE,hA,hB,hC,hD,zl99,zl92]
    simp only[Dn,hi',h0,zl94,Int.toNat_zero,eA,eB,f1,f2,hr',hr,d1,d2,d3,d4,g0,hA,hB,hC,hD,w,w2,q1,q2,q3,mk hE,mk0 hE,hE,zU,isSm,aG,eF,zl70,zl98,zl99,zl92,zl73,Int.le_refl]
   all_goals
    simp only[Dn,hi',h0,zl94,Int.toNat_zero,eA,eB,f1,f2,hr',hr,d1,d2,d3,d4,g0,gz,hA,hB,hC,hD,w,w2,q1,q2,q3,nE,zU,isSm,aG,eF,zl70,zl98,Bool.and_true,kG,zl99,Bool.or_false,zl92,zl73,Int.le_refl]
 have e0:((qe (zG s 0):Nat):Int)=0:=rfl
 refine e0▸nC (fun i=>(((i:Int),((qe (zG s i):Nat):Int),(),s.2.2.1,(s.2.2.1.length:Int)),s)) ?_ ?_ ?_
 ·intro i hi hp h
  rw[z8 i hi hp,h];rfl
 ·intro i hi hp h
  rw[z8 i hi hp,h];rfl
 ·simp[Dn]
def A0 (s:b7.D)(k:Nat):List Int:=(b8 s k).1.drop 1
def C9 (s:b7.D)(k:Nat):Bool:=decide (qe (A0 s k) &&& qe (zG s s.2.2.1.length)=0)
def ael (s:b7.D)(hs:Cv s)(ha:cx s.2.2.1.length (nE s)=true) :
  Comes GL (((0:Int),((qe (zG s s.2.2.1.length):Nat):Int),s.2.2.1,(s.2.2.1.length:Int)),()) (if cx s.2.2.1.length (C9 s)=true then .inr ((),()) else .inl (false,())):=by
 have z8:∀k,k<s.2.2.1.length→GL (((k:Int),((qe (zG s s.2.2.1.length):Nat):Int),s.2.2.1,(s.2.2.1.length:Int)),())=bif C9 s k then some (.inl ((((k+1:Nat):Int),((qe (zG s s.2.2.1.length):Nat):Int),s.2.2.1,(s.2.2.1.length:Int)),())) else some (.inr (.inl (false,()))):=by
  intro k hk
  have hm:=Ox s k hk
  have hl:=hs.2 _ hm
  have hq:=oc.1 ha k hk
  simp only[nE,aF,gQ] at hq
  have hne:=hq.1.1.2
  have hmem:∀x∈A0 s k,0≤x∧x<24:=fun x hx=>VC hq.1.1.1 x (List.mem_of_mem_drop hx)
  have hr:=aeo (A0 s k) (by rw[A0,zl4];omega) hmem
  have hr':zog Fc (A0 s k)=(((qe (A0 s k):Nat):Int),()):=by simp only[zog,hr]
  have eA:List.getD s.2.2.1 k ([],[],())=b8 s k:=rfl
  have et:List.take (Int.toNat (((b8 s k).1.length:Int)-1)) (List.drop (Int.toNat 1) (b8 s k).1)=A0 s k:=by
   rw[A0]
   exact zl57 (by simp)
  have hk':decide ((k:Int)<(s.2.2.1.length:Int))=true:=by simpa using hk
  have h0:decide ((0:Int)≤(k:Int))=true:=by simp
  have h1:decide ((1:Int)≤((b8 s k).1.length:Int))=true:=by simp;omega
  have w:=jb (i:=k) (by have:=hs.1;omega)
  have ea:=and32 (OZ _ fun x hx=>(hmem x hx).2) (OZ _ (XE (oc.1 ha)))
  have en:(((qe (A0 s k) &&& qe (zG s s.2.2.1.length):Nat):Int) != 0) = !C9 s k:=by
   unfold C9
   by_cases e:qe (A0 s k) &&& qe (zG s s.2.2.1.length)=0
   ·rw[e];rfl
   ·rw[zl90 e,zl98,bne_iff_ne];omega
  cases hc:C9 s k<;>
   simp only[GL,hk',h0,h1,zl94,eA,et,hr,hr',ea,en,hc,w,zU,isSm,aG,eF,zl70,zl98,zl92,zl73,Int.le_refl]
 refine nC (fun k=>(((k:Int),((qe (zG s s.2.2.1.length):Nat):Int),s.2.2.1,(s.2.2.1.length:Int)),())) ?_ ?_ ?_
 ·intro k hk _ h
  rw[z8 k hk,h];rfl
 ·intro k hk _ h
  rw[z8 k hk,h];rfl
 ·simp[GL]
def asc {f:Nat→Int}{n:Nat}(h:∀i,0<i→i<n→f (i-1)<f i):∀j i,i<j→j<n→f i<f j:=by
 intro j
 induction j with
 |zero=>intro i hi;omega
 |succ j ih=>
  intro i hi hj
  have h1:f j<f (j+1):=h (j+1) (by omega) hj
  by_cases e:i=j
  ·subst e;exact h1
  ·have:=ih i (by omega) (by omega)
   omega
def aj1 {row:List Int}{count:Int}(h:Aq row count=true)(m:Nat)(hm:0<m)(hl:m<row.length):row.getD 0 0<row.getD m 0:=by
 simp only[Aq,aF] at h
 refine asc (f:=fun i=>row.getD i 0) (n:=row.length) ?_ m 0 hm hl
 intro i h0 hi
 have:=oc.1 h.1 i hi
 simp only[Co,aF,kE,gQ] at this
 exact this.2.resolve_left (by omega)
def OG {s:b7.D}(h:cx s.2.2.1.length (nE s)=true):∀j i,i<j→j<s.2.2.1.length→eJ s i<eJ s j:=by
 refine asc ?_
 intro i h0 hi
 have:=oc.1 h i hi
 simp only[nE,aF,kE,gQ] at this
 exact this.2.resolve_left (by omega)
def Pv {s:b7.D}(h:cx s.2.2.1.length (nE s)=true){k:Nat}(hk:k<s.2.2.1.length):Aq (b8 s k).1 s.1=true:=by
 have:=oc.1 h k hk
 simp only[nE,aF] at this
 exact this.1.1.1
def Th {s:b7.D}{k:Nat}{x:Int}:x∈A0 s k↔∃m,0<m∧m<(b8 s k).1.length∧(b8 s k).1.getD m 0=x:=by
 rw[A0,List.mem_iff_getElem]
 constructor
 ·rintro⟨i,hi,e⟩
  rw[zl4] at hi
  refine⟨i+1,by omega,by omega,?_⟩
  rw[getD_eq _ _ _ (by omega:i+1<(b8 s k).1.length)]
  rw[List.getElem_drop] at e
  simpa[Nat.add_comm] using e
 ·rintro⟨m,h0,hm,e⟩
  refine⟨m-1,by rw[zl4];omega,?_⟩
  rw[List.getElem_drop]
  rw[getD_eq _ _ _ hm] at e
  have:1+(m-1)=m:=by omega
  simp only[this]
  exact e
def Zw {s:b7.D}{n:Nat}{x:Int}:x∈zG s n↔∃i,i<n∧eJ s i=x:=by simp[zG]
def Tg {s:b7.D}(ha:cx s.2.2.1.length (nE s)=true){k:Nat}(hk:k<s.2.2.1.length) :
  C9 s k=true↔∀i,i<s.2.2.1.length→eJ s i∉A0 s k:=by
 have hr:=Pv ha hk
 unfold C9
 rw[gQ]
 constructor
 ·intro h i hi hm
  have h1:(qe (A0 s k)).testBit (eJ s i).toNat=true:=by
   rw[O0,List.any_eq_true];exact⟨_,hm,by simp⟩
  have h2:(qe (zG s s.2.2.1.length)).testBit (eJ s i).toNat=true:=by
   rw[O0,List.any_eq_true];exact⟨_,Zw.2 ⟨i,hi,rfl⟩,by simp⟩
  have:(qe (A0 s k) &&& qe (zG s s.2.2.1.length)).testBit (eJ s i).toNat=true:=by rw[Nat.testBit_and,h1,h2];rfl
  rw[h,Nat.zero_testBit] at this;cases this
 ·intro h
  apply Nat.eq_of_testBit_eq
  intro j
  rw[Nat.testBit_and,Nat.zero_testBit,O0,O0,zl81]
  cases h1:(A0 s k).any fun x=>decide (x.toNat=j) with
  |false=>exact .inl rfl
  |true=>
   refine .inr ?_
   cases h2:(zG s s.2.2.1.length).any fun x=>decide (x.toNat=j) with
   |false=>rfl
   |true=>
    exfalso
    obtain⟨x,hx,ex⟩:=List.any_eq_true.1 h1
    obtain⟨y,hy,ey⟩:=List.any_eq_true.1 h2
    simp only[gQ] at ex ey
    obtain⟨i,hi,rfl⟩:=Zw.1 hy
    have b1:=OF (oc.1 ha i hi)
    have b2:=VC hr x (List.mem_of_mem_drop hx)
    have:x=eJ s i:=by omega
    subst this
    exact h i hi hx
def WS {s:b7.D}(ha:cx s.2.2.1.length (nE s)=true):cx s.2.2.1.length (C9 s)=cross s:=by
 have hne:=Sn ha
 have key:cx s.2.2.1.length (C9 s)=true↔cross s=true:=by
  rw[oc,cross,oc]
  constructor
  ·intro h i hi
   rw[oc]
   intro k hk
   simp only[Ji,kE,gQ]
   by_cases e:k=i
   ·exact .inl e
   ·refine .inr ?_
    cases hh:DF (b8 s k).1 (eJ s i) with
    |false=>rfl
    |true=>
     exfalso
     obtain⟨j,hj,ej⟩:=(Xz _ _).1 hh
     rcases zl83 j with hz|hz
     ·subst hz
      have e2:eJ s k=eJ s i:=ej
      rcases Nat.lt_or_gt_of_ne e with hlt|hlt
      ·have:=OG ha i k hlt hi;omega
      ·have:=OG ha k i hlt hk;omega
     ·exact(Tg ha hk).1 (h k hk) i hi (Th.2 ⟨j,hz,hj,ej⟩)
  ·intro h k hk
   rw[Tg ha hk]
   intro i hi hm
   obtain⟨m,h0,hml,e⟩:=Th.1 hm
   have:=oc.1 (h i hi) k hk
   simp only[Ji,kE,gQ] at this
   rcases this with hki|hn
   ·subst hki
    have:=aj1 (Pv ha hk) m h0 hml
    rw[e] at this
    unfold eJ at this
    omega
   ·have:DF (b8 s k).1 (eJ s i)=true:=(Xz _ _).2 ⟨m,hml,e⟩
    rw[this] at hn;cases hn
 cases h1:cx s.2.2.1.length (C9 s)<;>cases h2:cross s
 ·rfl
 ·rw[key.2 h2] at h1;cases h1
 ·rw[key.1 h1] at h2;cases h2
 ·rfl
def aej (s:b7.D)(hs:Cv s):CL s=some (y4 s,()):=by
 by_cases a1:1≤s.1∧s.1≤24
 case neg=>simp[CL,zog,n5,zU,isSm,a1,y4]
 by_cases a2:1≤s.2.1∧s.2.1≤16
 case neg=>simp[CL,zog,n5,zU,isSm,a1,a2,y4]
 have hl:=aek s hs a1
 cases h1:cx s.2.2.1.length (nE s) with
 |false=>
  rw[h1,bY (by simp)] at hl
  simp[CL,zog,n5,zU,isSm,a1,a2,y4,cb hl,cv hl,h1]
 |true=>
  rw[h1,bf rfl] at hl
  have hl2:=ael s hs h1
  rw[WS h1] at hl2
  cases h2:cross s with
  |false=>
   rw[h2,bY (by simp)] at hl2
   simp[CL,zog,n5,zU,isSm,a1,a2,y4,cb hl,cv hl,h1,h2]
   dsimp only[sumC]
   simp only[cb hl2,cv hl2,aG]
  |true=>
   rw[h2,bf rfl] at hl2
   simp[CL,zog,n5,zU,isSm,a1,a2,y4,cb hl,cv hl,h1,h2]
   dsimp only[sumC]
   simp only[cb hl2,cv hl2,aG]
def scan (p:Nat→Bool):Nat→Nat→Nat
 |0,k=>k
 |d+1,k=>if p k=true then scan p d (k+1) else k
def Lm (p:Nat→Bool):∀d k,k≤scan p d k∧scan p d k≤k+d∧(∀j,k≤j→j<scan p d k→p j=true)∧(scan p d k<k+d→p (scan p d k)=false)
 |0,k=>⟨bw _,bw _,fun j h1 h2=>by simp only[scan] at h2;omega,fun h=>by simp only[scan] at h;omega⟩
 |d+1,k=>by
  unfold scan
  by_cases h:p k=true
  ·rw[bf h]
   obtain⟨a,b,c,e⟩:=Lm p d (k+1)
   refine⟨by omega,by omega,fun j h1 h2=>?_,fun hh=>e (by omega)⟩
   by_cases ej:j=k
   ·subst ej;exact h
   ·exact c j (by omega) h2
  ·rw[bY h]
   refine⟨bw _,by omega,fun j h1 h2=>by omega,fun _=>by simpa using h⟩
def C0 {X Y:Type}{r:X→Option (X⊕Y)}(st:Nat→X){n:Nat}(p:Nat→Bool)(yf:Nat→Y)(hs:∀i,i<n→p i=true→r (st i)=some (.inl (st (i+1))))
  (hf:∀i,i<n→p i=false→r (st i)=some (.inr (yf i))) (he:r (st n)=some (.inr (yf n))):Comes r (st 0) (yf (scan p n 0)):=by
 have main:∀d k,k+d=n→Comes r (st k) (yf (scan p d k)):=by
  intro d
  induction d with
  |zero=>intro k hk;have:k=n:=by omega
         subst this;exact .out he
  |succ d ih=>
   intro k hk
   unfold scan
   cases hp:p k with
   |true=>rw[bf rfl];exact .again (hs k (by omega) hp) (ih (k+1) (by omega))
   |false=>rw[bY (by simp)];exact .out (hf k (by omega) hp)
 exact main n 0 (by omega)
def BJ (s:b7.D)(n:Int)(i:Nat):Bool:=decide ((b8 s i).1.length=1)&&decide (eJ s i=n)
def wX (s:b7.D)(n:Int):Nat:=scan (fun i=> !BJ s n i) s.2.2.1.length 0
def zL (s:b7.D)(n:Int):List UInt8×Bool:=if wX s n<s.2.2.1.length then((b8 s (wX s n)).2.1,true) else([],false)
def Xw {s:b7.D}{n:Int}(h:wX s n<s.2.2.1.length):BJ s n (wX s n)=true:=by
 have:=(Lm (fun i=> !BJ s n i) s.2.2.1.length 0).2.2.2 (by rw[jE];exact h)
 simpa[wX] using this
def adT {s:b7.D}{n:Int}{i:Nat}(_hi:i<s.2.2.1.length)(h:BJ s n i=true):wX s n≤i:=by
 rcases Nat.lt_or_ge i (wX s n) with hl|hl
 ·have:=(Lm (fun i=> !BJ s n i) s.2.2.1.length 0).2.2.1 i (lz _) hl
  simp[h] at this
 ·exact hl
def len1 (l:List Int):((l.length:Int)==1)=decide (l.length=1):=by
 by_cases e:l.length=1
 ·rw[e];rfl
 ·have:¬(l.length:Int)=1:=by omega
  rw[zl90 e];simpa using this
def SE (s:b7.D)(hs:Cv s)(n:Int):Ff (s,n)=some (zL s n,()):=by
 have z8:∀i,i<s.2.2.1.length→GG (((i:Int),n,s.2.2.1,(s.2.2.1.length:Int)),())=bif !BJ s n i then some (.inl ((((i+1:Nat):Int),n,s.2.2.1,(s.2.2.1.length:Int)),())) else some (.inr (.inl (((b8 s i).2.1,true),()))):=by
  intro i hi
  have eA:List.getD s.2.2.1 i ([],[],())=b8 s i:=rfl
  have f1:List.getD (b8 s i).1 0 0=eJ s i:=rfl
  have hi':decide ((i:Int)<(s.2.2.1.length:Int))=true:=by simpa using hi
  have h0:decide ((0:Int)≤(i:Int))=true:=by simp
  have w:=jb (i:=i) (by have:=hs.1;omega)
  have d1:=len1 (b8 s i).1
  have d2:(eJ s i==n)=decide (eJ s i=n):=rfl
  have d3:(!decide ((b8 s i).1.length=1) || decide ((0:Int)<((b8 s i).1.length:Int)))=true:=by
   by_cases e:(b8 s i).1.length=1
   ·simp[e]
   ·simp[e]
  cases hA:decide ((b8 s i).1.length=1)<;>cases hB:decide (eJ s i=n)<;>simp only[hA,zl70,zl98,zl76,pH] at d3<;>
   simp only[GG,hi',h0,zl94,Int.toNat_zero,eA,f1,d1,d2,hA,hB,d3,w,BJ,zU,aG,eF,zl70,zl98,Bool.and_true,kG,zl76,zl99,zl92,zl73,Int.le_refl]
 have hl:Comes GG (((0:Int),n,s.2.2.1,(s.2.2.1.length:Int)),()) (if wX s n<s.2.2.1.length then .inl (((b8 s (wX s n)).2.1,true),()) else .inr ((),())):=by
  refine C0 (fun i=>(((i:Int),n,s.2.2.1,(s.2.2.1.length:Int)),())) (fun i=> !BJ s n i) (fun i=>if i<s.2.2.1.length then(.inl (((b8 s i).2.1,true),()):((List UInt8×Bool)×Unit)⊕(Unit×Unit)) else .inr ((),())) ?_ ?_ ?_
  ·intro i hi h
   simp only[z8 i hi];rw[h];rfl
  ·intro i hi h
   simp only[z8 i hi];rw[h,bf hi];rfl
  ·simp[GG]
 by_cases h:wX s n<s.2.2.1.length
 ·rw[bf h] at hl
  simp only[Ff,cb hl,cv hl,zL,bf h,aG]
 ·rw[bY h] at hl
  simp only[Ff,cb hl,cv hl,zL,bY h,aG]
def pre (s:b7.D):Nat:=scan (fun n=>(zL s n).2) s.1.toNat 0
def XY (s:b7.D)(hs:Cv s)(h1:1≤s.1∧s.1≤24):GW s=some ((pre s:Int),()):=by
 have hl:Comes GX (((0:Int),()),s) ((pre s:Int),()):=by
  refine C0 (fun n=>(((n:Int),()),s)) (n:=s.1.toNat) (fun n=>(zL s n).2) (fun n=>((n:Int),())) ?_ ?_ ?_
  ·intro i hi h
   have hi':decide ((i:Int)<s.1)=true:=by simp;omega
   have w:=jb (i:=i) (by omega)
   simp only[GX,hi',zog,SE s hs,h,w,zU,isSm,aG,eF,zl70]
  ·intro i hi h
   have hi':decide ((i:Int)<s.1)=true:=by simp;omega
   simp only[GX,hi',zog,SE s hs,h,zU,isSm,aG,zl98]
  ·have hi':decide (((s.1.toNat:Nat):Int)<s.1)=false:=by simp;omega
   simp only[GX,hi',eF]
 simp only[GW,cb hl,cv hl,aG]
def adU {s:b7.D}(h:y4 s=true):(zL s s.1).2=false:=by
 simp only[y4,aF] at h
 have ha:=h.1.2
 unfold zL
 by_cases hi:wX s s.1<s.2.2.1.length
 ·exfalso
  have dh:=Xw hi
  simp only[BJ,aF,gQ] at dh
  have hro:=Pv ha hi
  simp only[Aq,aF] at hro
  have hp:0<(b8 s (wX s s.1)).1.length:=by omega
  have:=oc.1 hro.1 0 hp
  simp only[Co,aF,gQ] at this
  have e:=dh.2
  unfold eJ at e
  omega
 ·rw[bY hi]
def Wy {f:Nat→Int}{n:Nat}(h:∀i,0<i→i<n→f (i-1)<f i):∀j,j<n→∀i,i≤j→f i+((j:Int)-i)≤f j:=by
 intro j
 induction j with
 |zero=>intro _ i hi;have:i=0:=by omega
        subst this;omega
 |succ j ih=>
  intro hj i hi
  by_cases e:i=j+1
  ·subst e;omega
  ·have h1:f j<f (j+1):=h (j+1) (by omega) hj
   have:=ih (by omega) i (by omega)
   omega
def JN {s:b7.D}(h:y4 s=true):(1≤s.1∧s.1≤24)∧(1≤s.2.1∧s.2.1≤16)∧cx s.2.2.1.length (nE s)=true∧cross s=true:=by
 simp only[y4,aF,gQ] at h
 exact⟨h.1.1.1,h.1.1.2,h.1.2,h.2⟩
def XD {s:b7.D}(ha:cx s.2.2.1.length (nE s)=true){k m:Nat}(hk:k<s.2.2.1.length)(hm:m<(b8 s k).1.length):0≤(b8 s k).1.getD m 0∧(b8 s k).1.getD m 0≤s.1-1:=by
 have:=Pv ha hk
 simp only[Aq,aF] at this
 have:=oc.1 this.1 m hm
 simp only[Co,aF,gQ] at this
 exact this.1
def adX {s:b7.D}(h:cx s.2.2.1.length (nE s)=true):∀i,0<i→i<s.2.2.1.length→eJ s (i-1)<eJ s i:=
 fun i h0 hi=>OG h i (i-1) (by omega) hi
def acs {s:b7.D}(h:y4 s=true):((pre s:Nat):Int)=s.1↔(s.2.2.1.length:Int)=s.1:=by
 obtain⟨h1,_,ha,hx⟩:=JN h
 have hne:=Sn ha
 have hb:∀i,i<s.2.2.1.length→0≤eJ s i∧eJ s i≤s.1-1:=fun i hi=>XD ha hi (by have:=hne i hi;omega)
 have sp:=Lm (fun n=>(zL s n).2) s.1.toNat 0
 have sp':pre s≤s.1.toNat∧(∀j,j<pre s→(zL s j).2=true)∧(pre s<s.1.toNat→(zL s (pre s)).2=false):=
  ⟨by have:=sp.2.1;unfold pre;omega,fun j hj=>sp.2.2.1 j (lz _) hj,fun hh=>sp.2.2.2 (by unfold pre at hh;omega)⟩
 have gap:=Wy (adX ha)
 have hle:(s.2.2.1.length:Int)≤s.1:=by
  rcases zl83 s.2.2.1.length with hz|hz
  ·omega
  ·have a:=gap (s.2.2.1.length-1) (by omega) 0 (lz _)
   have b:=hb (s.2.2.1.length-1) (by omega)
   have c:=hb 0 (by omega)
   omega
 constructor
 ·intro hp
  have hin:∀n:Nat,n<s.1.toNat→wX s n<s.2.2.1.length∧eJ s (wX s n)=n:=by
   intro n hn
   have:=sp'.2.1 n (by omega)
   unfold zL at this
   by_cases hi:wX s n<s.2.2.1.length
   ·have dh:=Xw hi
    simp only[BJ,aF,gQ] at dh
    exact⟨hi,dh.2⟩
   ·rw[bY hi] at this;cases this
  have g2:=Wy (f:=fun n=>(wX s n:Int)) (n:=s.1.toNat) (by
   intro i h0 hi
   have a:=hin i hi
   have b:=hin (i-1) (by omega)
   show((wX s ((i-1:Nat):Int):Nat):Int)<((wX s (i:Int):Nat):Int)
   rcases Nat.lt_trichotomy (wX s ((i-1:Nat):Int)) (wX s (i:Int)) with hlt|heq|hgt
   ·omega
   ·rw[heq] at b;omega
   ·have:=OG ha _ _ hgt b.1;omega)
  have c:=g2 (s.1.toNat-1) (by omega) 0 (lz _)
  have d:=(hin (s.1.toNat-1) (by omega)).1
  omega
 ·intro hl
  have hd:∀i,i<s.2.2.1.length→eJ s i=i:=by
   intro i hi
   have a:=gap i hi 0 (lz _)
   have b:=gap (s.2.2.1.length-1) (by omega) i (by omega)
   have c:=hb 0 (by omega)
   have d:=hb (s.2.2.1.length-1) (by omega)
   omega
  have hm:cx s.2.2.1.length (C9 s)=true:=by rw[WS ha];exact hx
  have hone:∀i,i<s.2.2.1.length→(b8 s i).1.length=1:=by
   intro i hi
   by_cases e:(b8 s i).1.length=1
   ·exact e
   ·exfalso
    have h2:1<(b8 s i).1.length:=by have:=hne i hi;omega
    have hr:=XD ha hi h2
    have ht:(b8 s i).1.getD 1 0∈A0 s i:=Th.2 ⟨1,by omega,h2,rfl⟩
    have hlt:((b8 s i).1.getD 1 0).toNat<s.2.2.1.length:=by omega
    have:=(Tg ha hi).1 (oc.1 hm i hi) _ hlt
    rw[hd _ hlt] at this
    have e2:((((b8 s i).1.getD 1 0).toNat:Nat):Int)=(b8 s i).1.getD 1 0:=by omega
    rw[e2] at this
    exact this ht
  have mu:∀n:Nat,n<s.2.2.1.length→(zL s n).2=true:=by
   intro n hn
   have:wX s n≤n:=adT hn (by simp only[BJ,hone n hn,hd n hn,zl73,zl92])
   unfold zL
   rw[bf (by omega)]
  by_cases hlt:pre s<s.1.toNat
  ·have a:=sp'.2.2 hlt
   rw[mu (pre s) (by omega)] at a
   cases a
  ·have:=sp'.1
   omega
def En (a b:Int):(a==b)=decide (a=b):=rfl
def Ah (g:fk.D):Bool:=zR g.1&&y4 g.2.1&&decide (g.2.1.1=cnt g.1)&&decide (g.2.1.2.1=g.1.2.1)
def JE {p:fe.D}(h:zR p=true):(1≤p.1∧p.1≤300)∧(1≤p.2.1∧p.2.1≤16):=by
 simp only[zR,An,aF,gQ] at h
 exact⟨h.1.1.1.1.1.1,h.1.1.1.1.1.2⟩
def abS (g:fk.D)(hg:Cu g):Dc g=some (Ah g,()):=by
 have hP:=akl g.1
 have hS:=ako g.2.1 hg.2
 cases h1:zR g.1 with
 |false=>simp only[Dc,zog,zog,hP,hS,h1,Ah,zU,isSm,aG,eF,zl98,zl93,zl76,zl92]
 |true=>
  obtain⟨a1,a2⟩:=JE h1
  have hc:=Pw g.1 a1 a2
  have d1:(g.2.1.1==cnt g.1)=decide (g.2.1.1=cnt g.1):=En _ _
  have d2:(g.2.1.2.1==g.1.2.1)=decide (g.2.1.2.1=g.1.2.1):=En _ _
  cases h2:y4 g.2.1<;>cases h3:decide (g.2.1.1=cnt g.1)<;>
   simp only[Dc,zog,zog,zog,hP,hS,hc,d1,d2,h1,h2,h3,Ah,zU,isSm,aG,eF,zl70,zl98,zl108,zl93,Bool.and_true,kG,zl99,zl92]
def XW (g:fk.D)(hg:Cu g):D4 g=some (Ah g,()):=by
 have hP:=aeg g.1
 have hS:=aej g.2.1 hg.2
 cases h1:zR g.1 with
 |false=>simp only[D4,zog,zog,hP,hS,h1,Ah,zU,isSm,aG,eF,zl98,zl93,zl76,zl92]
 |true=>
  obtain⟨a1,a2⟩:=JE h1
  have hc:=SD g.1 a1 a2
  have d1:(g.2.1.1==cnt g.1)=decide (g.2.1.1=cnt g.1):=En _ _
  have d2:(g.2.1.2.1==g.1.2.1)=decide (g.2.1.2.1=g.1.2.1):=En _ _
  cases h2:y4 g.2.1<;>cases h3:decide (g.2.1.1=cnt g.1)<;>
   simp only[D4,zog,zog,zog,hP,hS,hc,d1,d2,h1,h2,h3,Ah,zU,isSm,aG,eF,zl70,zl98,zl108,zl93,Bool.and_true,kG,zl99,zl92]
def Jl {g:fk.D}(h:Ah g=true):zR g.1=true∧y4 g.2.1=true∧g.2.1.1=cnt g.1∧g.2.1.2.1=g.1.2.1:=by
 simp only[Ah,aF,gQ] at h
 exact⟨h.1.1.1,h.1.1.2,h.1.2,h.2⟩
def CD (g:fk.D):Bool:=Ah g&&decide ((g.2.1.2.2.1.length:Int)=cnt g.1)
def aki (g:fk.D)(hg:Cu g):Cf g=some (CD g,()):=by
 have hO:=abS g hg
 have hO':=zov hO
 rcases Bool.eq_false_or_eq_true (Ah g) with h1|h1
 case inr=>simp only[Cf,hO',hO,h1,CD,zU,isSm,aG,eF,zl98,zl93,zl76,zl92]
 case inl=>
  obtain⟨a1,a2⟩:=JE (Jl h1).1
  have hc:=Pw g.1 a1 a2
  have aM:=zov hc
  have d1:((g.2.1.2.2.1.length:Int)==cnt g.1)=decide ((g.2.1.2.2.1.length:Int)=cnt g.1):=En _ _
  simp only[Cf,hO',aM,hO,hc,h1,d1,CD,zU,isSm,aG,zl70,zl108,pH,zl92]
def aem (g:fk.D)(hg:Cu g)(h:Ah g=true):AH g=some (CD g,()):=by
 obtain⟨_,hs,e1,e2⟩:=Jl h
 have hp:=XY g.2.1 hg.2 (JN hs).1
 have hp':=zov hp
 have hd:=acs hs
 have:(((pre g.2.1:Nat):Int)==g.2.1.1)=CD g:=by
  unfold CD
  rw[h,zl108,←e1]
  rw[En]
  by_cases e:((pre g.2.1:Nat):Int)=g.2.1.1
  ·rw[zl86 e,zl86 (hd.1 e)]
  ·rw[zl90 e,zl90 (fun hh=>e (hd.2 hh))]
 simp only[AH,hp',hp,this,zU,isSm,aG]
def HO (g:fk.D):Bool:=
 (g.1.1==0)&&(g.1.2.1==0)&&((g.1.2.2.1.length:Int)==0)&&((g.1.2.2.2.1.length:Int)==0)&&(g.2.1.1==0)&&(g.2.1.2.1==0)&&((g.2.1.2.2.1.length:Int)==0)
def aep (g:fk.D):Gr g=some (HO g,()):=by
 simp only[Gr,HO,Bool.cond_false_right]
def akk (c:b9.D):Gf c=some (HO c.2.2.2.2.2.1,()):=by
 simp only[Gf,HO,Bool.cond_false_right]
 congr 2
 generalize ((c.2.2.2.2.2.1.1.2.2.1.length:Int)==0)=a1
 generalize ((c.2.2.2.2.2.1.1.2.2.2.1.length:Int)==0)=a2
 generalize (c.2.2.2.2.2.1.1.1==0)=a3
 generalize (c.2.2.2.2.2.1.1.2.1==0)=a4
 generalize (c.2.2.2.2.2.1.2.1.1==0)=a5
 generalize (c.2.2.2.2.2.1.2.1.2.1==0)=a6
 generalize ((c.2.2.2.2.2.1.2.1.2.2.1.length:Int)==0)=a7
 cases a1<;>cases a2<;>cases a3<;>cases a4<;>simp
def At (c:b9.D):Bool:=
 decide (0≤c.1∧c.1≤3)&&decide (0≤c.2.1∧c.2.1≤99999)&&decide (0≤c.2.2.1∧c.2.2.1≤4)&&decide (0≤c.2.2.2.2.1∧c.2.2.2.2.1≤99999) &&
 (bif c.2.2.2.2.1==0 then HO c.2.2.2.2.2.1 else Ah c.2.2.2.2.2.1) &&
 (bif c.2.2.1==0 then c.2.2.2.1 == []&&c.2.2.2.2.1==0 else
  !(c.2.1==0)&&EC c.2.2.2.1 &&
  (bif c.2.2.1==2 then !(c.2.2.2.2.1==0) && !CD c.2.2.2.2.2.1 else bif c.2.2.1==3 then !(c.2.2.2.2.1==0)&&CD c.2.2.2.2.2.1 else c.2.2.2.2.1==0 || !CD c.2.2.2.2.2.1))
def akh (c:b9.D)(hg:Cu c.2.2.2.2.2.1)(hn:c.2.2.2.1.length≤4611686018427387904):Ck c=some (At c,()):=by
 have hL:∀x lo hi,zog cr (x,lo,hi)=(decide (lo≤x∧x≤hi),()):=fun x lo hi=>zov (nW x lo hi)
 have hN:=akk c
 have hN':=zov hN
 have hO:=abS _ hg
 have hO':=zov hO
 have hD:=aki _ hg
 have hD':=zov hD
 have hM:=akj _ hn
 have hM':=zov hM
 obtain⟨id,a,st,name,n,g,u⟩:=c
 dsimp only at hN hN' hO hO' hD hD' hM hM' ⊢
 simp only[Ck,At,hL,nW,hN,hN',hO,hO',hD,hD',hM,hM',isSm,zl99,zU,zl92,aG]
 have e4:(n>0)=(0<n):=rfl
 simp only[e4]
 generalize hb:CD g=b
 generalize hc:Ah g=gc
 generalize hd:HO g=gd
 generalize he:EC name=ge
 cases h1:decide (0≤id∧id≤3)
 case false=>simp only[zl98,aG,zl93]
 cases h2:decide (0≤a∧a≤99999)
 case false=>simp only[zl98,zl70,aG,eF,zl93,kG]
 cases h3:decide (0≤st∧st≤4)
 case false=>simp only[zl98,zl70,aG,eF,zl93,kG]
 cases h4:decide (0≤n∧n≤99999)
 case false=>simp only[zl98,zl70,aG,eF,zl93,kG]
 have hn0:decide (0<n) = !(n==0):=by
  have:=zl79 h4
  rw[En]
  by_cases e:n=0
  ·subst e;rfl
  ·have:0<n:=by omega
   simp[e,this]
 rw[hn0]
 generalize (n==0)=n0
 generalize (a==0)=a0
 generalize (st==0)=s0
 generalize (st==2)=s2
 generalize (st==3)=s3
 generalize (name == [])=m0
 cases n0<;>cases gd<;>cases gc<;>cases s0<;>simp <;>cases a0<;>simp <;>cases ge<;>simp <;>cases s2<;>simp <;>cases s3<;>simp
def XV (c:b9.D)(hg:Cu c.2.2.2.2.2.1)(hn:c.2.2.2.1.length≤4611686018427387904):Dm c=some (At c,()):=by
 have hL:∀x lo hi,zog eo (x,lo,hi)=(decide (lo≤x∧x≤hi),()):=fun x lo hi=>zov (n5 x lo hi)
 have hK:∀x,zog Bx x=(decide (0≤x∧x≤3),()):=fun x=>zov (WM x)
 have hN:=aep c.2.2.2.2.2.1
 have hN':=zov hN
 have hO:=XW _ hg
 have hO':=zov hO
 have hM:=aef _ hn
 have hM':=zov hM
 have hD:=aem _ hg
 obtain⟨id,a,st,name,n,g,u⟩:=c
 dsimp only at hN hN' hO hO' hD hM hM' ⊢
 simp only[Dm,At,hL,hK,n5,WM,hN,hN',hO,hO',hM,hM',isSm,zl99,zU,zl92,aG]
 have e4:(n>0)=(0<n):=rfl
 simp only[e4]
 generalize hd:HO g=gd
 generalize he:EC name=ge
 cases h1:decide (0≤id∧id≤3)
 case false=>simp only[zl98,aG,zl93]
 cases h2:decide (0≤a∧a≤99999)
 case false=>simp only[zl98,zl70,aG,eF,zl93,kG]
 cases h4:decide (0≤n∧n≤99999)
 case false=>simp only[zl98,zl70,aG,eF,zl93,kG]
 have hn0:decide (0<n) = !(n==0):=by
  have:=zl79 h4
  rw[En]
  by_cases e:n=0
  ·subst e;rfl
  ·have:0<n:=by omega
   simp[e,this]
 rw[hn0]
 have hst:decide (0≤st∧st≤4)=(st==0 || (st==1 || (st==2 || (st==3 || st==4)))):=by
  simp only[En,←Bool.decide_or]
  exact decide_eq_decide.2 ⟨fun h=>by omega,fun h=>by omega⟩
 rw[hst]
 have x12:(st==1)=true→(st==2)=false∧(st==3)=false:=by simp;intro e;subst e;decide
 have x42:(st==4)=true→(st==2)=false∧(st==3)=false:=by simp;intro e;subst e;decide
 generalize (n==0)=n0
 generalize (a==0)=a0
 generalize (st==0)=s0
 generalize (st==1)=s1 at *
 generalize (st==2)=s2 at *
 generalize (st==3)=s3 at *
 generalize (st==4)=s4 at *
 generalize (name == [])=m0
 rcases Bool.eq_false_or_eq_true (Ah g) with hc|hc
 ·have hD1:=hD hc
  have hD2:=zov hD1
  simp only[hD1,hD2,hc,zl99,aG]
  generalize CD g=b
  cases n0<;>cases gd<;>cases s0<;>simp <;>cases a0<;>simp <;>cases ge<;>simp <;>cases s1<;>simp at x12 ⊢ <;>cases s4<;>simp at x42 ⊢ <;>cases s2<;>simp at x12 x42 ⊢ <;>cases s3<;>simp at x12 x42 ⊢
 ·simp only[hc]
  generalize CD g=b
  cases n0<;>simp <;>cases gd<;>simp <;>cases s0<;>simp <;>cases a0<;>simp <;>cases ge<;>simp <;>cases s1<;>simp at x12 ⊢ <;>cases s4<;>simp at x42 ⊢ <;>cases s2<;>simp at x12 x42 ⊢ <;>cases s3<;>simp at x12 x42 ⊢
def G1 {α:Type}(f:α→Nat):∀(l:List α) (x:α),x∈l→f x≤(l.map f).sum
 |a::l,x,h=>by
  rw[kD,zl82]
  rcases aX.1 h with rfl|h
  ·omega
  ·have:=G1 f l x h;omega
def B7 {α:Type}(f:α→Nat)(h:∀x,1≤f x):∀l:List α,l.length≤(l.map f).sum
 | []=>by simp
 |a::l=>by
  rw[kD,zl82,kF]
  have:=B7 f h l;have:=h a;omega
structure DB (c:b9.D):Prop where
 name:c.2.2.2.1.length≤1048576
 p3:c.2.2.2.2.2.1.1.2.2.1.length≤1048576
 p4:c.2.2.2.2.2.1.1.2.2.2.1.length≤1048576
 s3:c.2.2.2.2.2.1.2.1.2.2.1.length≤1048576
 row:∀x∈c.2.2.2.2.2.1.2.1.2.2.1,x.1.length≤1048576∧x.2.1.length≤1048576
def OL (l:List Int)(n:Nat)(h:(l.map (iK (.int .i64))).sum+1≤n):l.length≤n:=by
 have:=B7 (iK (.int .i64)) (fun _=>bw 1) l
 omega
def WZ (x:er.D):iK er x=((x.1.map (iK (.int .i64))).sum+1)+(x.2.1.length+1+0):=rfl
def sml_of (c:b9.D)(h:iK b9 c≤1048576):DB c:=by
 have e:iK b9 c=1+(1+(1+((c.2.2.2.1.length+1)+(1+(((1+(1+(((c.2.2.2.2.2.1.1.2.2.1.map (iK (.int .i64))).sum+1)+(((c.2.2.2.2.2.1.1.2.2.2.1.map (iK (.int .i64))).sum+1)+0))))+((1+(1+(((c.2.2.2.2.2.1.2.1.2.2.1.map (iK er)).sum+1)+0)))+0))+0))))):=rfl
 rw[e] at h
 refine⟨by omega,OL _ _ (by omega),OL _ _ (by omega),?_,?_⟩
 ·have:=B7 (iK er) (fun x=>by rw[WZ];omega) c.2.2.2.2.2.1.2.1.2.2.1
  omega
 ·intro x hx
  have:=G1 (iK er) _ x hx
  rw[WZ] at this
  exact⟨OL _ _ (by omega),by omega⟩
def DB.sm {c:b9.D}(h:DB c):Cu c.2.2.2.2.2.1:=
 ⟨⟨by have:=h.p3;omega,by have:=h.p4;omega⟩,by have:=h.s3;omega,fun x hx=>by have:=(h.row x hx).1;omega⟩
def VJ (a:List Int)(n:Int):∃v,ES (a,n)=some (v,()):=by
 simp only[ES]
 cases decide (IntKind.wrap .i64 (n-(a.length:Int))<0)<;>exact⟨_,rfl⟩
def akL (a:fe.D)(n:Int):∃v,H9 (a,n)=some (v,()):=by
 obtain⟨v,hv⟩:=VJ a.2.2.1 n
 obtain⟨w,hw⟩:=VJ a.2.2.2.1 v
 simp only[H9,hv,zov hv,hw,zov hw,zU,isSm,aG]
 cases decide (v<0)<;>cases decide (w<0)<;>exact⟨_,rfl⟩
def akF (a:er.D)(n:Int):∃v,GD (a,n)=some (v,()):=by
 obtain⟨v,hv⟩:=VJ a.1 n
 simp only[GD,hv,zov hv,zU,isSm,aG]
 cases decide (v<0)<;>cases decide (IntKind.wrap .i64 (v-(a.2.1.length:Int))<0)<;>exact⟨_,rfl⟩
def akE (a:List er.D)(n:Int)(h:a.length≤1048576):∃v,Im (a,n)=some (v,()):=by
 have hl:∀d k:Nat,k+d=a.length→∀m:Int,∃y,Comes Gs (((k:Int),m,a),()) y:=by
  intro d
  induction d with
  |zero=>
   intro k hk m
   have hk':decide ((k:Int)<(a.length:Int))=false:=by simp;omega
   exact⟨_,.out (by simp only[Gs,hk',eF];rfl)⟩
  |succ d ih=>
   intro k hk m
   have hk':decide ((k:Int)<(a.length:Int))=true:=by simp;omega
   have h0:decide ((0:Int)≤(k:Int))=true:=by simp
   have w:=jb (i:=k) (by omega)
   obtain⟨v,hv⟩:=akF (List.getD a k ([],[],())) m
   cases hd:decide (v<0) with
   |true=>exact⟨_,.out (by simp only[Gs,hk',h0,zl94,hv,zov hv,hd,zU,isSm,aG,zl92];rfl)⟩
   |false=>
    obtain⟨y,hy⟩:=ih (k+1) (by omega) v
    exact⟨y,.again (by simp only[Gs,hk',h0,w,zl94,hv,zov hv,hd,zU,isSm,aG,eF,zl92]) hy⟩
 simp only[Im]
 cases decide (IntKind.wrap .i64 (n-(a.length:Int))<0) with
 |true=>exact⟨_,rfl⟩
 |false=>
  obtain⟨y,hy⟩:=hl a.length 0 (by omega) (IntKind.wrap .i64 (n-(a.length:Int)))
  have e1:=cb hy
  have e2:=cv hy Ui
  rw[show(((0:Nat):Int))=0 from rfl] at e1 e2
  simp only[e1,e2,aG,eF]
  cases y with
  |inl y=>exact⟨_,rfl⟩
  |inr y=>exact⟨_,rfl⟩
def akO (a:b7.D)(n:Int)(h:a.2.2.1.length≤1048576):∃v,q70 (a,n)=some (v,()):=by
 obtain⟨v,hv⟩:=akE a.2.2.1 n h
 simp only[q70,hv,zov hv,zU,isSm,aG]
 cases decide (v<0)<;>exact⟨_,rfl⟩
def akH (a:fk.D)(n:Int)(h:a.2.1.2.2.1.length≤1048576):∃v,q37 (a,n)=some (v,()):=by
 obtain⟨v,hv⟩:=akL a.1 n
 obtain⟨w,hw⟩:=akO a.2.1 v h
 simp only[q37,hv,zov hv,hw,zov hw,zU,isSm,aG]
 cases decide (v<0)<;>cases decide (w<0)<;>exact⟨_,rfl⟩
def akD (c:b9.D)(n:Int)(h:DB c):∃v,q65 (c,n)=some (v,()):=by
 obtain⟨v,hv⟩:=akH c.2.2.2.2.2.1 (IntKind.wrap .i64 (n-(c.2.2.2.1.length:Int))) h.s3
 simp only[q65,hv,zov hv,zU,isSm,aG]
 cases decide (IntKind.wrap .i64 (n-(c.2.2.2.1.length:Int))<0)<;>cases decide (v<0)<;>exact⟨_,rfl⟩
def jv {α:Type}(a:List α)(z:α)(i:Nat):List α:=a.take i++List.replicate (a.length-i) z
def Et {α:Type}(a:List α)(z:α)(i:Nat)(h:i≤a.length):(jv a z i).length=a.length:=by
 rw[jv,cK,zl3,zl67];omega
def Ev {α:Type}(a:List α)(z:α):jv a z 0=List.replicate a.length z:=by simp[jv]
def Es {α:Type}(a:List α)(z:α):jv a z a.length=a:=by simp[jv]
def Eu {α:Type}(a:List α)(z z':α)(i:Nat)(h:i<a.length):(jv a z i).set i (a.getD i z')=jv a z (i+1):=by
 have e1:a.length-i=(a.length-(i+1))+1:=by omega
 have e2:(a.take i).length=i:=by rw[zl3];omega
 rw[jv,jv,e1,mK,zl87 _ _ (by omega),e2,Nat.sub_self,zl16,zl88 h,bX,getD_eq _ _ _ h]
 rfl
def VO (a:List Int)(h:a.length≤1048576):EU a=some (a,()):=by
 have hl:Comes Gk (((0:Int),a,()),List.replicate a.length 0) ((),a):=by
  have:=lO (r:=Gk) (st:=fun i=>(((i:Int),a,()),jv a 0 i)) (n:=a.length) (y:=((),a)) ?_ ?_ 0 (lz _)
  ·rw[Ev] at this;exact this
  ·intro i hi
   have hi':decide ((i:Int)<(a.length:Int))=true:=by simpa using hi
   have h0:decide ((0:Int)≤(i:Int))=true:=by simp
   simp only[Gk,hi',h0,zl94,Et a 0 i (by omega),Eu a 0 0 i hi,jb (i:=i) (by omega),zU,aG,zl92]
  ·have hi':decide (((a.length:Nat):Int)<(a.length:Int))=false:=by simp
   simp only[Gk,hi',eF,Es]
 have b0:decide ((0:Int)≤(a.length:Int))=true:=by simp
 have b1:decide ((a.length:Int)≤(eD:Int))=true:=zl86 (by unfold eD;omega)
 simp only[EU,zl94,cb hl,cv hl,b0,b1,Int.le_refl,zl73,zU,aG,zl92]
def ak8 (a:fe.D)(h1:a.2.2.1.length≤1048576)(h2:a.2.2.2.1.length≤1048576):Ib a=some (a,()):=by
 have e1:=VO _ h1
 have e2:=VO _ h2
 simp only[Ib,e1,e2,zov e1,zov e2,zU,isSm,aG]
def ak2 (a:er.D)(h1:a.1.length≤1048576):GF a=some (a,()):=by
 have e1:=VO _ h1
 simp only[GF,e1,zov e1,zU,isSm,aG]
def ak1 (a:List er.D)(h:a.length≤1048576)(hr:∀x∈a,x.1.length≤1048576):Ip a=some (a,()):=by
 have hl:Comes Gt (((0:Int),a,()),List.replicate a.length ([],[],())) ((),a):=by
  have:=lO (r:=Gt) (st:=fun i=>(((i:Int),a,()),jv a ([],[],()) i)) (n:=a.length) (y:=((),a)) ?_ ?_ 0 (lz _)
  ·rw[Ev] at this;exact this
  ·intro i hi
   have hi':decide ((i:Int)<(a.length:Int))=true:=by simpa using hi
   have h0:decide ((0:Int)≤(i:Int))=true:=by simp
   have he:=ak2 (List.getD a i ([],[],())) (hr _ (by rw[getD_eq _ _ _ hi];simp))
   have hs:(jv a ([],[],()) i).set i ((List.getD a i ([],[],())).1,(List.getD a i ([],[],())).2)=jv a ([],[],()) (i+1):=Eu a ([],[],()) ([],[],()) i hi
   simp only[Gt,hi',h0,zl94,Et a ([],[],()) i (by omega),he,zov he,hs,jb (i:=i) (by omega),zU,isSm,aG,zl92]
  ·have hi':decide (((a.length:Nat):Int)<(a.length:Int))=false:=by simp
   simp only[Gt,hi',eF,Es]
 have b0:decide ((0:Int)≤(a.length:Int))=true:=by simp
 have b1:decide ((a.length:Int)≤(eD:Int))=true:=zl86 (by unfold eD;omega)
 simp only[Ip,zl94,cb hl,cv hl,b0,b1,Int.le_refl,zl73,zU,aG,zl92]
def alc (a:b7.D)(h:a.2.2.1.length≤1048576)(hr:∀x∈a.2.2.1,x.1.length≤1048576):q77 a=some (a,()):=by
 have e1:=ak1 _ h hr
 simp only[q77,e1,zov e1,zU,isSm,aG]
def ak0 (c:b9.D)(h:DB c):q72 c=some (c,()):=by
 have e1:=ak8 c.2.2.2.2.2.1.1 h.p3 h.p4
 have e2:=alc c.2.2.2.2.2.1.2.1 h.s3 fun x hx=>(h.row x hx).1
 have e3:q41 c.2.2.2.2.2.1=some (c.2.2.2.2.2.1,()):=by
  simp only[q41,e1,e2,zov e1,zov e2,zU,isSm,aG]
 simp only[q72,e3,zov e3,zU,isSm,aG]
end Pc
open Go Go.Ab Go.Lib
namespace Pl
def acI (w:eL.D):q61 (w,w)=some (true,()):=by simp[q61]
def acH (a:List eL.D)(h:a.length≤4611686018427387904):q34 (a,a)=some (true,()):=by
 have hl:Comes Ix (((0:Int),a,a),()) (.inr ((),())):=by
  refine lO (st:=fun i=>(((i:Int),a,a),())) (n:=a.length) ?_ ?_ 0 (lz _)
  ·intro i hi
   have h2:=jb (i:=i) (by omega)
   have h4:=acI (a[i])
   simp[Ix,zog,zU,h2,hi,h4,isSm]
  ·simp[Ix]
 simp[q34,cb hl,cv hl]
def ak7 (a:eL.D):q74 a=some (a,()):=rfl
def ak6 (a:List eL.D)(h:a.length≤1048576):q42 a=some (a,()):=by
 have hl:Comes GK (((0:Int),a,()),List.replicate a.length ((0:Int),([]:List UInt8),false,())) ((),a):=by
  have:=lO (r:=GK) (st:=fun i=>(((i:Int),a,()),jv a ((0:Int),([]:List UInt8),false,()) i)) (n:=a.length) (y:=((),a)) ?_ ?_ 0 (lz _)
  ·rw[Ev] at this;exact this
  ·intro i hi
   have hi':decide ((i:Int)<(a.length:Int))=true:=by simpa using hi
   have h0:decide ((0:Int)≤(i:Int))=true:=by simp
   have he:=ak7 (List.getD a i ((0:Int),([]:List UInt8),false,()))
   have hs:(jv a ((0:Int),([]:List UInt8),false,()) i).set i (List.getD a i ((0:Int),([]:List UInt8),false,()))=jv a ((0:Int),([]:List UInt8),false,()) (i+1):=Eu a _ _ i hi
   simp only[GK,hi',h0,zl94,Et a ((0:Int),([]:List UInt8),false,()) i (by omega),he,zov he,hs,jb (i:=i) (by omega),zU,isSm,aG,zl92]
  ·have hi':decide (((a.length:Nat):Int)<(a.length:Int))=false:=by simp
   simp only[GK,hi',eF,Es]
 have b0:decide ((0:Int)≤(a.length:Int))=true:=by simp
 have b1:decide ((a.length:Int)≤(eD:Int))=true:=zl86 (by unfold eD;omega)
 simp only[q42,zl94,cb hl,cv hl,b0,b1,Int.le_refl,zl73,zU,aG,zl92]
def akK (a:eL.D)(n:Int):∃v,q67 (a,n)=some (v,()):=by
 simp only[q67]
 repeat' (first|exact⟨_,rfl⟩|refine R9 _ ?_ ?_)
def akJ (a:List eL.D)(n:Int)(h:a.length≤1048576):∃v,q38 (a,n)=some (v,()):=by
 have hl:∀d k:Nat,k+d=a.length→∀m:Int,∃y,Comes GH (((k:Int),m,a),()) y:=by
  intro d
  induction d with
  |zero=>
   intro k hk m
   have hk':decide ((k:Int)<(a.length:Int))=false:=by simp;omega
   exact⟨_,.out (by simp only[GH,hk',eF];rfl)⟩
  |succ d ih=>
   intro k hk m
   have hk':decide ((k:Int)<(a.length:Int))=true:=by simp;omega
   have h0:decide ((0:Int)≤(k:Int))=true:=by simp
   have w:=jb (i:=k) (by omega)
   obtain⟨v,hv⟩:=akK (List.getD a k ((0:Int),([]:List UInt8),false,())) m
   cases hd:decide (v<0) with
   |true=>exact⟨_,.out (by simp only[GH,hk',h0,zl94,hv,zov hv,hd,zU,isSm,aG,zl92];rfl)⟩
   |false=>
    obtain⟨y,hy⟩:=ih (k+1) (by omega) v
    exact⟨y,.again (by simp only[GH,hk',h0,w,zl94,hv,zov hv,hd,zU,isSm,aG,eF,zl92]) hy⟩
 simp only[q38]
 cases decide (IntKind.wrap .i64 (n-(a.length:Int))<0) with
 |true=>exact⟨_,rfl⟩
 |false=>
  obtain⟨y,hy⟩:=hl a.length 0 (by omega) (IntKind.wrap .i64 (n-(a.length:Int)))
  have e1:=cb hy
  have e2:=cv hy UQ
  rw[show(((0:Nat):Int))=0 from rfl] at e1 e2
  simp only[e1,e2,aG,eF]
  cases y with
  |inl y=>exact⟨_,rfl⟩
  |inr y=>exact⟨_,rfl⟩
def zC:b9.D:=((0:Int),(0:Int),(0:Int),([]:List UInt8),(0:Int),(((0:Int),(0:Int),([]:List Int),([]:List Int),()),((0:Int),(0:Int),([]:List er.D),()),()),())
def acz (a:List b9.D)(h:a.length≤1048576)(hr:∀x∈a,Pc.DB x):q32 (a,a)=some (true,()):=by
 have hl:Comes Iw (((0:Int),a,a),()) (.inr ((),())):=by
  refine lO (st:=fun i=>(((i:Int),a,a),())) (n:=a.length) ?_ ?_ 0 (lz _)
  ·intro i hi
   have h2:=jb (i:=i) (by omega)
   have h4:=Pc.acA (a[i]) (hr _ (by simp)).sm
   simp[Iw,zog,zU,h2,hi,h4,isSm]
  ·simp[Iw]
 simp[q32,cb hl,cv hl]
def akZ (a:List b9.D)(h:a.length≤1048576)(hr:∀x∈a,Pc.DB x):q40 a=some (a,()):=by
 have hl:Comes GJ (((0:Int),a,()),List.replicate a.length zC) ((),a):=by
  have:=lO (r:=GJ) (st:=fun i=>(((i:Int),a,()),jv a zC i)) (n:=a.length) (y:=((),a)) ?_ ?_ 0 (lz _)
  ·rw[Ev] at this;exact this
  ·intro i hi
   have hi':decide ((i:Int)<(a.length:Int))=true:=by simpa using hi
   have h0:decide ((0:Int)≤(i:Int))=true:=by simp
   have he:=Pc.ak0 (List.getD a i zC) (hr _ (by rw[getD_eq _ _ _ hi];exact zl96 hi))
   have hs:(jv a zC i).set i (List.getD a i zC)=jv a zC (i+1):=Eu a _ _ i hi
   have hc:=Et a zC i (by omega)
   unfold zC at he hs hc ⊢
   simp only[GJ,hi',h0,zl94,hc,he,zov he,hs,jb (i:=i) (by omega),zU,isSm,aG,zl92]
  ·have hi':decide (((a.length:Nat):Int)<(a.length:Int))=false:=by simp
   simp only[GJ,hi',eF,Es]
 have b0:decide ((0:Int)≤(a.length:Int))=true:=by simp
 have b1:decide ((a.length:Int)≤(eD:Int))=true:=zl86 (by unfold eD;omega)
 unfold zC at hl
 simp only[q40,zl94,cb hl,cv hl,b0,b1,Int.le_refl,zl73,zU,aG,zl92]
def akC (a:List b9.D)(n:Int)(h:a.length≤1048576)(hr:∀x∈a,Pc.DB x):∃v,q36 (a,n)=some (v,()):=by
 have hl:∀d k:Nat,k+d=a.length→∀m:Int,∃y,Comes Fj (((k:Int),m,a),()) y:=by
  intro d
  induction d with
  |zero=>
   intro k hk m
   have hk':decide ((k:Int)<(a.length:Int))=false:=by simp;omega
   exact⟨_,.out (by simp only[Fj,hk',eF];rfl)⟩
  |succ d ih=>
   intro k hk m
   have hk':decide ((k:Int)<(a.length:Int))=true:=by simp;omega
   have h0:decide ((0:Int)≤(k:Int))=true:=by simp
   have w:=jb (i:=k) (by omega)
   obtain⟨v,hv⟩:=Pc.akD (List.getD a k zC) m (hr _ (by rw[getD_eq _ _ _ (by omega)];exact zl96 (by omega)))
   unfold zC at hv
   cases hd:decide (v<0) with
   |true=>exact⟨_,.out (by simp only[Fj,hk',h0,zl94,hv,zov hv,hd,zU,isSm,aG,zl92];rfl)⟩
   |false=>
    obtain⟨y,hy⟩:=ih (k+1) (by omega) v
    exact⟨y,.again (x':=((((k+1:Nat):Int),v,a),())) (by simp only[Fj,hk',h0,zl94,hv,zov hv,hd,zU,isSm,aG,eF,zl92,w]) hy⟩
 obtain⟨y,hy⟩:=hl a.length 0 (by omega) (IntKind.wrap .i64 (n-(a.length:Int)))
 have hy':Comes Fj (((0:Int),IntKind.wrap .i64 (n-(a.length:Int)),a),()) y:=hy
 simp only[q36,cb hy',cv hy',aG]
 cases decide (IntKind.wrap .i64 (n-(a.length:Int))<0) with
 |true=>exact⟨_,rfl⟩
 |false=>cases y<;>exact⟨_,rfl⟩
structure Ae (w:bV.D):Prop where
 Bd:Hs w.1
 cls:w.2.1.length≤1048576
 cl:∀x∈w.2.1,Pc.DB x
 rad:w.2.2.1.length≤1048576
 pk:∀x∈w.2.2.1,x.2.1.length≤1048576
 giv:w.2.2.2.1.length≤1048576
 its:∀x∈w.2.2.2.1,x.2.1.length≤1048576∧x.2.2.2.1.length≤1048576
def cl_pos (c:b9.D):1≤iK b9 c:=by simp only[iK];omega
def pk_pos (c:eL.D):1≤iK eL c:=by simp only[iK];omega
def it_pos (c:bn.D):1≤iK bn c:=by simp only[iK];omega
def smW_of (w:bV.D)(h:iK bV w≤1048576):Ae w:=by
 have e:iK bV w=iK dj w.1+(((w.2.1.map (iK b9)).sum+1)+(((w.2.2.1.map (iK eL)).sum+1)+(((w.2.2.2.1.map (iK bn)).sum+1)+0))):=rfl
 rw[e] at h
 have h1:=B7 (iK b9) cl_pos w.2.1
 have h2:=B7 (iK eL) pk_pos w.2.2.1
 have h3:=B7 (iK bn) it_pos w.2.2.2.1
 refine⟨aj4 _ (by omega),by omega,fun x hx=>Pc.sml_of x ?_,by omega,fun x hx=>?_,by omega,fun x hx=>?_⟩
 ·have:=G1 (iK b9) _ x hx;omega
 ·have:=G1 (iK eL) _ x hx
  have e:iK eL x=1+(x.2.1.length+1+(1+0)):=rfl
  omega
 ·have:=G1 (iK bn) _ x hx
  have e:iK bn x=1+(x.2.1.length+1+(1+(x.2.2.2.1.length+1+0))):=rfl
  omega
def ald (w:bV.D)(S:Ae w):DQ w=some (w,()):=by
 have a:=alb w.1 S.Bd
 have b:=akZ w.2.1 S.cls S.cl
 have c:=ak6 w.2.2.1 S.rad
 have d:=abY w.2.2.2.1 S.giv
 simp only[DQ,a,zov a,b,zov b,c,zov c,d,zov d,zU,isSm,aG]
def acP (w:bV.D)(S:Ae w):F8 (w,w)=some (true,()):=by
 have a:=acN w.1 S.Bd
 have b:=acz w.2.1 S.cls S.cl
 have c:=acH w.2.2.1 (mL S.rad (by omega))
 have d:=WY w.2.2.2.1 (mL S.giv (by omega))
 simp only[F8,a,zov a,b,zov b,c,zov c,d,zov d,zU,isSm,aG,eF,zl70]
def akP (w:bV.D)(n:Int)(S:Ae w):∃v,HS (w,n)=some (v,()):=by
 obtain⟨a,ha⟩:=akN w.1 n S.Bd
 obtain⟨b,hb⟩:=akC w.2.1 a S.cls S.cl
 obtain⟨c,hc⟩:=akJ w.2.2.1 b S.rad
 obtain⟨d,hd⟩:=abV w.2.2.2.1 c S.giv
 simp only[HS,ha,zov ha,hb,zov hb,hc,zov hc,hd,zov hd,zU,isSm,aG]
 cases decide (a<0) with
 |true=>exact⟨_,rfl⟩
 |false=>
 cases decide (b<0) with
 |true=>exact⟨_,rfl⟩
 |false=>
 cases decide (c<0) with
 |true=>exact⟨_,rfl⟩
 |false=>
 cases decide (d<0)<;>exact⟨_,rfl⟩
section
variable {α:Type} (mk1:α→Int→α) (n1:α→Nat)
def markL:List α→Int→List α
 | [],_=>[]
 |a::l,k=>mk1 a k::markL l (k+n1 a)
def sumN (l:List α):Nat:=(l.map n1).sum
def ks (k:Int)(l:List α)(i:Nat):Int:=k+(sumN n1 (l.take i):Nat)
def part (k:Int)(l:List α)(i:Nat):List α:=markL mk1 n1 (l.take i) k++l.drop i
end
def DK (x y:Nat):((x:Int)==(y:Int))=(x==y):=by rw[zl105,zl78,zl78];omega
def O3 {s:dj.D}(h:okV s=true):se s.2.2.2.1:=by
 unfold okV at h
 simp only[aF] at h
 obtain⟨_,_,hc,h⟩:=h
 cases hu:s.1 with
 |true=>
  rw[hu] at h
  simp only[aG,upV,aF,gQ] at h
  rw[←h.2.1]
  exact Ot hc
 |false=>
  rw[hu] at h
  simp only[eF,Kz,aF,zl78,dM] at h
  have e:s.2.2.2.1=((0:Int),[],()):=by
   rw[←h.1.1.1.1.2,←h.1.1.1.1.1]
  rw[e]
  exact Oq
def ZC {s:dj.D}(h:okV s=true):s.2.2.1.length≤9000:=by
 unfold okV at h
 simp only[aF,gQ] at h
 exact h.2.1
def DD {α:Type}(b:Bool)(x y:α):(bif b then x else y)=if b=true then x else y:=by cases b<;>rfl
abbrev Wd:Type:=bV.D
def zP:eL.D:=((0:Int),[],false,())
def Ep (w:Wd)(i:Nat):Bool:=bif(bif !Pc.At (w.2.1.getD i zC) then true else(w.2.1.getD i zC).1 != (i:Int)) then true else decide ((w.2.1.getD i zC).2.2.2.2.1>(w.2.2.2.1.length:Int))
def HQ (p:eL.D):Bool:=bif decide ((p.2.1.length:Int)>160) then true else bif p.1 != 9 then !gk p.1 0 3 else false
def Hz (g:List It)(i:Nat):Bool:=bif !AU (g.getD i z0).1 (g.getD i z0).2.1 (g.getD i z0).2.2.2.1 then true else(g.getD i z0).2.2.1 != ((i+1:Nat):Int)
def JM (g:List It)(t:It):Bool:=decide (g.getD (t.2.2.1-1).toNat z0=t)
def itF (g:List It)(t:It):Bool:=bif decide (t.2.2.1>(g.length:Int)) then true else !JM g t
def C3 (g:List It)(t:It):Bool:=bif decide (t.2.2.1≤(g.length:Int)) then !JM g t else false
def clOk {w:Wd}(S:Ae w){i:Nat}(hi:i<w.2.1.length):Ck (w.2.1.getD i zC)=some (Pc.At (w.2.1.getD i zC),())∧Dm (w.2.1.getD i zC)=some (Pc.At (w.2.1.getD i zC),()):=by
 have s:=S.cl _ (show w.2.1.getD i zC∈w.2.1 by rw[getD_eq _ _ _ hi];exact zl96 hi)
 have h:=s.name
 exact⟨Pc.akh _ s.sm (by omega),Pc.XV _ s.sm (by omega)⟩
def abI (w:Wd)(S:Ae w)(i:Nat)(hi:i<w.2.1.length) :
  EJ (((i:Int),()),w)=if Ep w i=true then some (.inr (.inl (false,()))) else some (.inl ((((i+1:Nat):Int),()),w)):=by
 have hl:=S.cls
 have wr:=gT (i:=i)
 obtain⟨a,_⟩:=clOk S hi
 unfold Ep
 unfold zC at a ⊢
 simp only[EJ,gl hi,g0,zl94,a,zov a,isSm,zU,zl99,zl92,aG,wr]
 exact DD _ _ _
def XL (w:Wd)(S:Ae w)(i:Nat)(hi:i<w.2.1.length) :
  FA (((i:Int),(),w.2.1,(w.2.1.length:Int)),w)=if Ep w i=true then some (.inr (.inl (false,()))) else some (.inl ((((i+1:Nat):Int),(),w.2.1,(w.2.1.length:Int)),w)):=by
 have hl:=S.cls
 have wr:=gT (i:=i)
 obtain⟨_,a⟩:=clOk S hi
 have fin (A B D:Bool):(bif(bif B then true else !A) then true else D)=(bif(bif !A then true else B) then true else D):=by cases A<;>cases B<;>rfl
 unfold Ep
 unfold zC at a ⊢
 simp only[FA,gl hi,g0,zl94,a,zov a,isSm,zU,zl99,zl92,aG,wr,fin]
 exact DD _ _ _
def abO (w:Wd)(S:Ae w)(i:Nat)(hi:i<w.2.2.1.length) :
  EK (((i:Int),()),w)=if HQ (w.2.2.1.getD i zP)=true then some (.inr (.inl (false,()))) else some (.inl ((((i+1:Nat):Int),()),w)):=by
 have hl:=S.rad
 have wr:=gT (i:=i)
 unfold HQ
 unfold zP
 simp only[EK,gl hi,g0,zl94,A6,zov (A6 _ _ _),isSm,zU,zl99,zl92,aG,wr]
 exact DD _ _ _
def XR (w:Wd)(S:Ae w)(i:Nat)(hi:i<w.2.2.1.length) :
  FB (((i:Int),w.2.2.1,(),(w.2.2.1.length:Int)),w)=if HQ (w.2.2.1.getD i zP)=true then some (.inr (.inl (false,()))) else some (.inl ((((i+1:Nat):Int),w.2.2.1,(),(w.2.2.1.length:Int)),w)):=by
 have hl:=S.rad
 have wr:=gT (i:=i)
 have fin (A B:Bool):(bif A then true else B)=(bif B then true else A):=by cases A<;>cases B<;>rfl
 unfold HQ
 unfold zP
 simp only[FB,gl hi,g0,zl94,Jh,zov (Jh _),isSm,zU,zl99,zl92,aG,wr]
 rw[fin]
 exact DD _ _ _
def abM (w:Wd)(S:Ae w)(i:Nat)(hi:i<w.2.2.2.1.length) :
  Fv (((i:Int),()),w)=if Hz w.2.2.2.1 i=true then some (.inr (.inl (false,()))) else some (.inl ((((i+1:Nat):Int),()),w)):=by
 have hl:=S.giv
 have wr:=gT (i:=i)
 have hm:w.2.2.2.1.getD i z0∈w.2.2.2.1:=by rw[getD_eq _ _ _ hi];exact zl96 hi
 have a:=KR (w.2.2.2.1.getD i z0) (by have:=(S.its _ hm).1;omega)
 unfold Hz
 unfold z0 at a ⊢
 simp only[Fv,gl hi,g0,zl94,a,zov a,isSm,zU,zl99,zl92,aG,wr]
 exact DD _ _ _
def XP (w:Wd)(S:Ae w)(i:Nat)(hi:i<w.2.2.2.1.length) :
  FC (((i:Int),w.2.2.2.1,(),(w.2.2.2.1.length:Int)),w)=if Hz w.2.2.2.1 i=true then some (.inr (.inl (false,()))) else some (.inl ((((i+1:Nat):Int),w.2.2.2.1,(),(w.2.2.2.1.length:Int)),w)):=by
 have hl:=S.giv
 have wr:=gT (i:=i)
 have hm:w.2.2.2.1.getD i z0∈w.2.2.2.1:=by rw[getD_eq _ _ _ hi];exact zl96 hi
 have a:=ZP (w.2.2.2.1.getD i z0).1 (w.2.2.2.1.getD i z0).2.1 (w.2.2.2.1.getD i z0).2.2.2.1 (by have:=(S.its _ hm).1;omega)
 have fin (A B:Bool):(bif A then true else B)=(bif B then true else A):=by cases A<;>cases B<;>rfl
 unfold Hz
 unfold z0 at a ⊢
 simp only[FC,gl hi,g0,zl94,a,zov a,isSm,zU,zl99,zl92,aG,wr]
 rw[fin]
 exact DD _ _ _
def KD {c:Ct}(I:se c){i:Nat}(hi:i<c.2.1.length):∃e:Nat,(c.2.1.getD i z0).2.2.1=(e:Int)∧1≤e∧e≤99999∧(e:Int)≤c.1:=by
 have hm:c.2.1.getD i z0∈c.2.1:=by rw[getD_eq _ _ _ hi];exact zl96 hi
 have h:=I.eds _ hm
 have h2:=I.ed
 exact⟨(c.2.1.getD i z0).2.2.1.toNat,by omega,by omega,by omega,by omega⟩
def edw {e:Nat}(h1:1≤e)(h2:e≤99999):IntKind.wrap .i64 ((e:Int)-1)=((e-1:Nat):Int):=wi (by omega) (by omega)
def abN (w:Wd)(_S:Ae w)(I:se w.1.2.2.2.1)(i:Nat)(hi:i<w.1.2.2.2.1.2.1.length) :
  Fw (((i:Int),()),w)=if itF w.2.2.2.1 (w.1.2.2.2.1.2.1.getD i z0)=true then some (.inr (.inl (false,()))) else some (.inl ((((i+1:Nat):Int),()),w)):=by
 have h8:=I.len
 have wr:=gT (i:=i)
 obtain⟨e,he,h1,h2,_⟩:=KD I hi
 have we:=edw h1 h2
 unfold itF JM
 have et:((e:Int)-1).toNat=e-1:=by omega
 have c0:decide ((0:Int)≤((e-1:Nat):Int))=true:=zdt
 have c1:((!!decide ((e:Int)>(w.2.2.2.1.length:Int))) || decide (((e-1:Nat):Int)<(w.2.2.2.1.length:Int)))=true:=by
  by_cases h:(e:Int)>(w.2.2.2.1.length:Int)
  ·rw[zl86 h];rfl
  ·rw[zl86 (show((e-1:Nat):Int)<(w.2.2.2.1.length:Int) by omega),zl99]
 rw[←F1,he,et]
 unfold z0 at he ⊢
 simp only[Fw,gl hi,g0,zl94,he,we,c0,c1,zU,zl99,zl92,aG,wr]
 exact DD _ _ _
def dnC {e:Nat}{n:Nat}(h1:1≤e):((!decide ((e:Int)≤(n:Int))) || decide (((e-1:Nat):Int)<(n:Int)))=true:=by
 by_cases h:(e:Int)≤(n:Int)
 ·rw[zl86 (show((e-1:Nat):Int)<(n:Int) by omega),zl99]
 ·rw[zl90 h];rfl
def abJ (w:Wd)(c:Ct)(I:se c)(i:Nat)(hi:i<c.2.1.length) :
  EM (((i:Int),(),()),w,(c.1,(),c.2.2),c.2.1)=if C3 w.2.2.2.1 (c.2.1.getD i z0)=true then some (.inr (.inl (false,()))) else some (.inl ((((i+1:Nat):Int),(),()),w,(c.1,(),c.2.2),c.2.1)):=by
 have h8:=I.len
 have wr:=gT (i:=i)
 obtain⟨e,he,h1,h2,_⟩:=KD I hi
 have we:=edw h1 h2
 unfold C3 JM
 have et:((e:Int)-1).toNat=e-1:=by omega
 have c0:decide ((0:Int)≤((e-1:Nat):Int))=true:=zdt
 have c1:=dnC (n:=w.2.2.2.1.length) h1
 rw[←F1,he,et]
 unfold z0 at he ⊢
 simp only[EM,gl hi,g0,zl94,he,we,c0,c1,zU,zl99,zl92,aG,wr]
 exact DD _ _ _
def XM (w:Wd)(c:Ct)(I:se c)(i:Nat)(hi:i<c.2.1.length) :
  FD (((i:Int),(),(),(c.2.1.length:Int)),w,c.2.1)=if C3 w.2.2.2.1 (c.2.1.getD i z0)=true then some (.inr (.inl (false,()))) else some (.inl ((((i+1:Nat):Int),(),(),(c.2.1.length:Int)),w,c.2.1)):=by
 have h8:=I.len
 have wr:=gT (i:=i)
 obtain⟨e,he,h1,h2,_⟩:=KD I hi
 have we:=edw h1 h2
 unfold C3 JM
 have et:((e:Int)-1).toNat=e-1:=by omega
 have c0:decide ((0:Int)≤((e-1:Nat):Int))=true:=zdt
 have c1:=dnC (n:=w.2.2.2.1.length) h1
 rw[←F1,he,et]
 unfold z0 at he ⊢
 simp only[FD,gl hi,g0,zl94,he,we,c0,c1,zU,zl99,zl92,aG,wr]
 exact DD _ _ _
def XU (w:Wd)(c:Ct)(I:se c)(i:Nat)(hi:i<c.2.1.length) :
  FE (((i:Int),(),c.2.1,(c.2.1.length:Int)),w)=if C3 w.2.2.2.1 (c.2.1.getD i z0)=true then some (.inr (.inl (false,()))) else some (.inl ((((i+1:Nat):Int),(),c.2.1,(c.2.1.length:Int)),w)):=by
 have h8:=I.len
 have wr:=gT (i:=i)
 obtain⟨e,he,h1,h2,_⟩:=KD I hi
 have we:=edw h1 h2
 unfold C3 JM
 have et:((e:Int)-1).toNat=e-1:=by omega
 have c0:decide ((0:Int)≤((e-1:Nat):Int))=true:=zdt
 have c1:=dnC (n:=w.2.2.2.1.length) h1
 rw[←F1,he,et]
 unfold z0 at he ⊢
 simp only[FE,gl hi,g0,zl94,he,we,c0,c1,zU,zl99,zl92,aG,wr]
 exact DD _ _ _
noncomputable def Kx (w:Wd):Bool:=cx w.2.1.length fun i=> !Ep w i
def K3 (w:Wd):Bool:=cx w.2.2.1.length fun i=> !HQ (w.2.2.1.getD i zP)
def KI (w:Wd):Bool:=cx w.2.2.2.1.length fun i=> !Hz w.2.2.2.1 i
def HE (w:Wd):Bool:=cx w.1.2.2.2.1.2.1.length fun i=> !itF w.2.2.2.1 (w.1.2.2.2.1.2.1.getD i z0)
def DE (w:Wd)(c:Ct):Bool:=cx c.2.1.length fun i=> !C3 w.2.2.2.1 (c.2.1.getD i z0)
noncomputable def pg (w:Wd):Ct:=(Af (nP w.1).1).1
noncomputable def KA (w:Wd):Bool:=DE w (pg w)&&gk (pg w).1 (w.2.2.2.1.length:Int) ((w.2.2.2.1.length:Int)+1)
noncomputable def KJ (w:Wd):Bool:=KI w&&(HE w&&(bif w.1.1 then w.1.2.2.2.1.1==(w.2.2.2.1.length:Int) else KA w))
noncomputable def BW (w:Wd):Bool:=(okV w.1&&w.2.1.length==4&&decide (w.2.2.1.length≤60)&&KJ w)&&(Kx w&&K3 w)
def BK (n:Nat):decide ((n:Int)<(n:Int))=false:=zdf
def wlen {w:Wd}(S:Ae w):IntKind.wrap .i64 ((w.2.2.2.1.length:Int)+1)=(w.2.2.2.1.length:Int)+1:=by
 have:=S.giv
 exact(wi (y:=w.2.2.2.1.length+1) (by omega) (by omega)).trans (by omega)
def abB {s:dj.D}(ho:okV s=true):se (Af (nP s).1).1:=by
 unfold okV at ho
 simp only[aF] at ho
 exact Ot ho.2.2.1
def acu (w:Wd)(S:Ae w)(ho:okV w.1=true):HV w=some (KA w,()):=by
 have I:se (pg w):=abB ho
 have hl:=ZC ho
 have a:=Yb w.1.2.2.1 (by omega)
 change Db w.1.2.2.1=some (((nP w.1).1,((nP w.1).2:Int)),()) at a
 obtain⟨r1,r2⟩:=Pt w.1 (by omega)
 have b:=abH (nP w.1).1 r1 r2
 have wl:=wlen S
 have q:=nC (r:=EM) (fun i=>(((i:Int),(),()),w,((pg w).1,(),(pg w).2.2),(pg w).2.1)) (n:=(pg w).2.1.length) (p:=fun i=> !C3 w.2.2.2.1 ((pg w).2.1.getD i z0)) (yf:=.inl (false,())) (yt:=.inr (((),()),w,((pg w).1,(),(pg w).2.2),(pg w).2.1)) (fun i hi _ hp=>by
   rw[abJ w (pg w) I i hi,bY (by simpa using hp)]) (fun i hi _ hp=>by
   rw[abJ w (pg w) I i hi,bf (by simpa using hp)]) (by simp only[EM,BK,eF])
 have q':Comes EM (((0:Int),(),()),w,((pg w).1,(),(pg w).2.2),(pg w).2.1) (if DE w (pg w)=true then _ else _):=q
 unfold KA
 change D7 (nP w.1).1=some ((pg w,(Af (nP w.1).1).2),()) at b
 simp only[HV,a,zov a,b,zov b,cb q',cv q',isSm,zU,aG]
 cases DE w (pg w) with
 |false=>rfl
 |true=>simp only[cj,sumC,wl,A6,zov (A6 _ _ _),aG,zl108]
def adV (w:Wd)(S:Ae w)(ho:okV w.1=true):q83 w=some (KJ w,()):=by
 have I:=O3 ho
 have q:=nC (r:=Fv) (fun i=>(((i:Int),()),w)) (n:=w.2.2.2.1.length) (p:=fun i=> !Hz w.2.2.2.1 i) (yf:=.inl (false,())) (yt:=.inr ((),w)) (fun i hi _ hp=>by
   rw[abM w S i hi,bY (by simpa using hp)]) (fun i hi _ hp=>by
   rw[abM w S i hi,bf (by simpa using hp)]) (by simp only[Fv,BK,eF])
 have q':Comes Fv (((0:Int),()),w) (if KI w=true then _ else _):=q
 have r:=nC (r:=Fw) (fun i=>(((i:Int),()),w)) (n:=w.1.2.2.2.1.2.1.length) (p:=fun i=> !itF w.2.2.2.1 (w.1.2.2.2.1.2.1.getD i z0)) (yf:=.inl (false,())) (yt:=.inr ((),w)) (fun i hi _ hp=>by
   rw[abN w S I i hi,bY (by simpa using hp)]) (fun i hi _ hp=>by
   rw[abN w S I i hi,bf (by simpa using hp)]) (by simp only[Fw,BK,eF])
 have r':Comes Fw (((0:Int),()),w) (if HE w=true then _ else _):=r
 have d:=acu w S ho
 unfold KJ
 simp only[q83,cb q',cv q',aG]
 cases KI w with
 |false=>rfl
 |true=>
 simp only[cj,sumC,cb r',cv r',aG]
 cases HE w with
 |false=>rfl
 |true=>
 simp only[cj,d,zov d,isSm,zU,aG,zl108]
 cases w.1.1<;>rfl
def abR (w:Wd)(S:Ae w):Gd w=some (BW w,()):=by
 have a:=akc w.1 S.Bd
 have e60:decide ((w.2.2.1.length:Int)>60) = !decide (w.2.2.1.length≤60):=by
  by_cases h:w.2.2.1.length≤60
  ·rw[zl86 h,zdf];rfl
  ·rw[zl90 h,zdt];rfl
 have e4:((w.2.1.length:Int) != 4) = !(w.2.1.length==4):=by rw[←DK];rfl
 unfold BW
 cases ho:okV w.1 with
 |false=>
  rw[ho] at a
  simp only[Gd,a,zov a,isSm,zU,aG,zl98,zl70,zl76,zl92,zl93]
 |true=>
 rw[ho] at a
 have g:=adV w S ho
 have q:=nC (r:=EJ) (fun i=>(((i:Int),()),w)) (n:=w.2.1.length) (p:=fun i=> !Ep w i) (yf:=.inl (false,())) (yt:=.inr ((),w)) (fun i hi _ hp=>by
   rw[abI w S i hi,bY (by simpa using hp)]) (fun i hi _ hp=>by
   rw[abI w S i hi,bf (by simpa using hp)]) (by simp only[EJ,BK,eF])
 have q':Comes EJ (((0:Int),()),w) (if Kx w=true then _ else _):=q
 have r:=nC (r:=EK) (fun i=>(((i:Int),()),w)) (n:=w.2.2.1.length) (p:=fun i=> !HQ (w.2.2.1.getD i zP)) (yf:=.inl (false,())) (yt:=.inr ((),())) (fun i hi _ hp=>by
   rw[abO w S i hi,bY (by simpa using hp)]) (fun i hi _ hp=>by
   rw[abO w S i hi,bf (by simpa using hp)]) (by simp only[EK,BK,eF])
 have r':Comes EK (((0:Int),()),w) (if K3 w=true then _ else _):=r
 simp only[Gd,a,zov a,g,zov g,e4,e60,isSm,zU,zl99,zl92,aG,eF,zl70,zl108,cb q',cv q']
 cases (w.2.1.length==4) with
 |false=>rfl
 |true=>
 cases decide (w.2.2.1.length≤60) with
 |false=>rfl
 |true=>
 cases KJ w with
 |false=>rfl
 |true=>
 simp only[zl70,eF,zl108]
 cases Kx w with
 |false=>rfl
 |true=>
 simp only[cj,sumC,cb r',cv r',aG]
 cases K3 w<;>rfl
noncomputable def VM (w:Wd):Bool:=bif !w.1.1 then gk (pg w).1 (w.2.2.2.1.length:Int) ((w.2.2.2.1.length:Int)+1)&&DE w (pg w) else gk w.1.2.2.2.1.1 (w.2.2.2.1.length:Int) (w.2.2.2.1.length:Int)&&DE w w.1.2.2.2.1
def akQ (w:Wd)(ho:okV w.1=true):VM w=(HE w&&(bif w.1.1 then w.1.2.2.2.1.1==(w.2.2.2.1.length:Int) else KA w)):=by
 have I:=O3 ho
 unfold VM
 cases hu:w.1.1 with
 |false=>
  have he:w.1.2.2.2.1.2.1.length=0:=by
   unfold okV at ho
   simp only[aF] at ho
   have:=ho.2.2.2
   rw[hu] at this
   simp only[eF,Kz,aF,zl78] at this
   exact this.1.1.1.1.1
  have hi:HE w=true:=by
   unfold HE
   rw[he];rfl
  rw[hi]
  simp only[zl98,aG,eF,zl108,KA]
  exact Bool.and_comm _ _
 |true=>
  simp only[zl70,eF,aG]
  have hb:gk w.1.2.2.2.1.1 (w.2.2.2.1.length:Int) (w.2.2.2.1.length:Int)=(w.1.2.2.2.1.1==(w.2.2.2.1.length:Int)):=by
   unfold gk
   rw[zl105,zl106,zl78]
   omega
  rw[hb,Bool.and_comm]
  cases hl:w.1.2.2.2.1.1==(w.2.2.2.1.length:Int) with
  |false=>simp only[kG]
  |true=>
   have hl':w.1.2.2.2.1.1=(w.2.2.2.1.length:Int):=by simpa using hl
   simp only[Bool.and_true]
   unfold DE HE
   refine Ol fun i hi=>?_
   obtain⟨e,he,_,_,h4⟩:=KD I hi
   unfold C3 itF
   rw[he,zl86 (by omega:(e:Int)≤(w.2.2.2.1.length:Int)),zl90 (by omega:¬(e:Int)>(w.2.2.2.1.length:Int))]
   rfl
def aec (w:Wd)(S:Ae w):q93 w=some (BW w,()):=by
 have a:=ad8 w.1 S.Bd
 have e60:decide ((w.2.2.1.length:Int)>60) = !decide (w.2.2.1.length≤60):=by
  by_cases h:w.2.2.1.length≤60
  ·rw[zl86 h,zdf];rfl
  ·rw[zl90 h,zdt];rfl
 have e4:((w.2.1.length:Int) != 4) = !(w.2.1.length==4):=by rw[←DK];rfl
 have wl:=wlen S
 have hg:=S.giv
 have wl0:IntKind.wrap .i64 ((w.2.2.2.1.length:Int)+0)=(w.2.2.2.1.length:Int):=wi (by omega) (by omega)
 unfold BW
 cases ho:okV w.1 with
 |false=>
  rw[ho] at a
  simp only[q93,a,zov a,isSm,zU,aG,zl98,zl93]
 |true=>
 rw[ho] at a
 have I:=O3 ho
 have I2:se (pg w):=abB ho
 have hl:=ZC ho
 have c:=Ww w.1.2.2.1 (by omega)
 change Ee w.1.2.2.1=some (((nP w.1).1,((nP w.1).2:Int)),()) at c
 obtain⟨r1,r2⟩:=Pt w.1 (by omega)
 have d:=XK (nP w.1).1 r1 r2
 change E3 (nP w.1).1=some ((pg w,(Af (nP w.1).1).2),()) at d
 have q:=nC (r:=FA) (fun i=>(((i:Int),(),w.2.1,(w.2.1.length:Int)),w)) (n:=w.2.1.length) (p:=fun i=> !Ep w i) (yf:=.inl (false,())) (yt:=.inr ((),w)) (fun i hi _ hp=>by
   rw[XL w S i hi,bY (by simpa using hp)]) (fun i hi _ hp=>by
   rw[XL w S i hi,bf (by simpa using hp)]) (by simp only[FA,BK,eF])
 have q':Comes FA (((0:Int),(),w.2.1,(w.2.1.length:Int)),w) (if Kx w=true then _ else _):=q
 have r:=nC (r:=FB) (fun i=>(((i:Int),w.2.2.1,(),(w.2.2.1.length:Int)),w)) (n:=w.2.2.1.length) (p:=fun i=> !HQ (w.2.2.1.getD i zP)) (yf:=.inl (false,())) (yt:=.inr ((),w)) (fun i hi _ hp=>by
   rw[XR w S i hi,bY (by simpa using hp)]) (fun i hi _ hp=>by
   rw[XR w S i hi,bf (by simpa using hp)]) (by simp only[FB,BK,eF])
 have r':Comes FB (((0:Int),w.2.2.1,(),(w.2.2.1.length:Int)),w) (if K3 w=true then _ else _):=r
 have t:=nC (r:=FC) (fun i=>(((i:Int),w.2.2.2.1,(),(w.2.2.2.1.length:Int)),w)) (n:=w.2.2.2.1.length) (p:=fun i=> !Hz w.2.2.2.1 i) (yf:=.inl (false,())) (yt:=.inr ((),w)) (fun i hi _ hp=>by
   rw[XP w S i hi,bY (by simpa using hp)]) (fun i hi _ hp=>by
   rw[XP w S i hi,bf (by simpa using hp)]) (by simp only[FC,BK,eF])
 have t':Comes FC (((0:Int),w.2.2.2.1,(),(w.2.2.2.1.length:Int)),w) (if KI w=true then _ else _):=t
 have u:=nC (r:=FD) (fun i=>(((i:Int),(),(),((pg w).2.1.length:Int)),w,(pg w).2.1)) (n:=(pg w).2.1.length) (p:=fun i=> !C3 w.2.2.2.1 ((pg w).2.1.getD i z0)) (yf:=.inl (false,())) (yt:=.inr ((),())) (fun i hi _ hp=>by
   rw[XM w (pg w) I2 i hi,bY (by simpa using hp)]) (fun i hi _ hp=>by
   rw[XM w (pg w) I2 i hi,bf (by simpa using hp)]) (by simp only[FD,BK,eF])
 have u':Comes FD (((0:Int),(),(),((pg w).2.1.length:Int)),w,(pg w).2.1) (if DE w (pg w)=true then _ else _):=u
 have v:=nC (r:=FE) (fun i=>(((i:Int),(),w.1.2.2.2.1.2.1,(w.1.2.2.2.1.2.1.length:Int)),w)) (n:=w.1.2.2.2.1.2.1.length) (p:=fun i=> !C3 w.2.2.2.1 (w.1.2.2.2.1.2.1.getD i z0)) (yf:=.inl (false,())) (yt:=.inr ((),())) (fun i hi _ hp=>by
   rw[XU w w.1.2.2.2.1 I i hi,bY (by simpa using hp)]) (fun i hi _ hp=>by
   rw[XU w w.1.2.2.2.1 I i hi,bf (by simpa using hp)]) (by simp only[FE,BK,eF])
 have v':Comes FE (((0:Int),(),w.1.2.2.2.1.2.1,(w.1.2.2.2.1.2.1.length:Int)),w) (if DE w w.1.2.2.2.1=true then _ else _):=v
 unfold KJ
 rw[←akQ w ho]
 unfold VM
 simp only[q93,a,zov a,e4,e60,isSm,zU,aG,eF,zl70,zl108,cb q',cv q']
 cases (w.2.1.length==4) with
 |false=>rfl
 |true=>
 cases decide (w.2.2.1.length≤60) with
 |false=>rfl
 |true=>
 simp only[zl70,eF,zl108]
 cases Kx w with
 |false=>simp only[zl93,kG];rfl
 |true=>
 simp only[cj,sumC,cb r',cv r',aG]
 cases K3 w with
 |false=>simp only[kG];rfl
 |true=>
 simp only[cj,cb t',cv t',aG,zl92,Bool.and_true]
 cases KI w with
 |false=>rfl
 |true=>
 simp only[cj,c,zov c,d,zov d,aG,wl,wl0,Ad,zov (Ad _ _ _),cb u',cv u',cb v',cv v',zl108]
 cases w.1.1 with
 |false=>
  simp only[zl98,aG]
  cases gk (pg w).1 (w.2.2.2.1.length:Int) ((w.2.2.2.1.length:Int)+1) with
  |false=>rfl
  |true=>cases DE w (pg w)<;>rfl
 |true=>
  simp only[zl70,eF]
  cases gk w.1.2.2.2.1.1 (w.2.2.2.1.length:Int) (w.2.2.2.1.length:Int) with
  |false=>rfl
  |true=>cases DE w w.1.2.2.2.1<;>rfl
end Pl
open Go Go.Ab
namespace Pc
def Px (s:b7.D)(hs:Cv s)(n:Int):E_ (s,n)=some (zL s n,()):=by
 have z8:∀i,i<s.2.2.1.length→Gz (((i:Int),(),n),s)=bif !BJ s n i then some (.inl ((((i+1:Nat):Int),(),n),s)) else some (.inr (.inl (((b8 s i).2.1,true),()))):=by
  intro i hi
  have eA:List.getD s.2.2.1 i ([],[],())=b8 s i:=rfl
  have f1:List.getD (b8 s i).1 0 0=eJ s i:=rfl
  have hi':decide ((i:Int)<(s.2.2.1.length:Int))=true:=by simpa using hi
  have h0:decide ((0:Int)≤(i:Int))=true:=by simp
  have w:=jb (i:=i) (by have:=hs.1;omega)
  have d1:=len1 (b8 s i).1
  have d2:(eJ s i==n)=decide (eJ s i=n):=rfl
  have d3:(!decide ((b8 s i).1.length=1) || decide ((0:Int)<((b8 s i).1.length:Int)))=true:=by
   by_cases e:(b8 s i).1.length=1
   ·simp[e]
   ·simp[e]
  cases hA:decide ((b8 s i).1.length=1)<;>cases hB:decide (eJ s i=n)<;>simp only[hA,zl70,zl98,zl76,pH] at d3<;>
   simp only[Gz,hi',h0,zl94,Int.toNat_zero,eA,f1,d1,d2,hA,hB,d3,w,BJ,zU,aG,eF,zl70,zl98,Bool.and_true,kG,zl76,zl99,zl92,zl73,Int.le_refl]
 have hl:Comes Gz (((0:Int),(),n),s) (if wX s n<s.2.2.1.length then .inl (((b8 s (wX s n)).2.1,true),()) else .inr ((),())):=by
  refine C0 (fun i=>(((i:Int),(),n),s)) (fun i=> !BJ s n i) (fun i=>if i<s.2.2.1.length then(.inl (((b8 s i).2.1,true),()):((List UInt8×Bool)×Unit)⊕(Unit×Unit)) else .inr ((),())) ?_ ?_ ?_
  ·intro i hi h
   simp only[z8 i hi];rw[h];rfl
  ·intro i hi h
   simp only[z8 i hi];rw[h,bf hi];rfl
  ·simp[Gz]
 by_cases h:wX s n<s.2.2.1.length
 ·rw[bf h] at hl
  simp only[E_,cb hl,cv hl,zL,bf h,aG]
 ·rw[bY h] at hl
  simp only[E_,cb hl,cv hl,zL,bY h,aG]
def aku (s:b7.D)(hs:Cv s)(h:y4 s=true):q86 s=some ((pre s:Int),()):=by
 have h1:1≤s.1∧s.1≤24:=by
  simp only[y4,aF,gQ] at h;exact h.1.1.1
 have hl:Comes GV (((0:Int),()),s) ((pre s:Int),()):=by
  refine C0 (fun n=>(((n:Int),()),s)) (n:=s.1.toNat) (fun n=>(zL s n).2) (fun n=>((n:Int),())) ?_ ?_ ?_
  ·intro i hi h
   have w:=jb (i:=i) (by omega)
   simp only[GV,zog,Px s hs,h,w,zU,isSm,aG,eF,zl70]
  ·intro i hi h
   simp only[GV,zog,Px s hs,h,zU,isSm,aG,zl98]
  ·have e:((s.1.toNat:Nat):Int)=s.1:=by omega
   simp only[GV,zog,Px s hs,e,adU h,zU,isSm,aG,zl98]
 simp only[q86,cb hl,cv hl,aG]
def BV (s:b7.D):Nat→List UInt8
 |0=>[]
 |i+1=>BV s i++(zL s i).1
def Sx {s:b7.D}(h:y4 s=true)(n:Int):(zL s n).1.length≤16:=by
 obtain⟨h1,h2,ha,_⟩:=JN h
 unfold zL
 by_cases hi:wX s n<s.2.2.1.length
 ·rw[bf hi]
  have:=oc.1 ha _ hi
  simp only[nE,aF,gQ] at this
  have:=this.1.2
  show(b8 s (wX s n)).2.1.length≤16
  omega
 ·rw[bY hi];exact lz _
def PB {s:b7.D}(h:y4 s=true):∀i,(BV s i).length≤16*i
 |0=>bw _
 |i+1=>by
  rw[BV,cK]
  have:=PB h i;have:=Sx h i;omega
def TA (s:b7.D):pre s≤s.1.toNat:=by
 have:=(Lm (fun n=>(zL s n).2) s.1.toNat 0).2.1
 unfold pre;omega
def IU (g:fk.D):List UInt8:=(BV g.2.1 (pre g.2.1)).take g.1.1.toNat
def akt (g:fk.D)(hg:Cu g)(h:Ah g=true):EX g=some (IU g,()):=by
 obtain⟨hp,hs,_,_⟩:=Jl h
 obtain⟨a1,a2⟩:=JE hp
 have h1:=(JN hs).1
 have hpre:=aku g.2.1 hg.2 hs
 have OI:=zov hpre
 have hple:=TA g.2.1
 have hl:Comes Ie (((0:Int),[],()),g) (((),BV g.2.1 (pre g.2.1)),g):=by
  refine lO (st:=fun i=>(((i:Int),BV g.2.1 i,()),g)) (n:=pre g.2.1) ?_ ?_ 0 (lz _)
  ·intro i hi
   have hi':decide ((i:Int)<((pre g.2.1:Nat):Int))=true:=by simpa using hi
   have mu:=Px g.2.1 hg.2 i
   have SB:=zov mu
   have w:=jb (i:=i) (by omega)
   have hb:decide ((BV g.2.1 i).length+(zL g.2.1 i).1.length≤eD)=true:=by
    have:=PB hs i;have:=Sx hs (i:Int)
    exact zl86 (by unfold eD;omega)
   simp only[Ie,hpre,OI,hi',mu,SB,hb,w,BV,zU,isSm,aG]
  ·have hi':decide (((pre g.2.1:Nat):Int)<((pre g.2.1:Nat):Int))=false:=by simp
   simp only[Ie,hpre,OI,hi',zU,isSm,aG,eF]
 simp only[EX,cb hl,cv hl,aG,IU]
 generalize BV g.2.1 (pre g.2.1)=out
 have z:decide ((0:Int)≤g.1.1)=true:=zdt
 by_cases e:g.1.1<(out.length:Int)
 ·have e1:decide ((out.length:Int)>g.1.1)=true:=zl86 e
  have e2:decide (g.1.1≤(out.length:Int))=true:=zdt
  simp only[e1,e2,z,zU,aG,zl92,Int.sub_zero,Int.toNat_zero,zl84]
 ·have e1:decide ((out.length:Int)>g.1.1)=false:=zl90 e
  simp only[e1,eF]
  rw[zl57 (by omega)]
def aee (g:fk.D)(hg:Cu g)(h:Ah g=true):q88 g=some (IU g,()):=by
 obtain⟨hp,hs,_,_⟩:=Jl h
 obtain⟨a1,a2⟩:=JE hp
 have h1:=(JN hs).1
 have hpre:=XY g.2.1 hg.2 h1
 have OI:=zov hpre
 have hple:=TA g.2.1
 have hok:=XW g hg
 have hok':=zov hok
 have hl:Comes IE (((0:Int),[],(),((pre g.2.1:Nat):Int)),g) (((),BV g.2.1 (pre g.2.1)),g):=by
  refine lO (st:=fun i=>(((i:Int),BV g.2.1 i,(),((pre g.2.1:Nat):Int)),g)) (n:=pre g.2.1) ?_ ?_ 0 (lz _)
  ·intro i hi
   have hi':decide ((i:Int)<((pre g.2.1:Nat):Int))=true:=by simpa using hi
   have mu:=SE g.2.1 hg.2 i
   have SB:=zov mu
   have w:=jb (i:=i) (by omega)
   have hb:decide ((BV g.2.1 i).length+(zL g.2.1 i).1.length≤eD)=true:=by
    have:=PB hs i;have:=Sx hs (i:Int)
    exact zl86 (by unfold eD;omega)
   simp only[IE,hi',mu,SB,hb,w,BV,zU,isSm,aG]
  ·have hi':decide (((pre g.2.1:Nat):Int)<((pre g.2.1:Nat):Int))=false:=by simp
   simp only[IE,hi',eF]
 simp only[q88,hok,hok',h,hpre,OI,cb hl,cv hl,zU,isSm,aG,eF,zl70,IU]
 generalize BV g.2.1 (pre g.2.1)=out
 have z:decide ((0:Int)≤g.1.1)=true:=zdt
 have z2:decide ((0:Int)≤(out.length:Int))=true:=zdt
 by_cases e:g.1.1<(out.length:Int)
 ·have e2:decide (g.1.1≤(out.length:Int))=true:=zdt
  simp only[bf e,e2,z,aG,zl92,Int.sub_zero,Int.toNat_zero,zl84]
 ·simp only[bY e,z2,Int.le_refl,zl73,aG,zl92,Int.sub_zero,Int.toNat_zero,zl94,zl84]
  rw[zl57 (by omega),zl57 (by omega)]
def Jg (c:b9.D):List UInt8:=bif !At c || c.2.2.2.2.1==0 then [] else IU c.2.2.2.2.2.1
def WN {c:b9.D}(h:At c=true)(hn:(c.2.2.2.2.1==0)=false):Ah c.2.2.2.2.2.1=true:=by
 simp only[At,aF,hn,eF] at h
 exact h.1.2
def aed (c:b9.D)(hg:Cu c.2.2.2.2.2.1)(hn:c.2.2.2.1.length≤4611686018427387904):Eb c=some (Jg c,()):=by
 have hO:=XV c hg hn
 have hO':=zov hO
 cases h:At c with
 |false=>simp only[Eb,hO,hO',h,Jg,zU,isSm,aG,zl98,zl76]
 |true=>
  cases h2:(c.2.2.2.2.1==0) with
  |true=>simp only[Eb,hO,hO',h,h2,Jg,zU,isSm,aG,eF,zl70,zl99]
  |false=>
   have hT:=aee _ hg (WN h h2)
   have hT':=zov hT
   simp only[Eb,hO,hO',h,h2,hT,hT',Jg,zU,isSm,aG,eF,zl70,Bool.or_false]
end Pc
open Go Go.Ab Go.Lib
namespace Pl
def CT (c:b9.D):List UInt8:=Pc.IU c.2.2.2.2.2.1
def aln {w:Wd}(h:BW w=true){i:Nat}(hi:i<w.2.1.length):Pc.At (w.2.1.getD i zC)=true∧(w.2.1.getD i zC).2.2.2.2.1≤(w.2.2.2.1.length:Int):=by
 unfold BW at h
 simp only[aF] at h
 have:=oc.1 h.2.1 i hi
 unfold Ep at this
 cases hk:Pc.At (w.2.1.getD i zC) with
 |false=>rw[hk] at this;cases this
 |true=>
  rw[hk] at this
  cases h1:((w.2.1.getD i zC).1 != (i:Int)) with
  |true=>rw[h1] at this;cases this
  |false=>
   rw[h1] at this
   simp only[zl70,eF,i_,zl97] at this
   exact⟨rfl,by omega⟩
def Sa {c:b9.D}(h:Pc.At c=true):0≤c.2.2.2.2.1∧c.2.2.2.2.1≤99999:=by
 unfold Pc.At at h
 simp only[aF,gQ] at h
 exact h.1.1.2
def VN {c:b9.D}(hg:Pc.Ah c.2.2.2.2.2.1=true):(CT c).length≤384:=by
 obtain⟨hp,hs,_,_⟩:=Pc.Jl hg
 have h1:=(Pc.JN hs).1
 have h2:=Pc.TA c.2.2.2.2.2.1.2.1
 have h3:=Pc.PB hs (Pc.pre c.2.2.2.2.2.1.2.1)
 unfold CT Pc.IU
 rw[zl3]
 omega
def AM {α:Type}{b:Bool}{x y z:α}(h:b=true)(e:x=z):(bif b then x else y)=z:=by rw[h];exact e
def mb (x:Int):List UInt8:=decDigits x.toNat
def n_ {x:Int}(h:x<1000000000):(mb x).length≤9:=Ow (n:=x.toNat) (k:=9) (by omega) (by omega)
def CB {x:Int}(h0:0≤x)(h:x<1000000000):gb x=some (mb x,()):=by
 have:=OJ x.toNat (by omega)
 rwa[Int.toNat_of_nonneg h0] at this
def CA {x:Int}(h0:0≤x)(h:x<1000000000):Wh.strconv_Itoa x=some (mb x,()):=by
 have:=KP x.toNat (by omega)
 rwa[Int.toNat_of_nonneg h0] at this
def B8 (t:It):List UInt8:=[32,32,104,111,117,115,101,32]++(mb t.1++([32]++(t.2.1++([32,101,100,105,116,105,111,110,32]++(mb t.2.2.1++([44,32]++(mb t.2.2.2.1.length ++ [32,98,121,116,101,115,10])))))))
structure ItS (t:It):Prop where
 h:0≤t.1∧t.1<1000000000
 n:t.2.1.length≤1048576
 e:0≤t.2.2.1∧t.2.2.1<1000000000
 l:t.2.2.2.1.length≤1048576
def SJ {t:It}(h:ItS t):(B8 t).length≤1048676:=by
 have a:=n_ h.h.2
 have b:=n_ h.e.2
 have c:=n_ (x:=t.2.2.2.1.length) (by have:=h.l;omega)
 have d:=h.n
 unfold B8
 simp only[cK,kF,nQ]
 omega
def aj_ (w:Wd)(o:List UInt8)(i:Nat)(hi:i<w.1.2.2.2.1.2.1.length)(h8:w.1.2.2.2.1.2.1.length≤8)(ho:o.length≤100000000)(h:ItS (w.1.2.2.2.1.2.1.getD i z0)) :
  Dj (((i:Int),o,()),w)=some (.inl ((((i+1:Nat):Int),o++B8 (w.1.2.2.2.1.2.1.getD i z0),()),w)):=by
 have wr:=gT (i:=i)
 unfold z0 at h ⊢
 generalize hg:List.getD w.1.2.2.2.1.2.1 i ((0:Int),([]:List UInt8),(0:Int),([]:List UInt8),())=t at h ⊢
 have a:=CB h.h.1 h.h.2
 have b:=CB h.e.1 h.e.2
 have hl:=h.l
 have hn:=h.n
 have c:=CB (x:=(t.2.2.2.1.length:Int)) (by omega) (by omega)
 have la:=n_ h.h.2
 have lb:=n_ h.e.2
 have lc:=n_ (x:=(t.2.2.2.1.length:Int)) (by omega)
 have he:o++B8 t=_:=rfl
 unfold B8 at he ⊢
 generalize mb t.1=A at *
 generalize mb t.2.2.1=B at *
 generalize mb t.2.2.2.1.length=C at *
 simp only[Dj,gl hi,g0,zl94,hg,a,b,c,zov a,zov b,zov c,isSm,zU,zl92,zl108,aG,wr]
 refine AM ?_ ?_
 ·simp only[aF,gQ,cK,kF,nQ,eD]
  repeat' refine And.intro ?_ ?_
  all_goals first|omega|trivial|exact zdt
 ·simp only[bX]
def ad6 (w:Wd)(u:List It)(o:List UInt8)(i:Nat)(hi:i<u.length)(h8:u.length≤8)(ho:o.length≤100000000)(h:ItS (u.getD i z0)) :
  Dd (((i:Int),(),o,u,(),(u.length:Int)),w)=some (.inl ((((i+1:Nat):Int),(),o++B8 (u.getD i z0),u,(),(u.length:Int)),w)):=by
 have wr:=gT (i:=i)
 unfold z0 at h ⊢
 generalize hg:List.getD u i ((0:Int),([]:List UInt8),(0:Int),([]:List UInt8),())=t at h ⊢
 have a:=CA h.h.1 h.h.2
 have b:=CA h.e.1 h.e.2
 have hl:=h.l
 have hn:=h.n
 have c:=CA (x:=(t.2.2.2.1.length:Int)) (by omega) (by omega)
 have la:=n_ h.h.2
 have lb:=n_ h.e.2
 have lc:=n_ (x:=(t.2.2.2.1.length:Int)) (by omega)
 unfold B8
 generalize mb t.1=A at *
 generalize mb t.2.2.1=B at *
 generalize mb t.2.2.2.1.length=C at *
 simp only[Dd,gl hi,g0,zl94,hg,a,b,c,zov a,zov b,zov c,isSm,zU,zl92,zl108,aG,wr]
 refine AM ?_ ?_
 ·simp only[aF,gQ,cK,kF,nQ,eD]
  repeat' refine And.intro ?_ ?_
  all_goals first|omega|trivial|exact zdt
 ·simp only[bX]
def stN (s:Int):List UInt8:=FV.getD s.toNat []
def abU {s:Int}(h0:0≤s)(h:s≤4):s=0∨s=1∨s=2∨s=3∨s=4:=by omega
def VI {s:Int}(h0:0≤s)(h:s≤4):(stN s).length=4:=by
 rcases abU h0 h with e|e|e|e|e<;>subst e<;>rfl
def akw {s:Int}(h0:0≤s)(h:s≤4):q45 s=some (stN s,()):=by
 rcases abU h0 h with e|e|e|e|e<;>subst e<;>rfl
def Pz (c:b9.D):List UInt8:=[44,32]++(c.2.2.2.1++([32,101,100,105,116,105,111,110,32]++(mb c.2.2.2.2.1++([44,32,107,110,111,119,115,32]++(mb (CT c).length++([32,111,102,32]++mb c.2.2.2.2.2.1.1.1))))))
def KK (c:b9.D):List UInt8:=[99,108,105,101,110,116,32]++(mb c.1++([32]++(stN c.2.2.1++([44,32,116,114,121,32]++mb c.2.1))))
def CG (c:b9.D):List UInt8:=KK c++((bif decide (c.2.2.2.2.1>0) then Pz c else []) ++ [10])
def cl_s {c:b9.D}(h:Pc.At c=true):(0≤c.1∧c.1≤3)∧(0≤c.2.1∧c.2.1≤99999)∧(0≤c.2.2.1∧c.2.2.1≤4):=by
 unfold Pc.At at h
 simp only[aF,gQ] at h
 exact⟨h.1.1.1.1.1,h.1.1.1.1.2,h.1.1.1.2⟩
def cl_id {w:Wd}(h:BW w=true){i:Nat}(hi:i<w.2.1.length):(w.2.1.getD i zC).1=(i:Int):=by
 unfold BW at h
 simp only[aF] at h
 have:=oc.1 h.2.1 i hi
 unfold Ep at this
 cases hk:Pc.At (w.2.1.getD i zC) with
 |false=>rw[hk] at this;cases this
 |true=>
  rw[hk] at this
  cases h1:((w.2.1.getD i zC).1 != (i:Int)) with
  |true=>rw[h1] at this;cases this
  |false=>simpa using h1
structure DA (c:b9.D):Prop where
 ok:Pc.At c=true
 sm:Pc.DB c
def adW {c:b9.D}(h:DA c):(KK c).length≤100:=by
 obtain⟨a,b,d⟩:=cl_s h.ok
 have la:=n_ (x:=c.1) (by omega)
 have lb:=n_ (x:=c.2.1) (by omega)
 have lc:=VI d.1 d.2
 unfold KK
 simp only[cK,kF,nQ]
 omega
def Sl {c:b9.D}(h:DA c)(e:decide (c.2.2.2.2.1>0)=true):Pc.Ah c.2.2.2.2.2.1=true:=by
 have:=zl79 e
 exact Pc.WN h.ok (zl89.2 (by omega))
def Sy {c:b9.D}(h:Pc.Ah c.2.2.2.2.2.1=true):1≤c.2.2.2.2.2.1.1.1∧c.2.2.2.2.2.1.1.1≤300:=(Pc.JE (Pc.Jl h).1).1
def SI {c:b9.D}(h:DA c):(CG c).length≤1048776:=by
 have h1:=adW h
 have h2:=Sa h.ok
 have h3:=h.sm.name
 unfold CG
 cases e:decide (c.2.2.2.2.1>0) with
 |false=>simp only[cK,kF,nQ,eF];omega
 |true=>
  have hg:=Sl h e
  have hl:=Sy hg
  have ht:=VN hg
  have la:=n_ (x:=c.2.2.2.2.1) (by omega)
  have lb:=n_ (x:=c.2.2.2.2.2.1.1.1) (by omega)
  have lc:=n_ (x:=(CT c).length) (by omega)
  unfold Pz
  simp only[cK,kF,nQ,aG]
  omega
def aj8 (w:Wd)(o:List UInt8)(i:Nat)(hi:i<w.2.1.length)(h4:w.2.1.length≤4)(ho:o.length≤100000000)(h:DA (w.2.1.getD i zC))(hid:(w.2.1.getD i zC).1=(i:Int)) :
  Dk (((i:Int),o,()),w)=some (.inl ((((i+1:Nat):Int),o++CG (w.2.1.getD i zC),()),w)):=by
 have wr:=gT (i:=i)
 unfold zC at h hid ⊢
 generalize hg:List.getD w.2.1 i ((0:Int),(0:Int),(0:Int),([]:List UInt8),(0:Int),(((0:Int),(0:Int),([]:List Int),([]:List Int),()),((0:Int),(0:Int),([]:List er.D),()),()),())=c at h hid ⊢
 obtain⟨hA,hB,hS⟩:=cl_s h.ok
 have a:=CB (x:=(i:Int)) (by omega) (by omega)
 have b:=CB hB.1 (by omega)
 have s:=akw hS.1 hS.2
 have ls:=VI hS.1 hS.2
 have la:=n_ (x:=(i:Int)) (by omega)
 have lb:=n_ (x:=c.2.1) (by omega)
 have hn:=h.sm.name
 have he:=Sa h.ok
 unfold CG KK
 rw[hid]
 generalize mb (i:Int)=A at *
 generalize mb c.2.1=B at *
 generalize stN c.2.2.1=S at *
 simp only[Dk,gl hi,g0,zl94,hg,a,b,s,zov a,zov b,zov s,isSm,zU,zl92,zl108,aG,wr]
 refine AM ?_ ?_
 ·simp only[aF,gQ,cK,kF,nQ,eD]
  repeat' refine And.intro ?_ ?_
  all_goals first|omega|trivial|exact zdt
 ·cases e:decide (c.2.2.2.2.1>0) with
  |false=>
   simp only[eF]
   refine AM ?_ ?_
   ·simp only[gQ,cK,kF,nQ,eD]
    repeat' refine And.intro ?_ ?_
    all_goals first|omega|trivial|exact zdt
   ·simp only[bX,zl17]
  |true=>
   have hk:=Sl h e
   have hl:=Sy hk
   have ht:=VN hk
   have x:=Pc.akt _ h.sm.sm hk
   change EX c.2.2.2.2.2.1=some (CT c,()) at x
   have p:=CB (x:=c.2.2.2.2.1) (by omega) (by omega)
   have q:=CB (x:=c.2.2.2.2.2.1.1.1) (by omega) (by omega)
   have r:=CB (x:=((CT c).length:Int)) (by omega) (by omega)
   have lp:=n_ (x:=c.2.2.2.2.1) (by omega)
   have Yn:=n_ (x:=c.2.2.2.2.2.1.1.1) (by omega)
   have lr:=n_ (x:=((CT c).length:Int)) (by omega)
   unfold Pz
   generalize CT c=X at *
   generalize mb (X.length:Int)=R at *
   generalize mb c.2.2.2.2.1=P at *
   generalize mb c.2.2.2.2.2.1.1.1=Q at *
   simp only[x,p,q,r,zov p,zov q,zov r,zov x,zl108,aG]
   refine AM ?_ (AM ?_ ?_)
   ·simp only[aF,gQ,cK,kF,nQ,eD]
    repeat' refine And.intro ?_ ?_
    all_goals first|omega|trivial|exact zdt
   ·simp only[gQ,cK,kF,nQ,eD]
    repeat' refine And.intro ?_ ?_
    all_goals first|omega|trivial|exact zdt
   ·simp only[bX]
def ad4 (w:Wd)(u:List b9.D)(o:List UInt8)(i:Nat)(hi:i<u.length)(h4:u.length≤4)(ho:o.length≤100000000)(h:DA (u.getD i zC)) :
  De (((i:Int),(),o,u,(),(u.length:Int)),w)=some (.inl ((((i+1:Nat):Int),(),o++CG (u.getD i zC),u,(),(u.length:Int)),w)):=by
 have wr:=gT (i:=i)
 unfold zC at h ⊢
 generalize hg:List.getD u i ((0:Int),(0:Int),(0:Int),([]:List UInt8),(0:Int),(((0:Int),(0:Int),([]:List Int),([]:List Int),()),((0:Int),(0:Int),([]:List er.D),()),()),())=c at h ⊢
 obtain⟨hA,hB,hS⟩:=cl_s h.ok
 have a:=CA hA.1 (by omega)
 have b:=CA hB.1 (by omega)
 have ls:=VI hS.1 hS.2
 have la:=n_ (x:=c.1) (by omega)
 have lb:=n_ (x:=c.2.1) (by omega)
 have hn:=h.sm.name
 have he:=Sa h.ok
 have s:List.getD FV (Int.toNat c.2.2.1) []=stN c.2.2.1:=rfl
 have aj2:((List.length FV:Nat):Int)=5:=rfl
 unfold CG KK
 generalize mb c.1=A at *
 generalize mb c.2.1=B at *
 generalize stN c.2.2.1=S at *
 simp only[De,gl hi,g0,zl94,hg,a,b,s,aj2,zov a,zov b,isSm,zU,zl92,zl108,aG,wr]
 refine AM ?_ ?_
 ·simp only[aF,gQ,cK,kF,nQ,eD]
  repeat' refine And.intro ?_ ?_
  all_goals first|omega|trivial|exact zdt
 ·cases e:decide (c.2.2.2.2.1>0) with
  |false=>
   simp only[eF]
   refine AM ?_ ?_
   ·simp only[gQ,cK,kF,nQ,eD]
    repeat' refine And.intro ?_ ?_
    all_goals first|omega|trivial|exact zdt
   ·simp only[bX,zl17]
  |true=>
   have hk:=Sl h e
   have hl:=Sy hk
   have ht:=VN hk
   have x:=Pc.aed c h.sm.sm (by omega)
   have xt:Pc.Jg c=CT c:=by
    unfold Pc.Jg
    rw[h.ok,zl89.2 (by have:=zl79 e;omega)]
    rfl
   rw[xt] at x
   have p:=CA (x:=c.2.2.2.2.1) (by omega) (by omega)
   have q:=CA (x:=c.2.2.2.2.2.1.1.1) (by omega) (by omega)
   have r:=CA (x:=((CT c).length:Int)) (by omega) (by omega)
   have lp:=n_ (x:=c.2.2.2.2.1) (by omega)
   have Yn:=n_ (x:=c.2.2.2.2.2.1.1.1) (by omega)
   have lr:=n_ (x:=((CT c).length:Int)) (by omega)
   unfold Pz
   generalize CT c=X at *
   generalize mb (X.length:Int)=R at *
   generalize mb c.2.2.2.2.1=P at *
   generalize mb c.2.2.2.2.2.1.1.1=Q at *
   simp only[x,p,q,r,zov p,zov q,zov r,zov x,zl108,aG]
   refine AM ?_ (AM ?_ ?_)
   ·simp only[aF,gQ,cK,kF,nQ,eD]
    repeat' refine And.intro ?_ ?_
    all_goals first|omega|trivial|exact zdt
   ·simp only[gQ,cK,kF,nQ,eD]
    repeat' refine And.intro ?_ ?_
    all_goals first|omega|trivial|exact zdt
   ·simp only[bX]
def upTo {α:Type}(f:α→List UInt8)(l:List α)(o:List UInt8)(i:Nat):List UInt8:=o++(l.take i).flatMap f
def PE {α:Type}(f:α→List UInt8)(l:List α)(o:List UInt8):upTo f l o 0=o:=by simp[upTo]
def PD {α:Type}(f:α→List UInt8)(l:List α)(o:List UInt8)(d:α)(i:Nat)(hi:i<l.length):upTo f l o i++f (l.getD i d)=upTo f l o (i+1):=by
 unfold upTo
 rw[zl88 hi,getD_eq _ _ _ hi,List.flatMap_append,List.flatMap_singleton,bX]
def JO {α:Type}(f:α→List UInt8)(l:List α)(o:List UInt8)(k:Nat)(h:∀x∈l,(f x).length≤k):∀i,(upTo f l o i).length≤o.length+i*k:=by
 intro i
 have:((l.take i).flatMap f).length≤i*k:=by
  rw[List.length_flatMap]
  have h2:∀(m:List α),(∀x∈m,(f x).length≤k)→(m.map (fun x=>(f x).length)).sum≤m.length*k:=by
   intro m
   induction m with
   |nil=>intro _;simp
   |cons a m ih=>
    intro hm
    have h1:=hm a (by simp)
    have h2:=ih (fun x hx=>hm x (by simp[hx]))
    simp only[kD,zl82,kF,bP,Nat.one_mul]
    omega
  have h3:=h2 (l.take i) (fun x hx=>h x (List.mem_of_mem_take hx))
  have h4:(l.take i).length≤i:=by rw[zl3];omega
  have h5:=gD k h4
  omega
 unfold upTo
 rw[cK]
 omega
def its_S {w:Wd}(I:se w.1.2.2.2.1):∀t∈w.1.2.2.2.1.2.1,ItS t:=by
 intro t ht
 have h1:=I.ok t ht
 have h2:=I.eds t ht
 have h3:=I.ed
 unfold AU AP at h1
 simp only[aF,gQ] at h1
 exact⟨by omega,by omega,by omega,by omega⟩
def cls_S {w:Wd}(S:Ae w)(W:BW w=true):∀c∈w.2.1,DA c:=by
 intro c hc
 obtain⟨i,hi,e⟩:=zl100 hc
 have h1:=(aln W hi).1
 rw[getD_eq _ _ _ hi,e] at h1
 exact⟨h1,S.cl c hc⟩
def alm {w:Wd}(W:BW w=true):w.2.1.length=4∧w.2.2.1.length≤60∧okV w.1=true:=by
 unfold BW at W
 simp only[aF,gQ,zl78] at W
 exact⟨W.1.1.1.2,W.1.1.2,W.1.1.1.1⟩
def Bl (w:Wd)(o:List UInt8):List UInt8:=upTo B8 w.1.2.2.2.1.2.1 o w.1.2.2.2.1.2.1.length
def Er (w:Wd)(o:List UInt8):List UInt8:=upTo CG w.2.1 o w.2.1.length
def aj9 (w:Wd)(o:List UInt8)(h8:w.1.2.2.2.1.2.1.length≤8)(ho:o.length≤1000)(h:∀t∈w.1.2.2.2.1.2.1,ItS t) :
  Comes Dj (((0:Int),o,()),w) ((Bl w o,()),w):=by
 have:=lO (r:=Dj) (st:=fun i=>(((i:Int),upTo B8 w.1.2.2.2.1.2.1 o i,()),w)) (n:=w.1.2.2.2.1.2.1.length) (y:=((Bl w o,()),w)) (fun i hi=>by
  have hl:=JO B8 w.1.2.2.2.1.2.1 o 1048676 (fun x hx=>SJ (h x hx)) i
  have hm:w.1.2.2.2.1.2.1.getD i z0∈w.1.2.2.2.1.2.1:=by rw[getD_eq _ _ _ hi];exact zl96 hi
  rw[aj_ w _ i hi h8 (by omega) (h _ hm),PD _ _ _ _ _ hi]) (by simp only[Dj,BK,eF];rfl) 0 (lz _)
 rw[PE] at this
 exact this
def ad5 (w:Wd)(o:List UInt8)(h8:w.1.2.2.2.1.2.1.length≤8)(ho:o.length≤1000)(h:∀t∈w.1.2.2.2.1.2.1,ItS t) :
  Comes Dd (((0:Int),(),o,w.1.2.2.2.1.2.1,(),(w.1.2.2.2.1.2.1.length:Int)),w) (((),Bl w o,()),w):=by
 have:=lO (r:=Dd) (st:=fun i=>(((i:Int),(),upTo B8 w.1.2.2.2.1.2.1 o i,w.1.2.2.2.1.2.1,(),(w.1.2.2.2.1.2.1.length:Int)),w)) (n:=w.1.2.2.2.1.2.1.length) (y:=(((),Bl w o,()),w)) (fun i hi=>by
  have hl:=JO B8 w.1.2.2.2.1.2.1 o 1048676 (fun x hx=>SJ (h x hx)) i
  have hm:w.1.2.2.2.1.2.1.getD i z0∈w.1.2.2.2.1.2.1:=by rw[getD_eq _ _ _ hi];exact zl96 hi
  rw[ad6 w _ _ i hi h8 (by omega) (h _ hm),PD _ _ _ _ _ hi]) (by simp only[Dd,BK,eF];rfl) 0 (lz _)
 rw[PE] at this
 exact this
def aj7 (w:Wd)(o:List UInt8)(h4:w.2.1.length≤4)(ho:o.length≤10000000)(h:∀t∈w.2.1,DA t)(hid:∀i,i<w.2.1.length→(w.2.1.getD i zC).1=(i:Int)) :
  Comes Dk (((0:Int),o,()),w) (((),Er w o),w):=by
 have:=lO (r:=Dk) (st:=fun i=>(((i:Int),upTo CG w.2.1 o i,()),w)) (n:=w.2.1.length) (y:=(((),Er w o),w)) (fun i hi=>by
  have hl:=JO CG w.2.1 o 1048776 (fun x hx=>SI (h x hx)) i
  have hm:w.2.1.getD i zC∈w.2.1:=by rw[getD_eq _ _ _ hi];exact zl96 hi
  rw[aj8 w _ i hi h4 (by omega) (h _ hm) (hid i hi),PD _ _ _ _ _ hi]) (by simp only[Dk,BK,eF];rfl) 0 (lz _)
 rw[PE] at this
 exact this
def ad3 (w:Wd)(o:List UInt8)(h4:w.2.1.length≤4)(ho:o.length≤10000000)(h:∀t∈w.2.1,DA t) :
  Comes De (((0:Int),(),o,w.2.1,(),(w.2.1.length:Int)),w) (((),(),Er w o),w):=by
 have:=lO (r:=De) (st:=fun i=>(((i:Int),(),upTo CG w.2.1 o i,w.2.1,(),(w.2.1.length:Int)),w)) (n:=w.2.1.length) (y:=(((),(),Er w o),w)) (fun i hi=>by
  have hl:=JO CG w.2.1 o 1048776 (fun x hx=>SI (h x hx)) i
  have hm:w.2.1.getD i zC∈w.2.1:=by rw[getD_eq _ _ _ hi];exact zl96 hi
  rw[ad4 w _ _ i hi h4 (by omega) (h _ hm),PD _ _ _ _ _ hi]) (by simp only[De,BK,eF];rfl) 0 (lz _)
 rw[PE] at this
 exact this
def AK (w:Wd):List UInt8:=bif w.1.1 then [115,101,114,118,101,114,32,117,112,44,32]++(mb w.1.2.2.2.1.2.1.length++([32,116,104,105,110,103,115,32,111,102,32]++(mb w.1.2.2.2.1.1++([44,32]++(mb w.1.2.2.2.2.2.2.1.length ++ [32,116,111,108,100,10])))))
 else [115,101,114,118,101,114,32,100,111,119,110,10]
def Kw (w:Wd):List UInt8:=Er w (Bl w (AK w))++(mb w.2.2.1.length ++ [32,117,110,100,101,114,32,119,97,121,10])
def X8 (w:Wd)(o:List UInt8)(h8:w.1.2.2.2.1.2.1.length≤8)(ho:o.length≤1000)(h:∀t∈w.1.2.2.2.1.2.1,ItS t):(Bl w o).length≤10000000:=by
 have hl:=JO B8 w.1.2.2.2.1.2.1 o 1048676 (fun x hx=>SJ (h x hx)) w.1.2.2.2.1.2.1.length
 unfold Bl
 omega
def WO (w:Wd)(o:List UInt8)(h4:w.2.1.length≤4)(ho:o.length≤10000000)(h:∀t∈w.2.1,DA t):(Er w o).length≤20000000:=by
 have hl:=JO CG w.2.1 o 1048776 (fun x hx=>SI (h x hx)) w.2.1.length
 unfold Er
 omega
structure BdI (w:Wd):Prop where
 i8:w.1.2.2.2.1.2.1.length≤8
 its:∀t∈w.1.2.2.2.1.2.1,ItS t
 c4:w.2.1.length≤4
 cls:∀t∈w.2.1,DA t
 ids:∀i,i<w.2.1.length→(w.2.1.getD i zC).1=(i:Int)
 last:0≤w.1.2.2.2.1.1∧w.1.2.2.2.1.1<1000000000
 Bd:w.1.2.2.2.2.2.2.1.length≤1048576
 rad:w.2.2.1.length≤60
def WC {w:Wd}(S:Ae w)(W:BW w=true):BdI w:=by
 obtain⟨h1,h2,h3⟩:=alm W
 have I:=O3 h3
 have:=I.ed
 exact⟨I.len,its_S I,by omega,cls_S S W,fun i hi=>cl_id W hi,by omega,S.Bd.Bd,h2⟩
def W0 {w:Wd}(I:BdI w):(AK w).length≤1000:=by
 have:=I.i8
 have:=I.last
 have:=I.Bd
 have la:=n_ (x:=(w.1.2.2.2.1.2.1.length:Int)) (by omega)
 have lb:=n_ (x:=w.1.2.2.2.1.1) (by omega)
 have lc:=n_ (x:=(w.1.2.2.2.2.2.2.1.length:Int)) (by omega)
 unfold AK
 cases w.1.1<;>simp only[aG,eF,cK,kF,nQ]<;>omega
def aj6 (w:Wd)(S:Ae w)(W:BW w=true):Dh w=some (Kw w,()):=by
 have I:=WC S W
 have o:=abR w S
 rw[W] at o
 have i8:=I.i8
 have hl:=I.last
 have hs:=I.Bd
 have hr:=I.rad
 have a:=CB (x:=(w.1.2.2.2.1.2.1.length:Int)) (by omega) (by omega)
 have b:=CB (x:=w.1.2.2.2.1.1) (by omega) (by omega)
 have c:=CB (x:=(w.1.2.2.2.2.2.2.1.length:Int)) (by omega) (by omega)
 have d:=CB (x:=(w.2.2.1.length:Int)) (by omega) (by omega)
 have la:=n_ (x:=(w.1.2.2.2.1.2.1.length:Int)) (by omega)
 have lb:=n_ (x:=w.1.2.2.2.1.1) (by omega)
 have lc:=n_ (x:=(w.1.2.2.2.2.2.2.1.length:Int)) (by omega)
 have ld:=n_ (x:=(w.2.2.1.length:Int)) (by omega)
 have f:=W0 I
 have l1:=aj9 w (AK w) i8 f I.its
 have n1:=X8 w (AK w) i8 f I.its
 have l2:=aj7 w (Bl w (AK w)) I.c4 n1 I.cls I.ids
 have n2:=WO w (Bl w (AK w)) I.c4 n1 I.cls
 unfold Kw
 generalize Er w (Bl w (AK w))=Y at *
 generalize Bl w (AK w)=X at *
 unfold AK at l1 f
 cases u:w.1.1 with
 |true=>
  rw[u] at l1 f
  simp only[aG] at l1 f
  generalize mb (w.1.2.2.2.1.2.1.length:Int)=A at *
  generalize mb w.1.2.2.2.1.1=B at *
  generalize mb (w.1.2.2.2.2.2.2.1.length:Int)=C at *
  generalize mb (w.2.2.1.length:Int)=D at *
  simp only[Dh,o,zov o,u,a,b,c,zov a,zov b,zov c,isSm,zU,zl70,aG,eF]
  refine AM ?_ (AM ?_ ?_)
  ·simp only[aF,gQ,cK,kF,nQ,eD]
   repeat' refine And.intro ?_ ?_
   all_goals first|omega|trivial|exact zdt
  ·simp only[gQ,cK,kF,nQ,eD]
   repeat' refine And.intro ?_ ?_
   all_goals first|omega|trivial|exact zdt
  ·simp only[bX,zl20,zl17] at l1 ⊢
   simp only[cb l1,cv l1,cb l2,cv l2,zov d,aG]
   refine AM ?_ ?_
   ·simp only[aF,gQ,cK,eD]
    repeat' refine And.intro ?_ ?_
    all_goals first|omega|trivial|exact zdt|(rw[d])
   ·rfl
 |false=>
  rw[u] at l1 f
  simp only[eF] at l1 f
  generalize mb (w.2.2.1.length:Int)=D at *
  simp only[Dh,o,zov o,u,isSm,zU,zl70,aG,eF,zl20,zl17]
  simp only[cb l1,cv l1,cb l2,cv l2,zov d,aG,bX]
  refine AM ?_ ?_
  ·simp only[aF,gQ,cK,eD]
   repeat' refine And.intro ?_ ?_
   all_goals first|omega|trivial|exact zdt|(rw[d])
  ·rfl
def ad1 (w:Wd)(I:BdI w):q16 w=some (Kw w,()):=by
 have i8:=I.i8
 have hl:=I.last
 have hs:=I.Bd
 have hr:=I.rad
 have a:=CA (x:=(w.1.2.2.2.1.2.1.length:Int)) (by omega) (by omega)
 have b:=CA (x:=w.1.2.2.2.1.1) (by omega) (by omega)
 have c:=CA (x:=(w.1.2.2.2.2.2.2.1.length:Int)) (by omega) (by omega)
 have d:=CA (x:=(w.2.2.1.length:Int)) (by omega) (by omega)
 have la:=n_ (x:=(w.1.2.2.2.1.2.1.length:Int)) (by omega)
 have lb:=n_ (x:=w.1.2.2.2.1.1) (by omega)
 have lc:=n_ (x:=(w.1.2.2.2.2.2.2.1.length:Int)) (by omega)
 have ld:=n_ (x:=(w.2.2.1.length:Int)) (by omega)
 have f:=W0 I
 have l1:=ad5 w (AK w) i8 f I.its
 have n1:=X8 w (AK w) i8 f I.its
 have l2:=ad3 w (Bl w (AK w)) I.c4 n1 I.cls
 have n2:=WO w (Bl w (AK w)) I.c4 n1 I.cls
 unfold Kw
 generalize Er w (Bl w (AK w))=Y at *
 generalize Bl w (AK w)=X at *
 unfold AK at l1 f
 cases u:w.1.1 with
 |true=>
  rw[u] at l1 f
  simp only[aG] at l1 f
  generalize mb (w.1.2.2.2.1.2.1.length:Int)=A at *
  generalize mb w.1.2.2.2.1.1=B at *
  generalize mb (w.1.2.2.2.2.2.2.1.length:Int)=C at *
  generalize mb (w.2.2.1.length:Int)=D at *
  simp only[q16,u,a,b,c,zov a,zov b,zov c,isSm,zU,aG]
  refine AM ?_ ?_
  ·simp only[aF,gQ,cK,kF,nQ,eD]
   repeat' refine And.intro ?_ ?_
   all_goals first|omega|trivial|exact zdt
  ·simp only[bX,zl20,zl17] at l1 ⊢
   simp only[cb l1,cv l1,cb l2,cv l2,zov d,aG]
   refine AM ?_ ?_
   ·simp only[aF,gQ,cK,eD]
    repeat' refine And.intro ?_ ?_
    all_goals first|omega|trivial|exact zdt|(rw[d])
   ·rfl
 |false=>
  rw[u] at l1 f
  simp only[eF] at l1 f
  generalize mb (w.2.2.1.length:Int)=D at *
  simp only[q16,u,isSm,zU,eF]
  simp only[cb l1,cv l1,cb l2,cv l2,zov d,aG,bX]
  refine AM ?_ ?_
  ·simp only[aF,gQ,cK,eD]
   repeat' refine And.intro ?_ ?_
   all_goals first|omega|trivial|exact zdt|(rw[d])
  ·rfl
def acg (w:Wd)(S:Ae w):∃s,Dh w=some (s,())∧q23 w=some (s,()):=by
 have o:=aec w S
 have p:=abR w S
 cases W:BW w with
 |false=>
  rw[W] at o p
  refine⟨[],?_,?_⟩
  ·simp only[Dh,p,zov p,isSm,zU,aG,zl98]
  ·simp only[q23,o,zov o,isSm,zU,aG,zl98]
 |true=>
  rw[W] at o
  have b:=ad1 w (WC S W)
  refine⟨Kw w,aj6 w S W,?_⟩
  simp only[q23,o,zov o,b,zov b,isSm,zU,aG,eF,zl70]
def aey (w:Wd)(h:iK bV w≤1048576):Wh.q5 w=some (true,()):=by
 have S:=smW_of w h
 obtain⟨v,hv⟩:=akP w 1048576 S
 have e1:=ald w S
 have e2:=acP w S
 obtain⟨x,e3,e4⟩:=acg w S
 have c:(x==x)=true:=zl95 _
 simp only[Wh.q5,hv,zov hv,e1,zov e1,e2,zov e2,e3,zov e3,e4,zov e4,c,isSm,zU,zl92,aG,eF,zl70]
 cases decide (v<0)<;>rfl
end Pl
