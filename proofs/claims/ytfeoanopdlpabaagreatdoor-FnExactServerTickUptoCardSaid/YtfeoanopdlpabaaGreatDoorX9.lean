import Derived.Test.YtfeoanopdlpabaaGreatDoorX8
set_option linter.defProp false
namespace Wh
end Wh
open Wh
open Go Go.Ab Go.Lib
namespace Pl
instance itDec:DecidableEq It:=inferInstanceAs (DecidableEq (Int×List UInt8×Int×List UInt8×Unit))
instance ctDec:DecidableEq Ct:=fun a b=>if h1:a.1=b.1 then if h2:a.2.1=b.2.1 then .isTrue (by obtain⟨_,_,_⟩:=a;obtain⟨_,_,_⟩:=b;simp_all) else .isFalse (fun e=>h2 (by rw[e])) else .isFalse (fun e=>h1 (by rw[e]))
def P5 (a b:It):(a.1==b.1&&(a.2.1==b.2.1&&(a.2.2.1==b.2.2.1&&(a.2.2.2.1==b.2.2.2.1&&true))))=decide (a=b):=by
 obtain⟨a1,a2,a3,a4,a5⟩:=a
 obtain⟨b1,b2,b3,b4,b5⟩:=b
 rw[zl105]
 simp
def ZL (a b:List It)(h:a.length=b.length):xb a.length (fun i=>decide (a.getD i z0=b.getD i z0))=decide (a=b):=by
 rw[zl105,BA,zl106]
 constructor
 ·intro hh
  refine List.ext_getElem h fun i h1 h2=>?_
  have:=zl79 (hh i h1)
  rwa[getD_eq _ _ _ h1,getD_eq _ _ _ h2] at this
 ·rintro rfl i _;exact zl86 rfl
def ct_eq (a b:Ct)(hl:a.2.1.length=b.2.1.length):(decide (a.1=b.1)&&decide (a.2.1=b.2.1))=decide (a=b):=by
 obtain⟨a1,a2,a3⟩:=a
 obtain⟨b1,b2,b3⟩:=b
 rw[zl105]
 simp
def aka (a b:Ct)(hl:a.2.1.length≤9999999):G4 (a,b)=some (decide (a=b),()):=by
 by_cases h1:a.1=b.1
 ·by_cases h2:a.2.1.length=b.2.1.length
  ·have c1:(a.1 != b.1)=false:=by simp[h1]
   have c2:((a.2.1.length:Int) != (b.2.1.length:Int))=false:=by simp[h2]
   have q:=CA (r:=Ir) (fun i=>(((i:Int),(),()),b,a)) (n:=a.2.1.length) (p:=fun i=>decide (a.2.1.getD i z0=b.2.1.getD i z0)) (yf:=.inl (false,())) (yt:=.inr ((),())) (fun i hi _ hp=>by
     have hp':=(P5 (a.2.1.getD i z0) (b.2.1.getD i z0)).trans hp
     unfold z0 at hp'
     simp only[Ir,gl hi,gl (show i<b.2.1.length by omega),g0,zl94,hp',zU,zl92,zl70,aG,eF,mb (i:=i)]) (fun i hi _ hp=>by
     have hp':=(P5 (a.2.1.getD i z0) (b.2.1.getD i z0)).trans hp
     unfold z0 at hp'
     simp only[Ir,gl hi,gl (show i<b.2.1.length by omega),g0,zl94,hp',zU,zl92,zl98,aG]) (by
     have d1:decide ((a.2.1.length:Int)<(a.2.1.length:Int))=false:=zdf
     simp only[Ir,d1,eF])
   rw[ZL _ _ h2] at q
   have q':Comes Ir ((0,(),()),b,a) _:=q
   simp only[G4,c1,c2,eF,cb q',cv q',aG]
   rw[←ct_eq a b h2,zl86 h1,zl108]
   cases decide (a.2.1=b.2.1)<;>rfl
  ·have c1:(a.1 != b.1)=false:=by simp[h1]
   have c2:((a.2.1.length:Int) != (b.2.1.length:Int))=true:=bne_iff_ne.2 (by omega)
   simp only[G4,c1,c2,eF,aG]
   rw[zl90 (by rintro rfl;exact h2 rfl)]
 ·have c1:(a.1 != b.1)=true:=bne_iff_ne.2 h1
  simp only[G4,c1,aG]
  rw[zl90 (by rintro rfl;exact h1 rfl)]
def afR (a b:Ct)(hl:a.2.1.length≤9999999):Kd (a,b)=some (decide (a=b),()):=by
 have he:q13 (a.2.1,b.2.1)=some (decide (a.2.1=b.2.1),()):=by
  by_cases h2:a.2.1.length=b.2.1.length
  ·have c2:((a.2.1.length:Int) != (b.2.1.length:Int))=false:=by simp[h2]
   have q:=CA (r:=Iw) (fun i=>(((i:Int),b.2.1,a.2.1,(a.2.1.length:Int)),())) (n:=a.2.1.length) (p:=fun i=>decide (a.2.1.getD i z0=b.2.1.getD i z0)) (yf:=.inl (false,())) (yt:=.inr ((),())) (fun i hi _ hp=>by
     have hp':=(P5 (a.2.1.getD i z0) (b.2.1.getD i z0)).trans hp
     unfold z0 at hp'
     simp only[Iw,gl hi,gl (show i<b.2.1.length by omega),g0,zl94,hp',zU,zl92,zl70,aG,eF,mb (i:=i)]) (fun i hi _ hp=>by
     have hp':=(P5 (a.2.1.getD i z0) (b.2.1.getD i z0)).trans hp
     unfold z0 at hp'
     simp only[Iw,gl hi,gl (show i<b.2.1.length by omega),g0,zl94,hp',zU,zl92,zl98,aG]) (by
     have d1:decide ((a.2.1.length:Int)<(a.2.1.length:Int))=false:=zdf
     simp only[Iw,d1,eF])
   rw[ZL _ _ h2] at q
   have q':Comes Iw ((0,b.2.1,a.2.1,(a.2.1.length:Int)),()) _:=q
   simp only[q13,c2,eF,cb q',cv q',aG]
   cases decide (a.2.1=b.2.1)<;>rfl
  ·have c2:((a.2.1.length:Int) != (b.2.1.length:Int))=true:=bne_iff_ne.2 (by omega)
   simp only[q13,c2,aG]
   rw[zl90 (fun e=>h2 (by rw[e]))]
 have hd:(bif a.1==b.1 then decide (a.2.1=b.2.1) else false)=decide (a=b):=by
  obtain⟨a1,a2,a3⟩:=a
  obtain⟨b1,b2,b3⟩:=b
  by_cases h1:a1=b1
  ·simp[h1]
  ·simp[h1]
 simp only[Kd,he,zov he,isSm,zl99,zU,aG,hd]
def BB (l:List It)(e:Int):Option Nat:=first l.length fun i=>(l.getD i z0).2.2.1==e
def FV (l:List It):Option Nat→It
 |some i=>l.getD i z0
 |none=>z0
def Q3 (c:Ct)(e:Int)(hl:c.2.1.length≤9999999):FC (c,e)=some ((FV c.2.1 (BB c.2.1 e),(BB c.2.1 e).isSome),()):=by
 obtain⟨ce,l,u⟩:=c
 have hl:l.length≤9999999:=hl
 have q:=D3 (r:=IZ) (fun i=>(((),(i:Int),(),e),((0:Int),([]:List UInt8),(0:Int),([]:List UInt8),()),(ce,l,u))) (n:=l.length) (p:=fun i=>(l.getD i z0).2.2.1==e) (yt:=fun i=>.inl (((),true),l.getD i z0)) (yn:=.inr ((),(0:Int),[],(0:Int),[],())) (fun i hi hp=>by
   have hp':((l.getD i z0).2.2.1==e)=false:=hp
   unfold z0 at hp'
   simp only[IZ,gl hi,g0,zl94,hp',zU,zl92,aG,eF,mb (i:=i)]) (fun i hi hp=>by
   have hp':((l.getD i z0).2.2.1==e)=true:=hp
   unfold z0 at hp' ⊢
   simp only[IZ,gl hi,g0,zl94,hp',zU,zl92,aG]) (by
   have d1:decide ((l.length:Int)<(l.length:Int))=false:=zdf
   simp only[IZ,d1,eF])
 have q':Comes IZ (((),0,(),e),((0:Int),([]:List UInt8),(0:Int),([]:List UInt8),()),(ce,l,u)) _:=q
 simp only[FC,cb q',cv q',aG,BB]
 cases first l.length (fun i=>(l.getD i z0).2.2.1==e)<;>rfl
def NS (c:Ct)(e:Int)(hl:c.2.1.length≤9999999):Gm (c,e)=some (zH (BB c.2.1 e),()):=by
 obtain⟨ce,l,u⟩:=c
 have hl:l.length≤9999999:=hl
 have f (x:It):MY (x,e)=some ((x.2.2.1==e),()):=rfl
 have q:=D3 (r:=IS) (fun i=>(((i:Int),l,(e,()),(l.length:Int)),())) (n:=l.length) (p:=fun i=>(l.getD i z0).2.2.1==e) (yt:=fun i=>.inl ((i:Int),())) (yn:=.inr ((),())) (fun i hi hp=>by
   have hp':((l.getD i z0).2.2.1==e)=false:=hp
   unfold z0 at hp'
   simp only[IS,gl hi,g0,zl94,f,zov (f _),hp',isSm,zU,zl92,aG,eF,mb (i:=i)]) (fun i hi hp=>by
   have hp':((l.getD i z0).2.2.1==e)=true:=hp
   unfold z0 at hp'
   simp only[IS,gl hi,g0,zl94,f,zov (f _),hp',isSm,zU,zl92,aG]) (by
   have d1:decide ((l.length:Int)<(l.length:Int))=false:=zdf
   simp only[IS,d1,eF])
 have q':Comes IS ((0,l,(e,()),(l.length:Int)),()) _:=q
 have h:Wh.q2 (l,e,())=some (zH (BB l e),()):=by
  simp only[Wh.q2,cb q',cv q',aG,BB]
  cases first l.length (fun i=>(l.getD i z0).2.2.1==e)<;>rfl
 simp only[Gm,h,zov h,isSm,zU,aG]
def PB:BH=C3:=rfl
def C_ (a b:Int):Int:=IntKind.wrap .i64 (Int.tdiv (IntKind.wrap .i64 (IntKind.wrap .i64 (a+b)-1)) b)
def count_eq (a b:Int)(x y:List Int)(u:Unit)(h:b≠0):C3 (a,b,x,y,u)=some (C_ a b,()):=by
 have c:(b != 0)=true:=bne_iff_ne.2 h
 simp only[C3,c,zU,aG];rfl
def NC (a b:Nat)(ha:a≤100000)(hb:1≤b)(cH:b≤1000):C_ a b=(((a+b-1) / b:Nat):Int):=by
 have w1:IntKind.wrap .i64 ((a:Int)+(b:Int))=((a+b:Nat):Int):=wi (by omega) (by omega)
 have w2:IntKind.wrap .i64 (((a+b:Nat):Int)-1)=((a+b-1:Nat):Int):=wi (by omega) (by omega)
 have w3:Int.tdiv ((a+b-1:Nat):Int) (b:Int)=(((a+b-1) / b:Nat):Int):=by rw[zl91 (by omega)];rfl
 have hle:(a+b-1) / b≤a+b-1:=Nat.div_le_self _ _
 rw[C_,w1,w2,w3];exact wi rfl (by omega)
def afo (L:Nat)(hL:L≤300):∀d s:Nat,s+d=13→1≤s→∃s':Nat,1≤s'∧s'≤13∧Comes Em (((),()),((L:Int),(s:Int),(),(),()),((0:Int),(0:Int),(),(),()),[],[],[],[]) (((),()),((0:Int),(0:Int),(),(),()),((L:Int),(s':Int),(),(),()),[],[],[],[]):=by
 intro d
 induction d with
 |zero=>
  intro s h1 h2
  have:s=13:=by omega
  subst this
  refine⟨13,by omega,by omega,.out ?_⟩
  have a:=count_eq (L:Int) ((13:Nat):Int) [] [] () (by omega)
  rw[NC L 13 (by omega) (by omega) (by omega)] at a
  have c1:decide ((((L+13-1) / 13:Nat):Int)>24)=false:=zdf
  simp only[Em,a,zov a,c1,isSm,zU,aG,eF]
 |succ d ih=>
  intro s h1 h2
  have a:=count_eq (L:Int) (s:Int) [] [] () (by omega)
  cases hc:decide (C_ (L:Int) (s:Int)>24) with
  |true=>
   obtain⟨s',g1,g2,g3⟩:=ih (s+1) (by omega) (by omega)
   refine⟨s',g1,g2,.again ?_ g3⟩
   simp only[Em,a,zov a,hc,isSm,zU,aG,mb (i:=s)]
  |false=>
   refine⟨s,by omega,by omega,.out ?_⟩
   simp only[Em,a,zov a,hc,isSm,zU,aG,eF]
def TD (L:Nat)(h1:1≤L)(hL:L≤300):∃P:gv.D,P.2.1≠0∧Cb (L:Int)=some (P,())∧C6 (L:Int)=some (P,()):=by
 obtain⟨s,g1,g2,g3⟩:=afo L hL 5 8 (by omega) (by omega)
 have g3':Comes Em (((),()),((L:Int),(8:Int),(),(),()),((0:Int),(0:Int),(),(),()),[],[],[],[]) _:=g3
 have g4:Comes OM (((),()),((L:Int),(8:Int),(),(),()),((0:Int),(0:Int),(),(),()),[],[],[],[]) _:=g3
 have a:=count_eq (L:Int) (s:Int) [] [] () (by omega)
 have wi1:mw (L:Int) 1 300=true:=zdt
 cases hk:decide (IntKind.wrap .i64 (Int.tdiv (IntKind.wrap .i64 (C_ (L:Int) (s:Int)+3)) 4)<C_ (L:Int) (s:Int)) with
 |true=>
  refine⟨((L:Int),(s:Int),[IntKind.wrap .i64 (Int.tdiv (IntKind.wrap .i64 (C_ (L:Int) (s:Int)+3)) 4),C_ (L:Int) (s:Int)],[(2:Int),(3:Int)],()),by simp only;omega,?_,?_⟩
  ·simp only[Cb,cb g3',cv g3',aG,a,zov a,hk,isSm,zU]
  ·simp only[C6,AD,zov (AD _ _ _),wi1,cb g4,cv g4,aG,eF,zl70,PB,a,zov a,hk,isSm,zU]
 |false=>
  refine⟨((L:Int),(s:Int),[C_ (L:Int) (s:Int)],[(1:Int)],()),by simp only;omega,?_,?_⟩
  ·simp only[Cb,cb g3',cv g3',aG,a,zov a,hk,isSm,zU,eF]
  ·simp only[C6,AD,zov (AD _ _ _),wi1,cb g4,cv g4,aG,eF,zl70,PB,a,zov a,hk,isSm,zU]
noncomputable def OI (L:Int):Int:=C_ (zog Cb L).1.1 (zog Cb L).1.2.1
noncomputable def Fi (c:Ct) (f:Fr):Bool:=bif decide (f.2.2.2.1>0) then true else bif decide (f.2.1>0) then(match BB c.2.1 f.2.1 with
 |none=>true
 |some k=>bif(c.2.1.getD k z0).1 != f.1 then true else decide (f.2.2.1≥OI ((c.2.1.getD k z0).2.2.2.1.length:Int))) else false
def LO {l:List It}{e:Int}{i:Nat}(h:BB l e=some i):i<l.length:=(Bp.1 h).1
def adh (s:eA.D)(I:AE s.2.2.2.1)(i:Nat)(hi:i<s.2.2.2.2.1.1.length)(hl:s.2.2.2.2.1.1.length≤9999999) :
  E5 (((i:Int),()),s)=if Fi s.2.2.2.1 (s.2.2.2.2.1.1.getD i zF)=true then some (.inr (.inl (false,()))) else some (.inl ((((i+1:Nat):Int),()),s)):=by
 have bO:s.2.2.2.1.2.1.length≤8:=I.len
 have ed:=Q3 s.2.2.2.1 (s.2.2.2.2.1.1.getD i zF).2.1 (by omega)
 have w:=mb (i:=i)
 unfold Fi
 cases hw:decide ((s.2.2.2.2.1.1.getD i zF).2.2.2.1>0) with
 |true=>
  unfold zF at ed hw ⊢
  simp only[E5,gl hi,g0,zl94,ed,zov ed,hw,isSm,zl70,kG,zl98,zl76,zl99,zU,zl92,aG,cj]
 |false=>
  cases he:decide ((s.2.2.2.2.1.1.getD i zF).2.1>0) with
  |false=>
   unfold zF at ed hw he ⊢
   simp only[E5,gl hi,g0,zl94,ed,zov ed,hw,he,isSm,zl70,kG,zl93,zl98,zl76,zl99,zU,zl92,aG,eF,w]
   rfl
  |true=>
   cases hk:BB s.2.2.2.1.2.1 (s.2.2.2.2.1.1.getD i zF).2.1 with
   |none=>
    rw[hk] at ed
    unfold zF at ed hw he ⊢
    simp only[E5,gl hi,g0,zl94,ed,zov ed,hw,he,FV,Option.isSome,isSm,zl70,zl98,zl76,zl99,Bool.and_true,zU,zl92,aG,eF,cj]
   |some k=>
    rw[hk] at ed
    have jO:=LO hk
    have hp:=QG (I.ok (s.2.2.2.1.2.1.getD k z0) (by rw[getD_eq _ _ _ jO];exact zl96 jO))
    obtain⟨P,hP,f1,_⟩:=TD _ hp.2.2.1 hp.2.2.2
    have f3 (x y:List Int) (u:Unit):=count_eq P.1 P.2.1 x y u hP
    have f4 (x y:List Int) (u:Unit):=zov (f3 x y u)
    cases hh:((s.2.2.2.1.2.1.getD k z0).1 != (s.2.2.2.2.1.1.getD i zF).1) with
    |true=>
     unfold zF at ed hw he hh ⊢
     simp only[E5,gl hi,g0,zl94,ed,zov ed,hw,he,hh,FV,Option.isSome,isSm,zl70,zl98,zl76,zl99,Bool.and_true,zU,zl92,aG,eF,cj]
    |false=>
     have hc:OI ((s.2.2.2.1.2.1.getD k z0).2.2.2.1.length:Int)=C_ P.1 P.2.1:=by rw[OI,zov f1]
     unfold zF at ed hw he hh ⊢
     simp only[hc,E5,gl hi,g0,zl94,ed,zov ed,hw,he,hh,f1,zov f1,f3,f4,FV,Option.isSome,isSm,zl70,zl98,zl99,zU,zl92,aG,eF,w]
     cases decide ((s.2.2.2.2.1.1.getD i ((0:Int),(0:Int),(0:Int),(0:Int),false,())).2.2.1≥C_ P.1 P.2.1)<;>rfl
def Zc (c:Ct)(I:AE c)(l:List Fr)(i:Nat)(hi:i<l.length)(hl:l.length≤9999999)(hok:okF (l.getD i zF)=true) :
  E4 (((i:Int),(),l,(l.length:Int)),c)=if Fi c (l.getD i zF)=true then some (.inr (.inl (false,()))) else some (.inl ((((i+1:Nat):Int),(),l,(l.length:Int)),c)):=by
 have bO:c.2.1.length≤8:=I.len
 have ed:=NS c (l.getD i zF).2.1 (by omega)
 have w:=mb (i:=i)
 unfold Fi
 cases hz:((l.getD i zF).2.1==0) with
 |true=>
  have h0:(l.getD i zF).2.1=0:=eq_of_beq hz
  have hw:decide ((l.getD i zF).2.2.2.1>0)=false:=by
   unfold okF at hok
   rw[hz,aG] at hok
   simp only[aF,zl78] at hok
   exact zdf
  have he:decide ((l.getD i zF).2.1>0)=false:=zdf
  rw[hw,he]
  unfold zF at hz ⊢
  simp only[E4,gl hi,g0,zl94,hz,zU,zl92,aG,eF,w]
  rfl
 |false=>
  have he:decide ((l.getD i zF).2.1>0)=true:=by
   unfold okF at hok
   rw[hz,eF] at hok
   simp only[aF,mw,zl106] at hok
   exact zdt
  rw[he]
  cases hw:decide ((l.getD i zF).2.2.2.1>0) with
  |true=>
   unfold zF at ed hz hw ⊢
   simp only[E4,gl hi,g0,zl94,hz,ed,hw,isSm,zl70,zl98,zl76,zU,zl92,aG,eF,cj]
  |false=>
   cases hk:BB c.2.1 (l.getD i zF).2.1 with
   |none=>
    rw[hk] at ed
    unfold zF at ed hz hw ⊢
    simp only[E4,gl hi,g0,zl94,hz,ed,zov ed,hw,RD,isSm,zl70,zl98,zl76,zU,zl92,aG,eF,cj]
   |some k=>
    rw[hk] at ed
    have jO:=LO hk
    have hp:=QG (I.ok (c.2.1.getD k z0) (by rw[getD_eq _ _ _ jO];exact zl96 jO))
    obtain⟨P,hP,f0,f1⟩:=TD _ hp.2.2.1 hp.2.2.2
    have f3 (x y:List Int) (u:Unit):BH (P.1,P.2.1,x,y,u)=_:=count_eq P.1 P.2.1 x y u hP
    have f4 (x y:List Int) (u:Unit):=zov (f3 x y u)
    have ed':Gm (c,(l.getD i zF).2.1)=some ((k:Int),()):=ed
    have e1:decide ((k:Int)<0)=false:=zdf
    cases hh:((c.2.1.getD k z0).1 != (l.getD i zF).1) with
    |true=>
     unfold zF at ed' hz hw hh ⊢
     unfold z0 at hh ⊢
     simp only[E4,gl hi,gl jO,g0,zl94,hz,ed',zov ed',hw,hh,e1,isSm,zl70,zl98,zl76,zl99,zU,zl92,aG,eF,cj]
    |false=>
     have hc:OI ((c.2.1.getD k z0).2.2.2.1.length:Int)=C_ P.1 P.2.1:=by rw[OI,zov f0]
     unfold zF at ed' hz hw hh ⊢
     have hh2:=hh
     unfold z0 at hh2 f1
     simp only[hc,hh2,E4,gl hi,gl jO,g0,zl94,hz,ed',zov ed',hw,hh,e1,f1,zov f1,f3,f4,isSm,zl70,zl98,zl99,zU,zl92,aG,eF,w]
     cases decide ((l.getD i ((0:Int),(0:Int),(0:Int),(0:Int),false,())).2.2.1≥C_ P.1 P.2.1)<;>rfl
abbrev Bu:Type:=Int×Int×Int×Int×Unit
def Cy (b:Bu):Bool:=mw b.2.1 0 99999&&mw b.1 0 b.2.1&&mw b.2.2.1 0 99999&&mw b.2.2.2.1 0 99999
def ade (b:Bu):q84 b=some (Cy b,()):=by
 unfold Cy
 simp only[q84,De,zov (De _ _ _),isSm,zl99,zU,zl92,aG]
 cases mw b.2.1 0 99999<;>cases mw b.1 0 b.2.1<;>cases mw b.2.2.1 0 99999<;>cases mw b.2.2.2.1 0 99999<;>rfl
def Sd (b:Bu):Hr b=some (Cy b,()):=by
 unfold Cy
 simp only[Hr,AD,zov (AD _ _ _),isSm,zl99,zU,zl92,aG]
 cases mw b.2.1 0 99999<;>cases mw b.1 0 b.2.1<;>cases mw b.2.2.1 0 99999<;>cases mw b.2.2.2.1 0 99999<;>rfl
def zB:Bu:=((0:Int),(0:Int),(0:Int),(0:Int),())
def Fh (now:Int)(b:Bu):Bool:=bif bif bif !Cy b then true else b.2.1 != 40 then true else b.2.2.1 != 8 then true else decide (b.2.2.2.1>now)
def adb (s:eA.D)(i:Nat)(hi:i<s.2.2.2.2.2.1.length)(hl:s.2.2.2.2.2.1.length≤9999999) :
  I4 (((i:Int),()),s)=if Fh s.2.1 (s.2.2.2.2.2.1.getD i zB)=true then some (.inr (.inl (false,()))) else some (.inl ((((i+1:Nat):Int),()),s)):=by
 have w:=mb (i:=i)
 unfold Fh zB
 simp only[I4,gl hi,g0,zl94,ade,zov (ade _),isSm,zU,zl92,aG,w]
 generalize (bif bif bif !Cy _ then true else _ then true else _ then true else _)=b
 cases b<;>rfl
def Y_ (s:eA.D)(l:List Bu)(i:Nat)(hi:i<l.length)(hl:l.length≤9999999) :
  I1 (((i:Int),(),l,(l.length:Int)),s)=if Fh s.2.1 (l.getD i zB)=true then some (.inr (.inl (false,()))) else some (.inl ((((i+1:Nat):Int),(),l,(l.length:Int)),s)):=by
 have w:=mb (i:=i)
 unfold Fh zB
 simp only[I1,gl hi,g0,zl94,Sd,zov (Sd _),isSm,zU,zl92,aG,w]
 generalize (bif bif bif !Cy _ then true else _ then true else _ then true else _)=b
 cases b<;>rfl
abbrev Sv:Type:=Int×Int×Int×Int×Int×Int×Unit
def zS:Sv:=((0:Int),(0:Int),(0:Int),(0:Int),(0:Int),(0:Int),())
def Mj (l:List Sv)(i:Nat)(c:Int):Bool:=match i with
 |0=>false
 |m+1=>decide ((l.getD m zS).1≥c)
def JG (c:Ct)(s:Sv):Bool:=bif(BB c.2.1 s.2.2.1).isSome then(FV c.2.1 (BB c.2.1 s.2.2.1)).1 != Int.tmod s.1 2 else false
def Dv (c:Ct)(now:Int)(l:List Sv)(i:Nat):Bool:=
 ((((((!mw (l.getD i zS).1 0 3 || Mj l i (l.getD i zS).1) || !mw (l.getD i zS).2.1 1 99999) || !mw (l.getD i zS).2.2.1 1 c.1) || !mw (l.getD i zS).2.2.2.1 0 9999) || !mw (l.getD i zS).2.2.2.2.1 0 3) || !mw (l.getD i zS).2.2.2.2.2.1 0 now) || JG c (l.getD i zS)
def Pk (a b:Bool):(bif a then true else b)=(a || b):=by cases a<;>rfl
def adn (s:eA.D)(hc:s.2.2.2.1.2.1.length≤9999999)(i:Nat)(hi:i<s.2.2.2.2.2.2.1.length)(hl:s.2.2.2.2.2.2.1.length≤9999999) :
  Hp (((i:Int),()),s)=if Dv s.2.2.2.1 s.2.1 s.2.2.2.2.2.2.1 i=true then some (.inr (.inl (false,()))) else some (.inl ((((i+1:Nat):Int),()),s)):=by
 have w:=mb (i:=i)
 have ed:=Q3 s.2.2.2.1 (s.2.2.2.2.2.2.1.getD i zS).2.2.1 hc
 have hh (x:Int):Cr x=some (Int.tmod x 2,()):=rfl
 have fin (A B:Bool) (X Y:Option ((((Int)×(Unit))×((eA.D)))⊕((((Bool))×(Unit))⊕((Unit)×(Unit))))):(bif A then X else bif B then X else Y)=if(A || B)=true then X else Y:=by cases A<;>cases B<;>rfl
 rcases zl83 i with h0|h0
 ·subst h0
  have d1:decide (((0:Nat):Int)>0)=false:=rfl
  unfold Dv JG Mj
  unfold zS at ed ⊢
  simp only[Hp,gl hi,g0,zl94,De,zov (De _ _ _),ed,zov ed,hh,zov (hh _),d1,Pk,isSm,zl99,zl93,zl98,zl76,Bool.or_false,zU,zl92,aG,eF,w]
  exact fin _ _ _ _
 ·obtain⟨m,rfl⟩:∃m,i=m+1:=⟨i-1,by omega⟩
  have d1:decide (((m+1:Nat):Int)>0)=true:=zdt
  have w1:IntKind.wrap .i64 (((m+1:Nat):Int)-1)=(m:Int):=wi (by omega) (by omega)
  unfold Dv JG Mj
  unfold zS at ed ⊢
  simp only[Hp,gl hi,gl (show m<s.2.2.2.2.2.2.1.length by omega),g0,zl94,w1,De,zov (De _ _ _),ed,zov ed,hh,zov (hh _),d1,Pk,isSm,zl99,zU,zl92,aG,w]
  exact fin _ _ _ _
def Pu (n:Int):q66 n=some (mw n 0 3,()):=by simp only[q66,AD,zov (AD _ _ _),isSm,zU,aG]
def Zk (s:eA.D)(hc:s.2.2.2.1.2.1.length≤9999999)(i:Nat)(hi:i<s.2.2.2.2.2.2.1.length)(hl:s.2.2.2.2.2.2.1.length≤9999999) :
  Hs (((i:Int),(),s.2.2.2.2.2.2.1,(s.2.2.2.2.2.2.1.length:Int)),s)=if Dv s.2.2.2.1 s.2.1 s.2.2.2.2.2.2.1 i=true then some (.inr (.inl (false,()))) else some (.inl ((((i+1:Nat):Int),(),s.2.2.2.2.2.2.1,(s.2.2.2.2.2.2.1.length:Int)),s)):=by
 have w:=mb (i:=i)
 have ed:=NS s.2.2.2.1 (s.2.2.2.2.2.2.1.getD i zS).2.2.1 hc
 have hh (x:Int):Im x=some (Int.tmod x 2,()):=rfl
 have he:∃v,zH (BB s.2.2.2.1.2.1 (s.2.2.2.2.2.2.1.getD i zS).2.2.1)=v∧decide (v≥0)=(BB s.2.2.2.1.2.1 (s.2.2.2.2.2.2.1.getD i zS).2.2.1).isSome∧(!decide (v≥0) || decide (0≤v))=true∧(!decide (v≥0) || decide (v<(s.2.2.2.1.2.1.length:Int)))=true ∧
   (bif decide (v≥0) then(s.2.2.2.1.2.1.getD (Int.toNat v) z0).1 != Int.tmod (s.2.2.2.2.2.2.1.getD i zS).1 2 else false)=JG s.2.2.2.1 (s.2.2.2.2.2.2.1.getD i zS):=by
  unfold JG
  cases e:BB s.2.2.2.1.2.1 (s.2.2.2.2.2.2.1.getD i zS).2.2.1 with
  |none=>exact⟨-1,rfl,rfl,rfl,rfl,rfl⟩
  |some k=>
   have:=LO e
   have d:decide ((k:Int)≥0)=true:=zdt
   refine⟨(k:Int),rfl,d,by rw[g0,zl99],by rw[gl this,zl99],?_⟩
   rw[d];rfl
 obtain⟨v,hv,_,Fk,hv3,hv4⟩:=he
 rw[hv] at ed
 have fin (A B C D:Bool) (X Y:Option ((((Int)×(Unit)×(List (bx.D))×(Int))×((eA.D)))⊕((((Bool))×(Unit))⊕((Unit)×(Unit))))) (h:(A || (B || C))=D):(bif A then X else bif B then X else bif C then X else Y)=if D=true then X else Y:=by subst h;cases A<;>cases B<;>cases C<;>rfl
 have bool8 (a b c d e f g h:Bool):((((b || !a) || !c) || !d) || (h || ((!e || !f) || !g)))=(((((((!a || b) || !c) || !d) || !e) || !f) || !g) || h):=by
  cases a<;>cases b<;>cases c<;>cases d<;>cases e<;>cases f<;>cases g<;>cases h<;>rfl
 have bool7 (a c d e f g h:Bool):(((!a || !c) || !d) || (h || ((!e || !f) || !g)))=((((((!a || !c) || !d) || !e) || !f) || !g) || h):=by
  cases a<;>cases c<;>cases d<;>cases e<;>cases f<;>cases g<;>cases h<;>rfl
 rcases zl83 i with h0|h0
 ·subst h0
  have d1:decide (((0:Nat):Int)>0)=false:=rfl
  unfold Dv Mj
  unfold z0 at hv4
  unfold zS at ed hv4 ⊢
  simp only[Hs,gl hi,g0,zl94,Pu,zov (Pu _),AD,zov (AD _ _ _),ed,zov ed,hh,zov (hh _),Fk,hv3,hv4,d1,isSm,zl99,zl98,zl76,Bool.or_false,zU,zl92,aG,eF,w]
  refine fin _ _ _ _ _ _ ?_
  simp only[Pk]
  exact bool7 _ _ _ _ _ _ _
 ·obtain⟨m,rfl⟩:∃m,i=m+1:=⟨i-1,by omega⟩
  have d1:decide (((m+1:Nat):Int)>0)=true:=zdt
  have w1:IntKind.wrap .i64 (((m+1:Nat):Int)-1)=(m:Int):=wi (by omega) (by omega)
  unfold Dv Mj
  unfold z0 at hv4
  unfold zS at ed hv4 ⊢
  simp only[Hs,gl hi,gl (show m<s.2.2.2.2.2.2.1.length by omega),g0,zl94,w1,Pu,zov (Pu _),AD,zov (AD _ _ _),ed,zov ed,hh,zov (hh _),Fk,hv3,hv4,d1,isSm,zl99,zU,zl92,aG,w]
  refine fin _ _ _ _ _ _ ?_
  simp only[Pk]
  exact bool8 _ _ _ _ _ _ _ _
noncomputable def A2 (s:eA.D):List (List UInt8)×Nat:=Fu hash s.2.2.1
noncomputable def PE (s:eA.D):Bool:=(s.2.2.2.1.2.1.length==0&&s.2.2.2.1.1==0&&s.2.2.2.2.1.1.length==0&&s.2.2.2.2.1.2.1==0&&s.2.2.2.2.2.1.length==0&&s.2.2.2.2.2.2.1.length==0)
noncomputable def NM (s:eA.D):Bool:=xb s.2.2.2.2.1.1.length (fun i=> !Fi s.2.2.2.1 (s.2.2.2.2.1.1.getD i zF))
noncomputable def RF (s:eA.D):Bool:=xb s.2.2.2.2.2.1.length (fun i=> !Fh s.2.1 (s.2.2.2.2.2.1.getD i zB))
noncomputable def OY (s:eA.D):Bool:=xb s.2.2.2.2.2.2.1.length (fun i=> !Dv s.2.2.2.1 s.2.1 s.2.2.2.2.2.2.1 i)
noncomputable def upV (s:eA.D):Bool:=(A2 s).2==s.2.2.1.length&&(decide ((Cz (A2 s).1).1=s.2.2.2.1)&&(DL s.2.2.2.2.1&&(s.2.2.2.2.2.1.length==2&&(OY s&&(NM s&&RF s)))))
noncomputable def okV (s:eA.D):Bool:=mw s.2.1 0 99999&&(decide (s.2.2.1.length≤9000)&&((Cz (A2 s).1).2&&(bif s.1 then upV s else PE s)))
def RJ {l:List (List UInt8)}(h:(Cz l).2=true):AE (Cz l).1:=by
 unfold Cz at h ⊢
 cases e:DA (0,[],()) l with
 |none=>rw[e] at h;cases h
 |some c=>exact Yd l _ c Pt e
def ajQ (s:eA.D)(hc:s.2.2.2.1.2.1.length≤9999999)(hl:s.2.2.2.2.2.2.1.length≤9999999):q54 s=some (OY s,()):=by
 have q:=CA (r:=Hp) (fun i=>(((i:Int),()),s)) (n:=s.2.2.2.2.2.2.1.length) (p:=fun i=> !Dv s.2.2.2.1 s.2.1 s.2.2.2.2.2.2.1 i) (yf:=.inl (false,())) (yt:=.inr ((),())) (fun i hi _ hp=>by
   rw[adn s hc i hi hl,bY (by simpa using hp)]) (fun i hi _ hp=>by
   rw[adn s hc i hi hl,bf (by simpa using hp)]) (by
   have d1:decide ((s.2.2.2.2.2.2.1.length:Int)<(s.2.2.2.2.2.2.1.length:Int))=false:=zdf
   simp only[Hp,d1,eF])
 have q':Comes Hp ((0,()),s) _:=q
 simp only[q54,cb q',cv q',aG]
 unfold OY
 cases xb s.2.2.2.2.2.2.1.length (fun i=> !Dv s.2.2.2.1 s.2.1 s.2.2.2.2.2.2.1 i)<;>rfl
def acZ (s:eA.D)(h:s.2.2.1.length≤9999999):(A2 s).1.length≤9999999∧∀r∈(A2 s).1,r.length≤9999999:=by
 obtain⟨h1,h2,h3⟩:=ZN hash EJ (s.2.2.1.length+1) s.2.2.1 0
 refine⟨?_,fun r hr=>?_⟩
 ·change (AR hash (s.2.2.1.length+1) s.2.2.1 0).1.length≤9999999;omega
 ·have:=h3 r hr;omega
def adk (s:eA.D)(S:Cj s):q85 s=some (okV s,()):=by
 have D7:=S.log
 have hbk:=S.BN
 have hsv:=S.Aj
 have hfr:s.2.2.2.2.1.1.length≤1048576:=S.DK
 have hct:s.2.2.2.1.2.1.length≤1048576:=S.cat
 have a:=af8 s.2.2.1 (by omega)
 obtain⟨r1,r2⟩:=acZ s (by omega)
 have b:=ajX (A2 s).1 r1 r2
 unfold okV
 change IB s.2.2.1=some (((A2 s).1,((A2 s).2:Int)),()) at a
 have hle:decide ((s.2.2.1.length:Int)>9000) = !decide (s.2.2.1.length≤9000):=by
  by_cases h:s.2.2.1.length≤9000
  ·rw[zl86 h,zdf];rfl
  ·rw[zl90 h,zdt];rfl
 have Ih (x y:Nat):((x:Int)==(y:Int))=(x==y):=by rw[zl105,zl78,zl78];omega
 have Tm (x:Nat):((x:Int)==0)=(x==0):=Ih x 0
 have Tn (x:Nat):((x:Int) != 2) = !(x==2):=by rw[←Ih x 2];rfl
 simp only[q85,De,zov (De _ _ _),hle,isSm,zU,aG]
 cases mw s.2.1 0 99999 with
 |false=>rfl
 |true=>
 cases decide (s.2.2.1.length≤9000) with
 |false=>rfl
 |true=>
 simp only[zl70,eF,zl108]
 cases dR:s.1 with
 |false=>
  have sy:Kj s=some ((Cz (A2 s).1).2,()):=by
   simp only[Kj,a,zov a,b,zov b,isSm,zU,aG]
  simp only[zl98,aG,eF,sy,zov sy,zl99,Tm,PE]
  congr 2
  cases (Cz (A2 s).1).2<;>cases (s.2.2.2.1.2.1.length==0)<;>cases (s.2.2.2.1.1==0)<;>cases (s.2.2.2.2.1.1.length==0)<;>cases (s.2.2.2.2.1.2.1==0)<;>cases (s.2.2.2.2.2.1.length==0)<;>cases (s.2.2.2.2.2.2.1.length==0)<;>rfl
 |true=>
  have sm:=aka (Cz (A2 s).1).1 s.2.2.2.1
  have po:=adl s.2.2.2.2.1 (by omega)
  have sv:=ajQ s (by omega) (by omega)
  have e1:(((A2 s).2:Int) != (s.2.2.1.length:Int)) = !((A2 s).2==s.2.2.1.length):=by rw[←Ih];rfl
  simp only[zl70,eF,aG,a,zov a,b,zov b,po,zov po,sv,zov sv,zl99,e1,Tn]
  unfold upV
  cases hcat:(Cz (A2 s).1).2 with
  |false=>simp only[zl98,aG,zl70,zl76,zl92,zl93]
  |true=>
  cases hrd:((A2 s).2==s.2.2.1.length) with
  |false=>simp only[zl98,aG,eF,zl70,zl76,zl92,zl93,kG]
  |true=>
  have I:=RJ hcat
  have hI:=I.len
  have sm':=sm (by omega)
  simp only[sm',zov sm',zl70,zl98,eF,aG,zl99,zl108,zl92]
  by_cases hsame:(Cz (A2 s).1).1=s.2.2.2.1
  ·rw[zl86 hsame]
   rw[hsame] at I
   cases hpo:DL s.2.2.2.2.1 with
   |false=>rfl
   |true=>
   cases cH:(s.2.2.2.2.2.1.length==2) with
   |false=>rfl
   |true=>
   cases hsr:OY s with
   |false=>rfl
   |true=>
    simp only[zl70,eF,zl108]
    have q:=CA (r:=E5) (fun i=>(((i:Int),()),s)) (n:=s.2.2.2.2.1.1.length) (p:=fun i=> !Fi s.2.2.2.1 (s.2.2.2.2.1.1.getD i zF)) (yf:=.inl (false,())) (yt:=.inr ((),s)) (fun i hi _ hp=>by
      rw[adh s I i hi (by omega),bY (by simpa using hp)]) (fun i hi _ hp=>by
      rw[adh s I i hi (by omega),bf (by simpa using hp)]) (by
      have d1:decide ((s.2.2.2.2.1.1.length:Int)<(s.2.2.2.2.1.1.length:Int))=false:=zdf
      simp only[E5,d1,eF])
    have q':Comes E5 ((0,()),s) _:=q
    have q2:=CA (r:=I4) (fun i=>(((i:Int),()),s)) (n:=s.2.2.2.2.2.1.length) (p:=fun i=> !Fh s.2.1 (s.2.2.2.2.2.1.getD i zB)) (yf:=.inl (false,())) (yt:=.inr ((),())) (fun i hi _ hp=>by
      rw[adb s i hi (by omega),bY (by simpa using hp)]) (fun i hi _ hp=>by
      rw[adb s i hi (by omega),bf (by simpa using hp)]) (by
      have d1:decide ((s.2.2.2.2.2.1.length:Int)<(s.2.2.2.2.2.1.length:Int))=false:=zdf
      simp only[I4,d1,eF])
    have q2':Comes I4 ((0,()),s) _:=q2
    simp only[cb q',cv q',aG]
    unfold NM RF
    cases hf:xb s.2.2.2.2.1.1.length (fun i=> !Fi s.2.2.2.1 (s.2.2.2.2.1.1.getD i zF)) with
    |false=>simp[sumC]
    |true=>
     simp only[cj,sumC,cb q2',cv q2',aG,zl108]
     cases hb:xb s.2.2.2.2.2.1.length (fun i=> !Fh s.2.1 (s.2.2.2.2.2.1.getD i zB))<;>rfl
  ·rw[zl90 hsame];rfl
def aek (s:eA.D)(I:AE s.2.2.2.1)(hp:s.2.2.2.2.1.1.length≤9999999):q68 (s.2.2.2.2.1,s.2.2.2.1)=some (DL s.2.2.2.2.1&&NM s,()):=by
 have a:=afN s.2.2.2.2.1 hp
 cases hv:DL s.2.2.2.2.1 with
 |false=>
  rw[hv] at a
  simp only[q68,a,zov a,isSm,zU,aG,zl98,zl93]
 |true=>
  have hok:∀i,i<s.2.2.2.2.1.1.length→okF (s.2.2.2.2.1.1.getD i zF)=true:=by
   unfold DL at hv
   simp only[aF,zl78] at hv
   intro i hi
   have:=BA.1 hv.2.1 i (by omega)
   unfold Cf at this
   rw[aF] at this
   exact this.1
  rw[hv] at a
  have q:=CA (r:=E4) (fun i=>(((i:Int),(),s.2.2.2.2.1.1,(s.2.2.2.2.1.1.length:Int)),s.2.2.2.1)) (n:=s.2.2.2.2.1.1.length) (p:=fun i=> !Fi s.2.2.2.1 (s.2.2.2.2.1.1.getD i zF)) (yf:=.inl (false,())) (yt:=.inr ((),())) (fun i hi _ hp=>by
    rw[Zc s.2.2.2.1 I _ i hi (by omega) (hok i hi),bY (by simpa using hp)]) (fun i hi _ hp=>by
    rw[Zc s.2.2.2.1 I _ i hi (by omega) (hok i hi),bf (by simpa using hp)]) (by
    have d1:decide ((s.2.2.2.2.1.1.length:Int)<(s.2.2.2.2.1.1.length:Int))=false:=zdf
    simp only[E4,d1,eF])
  have q':Comes E4 ((0,(),s.2.2.2.2.1.1,(s.2.2.2.2.1.1.length:Int)),s.2.2.2.1) _:=q
  simp only[q68,a,zov a,isSm,zU,aG,eF,zl70,zl108,cb q',cv q']
  unfold NM
  cases xb s.2.2.2.2.1.1.length (fun i=> !Fi s.2.2.2.1 (s.2.2.2.2.1.1.getD i zF))<;>rfl
def Zg (s:eA.D)(S:Cj s):q65 s=some (okV s,()):=by
 have D7:=S.log
 have hbk:=S.BN
 have hsv:=S.Aj
 have hfr:s.2.2.2.2.1.1.length≤1048576:=S.DK
 have hct:s.2.2.2.1.2.1.length≤1048576:=S.cat
 have a:=adF s.2.2.1 (by omega)
 obtain⟨r1,r2⟩:=acZ s (by omega)
 have b:=afF (A2 s).1 r1 r2
 unfold okV
 change q95 s.2.2.1=some (((A2 s).1,((A2 s).2:Int)),()) at a
 have hle:decide ((s.2.2.1.length:Int)>9000) = !decide (s.2.2.1.length≤9000):=by
  by_cases h:s.2.2.1.length≤9000
  ·rw[zl86 h,zdf];rfl
  ·rw[zl90 h,zdt];rfl
 have Ih (x y:Nat):((x:Int)==(y:Int))=(x==y):=by rw[zl105,zl78,zl78];omega
 have Tm (x:Nat):((x:Int)==0)=(x==0):=Ih x 0
 have Tn (x:Nat):((x:Int) != 2) = !(x==2):=by rw[←Ih x 2];rfl
 simp only[q65,AD,zov (AD _ _ _),hle,isSm,zU,aG]
 cases mw s.2.1 0 99999 with
 |false=>rfl
 |true=>
 cases decide (s.2.2.1.length≤9000) with
 |false=>rfl
 |true=>
 simp only[zl70,eF,zl108,a,zov a,b,zov b,aG]
 cases hcat:(Cz (A2 s).1).2 with
 |false=>rfl
 |true=>
 simp only[zl70,eF,zl108]
 cases dR:s.1 with
 |false=>
  simp only[zl98,aG,eF,Tm,PE]
  congr 2
  cases (s.2.2.2.1.2.1.length==0)<;>cases (s.2.2.2.1.1==0)<;>cases (s.2.2.2.2.1.1.length==0)<;>cases (s.2.2.2.2.1.2.1==0)<;>cases (s.2.2.2.2.2.1.length==0)<;>cases (s.2.2.2.2.2.2.1.length==0)<;>rfl
 |true=>
  have I:=RJ hcat
  have hI:=I.len
  have sm:=afR (Cz (A2 s).1).1 s.2.2.2.1 (by omega)
  have e1:(((A2 s).2:Int) != (s.2.2.1.length:Int)) = !((A2 s).2==s.2.2.1.length):=by rw[←Ih];rfl
  simp only[zl70,eF,aG,sm,zov sm,zl99,e1,Tn]
  unfold upV
  cases hrd:((A2 s).2==s.2.2.1.length) with
  |false=>simp only[zl98,aG,zl70,zl76,zl92,zl93]
  |true=>
  by_cases hsame:(Cz (A2 s).1).1=s.2.2.2.1
  ·rw[zl86 hsame]
   rw[hsame] at I
   have fi:=aek s I (by omega)
   simp only[fi,zov fi,zl70,eF,zl99,zl92,aG,zl108]
   cases hpo:DL s.2.2.2.2.1 with
   |false=>rfl
   |true=>
   cases kQ:NM s with
   |false=>simp only[kG,zl98,aG,zl93]
   |true=>
   cases cH:(s.2.2.2.2.2.1.length==2) with
   |false=>rfl
   |true=>
    simp only[zl70,eF,zl108,zl92]
    have q:=CA (r:=I1) (fun i=>(((i:Int),(),s.2.2.2.2.2.1,(s.2.2.2.2.2.1.length:Int)),s)) (n:=s.2.2.2.2.2.1.length) (p:=fun i=> !Fh s.2.1 (s.2.2.2.2.2.1.getD i zB)) (yf:=.inl (false,())) (yt:=.inr ((),s)) (fun i hi _ hp=>by
      rw[Y_ s _ i hi (by omega),bY (by simpa using hp)]) (fun i hi _ hp=>by
      rw[Y_ s _ i hi (by omega),bf (by simpa using hp)]) (by
      have d1:decide ((s.2.2.2.2.2.1.length:Int)<(s.2.2.2.2.2.1.length:Int))=false:=zdf
      simp only[I1,d1,eF])
    have q':Comes I1 ((0,(),s.2.2.2.2.2.1,(s.2.2.2.2.2.1.length:Int)),s) _:=q
    have q2:=CA (r:=Hs) (fun i=>(((i:Int),(),s.2.2.2.2.2.2.1,(s.2.2.2.2.2.2.1.length:Int)),s)) (n:=s.2.2.2.2.2.2.1.length) (p:=fun i=> !Dv s.2.2.2.1 s.2.1 s.2.2.2.2.2.2.1 i) (yf:=.inl (false,())) (yt:=.inr ((),())) (fun i hi _ hp=>by
      rw[Zk s (by omega) i hi (by omega),bY (by simpa using hp)]) (fun i hi _ hp=>by
      rw[Zk s (by omega) i hi (by omega),bf (by simpa using hp)]) (by
      have d1:decide ((s.2.2.2.2.2.2.1.length:Int)<(s.2.2.2.2.2.2.1.length:Int))=false:=zdf
      simp only[Hs,d1,eF])
    have q2':Comes Hs ((0,(),s.2.2.2.2.2.2.1,(s.2.2.2.2.2.2.1.length:Int)),s) _:=q2
    simp only[cb q',cv q',aG]
    unfold RF OY
    cases hf:xb s.2.2.2.2.2.1.length (fun i=> !Fh s.2.1 (s.2.2.2.2.2.1.getD i zB)) with
    |false=>simp[sumC]
    |true=>
     simp only[cj,sumC,cb q2',cv q2',aG,Bool.and_true]
     cases hb:xb s.2.2.2.2.2.2.1.length (fun i=> !Dv s.2.2.2.1 s.2.1 s.2.2.2.2.2.2.1 i)<;>rfl
  ·rw[zl90 hsame];rfl
end Pl
open Go Go.Ab
namespace Pl
section
variable {α:Type} (Bi:α→Int→α) (n1:α→Nat)
def vN:List α→Int→List α
 | [],_=>[]
 |a::l,k=>Bi a k::vN l (k+n1 a)
def nE (l:List α):Nat:=(l.map n1).sum
def ks (k:Int)(l:List α)(i:Nat):Int:=k+(nE n1 (l.take i):Nat)
def part (k:Int)(l:List α)(i:Nat):List α:=vN Bi n1 (l.take i) k++l.drop i
def BP:∀(l:List α) (k:Int),(vN Bi n1 l k).length=l.length
 | [],_=>rfl
 |_::l,k=>by simp[vN,BP l]
def Tl:∀(p q:List α) (k:Int),vN Bi n1 (p++q) k=vN Bi n1 p k++vN Bi n1 q (k+(nE n1 p:Nat))
 | [],q,k=>by simp[vN,nE]
 |a::p,q,k=>by
  simp only[zl20,vN,Tl p q,nE,kD,zl82]
  rw[show k+(n1 a:Int)+((p.map n1).sum:Nat)=k+((n1 a+(p.map n1).sum:Nat):Int) by omega]
def akm (l:List α)(i:Nat)(h:i<l.length):l=l.take i++l[i]::l.drop (i+1):=by
 rw[List.getElem_cons_drop,zl68]
def adv (l:List α)(i:Nat)(h:i<l.length):l.take (i+1)=l.take i ++ [l[i]]:=by
 rw[List.take_add_one,pG h];rfl
def F5 (k:Int)(l:List α):ks n1 k l 0=k:=by simp[ks,nE]
def Fs (k:Int)(l:List α)(i:Nat)(h:i<l.length):ks n1 k l (i+1)=ks n1 k l i+n1 l[i]:=by
 simp only[ks,adv l i h,nE,zl54,List.sum_append,kD,List.map_nil,zl82,List.sum_nil]
 omega
def F3 (k:Int)(l:List α):ks n1 k l l.length=k+(nE n1 l:Nat):=by simp[ks]
def Fq (k:Int)(l:List α)(i:Nat):k≤ks n1 k l i∧ks n1 k l i≤k+(nE n1 l:Nat):=by
 have:nE n1 (l.take i)≤nE n1 l:=by
  have e:nE n1 l=nE n1 (l.take i)+nE n1 (l.drop i):=by
   unfold nE
   rw[←List.sum_append,←zl54,zl68]
  omega
 unfold ks
 omega
def F4 (k:Int)(l:List α)(i:Nat)(h:i<l.length):ks n1 k l i+n1 l[i]≤k+(nE n1 l:Nat):=by
 rw[←Fs n1 k l i h]
 exact(Fq n1 k l (i+1)).2
def OD (k:Int)(l:List α):part Bi n1 k l 0=l:=by simp[part,vN]
def J7 (k:Int)(l:List α):part Bi n1 k l l.length=vN Bi n1 l k:=by simp[part]
def OB (k:Int)(l:List α)(i:Nat)(h:i≤l.length):(part Bi n1 k l i).length=l.length:=by simp[part,BP];omega
def OA (k:Int)(l:List α)(i:Nat)(z:α)(h:i<l.length):(part Bi n1 k l i).getD i z=l[i]:=by
 have hl:(vN Bi n1 (l.take i) k).length=i:=by rw[BP];simp;omega
 unfold part
 rw[nO,c_ (by omega),hl,Nat.sub_self,zl5,pG (by omega)]
 simp
def OC (k:Int)(l:List α)(i:Nat)(h:i<l.length):(part Bi n1 k l i).set i (Bi l[i] (ks n1 k l i))=part Bi n1 k l (i+1):=by
 have hl:(vN Bi n1 (l.take i) k).length=i:=by rw[BP];simp;omega
 unfold part
 rw[adv l i h,Tl,←List.getElem_cons_drop h,zl87 _ _ (by omega),hl,Nat.sub_self,zl16]
 simp[vN,ks]
def Ow (k:Int)(l:List α)(i:Nat)(z:α)(h:i<l.length):(vN Bi n1 l k).getD i z=Bi l[i] (ks n1 k l i):=by
 rw[←J7,nO]
 have hl:(vN Bi n1 (l.take i) k).length=i:=by rw[BP];simp;omega
 have e:vN Bi n1 l k=vN Bi n1 (l.take i) k++Bi l[i] (ks n1 k l i)::vN Bi n1 (l.drop (i+1)) (ks n1 k l i+n1 l[i]):=by
  conv=>lhs;rw[akm l i h]
  rw[Tl]
  rfl
 rw[J7,e,c_ (by omega),hl,Nat.sub_self]
 rfl
end
noncomputable def mt (k:Int):List UInt8:=(zog A8 k).1
def ahp:∀(d:Nat) (k:Int) (out:List UInt8),0≤k→k<(10:Int) ^ d→d≤18→out.length+d≤100→∃s:List UInt8,s.length≤100∧Comes Le ((k,out),()) (s,()):=by
 intro d
 induction d with
 |zero=>
  intro k out h0 h1 _ h2
  have hk:k=0:=by simp at h1;omega
  subst hk
  exact⟨out,by omega,.out (by simp[Le])⟩
 |succ d ih=>
  intro k out h0 h1 hd h2
  by_cases hk:k>0
  ·have hq:k.tdiv 10<(10:Int) ^ d:=by
    rw[zl91 h0]
    rw[Int.pow_succ] at h1
    omega
   have hq0:0≤k.tdiv 10:=by rw[zl91 h0];omega
   have hp:(10:Int) ^ d≤(10:Int) ^ 18:=by
    have:(10:Nat) ^ d≤10 ^ 18:=Nat.pow_le_pow_right (by decide) (by omega)
    exact_mod_cast this
   have hw:IntKind.wrap .i64 (k.tdiv 10)=k.tdiv 10:=by rw[wrap64]<;>omega
   obtain⟨s,hs,hc⟩:=ih (k.tdiv 10) (sM [IntKind.wrap .u8 (IntKind.wrap .i64 (48+k.tmod 10))]++out) hq0 hq (by omega) (by simp[sM];omega)
   refine⟨s,hs,.again (x':=((k.tdiv 10,sM [IntKind.wrap .u8 (IntKind.wrap .i64 (48+k.tmod 10))]++out),())) ?_ hc⟩
   have hl:1+out.length≤eD:=by unfold eD;omega
   simp[Le,hk,hl,zU,hw]
  ·exact⟨out,by omega,.out (by simp[Le,hk])⟩
def A3:Int:=1000000000000000000
def Ig (k:Int)(h0:0≤k)(h1:k<A3):A8 k=some (mt k,()):=by
 have main:∃s,A8 k=some (s,()):=by
  by_cases hk:k≤0
  ·exact⟨[109,48],by simp[A8,hk]⟩
  ·obtain⟨s,hs,hc⟩:=ahp 18 k [] h0 (by simpa[A3] using h1) (by omega) (by simp)
   have hl:1+s.length≤eD:=by unfold eD;omega
   exact⟨109::s,by simp[A8,hk,cb hc,cv hc,zU,hl]⟩
 obtain⟨s,hs⟩:=main
 rw[hs,mt,zov hs]
def we {k:Int}(h0:0≤k)(h1:k≤A3):IntKind.wrap .i64 (k+1)=k+1:=by unfold A3 at h1;rw[wrap64]<;>omega
noncomputable def mkItem (_:an.D) (k:Int):an.D:=(k,mt (k+1),k+2,mt (k+3),())
def zO (_:an.D):Nat:=4
def ahl (a:List an.D)(k:Int)(h0:0≤k)(h1:k+(nE zO a:Nat)<A3)(hl:a.length≤4611686018427387904):q48 (a,k)=some (k+(nE zO a:Nat),vN mkItem zO a k,()):=by
 have hc:Comes K8 (((0:Int),(),k),a) (k+(nE zO a:Nat),vN mkItem zO a k):=by
  have:=s4 (r:=K8) (st:=fun i=>(((i:Int),(),ks zO k a i),part mkItem zO k a i)) (n:=a.length) (y:=(k+(nE zO a:Nat),vN mkItem zO a k)) ?_ ?_ 0 (lz _)
  ·simpa[F5,OD] using this
  ·intro i hi
   have b1:=Fq zO k a i
   have b2:=F4 zO k a i hi
   have b3:zO a[i]=4:=rfl
   have e2:=zX (i:=i) (by omega)
   have e4:=Fs zO k a i hi
   have e3:=OC mkItem zO k a i hi
   have pl:=OB mkItem zO k a i (Nat.le_of_lt hi)
   have pg:=fun z=>OA mkItem zO k a i z hi
   have hi':i<(part mkItem zO k a i).length:=by omega
   simp only[mkItem] at e3
   rw[b3] at e4
   generalize ks zO k a i=q at *
   have w0:=we (k:=q) (by omega) (by omega)
   have w1:=we (k:=q+1) (by omega) (by omega)
   have w2:=we (k:=q+2) (by omega) (by omega)
   have w3:=we (k:=q+3) (by omega) (by omega)
   have a1:q+1+1=q+2:=by omega
   have a2:q+2+1=q+3:=by omega
   have a3:q+3+1=ks zO k a (i+1):=by rw[e4];omega
   rw[a1] at w1
   rw[a2] at w2
   rw[a3] at w3
   have t1:=Ig (q+1) (by omega) (by omega)
   have t3:=Ig (q+3) (by omega) (by omega)
   have c1:decide ((i:Int)<(a.length:Int))=true:=by simpa using hi
   simp only[K8,zl94,pl,pg,JK _ _ _ _ hi',M7,zl66,c1,aG,zU,zl92,zl111,zl73,isSm,w0,a1,w1,a2,w2,a3,w3,zov t1,t1,zov t3,t3,e2,e3]
  ·simp[K8,F3,J7,BP]
 simp[q48,cb hc,cv hc]
def afw (a:List an.D)(k:Int)(h0:0≤k)(h1:k+(nE zO a:Nat)<A3)(hl:a.length≤4611686018427387904):q46 (vN mkItem zO a k,k)=some (k+(nE zO a:Nat),()):=by
 have hc:Comes K6 (((0:Int),vN mkItem zO a k,k),()) (.inr (k+(nE zO a:Nat),())):=by
  have:=s4 (r:=K6) (st:=fun i=>(((i:Int),vN mkItem zO a k,ks zO k a i),())) (n:=a.length) (y:=.inr (k+(nE zO a:Nat),())) ?_ ?_ 0 (lz _)
  ·simpa[F5] using this
  ·intro i hi
   have b1:=Fq zO k a i
   have b2:=F4 zO k a i hi
   have b3:zO a[i]=4:=rfl
   have e2:=zX (i:=i) (by omega)
   have e4:=Fs zO k a i hi
   have pl:=BP mkItem zO a k
   have pg:=fun z=>Ow mkItem zO k a i z hi
   simp only[mkItem] at pg
   rw[b3] at e4
   generalize ks zO k a i=q at *
   have w0:=we (k:=q) (by omega) (by omega)
   have w1:=we (k:=q+1) (by omega) (by omega)
   have w2:=we (k:=q+2) (by omega) (by omega)
   have w3:=we (k:=q+3) (by omega) (by omega)
   have a1:q+1+1=q+2:=by omega
   have a2:q+2+1=q+3:=by omega
   have a3:q+3+1=ks zO k a (i+1):=by rw[e4];omega
   rw[a1] at w1
   rw[a2] at w2
   rw[a3] at w3
   have t1:=Ig (q+1) (by omega) (by omega)
   have t3:=Ig (q+3) (by omega) (by omega)
   have c1:decide ((i:Int)<(a.length:Int))=true:=by simpa using hi
   have d1:(mt (q+1)==mt (q+1))=true:=by simp
   have d3:(mt (q+3)==mt (q+3))=true:=by simp
   have bn:∀x:Int,(x != x)=false:=by intro x;simp
   simp only[K6,zl94,pl,pg,c1,aG,eF,zU,zl92,zl111,zl73,isSm,bn,w0,a1,w1,a2,w2,a3,w3,zov t1,t1,zov t3,t3,e2,d1,d3,zl70]
  ·simp[K6,BP,F3]
 simp[q46,cb hc,cv hc,sumC]
def CX (_:di.D)(k:Int):di.D:=(k,k+1,k+2,k+3,())
def zE (_:di.D):Nat:=4
def ahi (a:List di.D)(k:Int)(h0:0≤k)(h1:k+(nE zE a:Nat)<A3)(hl:a.length≤4611686018427387904):q23 (a,k)=some (k+(nE zE a:Nat),vN CX zE a k,()):=by
 have hc:Comes KZ (((0:Int),(),k),a) (k+(nE zE a:Nat),vN CX zE a k):=by
  have:=s4 (r:=KZ) (st:=fun i=>(((i:Int),(),ks zE k a i),part CX zE k a i)) (n:=a.length) (y:=(k+(nE zE a:Nat),vN CX zE a k)) ?_ ?_ 0 (lz _)
  ·simpa[F5,OD] using this
  ·intro i hi
   have b1:=Fq zE k a i
   have b2:=F4 zE k a i hi
   have b3:zE a[i]=4:=rfl
   have e2:=zX (i:=i) (by omega)
   have e4:=Fs zE k a i hi
   have e3:=OC CX zE k a i hi
   have pl:=OB CX zE k a i (Nat.le_of_lt hi)
   have pg:=fun z=>OA CX zE k a i z hi
   have hi':i<(part CX zE k a i).length:=by omega
   simp only[CX] at e3
   rw[b3] at e4
   generalize ks zE k a i=q at *
   have w0:=we (k:=q) (by omega) (by omega)
   have w1:=we (k:=q+1) (by omega) (by omega)
   have w2:=we (k:=q+2) (by omega) (by omega)
   have w3:=we (k:=q+3) (by omega) (by omega)
   have a1:q+1+1=q+2:=by omega
   have a2:q+2+1=q+3:=by omega
   have a3:q+3+1=ks zE k a (i+1):=by rw[e4];omega
   rw[a1] at w1
   rw[a2] at w2
   rw[a3] at w3
   have c1:decide ((i:Int)<(a.length:Int))=true:=by simpa using hi
   simp only[KZ,zl94,pl,pg,JK _ _ _ _ hi',M7,zl66,c1,aG,zU,zl92,zl111,zl73,w0,a1,w1,a2,w2,a3,w3,e2,e3]
  ·simp[KZ,F3,J7,BP]
 simp[q23,cb hc,cv hc]
def aft (a:List di.D)(k:Int)(h0:0≤k)(h1:k+(nE zE a:Nat)<A3)(hl:a.length≤4611686018427387904):q22 (vN CX zE a k,k)=some (k+(nE zE a:Nat),()):=by
 have hc:Comes KY (((0:Int),vN CX zE a k,k),()) (.inr (k+(nE zE a:Nat),())):=by
  have:=s4 (r:=KY) (st:=fun i=>(((i:Int),vN CX zE a k,ks zE k a i),())) (n:=a.length) (y:=.inr (k+(nE zE a:Nat),())) ?_ ?_ 0 (lz _)
  ·simpa[F5] using this
  ·intro i hi
   have b1:=Fq zE k a i
   have b2:=F4 zE k a i hi
   have b3:zE a[i]=4:=rfl
   have e2:=zX (i:=i) (by omega)
   have e4:=Fs zE k a i hi
   have pl:=BP CX zE a k
   have pg:=fun z=>Ow CX zE k a i z hi
   simp only[CX] at pg
   rw[b3] at e4
   generalize ks zE k a i=q at *
   have w0:=we (k:=q) (by omega) (by omega)
   have w1:=we (k:=q+1) (by omega) (by omega)
   have w2:=we (k:=q+2) (by omega) (by omega)
   have w3:=we (k:=q+3) (by omega) (by omega)
   have a1:q+1+1=q+2:=by omega
   have a2:q+2+1=q+3:=by omega
   have a3:q+3+1=ks zE k a (i+1):=by rw[e4];omega
   rw[a1] at w1
   rw[a2] at w2
   rw[a3] at w3
   have c1:decide ((i:Int)<(a.length:Int))=true:=by simpa using hi
   have bn:∀x:Int,(x != x)=false:=by intro x;simp
   simp only[KY,zl94,pl,pg,c1,aG,eF,zU,zl92,zl111,zl73,bn,w0,a1,w1,a2,w2,a3,w3,e2]
  ·simp[KY,BP,F3]
 simp[q22,cb hc,cv hc,sumC]
def CZ (_:bx.D)(k:Int):bx.D:=(k,k+1,k+2,k+3,k+4,k+5,())
def zP (_:bx.D):Nat:=6
def ahn (a:List bx.D)(k:Int)(h0:0≤k)(h1:k+(nE zP a:Nat)<A3)(hl:a.length≤4611686018427387904):q33 (a,k)=some (k+(nE zP a:Nat),vN CZ zP a k,()):=by
 have hc:Comes K5 (((0:Int),(),k),a) (k+(nE zP a:Nat),vN CZ zP a k):=by
  have:=s4 (r:=K5) (st:=fun i=>(((i:Int),(),ks zP k a i),part CZ zP k a i)) (n:=a.length) (y:=(k+(nE zP a:Nat),vN CZ zP a k)) ?_ ?_ 0 (lz _)
  ·simpa[F5,OD] using this
  ·intro i hi
   have b1:=Fq zP k a i
   have b2:=F4 zP k a i hi
   have b3:zP a[i]=6:=rfl
   have e2:=zX (i:=i) (by omega)
   have e4:=Fs zP k a i hi
   have e3:=OC CZ zP k a i hi
   have pl:=OB CZ zP k a i (Nat.le_of_lt hi)
   have pg:=fun z=>OA CZ zP k a i z hi
   have hi':i<(part CZ zP k a i).length:=by omega
   simp only[CZ] at e3
   rw[b3] at e4
   generalize ks zP k a i=q at *
   have w0:=we (k:=q) (by omega) (by omega)
   have w1:=we (k:=q+1) (by omega) (by omega)
   have w2:=we (k:=q+2) (by omega) (by omega)
   have w3:=we (k:=q+3) (by omega) (by omega)
   have w4:=we (k:=q+4) (by omega) (by omega)
   have w5:=we (k:=q+5) (by omega) (by omega)
   have a1:q+1+1=q+2:=by omega
   have a2:q+2+1=q+3:=by omega
   have a3:q+3+1=q+4:=by omega
   have a4:q+4+1=q+5:=by omega
   have a5:q+5+1=ks zP k a (i+1):=by rw[e4];omega
   rw[a1] at w1
   rw[a2] at w2
   rw[a3] at w3
   rw[a4] at w4
   rw[a5] at w5
   have c1:decide ((i:Int)<(a.length:Int))=true:=by simpa using hi
   simp only[K5,zl94,pl,pg,JK _ _ _ _ hi',M7,zl66,c1,aG,zU,zl92,zl111,zl73,w0,a1,w1,a2,w2,a3,w3,a4,w4,a5,w5,e2,e3]
  ·simp[K5,F3,J7,BP]
 simp[q33,cb hc,cv hc]
def afy (a:List bx.D)(k:Int)(h0:0≤k)(h1:k+(nE zP a:Nat)<A3)(hl:a.length≤4611686018427387904):q30 (vN CZ zP a k,k)=some (k+(nE zP a:Nat),()):=by
 have hc:Comes K3 (((0:Int),vN CZ zP a k,k),()) (.inr (k+(nE zP a:Nat),())):=by
  have:=s4 (r:=K3) (st:=fun i=>(((i:Int),vN CZ zP a k,ks zP k a i),())) (n:=a.length) (y:=.inr (k+(nE zP a:Nat),())) ?_ ?_ 0 (lz _)
  ·simpa[F5] using this
  ·intro i hi
   have b1:=Fq zP k a i
   have b2:=F4 zP k a i hi
   have b3:zP a[i]=6:=rfl
   have e2:=zX (i:=i) (by omega)
   have e4:=Fs zP k a i hi
   have pl:=BP CZ zP a k
   have pg:=fun z=>Ow CZ zP k a i z hi
   simp only[CZ] at pg
   rw[b3] at e4
   generalize ks zP k a i=q at *
   have w0:=we (k:=q) (by omega) (by omega)
   have w1:=we (k:=q+1) (by omega) (by omega)
   have w2:=we (k:=q+2) (by omega) (by omega)
   have w3:=we (k:=q+3) (by omega) (by omega)
   have w4:=we (k:=q+4) (by omega) (by omega)
   have w5:=we (k:=q+5) (by omega) (by omega)
   have a1:q+1+1=q+2:=by omega
   have a2:q+2+1=q+3:=by omega
   have a3:q+3+1=q+4:=by omega
   have a4:q+4+1=q+5:=by omega
   have a5:q+5+1=ks zP k a (i+1):=by rw[e4];omega
   rw[a1] at w1
   rw[a2] at w2
   rw[a3] at w3
   rw[a4] at w4
   rw[a5] at w5
   have c1:decide ((i:Int)<(a.length:Int))=true:=by simpa using hi
   have bn:∀x:Int,(x != x)=false:=by intro x;simp
   simp only[K3,zl94,pl,pg,c1,aG,eF,zU,zl92,zl111,zl73,bn,w0,a1,w1,a2,w2,a3,w3,a4,w4,a5,w5,e2]
  ·simp[K3,BP,F3]
 simp[q30,cb hc,cv hc,sumC]
def CY (_:bp.D)(k:Int):bp.D:=(k,k+1,k+2,k+3,Int.tmod (k+4) 3==0,())
def zN (_:bp.D):Nat:=5
def ahk (a:List bp.D)(k:Int)(h0:0≤k)(h1:k+(nE zN a:Nat)<A3)(hl:a.length≤4611686018427387904):q32 (a,k)=some (k+(nE zN a:Nat),vN CY zN a k,()):=by
 have hc:Comes K4 (((0:Int),(),k),a) (k+(nE zN a:Nat),vN CY zN a k):=by
  have:=s4 (r:=K4) (st:=fun i=>(((i:Int),(),ks zN k a i),part CY zN k a i)) (n:=a.length) (y:=(k+(nE zN a:Nat),vN CY zN a k)) ?_ ?_ 0 (lz _)
  ·simpa[F5,OD] using this
  ·intro i hi
   have b1:=Fq zN k a i
   have b2:=F4 zN k a i hi
   have b3:zN a[i]=5:=rfl
   have e2:=zX (i:=i) (by omega)
   have e4:=Fs zN k a i hi
   have e3:=OC CY zN k a i hi
   have pl:=OB CY zN k a i (Nat.le_of_lt hi)
   have pg:=fun z=>OA CY zN k a i z hi
   have hi':i<(part CY zN k a i).length:=by omega
   simp only[CY] at e3
   rw[b3] at e4
   generalize ks zN k a i=q at *
   have w0:=we (k:=q) (by omega) (by omega)
   have w1:=we (k:=q+1) (by omega) (by omega)
   have w2:=we (k:=q+2) (by omega) (by omega)
   have w3:=we (k:=q+3) (by omega) (by omega)
   have w4:=we (k:=q+4) (by omega) (by omega)
   have a1:q+1+1=q+2:=by omega
   have a2:q+2+1=q+3:=by omega
   have a3:q+3+1=q+4:=by omega
   have a4:q+4+1=ks zN k a (i+1):=by rw[e4];omega
   rw[a1] at w1
   rw[a2] at w2
   rw[a3] at w3
   rw[a4] at w4
   have c1:decide ((i:Int)<(a.length:Int))=true:=by simpa using hi
   simp only[K4,zl94,pl,pg,JK _ _ _ _ hi',M7,zl66,c1,aG,zU,zl92,zl111,zl73,w0,a1,w1,a2,w2,a3,w3,a4,w4,e2,e3]
  ·simp[K4,F3,J7,BP]
 simp[q32,cb hc,cv hc]
def afv (a:List bp.D)(k:Int)(h0:0≤k)(h1:k+(nE zN a:Nat)<A3)(hl:a.length≤4611686018427387904):q29 (vN CY zN a k,k)=some (k+(nE zN a:Nat),()):=by
 have hc:Comes K0 (((0:Int),vN CY zN a k,k),()) (.inr (k+(nE zN a:Nat),())):=by
  have:=s4 (r:=K0) (st:=fun i=>(((i:Int),vN CY zN a k,ks zN k a i),())) (n:=a.length) (y:=.inr (k+(nE zN a:Nat),())) ?_ ?_ 0 (lz _)
  ·simpa[F5] using this
  ·intro i hi
   have b1:=Fq zN k a i
   have b2:=F4 zN k a i hi
   have b3:zN a[i]=5:=rfl
   have e2:=zX (i:=i) (by omega)
   have e4:=Fs zN k a i hi
   have pl:=BP CY zN a k
   have pg:=fun z=>Ow CY zN k a i z hi
   simp only[CY] at pg
   rw[b3] at e4
   generalize ks zN k a i=q at *
   have w0:=we (k:=q) (by omega) (by omega)
   have w1:=we (k:=q+1) (by omega) (by omega)
   have w2:=we (k:=q+2) (by omega) (by omega)
   have w3:=we (k:=q+3) (by omega) (by omega)
   have w4:=we (k:=q+4) (by omega) (by omega)
   have a1:q+1+1=q+2:=by omega
   have a2:q+2+1=q+3:=by omega
   have a3:q+3+1=q+4:=by omega
   have a4:q+4+1=ks zN k a (i+1):=by rw[e4];omega
   rw[a1] at w1
   rw[a2] at w2
   rw[a3] at w3
   rw[a4] at w4
   have c1:decide ((i:Int)<(a.length:Int))=true:=by simpa using hi
   have d4:((Int.tmod (q+4) 3==0)==(Int.tmod (q+4) 3==0))=true:=by simp
   have bn:∀x:Int,(x != x)=false:=by intro x;simp
   simp only[K0,zl94,pl,pg,c1,aG,eF,zU,zl92,zl111,zl73,bn,w0,a1,w1,a2,w2,a3,w3,a4,w4,e2,d4,zl70]
  ·simp[K0,BP,F3]
 simp[q29,cb hc,cv hc,sumC]
noncomputable def Mc (c:fe.D) (k:Int):fe.D:=(c.1,vN mkItem zO c.2.1 k,c.2.2)
def Br (c:fe.D):Nat:=nE zO c.2.1
def ahj (c:fe.D)(k:Int)(h0:0≤k)(h1:k+(Br c:Nat)<A3)(hl:Ju c):Mp (c,k)=some (k+(Br c:Nat),Mc c k,()):=by
 have e1:=ahl c.2.1 k h0 h1 (mL hl (by omega))
 simp[Mp,e1,zov e1,zU,isSm,Mc,Br]
def afu (c:fe.D)(k:Int)(h0:0≤k)(h1:k+(Br c:Nat)<A3)(hl:Ju c):Mo (Mc c k,k)=some (k+(Br c:Nat),()):=by
 have e1:=afw c.2.1 k h0 h1 (mL hl (by omega))
 have n1:¬(k+(nE zO c.2.1:Nat))<0:=by omega
 simp[Mo,Mc,e1,zov e1,zU,isSm,Br,n1]
def Md (c:fT.D)(k:Int):fT.D:=(vN CY zN c.1 k,c.2)
def Cp (c:fT.D):Nat:=nE zN c.1
def ahm (c:fT.D)(k:Int)(h0:0≤k)(h1:k+(Cp c:Nat)<A3)(hl:EB c):q75 (c,k)=some (k+(Cp c:Nat),Md c k,()):=by
 have e1:=ahk c.1 k h0 h1 (mL hl (by omega))
 simp[q75,e1,zov e1,zU,isSm,Md,Cp]
def afx (c:fT.D)(k:Int)(h0:0≤k)(h1:k+(Cp c:Nat)<A3)(hl:EB c):q74 (Md c k,k)=some (k+(Cp c:Nat),()):=by
 have e1:=afv c.1 k h0 h1 (mL hl (by omega))
 have n1:¬(k+(nE zN c.1:Nat))<0:=by omega
 simp[q74,Md,e1,zov e1,zU,isSm,Cp,n1]
noncomputable def GU (s:eA.D) (k:Int):eA.D:=
 (s.1,s.2.1,s.2.2.1,Mc s.2.2.2.1 k,Md s.2.2.2.2.1 (k+(Br s.2.2.2.1:Nat)),vN CX zE s.2.2.2.2.2.1 (k+(Br s.2.2.2.1:Nat)+(Cp s.2.2.2.2.1:Nat)),
  vN CZ zP s.2.2.2.2.2.2.1 (k+(Br s.2.2.2.1:Nat)+(Cp s.2.2.2.2.1:Nat)+(nE zE s.2.2.2.2.2.1:Nat)),s.2.2.2.2.2.2.2)
def B8 (s:eA.D):Nat:=Br s.2.2.2.1+Cp s.2.2.2.2.1+nE zE s.2.2.2.2.2.1+nE zP s.2.2.2.2.2.2.1
def aho (s:eA.D)(k:Int)(h0:0≤k)(h1:k+(B8 s:Nat)<A3)(hl:Cj s):q34 (s,k)=some (k+(B8 s:Nat),GU s k,()):=by
 unfold B8 at h1
 have e1:=ahj s.2.2.2.1 k h0 (by omega) hl.cat
 have e2:=ahm s.2.2.2.2.1 (k+(Br s.2.2.2.1:Nat)) (by omega) (by omega) hl.DK
 have e3:=ahi s.2.2.2.2.2.1 (k+(Br s.2.2.2.1:Nat)+(Cp s.2.2.2.2.1:Nat)) (by omega) (by omega) (mL hl.BN (by omega))
 have e4:=ahn s.2.2.2.2.2.2.1 (k+(Br s.2.2.2.1:Nat)+(Cp s.2.2.2.2.1:Nat)+(nE zE s.2.2.2.2.2.1:Nat)) (by omega) (by omega) (mL hl.Aj (by omega))
 have v1:=zov e1
 have v2:=zov e2
 have v3:=zov e3
 have v4:=zov e4
 simp only[q34,e1,v1,e2,v2,e3,v3,e4,v4,zU,isSm,aG]
 simp[GU,B8,Mc,Md]
 omega
def afz (s:eA.D)(k:Int)(h0:0≤k)(h1:k+(B8 s:Nat)<A3)(hl:Cj s):q31 (GU s k,k)=some (k+(B8 s:Nat),()):=by
 unfold B8 at h1
 have e1:=afu s.2.2.2.1 k h0 (by omega) hl.cat
 have e2:=afx s.2.2.2.2.1 (k+(Br s.2.2.2.1:Nat)) (by omega) (by omega) hl.DK
 have e3:=aft s.2.2.2.2.2.1 (k+(Br s.2.2.2.1:Nat)+(Cp s.2.2.2.2.1:Nat)) (by omega) (by omega) (mL hl.BN (by omega))
 have e4:=afy s.2.2.2.2.2.2.1 (k+(Br s.2.2.2.1:Nat)+(Cp s.2.2.2.2.1:Nat)+(nE zE s.2.2.2.2.2.1:Nat)) (by omega) (by omega) (mL hl.Aj (by omega))
 have v1:=zov e1
 have v2:=zov e2
 have v3:=zov e3
 have v4:=zov e4
 have n1:decide ((k+(Br s.2.2.2.1:Nat))<0)=false:=by simp;omega
 have n2:decide ((k+(Br s.2.2.2.1:Nat)+(Cp s.2.2.2.2.1:Nat))<0)=false:=by simp;omega
 have n3:decide ((k+(Br s.2.2.2.1:Nat)+(Cp s.2.2.2.2.1:Nat)+(nE zE s.2.2.2.2.2.1:Nat))<0)=false:=by simp;omega
 have n4:decide ((k+(Br s.2.2.2.1:Nat)+(Cp s.2.2.2.2.1:Nat)+(nE zE s.2.2.2.2.2.1:Nat)+(nE zP s.2.2.2.2.2.2.1:Nat))<0)=false:=by simp;omega
 simp only[q31,GU,e1,v1,e2,v2,e3,v3,e4,v4,zU,isSm,aG,eF,n1,n2,n3,n4]
 simp[B8]
 omega
def Ih (x y:Nat):((x:Int)==(y:Int))=(x==y):=by rw[zl105,zl78,zl78];omega
def M5 {n:Nat}(h:n≤1048576):decide (0+n≤eD)=true:=by unfold eD;exact zdt
def VO (p:fT.D)(h:EB p):Gh p=some (p,()):=by
 have:p.1.length≤1048576:=h
 simp only[Gh,zU,M5 this,aG,zl17]
def Zh (p:fT.D)(h:EB p):q43 p=some (p,()):=by
 have:p.1.length≤1048576:=h
 simp only[q43,zU,M5 this,aG,zl17]
def adg (s:eA.D)(S:Cj s)(h0:s.2.2.2.1.2.1.length≤99999):Mw s=some (s,()):=by
 have a:=copy_eq s.2.2.2.1 h0
 have b:=VO s.2.2.2.2.1 S.DK
 simp only[Mw,a,zov a,b,zov b,zU,isSm,M5 S.BN,M5 S.Aj,aG,zl17]
def Zb (s:eA.D)(S:Cj s)(h0:s.2.2.2.1.2.1.length≤99999):q20 s=some (s,()):=by
 have a:=Pv s.2.2.2.1 h0
 have b:=Zh s.2.2.2.2.1 S.DK
 simp only[q20,a,zov a,b,zov b,zU,isSm,M5 S.BN,M5 S.Aj,aG,zl17]
def aaI {s:eA.D}(h:okV s=true):AE s.2.2.2.1:=by
 unfold okV at h
 simp only[aF] at h
 obtain⟨_,_,hc,h⟩:=h
 cases hu:s.1 with
 |true=>
  rw[hu] at h
  simp only[aG,upV,aF,gQ] at h
  rw[←h.2.1]
  exact RJ hc
 |false=>
  rw[hu] at h
  simp only[eF,PE,aF,zl78,dM] at h
  have e:s.2.2.2.1=((0:Int),[],()):=by
   rw[←h.1.1.1.1.2,←h.1.1.1.1.1]
  rw[e]
  exact Pt
def GD:eA.D:=(false,(0:Int),[],((0:Int),[],()),([],(0:Int),()),[],[],())
def ala:Cj GD:=⟨by simp[GD],by unfold Ju;simp[GD],by simp[GD],by unfold EB;simp[GD],by simp[GD],by simp[GD]⟩
def HG {α:Type}(n1:α→Nat)(k:Nat)(h:∀a,n1 a=k)(l:List α):nE n1 l=k*l.length:=by
 induction l with
 |nil=>rfl
 |cons a l ih=>simp only[nE,kD,zl82,kF] at ih ⊢;rw[ih,h,Nat.mul_add];omega
def aaB (R:eA.D)(S:Cj R):1+((B8 R:Nat):Int)<A3:=by
 have h1:R.2.2.2.1.2.1.length≤1048576:=S.cat
 have h2:R.2.2.2.2.1.1.length≤1048576:=S.DK
 have h3:=S.BN
 have h4:=S.Aj
 unfold B8 Br Cp
 rw[HG zO 4 (fun _=>rfl),HG zN 5 (fun _=>rfl),HG zE 4 (fun _=>rfl),HG zP 6 (fun _=>rfl)]
 unfold A3
 omega
structure MarkS (R:eA.D):Prop where
 eq:Eo (R,R)=some (true,())
 mrk:q34 (R,1)=some (1+((B8 R:Nat):Int),GU R 1,())
 hd:q31 ((R.1,R.2.1,R.2.2.1,(R.2.2.2.1.1,(GU R 1).2.2.2.1.2.1,R.2.2.2.1.2.2),((GU R 1).2.2.2.2.1.1,R.2.2.2.2.1.2),(GU R 1).2.2.2.2.2.1,(GU R 1).2.2.2.2.2.2.1,R.2.2.2.2.2.2.2),1)=some (1+((B8 R:Nat):Int),())
 ng:decide (1+((B8 R:Nat):Int)<0)=false
def markS (R:eA.D)(S:Cj R):MarkS R:=
 ⟨aee R S,aho R 1 (by omega) (aaB R S) S,afz R 1 (by omega) (aaB R S) S,zdf⟩
def bneS (x:Int):(x != x)=false:=by simp
def Nd (a b:Nat):Int.tdiv (a:Int) (b:Int)=((a / b:Nat):Int):=rfl
def adz (a b:Nat):Int.tmod (a:Int) (b:Int)=((a % b:Nat):Int):=rfl
def n5 (n:Nat):Nat:=(n*1103515245+12345) % 2147483648
def HE (n:Nat):n5 n<2147483648:=Nat.mod_lt _ (by decide)
def seedW (n:Nat)(h:n<2147483648):Int.tmod (IntKind.wrap .i64 ((IntKind.wrap .i64 ((n:Int)*(1103515245:Int)))+(12345:Int))) (2147483648:Int)=((n5 n:Nat):Int):=by
 rw[wi (x:=(n:Int)*1103515245) (y:=n*1103515245) (by omega) (by omega),wi (y:=n*1103515245+12345) (by omega) (by omega)]
 exact adz _ _
def Q4 (n:Nat)(h:n<2147483648):El (n:Int)=some ((n5 n:Int),()):=by
 simp only[El,seedW n h]
def P3 (n:Nat)(h:n<2147483648):En (n:Int)=some ((n5 n:Int),()):=by
 have hd:decide ((0:Int)≤(n:Int)∧(n:Int)≤2147483647)=true:=zdt
 have w:=Al (n:Int) 0 2147483647
 simp only[En,w,zov w,hd,seedW n h,zU,isSm,aG,eF,zl70]
def Av (s n:Nat):Nat:=s / 256 % n
def Ge (s n:Nat)(h:0<n):Av s n<n:=Nat.mod_lt _ h
def neN {n:Nat}(h:0<n):((n:Int) != (0:Int))=true:=by simp;omega
def pickW (s n:Nat)(h:s<2147483648):Int.tmod (IntKind.wrap .i64 (Int.tdiv (s:Int) (256:Int))) (n:Int)=((Av s n:Nat):Int):=by
 rw[wi (x:=Int.tdiv (s:Int) 256) (y:=s / 256) (Nd s 256) (by omega)]
 exact adz _ _
def Q5 (s n:Nat)(h:s<2147483648)(hn:0<n):DM ((s:Int),(n:Int))=some ((Av s n:Int),()):=by
 simp only[DM,neN hn,pickW s n h,zU,aG,zl92]
def P4 (s n:Nat)(h:s<2147483648)(hn:0<n)(h':n≤65536):DO ((s:Int),(n:Int))=some ((Av s n:Int),()):=by
 have hd:decide ((0:Int)≤(s:Int)∧(s:Int)≤2147483647)=true:=zdt
 have hd':decide ((1:Int)≤(n:Int)∧(n:Int)≤65536)=true:=zdt
 have w:=Al (s:Int) 0 2147483647
 have w':=Al (n:Int) 1 65536
 simp only[DO,w,w',zov w,zov w',hd,hd',neN hn,pickW s n h,zU,isSm,aG,eF,zl70,zl98,zl92,zl99]
def Gc (c d:Nat):Nat:=if d≤1 then 65536 / c else 65536 / (d*(d-1))*7 / 8
def Ac (c:Nat):Nat→List Int×Nat
 |0=>([],65536)
 |i+1=>((Ac c i).1 ++ [((Min.min (Gc c (i+1)) (Ac c i).2:Nat):Int)],(Ac c i).2-Min.min (Gc c (i+1)) (Ac c i).2)
def LM (c:Nat):∀i,(Ac c i).1.length=i
 |0=>rfl
 |i+1=>by simp[Ac,LM c i]
def LL (c:Nat):∀i,(Ac c i).2≤65536
 |0=>bw _
 |i+1=>by have:=LL c i;simp only[Ac];omega
def xd (c:Nat):List Int:=(Ac c (c-1)).1 ++ [((Ac c (c-1)).2:Int)]
def C8 {x:Int}{y:Nat}(h:x=(y:Int))(hy:y≤4611686018427387904):IntKind.wrap .i64 x=(y:Int):=wi h hy
section
variable {c d:Nat}
def pw1 (_h:0<c):IntKind.wrap .i64 (Int.tdiv (65536:Int) (c:Int))=((65536 / c:Nat):Int):=
 C8 (Nd 65536 c) (mL (Nat.div_le_self _ _) (by decide))
def pw2 (h:1<d)(h':d≤24):IntKind.wrap .i64 ((d:Int)*IntKind.wrap .i64 ((d:Int)-1))=((d*(d-1):Nat):Int):=by
 have hb:d*(d-1)≤24*24:=Nat.mul_le_mul h' (by omega)
 rw[C8 (x:=(d:Int)-1) (y:=d-1) (by omega) (by omega)]
 exact C8 (by rw[Int.natCast_mul]) (by omega)
def pos2 (h:1<d):0<d*(d-1):=Nat.mul_pos (by omega) (by omega)
def pw3 (h:1<d):IntKind.wrap .i64 (Int.tdiv (65536:Int) ((d*(d-1):Nat):Int))=((65536 / (d*(d-1)):Nat):Int):=pw1 (pos2 h)
def dle (_h:1<d):65536 / (d*(d-1))≤65536:=Nat.div_le_self _ _
def pw4 (h:1<d):IntKind.wrap .i64 (Int.tdiv (IntKind.wrap .i64 (((65536 / (d*(d-1)):Nat):Int)*7)) (8:Int))=((65536 / (d*(d-1))*7 / 8:Nat):Int):=by
 have:=dle h
 rw[C8 (x:=((65536 / (d*(d-1)):Nat):Int)*7) (y:=65536 / (d*(d-1))*7) (by omega) (by omega)]
 exact C8 (Nd _ 8) (by omega)
def pw4' (h:1<d):IntKind.wrap .i64 (Int.tdiv (IntKind.wrap .i64 (7*((65536 / (d*(d-1)):Nat):Int))) (8:Int))=((65536 / (d*(d-1))*7 / 8:Nat):Int):=by
 rw[Int.mul_comm];exact pw4 h
end
def JV {n:Nat}(h:n≤1000000):decide (n+1≤eD)=true:=zl86 (by unfold eD;omega)
def M9 {l m:Nat}(h:m≤l)(h':l≤65536):IntKind.wrap .i64 ((l:Int)-(m:Int))=((l-m:Nat):Int):=C8 (by omega) (by omega)
def ajZ (c d l:Nat)(ls:List Int)(h1:1≤d)(h2:d<c)(h3:c≤24)(hl:l≤65536)(hs:ls.length≤100) :
  Hq (((d:Int),(l:Int),(),(c:Int)),ls)=some (.inl ((((d+1:Nat):Int),((l-Min.min (Gc c d) l:Nat):Int),(),(c:Int)),ls ++ [((Min.min (Gc c d) l:Nat):Int)])):=by
 have hc:((c:Int) != (0:Int))=true:=neN (by omega)
 have hls:=JV (n:=ls.length) (by omega)
 by_cases hd:1<d
 ·have e:decide ((d:Int)>1)=true:=zdt
  have ep:Gc c d=65536 / (d*(d-1))*7 / 8:=bY (by omega)
  have en:((((d*(d-1):Nat):Int)) != (0:Int))=true:=neN (pos2 hd)
  simp only[Hq,gl h2,aG,hc,zU,e,pw2 hd (by omega),pw3 hd,pw4 hd,en,zl92,hls,mb (i:=d)]
  rw[ep]
  generalize 65536 / (d*(d-1))*7 / 8=n
  by_cases h:l<n
  ·rw[zdt (p:=(n:Int)>(l:Int)),aG,show Min.min n l=l by omega,M9 (bw l) hl]
  ·rw[zdf (p:=(n:Int)>(l:Int)),eF,show Min.min n l=n by omega,M9 (by omega) hl]
 ·have e:decide ((d:Int)>1)=false:=zdf
  have ep:Gc c d=65536 / c:=bf (by omega)
  simp only[Hq,gl h2,aG,eF,hc,zU,e,pw1 (show 0<c by omega),hls,mb (i:=d)]
  rw[ep]
  generalize 65536 / c=n
  by_cases h:l<n
  ·rw[zdt (p:=(n:Int)>(l:Int)),aG,show Min.min n l=l by omega,M9 (bw l) hl]
  ·rw[zdf (p:=(n:Int)>(l:Int)),eF,show Min.min n l=n by omega,M9 (by omega) hl]
def aj1 (c:Nat)(h1:1≤c)(h2:c≤24):q55 (c:Int)=some (xd c,()):=by
 have k:=s4 (r:=Hq) (fun i=>((((i+1:Nat):Int),((Ac c i).2:Int),(),(c:Int)),(Ac c i).1)) (n:=c-1) (y:=((((Ac c (c-1)).2:Int),()),(Ac c (c-1)).1))
  (fun i hi=>by
   exact ajZ c (i+1) (Ac c i).2 (Ac c i).1 (by omega) (by omega) h2 (LL c i) (by rw[LM];omega)) (by
   have:decide (((c-1+1:Nat):Int)<(c:Int))=false:=zdf
   simp only[Hq,this,eF]) 0 (lz _)
 have k':Comes Hq ((1,65536,(),(c:Int)),[]) ((((Ac c (c-1)).2:Int),()),(Ac c (c-1)).1):=k
 have hls:=JV (n:=(Ac c (c-1)).1.length) (by rw[LM];omega)
 simp only[q55,cb k',cv k',aG,zU,hls]
 rfl
def afH (c d l:Nat)(ls:List Int)(h1:1≤d)(h2:d<c)(h3:c≤24)(hl:l≤65536)(hs:ls.length≤100) :
  Hu (((d:Int),(l:Int),(),(c:Int)),ls)=some (.inl ((((d+1:Nat):Int),((l-Min.min (Gc c d) l:Nat):Int),(),(c:Int)),ls ++ [((Min.min (Gc c d) l:Nat):Int)])):=by
 have hc:((c:Int) != (0:Int))=true:=neN (by omega)
 have hls:=JV (n:=ls.length) (by omega)
 have mn:∀n:Nat,(if(l:Int)<(n:Int) then(l:Int) else(n:Int))=((Min.min n l:Nat):Int):=by
  intro n;split<;>omega
 by_cases hd:1<d
 ·have e:decide ((d:Int)>1)=true:=zdt
  have ep:Gc c d=65536 / (d*(d-1))*7 / 8:=bY (by omega)
  have en:((((d*(d-1):Nat):Int)) != (0:Int))=true:=neN (pos2 hd)
  simp only[Hu,gl h2,aG,hc,zU,e,pw2 hd (by omega),pw3 hd,pw4' hd,en,zl92,hls,mb (i:=d),mn]
  rw[ep,M9 (by omega) hl]
 ·have e:decide ((d:Int)>1)=false:=zdf
  have ep:Gc c d=65536 / c:=bf (by omega)
  simp only[Hu,gl h2,aG,eF,hc,zU,e,pw1 (show 0<c by omega),hls,mb (i:=d),mn]
  rw[ep,M9 (by omega) hl]
def afJ (c:Nat)(h1:1≤c)(h2:c≤24):q92 (c:Int)=some (xd c,()):=by
 have k:=s4 (r:=Hu) (fun i=>((((i+1:Nat):Int),((Ac c i).2:Int),(),(c:Int)),(Ac c i).1)) (n:=c-1) (y:=((((Ac c (c-1)).2:Int),()),(Ac c (c-1)).1))
  (fun i hi=>by
   exact afH c (i+1) (Ac c i).2 (Ac c i).1 (by omega) (by omega) h2 (LL c i) (by rw[LM];omega)) (by
   have:decide (((c-1+1:Nat):Int)<(c:Int))=false:=zdf
   simp only[Hu,this,eF]) 0 (lz _)
 have k':Comes Hu ((1,65536,(),(c:Int)),[]) ((((Ac c (c-1)).2:Int),()),(Ac c (c-1)).1):=k
 have hls:=JV (n:=(Ac c (c-1)).1.length) (by rw[LM];omega)
 have hd:decide ((1:Int)≤(c:Int)∧(c:Int)≤24)=true:=zdt
 have w:=Al (c:Int) 1 24
 simp only[q92,w,zov w,hd,cb k',cv k',aG,eF,zl70,zU,isSm,hls]
 rfl
def AO (l:List Int)(i:Nat):Int:=(l.take i).sum
def RQ (l:List Int)(i:Nat)(h:i<l.length):AO l (i+1)=AO l i+l.getD i 0:=by
 rw[getD_eq _ _ _ h,AO,AO,zl88 h,List.sum_append]
 simp
def Yr (c:Nat):∀i,(Ac c i).1.sum+((Ac c i).2:Int)=65536
 |0=>by simp only[Ac,List.sum_nil];omega
 |i+1=>by
  have:=Yr c i
  have h:=LL c i
  simp only[Ac,List.sum_append,zl82,List.sum_nil]
  omega
def Yq (c:Nat):∀i,∀x∈(Ac c i).1,0≤x∧x≤65536
 |0=>by simp[Ac]
 |i+1=>by
  have h:=LL c i
  intro x hx
  simp only[Ac,bB,eH] at hx
  rcases hx with hx|hx
  ·exact Yq c i x hx
  ·omega
def Yo (c:Nat)(h:1≤c):(xd c).length=c:=by simp[xd,LM];omega
def Yp (c:Nat):(xd c).sum=65536:=by
 have:=Yr c (c-1)
 simp only[xd,List.sum_append,zl82,List.sum_nil]
 omega
def RX (c:Nat):∀x∈xd c,0≤x∧x≤65536:=by
 intro x hx
 have h:=LL c (c-1)
 simp only[xd,bB,eH] at hx
 rcases hx with hx|hx
 ·exact Yq c _ x hx
 ·omega
def VP:∀(l:List Int),(∀x∈l,0≤x)→0≤l.sum
 | [],_=>by simp
 |a::l,h=>by
  have:=VP l fun x hx=>h x (gP a hx)
  have:=h a lu
  simp only[zl82];omega
def RP (c i:Nat):0≤AO (xd c) i∧AO (xd c) i≤65536:=by
 have e:(xd c).sum=AO (xd c) i+((xd c).drop i).sum:=by rw[AO,←List.sum_append,zl68]
 have h1:=VP ((xd c).take i) fun x hx=>(RX c x (List.mem_of_mem_take hx)).1
 have h2:=VP ((xd c).drop i) fun x hx=>(RX c x (List.mem_of_mem_drop hx)).1
 rw[Yp] at e
 unfold AO at *
 omega
def ad1 (c i:Nat)(h:i<(xd c).length):0≤(xd c).getD i 0∧(xd c).getD i 0≤65536:=by
 rw[getD_eq _ _ _ h]
 exact RX c _ (zl96 h)
def NJ (c part:Nat)(j:Nat):Bool:=decide ((part:Int)<AO (xd c) (j+1))
def D4 (c part:Nat):Nat:=match first (c-1) (NJ c part) with
 |some i=>i+1
 |none=>c
def NI (c part:Nat)(h:1≤c):1≤D4 c part∧D4 c part≤c:=by
 unfold D4
 split
 ·rename_i i hi
  have:=(Bp.1 hi).1
  omega
 ·omega
def aj0 (c part:Nat)(h1:1≤c)(h2:c≤24)(hp:part<65536):q89 ((c:Int),(part:Int))=some ((D4 c part:Int),()):=by
 have hl:=Yo c h1
 have k:=D3 (r:=I5) (fun i=>((((i+1:Nat):Int),(),(part:Int)-AO (xd c) i,(c:Int)),xd c)) (n:=c-1) (p:=NJ c part)
  (yt:=fun i=>.inl (((i+1:Nat):Int),())) (yn:=.inr ((c:Int),()))
  (fun i hi hpi=>by
   have hb:=RP c i
   have hs:=RQ (xd c) i (by omega)
   have hg:=ad1 c i (by omega)
   have w:IntKind.wrap .i64 (((i+1:Nat):Int)-1)=(i:Int):=C8 (by omega) (by omega)
   have c0:decide ((part:Int)-AO (xd c) i<(xd c).getD i 0)=false:=by
    have:=zl101 hpi
    exact zdf
   have w2:IntKind.wrap .i64 ((part:Int)-AO (xd c) i-(xd c).getD i 0)=(part:Int)-AO (xd c) (i+1):=by
    rw[wrap64 (by omega) (by omega)];omega
   simp only[I5,hl,gl (show i+1<c by omega),gl (show i<c by omega),g0,aG,eF,w,zl94,zU,zl92,c0,w2,mb (i:=i+1)])
  (fun i hi hpi=>by
   have hb:=RP c i
   have hs:=RQ (xd c) i (by omega)
   have w:IntKind.wrap .i64 (((i+1:Nat):Int)-1)=(i:Int):=C8 (by omega) (by omega)
   have c0:decide ((part:Int)-AO (xd c) i<(xd c).getD i 0)=true:=by
    have:=zl79 hpi
    exact zdt
   simp only[I5,hl,gl (show i+1<c by omega),gl (show i<c by omega),g0,aG,w,zl94,zU,zl92,c0])
  (by
   have c0:decide (((c-1+1:Nat):Int)<(c:Int))=false:=zdf
   simp only[I5,hl,c0,eF])
 have e0:(part:Int)-AO (xd c) 0=part:=by simp[AO]
 simp only[e0] at k
 have k':Comes I5 ((1,(),(part:Int),(c:Int)),xd c) _:=k
 have hD:=aj1 c h1 h2
 simp only[q89,hD,zov hD,cb k',cv k',aG,zU,isSm]
 unfold D4
 cases first (c-1) (NJ c part)<;>rfl
def afI (c part:Nat)(h1:1≤c)(h2:c≤24)(hp:part<65536):q62 ((c:Int),(part:Int))=some ((D4 c part:Int),()):=by
 have hl:=Yo c h1
 have R_:AO (xd c) (c-1+1)=65536:=by
  rw[AO,zl57 (by omega),Yp]
 have step:∀i,i<c→∀b,decide ((part:Int)<AO (xd c) (i+1))=b →
   La (((i:Int),(part:Int),AO (xd c) i,(),(c:Int)),xd c)=bif b then some (.inr (.inl (((i+1:Nat):Int),()))) else some (.inl ((((i+1:Nat):Int),(part:Int),AO (xd c) (i+1),(),(c:Int)),xd c)):=by
  intro i hi b hb
  have hbd:=RP c (i+1)
  have hs:=RQ (xd c) i (by omega)
  have w2:IntKind.wrap .i64 (AO (xd c) i+(xd c).getD i 0)=AO (xd c) (i+1):=by
   rw[wrap64 (by omega) (by omega)];omega
  have hb':decide (AO (xd c) (i+1)>(part:Int))=b:=hb
  simp only[La,hl,gl hi,g0,aG,zl94,zU,zl92,w2,hb',mb (i:=i)]
 have k:=D3 (r:=La) (fun i=>(((i:Int),(part:Int),AO (xd c) i,(),(c:Int)),xd c)) (n:=c-1) (p:=NJ c part)
  (yt:=fun i=>.inl (((i+1:Nat):Int),())) (yn:=.inl ((c:Int),()))
  (fun i hi hpi=>by rw[step i (by omega) _ hpi];rfl) (fun i hi hpi=>by rw[step i (by omega) _ hpi];rfl)
  (by rw[step (c-1) (by omega) true (zl86 (by rw[R_];omega)),show c-1+1=c by omega];rfl)
 have k':Comes La ((0,(part:Int),0,(),(c:Int)),xd c) _:=k
 have hD:=afJ c h1 h2
 have hd:decide ((0:Int)≤(part:Int)∧(part:Int)≤65535)=true:=zdt
 have w:=Al (part:Int) 0 65535
 simp only[q62,w,zov w,hd,hD,zov hD,hl,cb k',cv k',aG,eF,zl70,zU,isSm]
 unfold D4
 cases first (c-1) (NJ c part)<;>rfl
def AJ (l:List Int)(n:Int):Nat:=match first l.length (fun i=>decide (n≤l.getD i 0)) with
 |some i=>i
 |none=>l.length
def LV (l:List Int)(n:Int):List Int:=l.take (AJ l n)++n::l.drop (AJ l n)
def inK_le (l:List Int)(n:Int):AJ l n≤l.length:=by
 unfold AJ
 split
 ·rename_i i hi;exact Nat.le_of_lt (Bp.1 hi).1
 ·exact bw _
def af4 (l:List Int)(n:Int):(LV l n).Perm (n::l):=by
 unfold LV
 refine List.perm_middle.trans ?_
 rw[zl68]
def af5 (l:List Int)(n:Int)(h:l.Pairwise (· ≤ ·)):(LV l n).Pairwise (· ≤ ·):=by
 have ha:∀x∈l.take (AJ l n),x<n:=by
  intro x hx
  obtain⟨i,hi,rfl⟩:=List.mem_iff_getElem.1 hx
  rw[zl3] at hi
  rw[List.getElem_take]
  have hj:decide (n≤l.getD i 0)=false:=by
   unfold AJ at hi
   split at hi
   ·rename_i k hk;exact(Bp.1 hk).2.2 i (by omega)
   ·rename_i hk;exact JI.1 hk i (by omega)
  have:=zl101 hj
  rw[getD_eq _ _ _ (by omega)] at this
  omega
 have hb:∀x∈l.drop (AJ l n),n≤x:=by
  intro x hx
  have hlt:AJ l n<l.length:=by
   have:=List.length_pos_of_mem hx
   simp at this;omega
  have h0:n≤l[AJ l n]:=by
   have:first l.length (fun i=>decide (n≤l.getD i 0))=some (AJ l n):=by
    unfold AJ at hlt ⊢
    split
    ·assumption
    ·rename_i hk;rw[hk] at hlt;simp at hlt
   have:=zl79 (Bp.1 this).2.1
   rw[getD_eq _ _ _ hlt] at this
   exact this
  obtain⟨j,hj,rfl⟩:=List.mem_iff_getElem.1 hx
  rw[List.getElem_drop]
  rw[zl4] at hj
  rcases zl83 j with rfl|hj0
  ·simpa using h0
  ·have:=List.pairwise_iff_getElem.1 h (AJ l n) (AJ l n+j) hlt (by omega) (by omega)
   omega
 unfold LV
 rw[List.pairwise_append]
 have hs:=h
 rw[←zl68 (AJ l n) l,List.pairwise_append] at hs
 refine⟨hs.1,?_,?_⟩
 ·rw[List.pairwise_cons];exact⟨hb,hs.2.1⟩
 ·intro x hx y hy
  rcases aX.1 hy with rfl|hy
  ·exact Int.le_of_lt (ha x hx)
  ·exact hs.2.2 x hx y hy
def aj4 (l:List Int)(n:Int)(hl:l.length≤1000):Iz (l,n)=some (LV l n,()):=by
 have step:∀i,i<l.length→∀b,decide (n≤l.getD i 0)=b→Hf (((i:Int),l,n),())=bif b then some (.inr (((i:Int),l,n),())) else some (.inl ((((i+1:Nat):Int),l,n),())):=by
  intro i hi b hb
  have hb':decide (l.getD i 0<n) = !b:=by
   rw[←hb]
   by_cases h:n≤l.getD i 0
   ·rw[zl86 h,zdf];rfl
   ·rw[zl90 h,zdt];rfl
  cases b<;>simp only[Hf,gl hi,g0,zl94,aG,eF,hb',zU,zl70,zl98,zl99,zl92,mb (i:=i)]
 have k:=D3 (r:=Hf) (fun i=>(((i:Int),l,n),())) (n:=l.length) (p:=fun i=>decide (n≤l.getD i 0))
  (yt:=fun i=>(((i:Int),l,n),())) (yn:=(((l.length:Int),l,n),()))
  (fun i hi hp=>by rw[step i hi _ hp];rfl) (fun i hi hp=>by rw[step i hi _ hp];rfl)
  (by
   have c0:decide ((l.length:Int)<(l.length:Int))=false:=zdf
   simp only[Hf,c0,eF,zU,zl98,zl76,zl92,aG])
 have k2:Comes Hf ((((0:Nat):Int),l,n),()) (((AJ l n:Int),l,n),()):=by
  unfold AJ
  cases hf:first l.length (fun i=>decide (n≤l.getD i 0))<;>rw[hf] at k<;>exact k
 have k':Comes Hf ((0,l,n),()) _:=k2
 have hk:=inK_le l n
 have t1:Int.toNat ((AJ l n:Int)-0)=AJ l n:=by omega
 have t2:List.take (Int.toNat ((l.length:Int)-(AJ l n:Int))) (List.drop (AJ l n) l)=List.drop (AJ l n) l:=zl57 (by rw[zl4];omega)
 have b1:decide ((l.take (AJ l n)).length+1+(l.drop (AJ l n)).length≤eD)=true:=zl86 (by rw[zl3,zl4];unfold eD;omega)
 have b2:decide ((AJ l n:Int)≤(l.length:Int))=true:=zdt
 have b3:decide ((l.take (AJ l n)).length+1≤eD)=true:=zl86 (by rw[zl3];unfold eD;omega)
 have b4:decide ((0:Nat)+(l.take (AJ l n)).length≤eD)=true:=zl86 (by rw[zl3];unfold eD;omega)
 have b5:decide ((l.length:Int)≤(l.length:Int))=true:=zdt
 simp only[Iz,cb k',cv k',aG,t1,zl94,Int.toNat_zero,zl84,t2,zl17,cK,kF,nQ,jE,g0,b1,b2,b3,b5,zU,zl92]
 have b4':decide ((l.take (AJ l n)).length≤eD)=true:=zl86 (by rw[zl3];unfold eD;omega)
 simp only[b4',zl92,aG,bX,zl104]
 rfl
def gM (n:Nat):List Int:=(List.range n).map fun(i:Nat)=>(i:Int)
def Jd (n:Nat):(gM n).length=n:=by simp[gM]
def ac0 (n:Nat):gM (n+1)=gM n ++ [(n:Int)]:=by simp[gM,List.range_succ]
def ajG {n:Nat}{x:Int}:x∈gM n↔0≤x∧x<n:=by
 simp only[gM,eV,List.mem_range]
 constructor
 ·rintro⟨i,hi,rfl⟩;omega
 ·rintro⟨h0,h1⟩;exact⟨x.toNat,by omega,by omega⟩
def ajH (n:Nat):(gM n).Nodup:=by
 unfold gM
 rw[List.Nodup,List.pairwise_map]
 exact(List.nodup_range (n:=n)).imp fun h h'=>h (by omega)
def aeh (l:List Int)(k:Nat)(h:k<l.length):(l[k]::l.eraseIdx k).Perm l:=by
 rw[zl112]
 refine(List.perm_middle (l₁:=l.take k)).symm.trans ?_
 rw[←zl109 h,zl68]
def dr (s0:Nat)(l0:List Int):Nat→Nat×List Int×List Int
 |0=>(s0,l0,[])
 |i+1=>(n5 (dr s0 l0 i).1,(dr s0 l0 i).2.1.eraseIdx (Av (n5 (dr s0 l0 i).1) (dr s0 l0 i).2.1.length),
  (dr s0 l0 i).2.2 ++ [(dr s0 l0 i).2.1.getD (Av (n5 (dr s0 l0 i).1) (dr s0 l0 i).2.1.length) 0])
def Fo (s0:Nat)(l0:List Int):Nat→List Int
 |0=>[]
 |i+1=>LV (Fo s0 l0 i) ((dr s0 l0 i).2.1.getD (Av (n5 (dr s0 l0 i).1) (dr s0 l0 i).2.1.length) 0)
section
variable (s0:Nat) (l0:List Int)
def Yt (h:s0<2147483648):∀i,(dr s0 l0 i).1<2147483648
 |0=>h
 |_i+1=>HE _
def PF:∀i,i≤l0.length→(dr s0 l0 i).2.1.length=l0.length-i
 |0,_=>rfl
 |i+1,h=>by
  have ih:=PF i (by omega)
  have:=Ge (n5 (dr s0 l0 i).1) (dr s0 l0 i).2.1.length (by omega)
  simp only[dr]
  rw[zl113 this,ih]
  omega
def PG:∀i,(dr s0 l0 i).2.2.length=i
 |0=>rfl
 |i+1=>by simp[dr,PG i]
def RY:∀i,i≤l0.length→((dr s0 l0 i).2.2++(dr s0 l0 i).2.1).Perm l0
 |0,_=>List.Perm.refl _
 |i+1,h=>by
  have ih:=RY i (by omega)
  have hl:=PF s0 l0 i (by omega)
  have:=Ge (n5 (dr s0 l0 i).1) (dr s0 l0 i).2.1.length (by omega)
  refine List.Perm.trans ?_ ih
  simp only[dr]
  rw[bX,zl104,getD_eq _ _ _ this]
  exact List.Perm.append_left _ (aeh _ _ this)
def NT:∀i,(Fo s0 l0 i).Perm (dr s0 l0 i).2.2
 |0=>List.Perm.refl _
 |i+1=>by
  simp only[Fo,dr]
  refine(af4 _ _).trans ?_
  refine((NT i).cons _).trans ?_
  exact l6 (l₁:=[_])
def Sf:∀i,(Fo s0 l0 i).Pairwise (· ≤ ·)
 |0=>List.Pairwise.nil
 |i+1=>af5 _ _ (Sf i)
def Zt (i:Nat):(Fo s0 l0 i).length=i:=by rw[(NT s0 l0 i).length_eq,PG]
end
def ajU (s0:Nat)(l0:List Int)(i:Nat):(dr s0 l0 i).2.2.mergeSort (fun a b=>decide (a≤b))=Fo s0 l0 i:=by
 refine List.Perm.eq_of_pairwise (le:=(· ≤ ·)) (fun a b _ _ h1 h2=>Int.le_antisymm h1 h2) ?_ (Sf s0 l0 i) ((List.mergeSort_perm _ _).trans (NT s0 l0 i).symm)
 have:=List.pairwise_mergeSort (le:=fun(a b:Int)=>decide (a≤b)) (fun a b c h1 h2=>by simp at *;omega) (fun a b=>by simp;omega) (dr s0 l0 i).2.2
 exact this.imp fun h=>by simpa using h
def E9 (c seed:Nat):List Int:=Fo (n5 (n5 seed)) (gM c) (D4 c (Av (n5 (n5 seed)) 65536))
def ajM {c seed:Nat}(h:1≤c){x:Int}(hx:x∈E9 c seed):0≤x∧x<c:=by
 have h1:=(NT _ _ _).subset hx
 have h2:=(RY (n5 (n5 seed)) (gM c) (D4 c (Av (n5 (n5 seed)) 65536)) (by rw[Jd];exact(NI c _ h).2)).subset (dX _ h1)
 exact ajG.1 h2
def ajK {c seed:Nat}(h:1≤c):(E9 c seed).Pairwise (· < ·):=by
 have h2:=RY (n5 (n5 seed)) (gM c) (D4 c (Av (n5 (n5 seed)) 65536)) (by rw[Jd];exact(NI c _ h).2)
 have h3:(dr (n5 (n5 seed)) (gM c) (D4 c (Av (n5 (n5 seed)) 65536))).2.2.Nodup:=(cM.1 (h2.symm.nodup (ajH c))).1
 have h4:(E9 c seed).Nodup:=(NT _ _ _).symm.nodup h3
 exact(List.pairwise_and_iff.2 ⟨Sf _ _ _,h4⟩).imp fun⟨h1,h2⟩=>by omega
def ajL {c seed:Nat}(h:1≤c):1≤(E9 c seed).length∧(E9 c seed).length≤c:=by
 unfold E9;rw[Zt];exact NI c _ h
def aj_ (i d s S K:Nat)(L I J:List Int)(x:Int)(hi:i<d)(hd:d≤24)(e2:El (s:Int)=some ((S:Int),()))(e3:DM ((S:Int),(L.length:Int))=some ((K:Int),()))(e4:K<L.length)(hL':L.length≤24)
  (hx:L.getD K 0=x) (e5:Iz (I,x)=some (J,())) :
  IM (((i:Int),(),(),(s:Int),(d:Int)),L,I)=some (.inl ((((i+1:Nat):Int),(),(),(S:Int),(d:Int)),L.eraseIdx K,J)):=by
 have t2:List.take (Int.toNat ((L.length:Int)-((K+1:Nat):Int))) (List.drop (K+1) L)=List.drop (K+1) L:=zl57 (by rw[zl4];omega)
 have t1:Int.toNat ((K:Int)-0)=K:=by omega
 have b1:decide ((L.take K).length+(L.drop (K+1)).length≤eD)=true:=zl86 (by rw[zl3,zl4];unfold eD;omega)
 have b2:decide (((K+1:Nat):Int)≤(L.length:Int))=true:=zdt
 have b3:decide ((0:Nat)+(L.take K).length≤eD)=true:=zl86 (by rw[zl3];unfold eD;omega)
 have b5:decide ((L.length:Int)≤(L.length:Int))=true:=zdt
 have b6:decide ((K:Int)≤(L.length:Int))=true:=zdt
 have w1:IntKind.wrap .i64 ((K:Int)+1)=((K+1:Nat):Int):=zX (by omega)
 have w2:IntKind.wrap .i64 ((i:Int)+1)=((i+1:Nat):Int):=zX (by omega)
 have c4:=gl e4
 simp only[IM,gl hi,e2,zov e2,e3,zov e3,zl94,hx,e5,zov e5,w9,g0,c4,t1,w1,t2,Int.toNat_zero,zl84,zl17,b1,b2,b3,b5,b6,w2,zl112]
def aj9 (c seed:Nat)(h1:1≤c)(h2:c≤24)(hs:seed<2147483648):KP ((c:Int),(seed:Int))=some (E9 c seed,()):=by
 have n1:=Q4 seed hs
 have n2:=Q4 (n5 seed) (HE _)
 have sl:=HE (n5 seed)
 have p1:DM ((n5 (n5 seed):Int),65536)=some ((Av (n5 (n5 seed)) 65536:Int),()):=Q5 _ 65536 sl (by decide)
 have dg:=aj0 c (Av (n5 (n5 seed)) 65536) h1 h2 (Ge _ _ (by decide))
 have dl:=(NI c (Av (n5 (n5 seed)) 65536) h1).2
 unfold E9
 generalize D4 c (Av (n5 (n5 seed)) 65536)=d at *
 generalize Av (n5 (n5 seed)) 65536=pk at *
 generalize n5 (n5 seed)=s0 at *
 generalize n5 seed=s1 at *
 have k:=s4 (r:=KQ) (fun i=>(((i:Int),(),(s0:Int),(d:Int),(c:Int)),gM i)) (n:=c) (y:=(((),(s0:Int),(d:Int)),gM c)) (fun i hi=>by
  have hm:=JV (n:=(gM i).length) (by rw[Jd];omega)
  simp only[KQ,gl hi,aG,hm,zU,mb (i:=i),←ac0]) (by
  have c0:decide ((c:Int)<(c:Int))=false:=zdf
  simp only[KQ,c0,eF]) 0 (lz _)
 have k':Comes KQ ((0,(),(s0:Int),(d:Int),(c:Int)),[]) _:=k
 have q:=s4 (r:=IM) (fun i=>(((i:Int),(),(),((dr (s0) (gM c) i).1:Int),(d:Int)),(dr (s0) (gM c) i).2.1,Fo (s0) (gM c) i)) (n:=d)
  (y:=((),Fo (s0) (gM c) d)) (fun i hi=>by
  have hl:=PF s0 (gM c) i (by rw[Jd];omega)
  rw[Jd] at hl
  have e4:=Ge (n5 (dr s0 (gM c) i).1) (dr s0 (gM c) i).2.1.length (by omega)
  exact aj_ i d (dr s0 (gM c) i).1 _ _ (dr s0 (gM c) i).2.1 (Fo s0 (gM c) i) _ _ hi (by omega) (Q4 _ (Yt s0 (gM c) sl i)) (Q5 _ _ (HE _) (by omega)) e4 (by omega) rfl (aj4 _ _ (by rw[Zt];omega))) (by
  have c0:decide ((d:Int)<(d:Int))=false:=zdf
  simp only[IM,c0,eF]) 0 (lz _)
 have q':Comes IM ((0,(),(),(s0:Int),(d:Int)),gM c,[]) _:=q
 simp only[KP,n1,zov n1,n2,zov n2,p1,zov p1,dg,zov dg,w9,cb k',cv k',cb q',cv q']
def ad2 (L:List Int)(K:Nat)(h:K<L.length)(_hl:L.length≤1000):q12 (L,(K:Int),((K+1:Nat):Int))=some (L.eraseIdx K,()):=by
 have t2:List.take (Int.toNat ((L.length:Int)-((K+1:Nat):Int))) (List.drop (K+1) L)=List.drop (K+1) L:=zl57 (by rw[zl4];omega)
 have t1:Int.toNat ((K:Int)-0)=K:=by omega
 have b2:decide (((K+1:Nat):Int)≤(L.length:Int))=true:=zdt
 have b5:decide ((L.length:Int)≤(L.length:Int))=true:=zdt
 have b6:decide ((K:Int)≤(L.length:Int))=true:=zdt
 have b7:decide ((K:Int)≤((K+1:Nat):Int))=true:=zdt
 have b8:((K:Int)==((K+1:Nat):Int))=false:=zl89.2 (by omega)
 have hd:(L.drop (K+1)).length=L.length-(K+1):=zl4
 have b9:decide (0+K+(L.length-(K+1))≤L.length)=true:=zdt
 have b10:decide (((K+(L.length-(K+1)):Nat):Int)≤(L.length:Int))=true:=zdt
 have hlen:(L.take (0+K)++(L.drop (K+1)++L.drop (0+K+(L.length-(K+1))))).length=L.length:=by
  simp only[cK,zl3,zl4];omega
 have b11:decide (((0:Nat):Int)+(L.length:Int)≤(L.length:Int))=true:=zdt
 simp only[q12,g0,b7,b2,b5,zU,zl92,aG,b8,eF,t1,zl94,Int.toNat_zero,t2,hd,b9,b6,b10,hlen,b11]
 congr 2
 rw[zl112,zl110 (by rw[zl3,hlen];omega),List.take_take,jE,jE,Nat.min_self]
 rw[←bX,zl110 (by rw[cK,zl3,zl4];omega),zl57 (by rw[cK,zl3,zl4];omega)]
def afQ (i d s S K:Nat)(L I:List Int)(x:Int)(hi:i<d)(hd:d≤24)(e2:En (s:Int)=some ((S:Int),()))(e3:DO ((S:Int),(L.length:Int))=some ((K:Int),()))(e4:K<L.length)(hL':L.length≤24)
  (hx:L.getD K 0=x) (hI:I.length≤1000) :
  Il (((i:Int),(),(),(s:Int),(d:Int)),L,I)=some (.inl ((((i+1:Nat):Int),(),(),(S:Int),(d:Int)),L.eraseIdx K,I ++ [x])):=by
 have w1:IntKind.wrap .i64 ((K:Int)+1)=((K+1:Nat):Int):=zX (by omega)
 have w2:IntKind.wrap .i64 ((i:Int)+1)=((i+1:Nat):Int):=zX (by omega)
 have e5:=ad2 _ _ e4 (by omega)
 have hm:=JV (n:=I.length) (by omega)
 have c4:=gl e4
 simp only[Il,gl hi,e2,zov e2,e3,zov e3,zl94,hx,w9,g0,c4,hm,w1,e5,zov e5,w2]
def Zj (c seed:Nat)(h1:1≤c)(h2:c≤24)(hs:seed<2147483648):Fz ((c:Int),(seed:Int))=some (E9 c seed,()):=by
 have n1:=P3 seed hs
 have n2:=P3 (n5 seed) (HE _)
 have sl:=HE (n5 seed)
 have p1:DO ((n5 (n5 seed):Int),65536)=some ((Av (n5 (n5 seed)) 65536:Int),()):=P4 _ 65536 sl (by decide) (by decide)
 have dg:=afI c (Av (n5 (n5 seed)) 65536) h1 h2 (Ge _ _ (by decide))
 have dl:=(NI c (Av (n5 (n5 seed)) 65536) h1).2
 unfold E9
 generalize D4 c (Av (n5 (n5 seed)) 65536)=d at *
 generalize Av (n5 (n5 seed)) 65536=pk at *
 generalize n5 (n5 seed)=s0 at *
 generalize n5 seed=s1 at *
 have k:=s4 (r:=Kc) (fun i=>(((i:Int),(),(),(s0:Int),(c:Int),(c:Int)),gM i,[])) (n:=c) (y:=(((),(),(s0:Int),(c:Int)),gM c,[])) (fun i hi=>by
  have hm:=JV (n:=(gM i).length) (by rw[Jd];omega)
  simp only[Kc,gl hi,aG,hm,zU,mb (i:=i),←ac0]) (by
  have c0:decide ((c:Int)<(c:Int))=false:=zdf
  simp only[Kc,c0,eF]) 0 (lz _)
 have k':Comes Kc ((0,(),(),(s0:Int),(c:Int),(c:Int)),[],[]) _:=k
 have q:=s4 (r:=Il) (fun i=>(((i:Int),(),(),((dr (s0) (gM c) i).1:Int),(d:Int)),(dr (s0) (gM c) i).2.1,(dr (s0) (gM c) i).2.2)) (n:=d)
  (y:=((),(dr (s0) (gM c) d).2.2)) (fun i hi=>by
  have hl:=PF s0 (gM c) i (by rw[Jd];omega)
  rw[Jd] at hl
  have e4:=Ge (n5 (dr s0 (gM c) i).1) (dr s0 (gM c) i).2.1.length (by omega)
  exact afQ i d (dr s0 (gM c) i).1 _ _ (dr s0 (gM c) i).2.1 (dr s0 (gM c) i).2.2 _ hi (by omega) (P3 _ (Yt s0 (gM c) sl i)) (P4 _ _ (HE _) (by omega) (by omega)) e4 (by omega) rfl (by rw[PG];omega)) (by
  have c0:decide ((d:Int)<(d:Int))=false:=zdf
  simp only[Il,c0,eF]) 0 (lz _)
 have q':Comes Il ((0,(),(),(s0:Int),(d:Int)),gM c,[]) _:=q
 have hd1:decide ((1:Int)≤(c:Int)∧(c:Int)≤24)=true:=zdt
 have j7:decide ((0:Int)≤(seed:Int)∧(seed:Int)≤2147483647)=true:=zdt
 have w1:=Al (c:Int) 1 24
 have w2:=Al (seed:Int) 0 2147483647
 have so:Wh.slices_Sort_int (dr (s0) (gM c) d).2.2=some ((),Fo (s0) (gM c) d,()):=by
  unfold Wh.slices_Sort_int
  rw[ajU,zl86 (by rw[PG];omega)]
  rfl
 simp only[Fz,w1,w2,zov w1,zov w2,hd1,j7,zl70,zl98,zl99,eF,n1,zov n1,n2,zov n2,p1,zov p1,dg,zov dg,w9,cb k',cv k',cb q',cv q',so,zov so]
def afp (L:Nat)(hL:L≤300):∀d s:Nat,s+d=13→1≤s→∃s':Nat,1≤s'∧s'≤13∧(L+s'-1) / s'≤24∧Comes Em (((),()),((L:Int),(s:Int),(),(),()),((0:Int),(0:Int),(),(),()),[],[],[],[]) (((),()),((0:Int),(0:Int),(),(),()),((L:Int),(s':Int),(),(),()),[],[],[],[]):=by
 intro d
 induction d with
 |zero=>
  intro s h1 h2
  have:s=13:=by omega
  subst this
  refine⟨13,by omega,by omega,by omega,.out ?_⟩
  have a:=count_eq (L:Int) ((13:Nat):Int) [] [] () (by omega)
  rw[NC L 13 (by omega) (by omega) (by omega)] at a
  have c1:decide ((((L+13-1) / 13:Nat):Int)>24)=false:=zdf
  simp only[Em,a,zov a,c1,isSm,zU,aG,eF]
 |succ d ih=>
  intro s h1 h2
  have a:=count_eq (L:Int) (s:Int) [] [] () (by omega)
  cases hc:decide (C_ (L:Int) (s:Int)>24) with
  |true=>
   obtain⟨s',g1,g2,g0,g3⟩:=ih (s+1) (by omega) (by omega)
   refine⟨s',g1,g2,g0,.again ?_ g3⟩
   simp only[Em,a,zov a,hc,isSm,zU,aG,mb (i:=s)]
  |false=>
   refine⟨s,by omega,by omega,by
    have:=zl101 hc
    rw[NC L s (by omega) (by omega) (by omega)] at this
    generalize (L+s-1) / s=q at *
    omega,.out ?_⟩
   simp only[Em,a,zov a,hc,isSm,zU,aG,eF]
def AU (L s c:Nat):gv.D:=bif decide ((c+3) / 4<c) then((L:Int),(s:Int),[(((c+3) / 4:Nat):Int),(c:Int)],[(2:Int),(3:Int)],()) else((L:Int),(s:Int),[(c:Int)],[(1:Int)],())
def ahL (L:Nat)(h1:1≤L)(hL:L≤300):∃s c:Nat,1≤s∧s≤13∧(L+s-1) / s=c∧1≤c∧c≤24∧Cb (L:Int)=some (AU L s c,())∧C6 (L:Int)=some (AU L s c,()):=by
 obtain⟨s,g1,g2,g0,g3⟩:=afp L hL 5 8 (by omega) (by omega)
 have hc1:1≤(L+s-1) / s:=Nat.div_pos (by omega) (by omega)
 have hcv:=NC L s (by omega) (by omega) (by omega)
 refine⟨s,(L+s-1) / s,g1,g2,rfl,hc1,g0,?_⟩
 generalize (L+s-1) / s=c at *
 have g3':Comes Em (((),()),((L:Int),(8:Int),(),(),()),((0:Int),(0:Int),(),(),()),[],[],[],[]) _:=g3
 have g4:Comes OM (((),()),((L:Int),(8:Int),(),(),()),((0:Int),(0:Int),(),(),()),[],[],[],[]) _:=g3
 have a:=count_eq (L:Int) (s:Int) [] [] () (by omega)
 rw[hcv] at a
 have wi1:mw (L:Int) 1 300=true:=zdt
 have w4:IntKind.wrap .i64 (Int.tdiv (IntKind.wrap .i64 ((c:Int)+3)) 4)=(((c+3) / 4:Nat):Int):=by
  rw[C8 (x:=(c:Int)+3) (y:=c+3) (by omega) (by omega)]
  exact C8 (Nd (c+3) 4) (by omega)
 have hk':decide (((((c+3) / 4:Nat)):Int)<(c:Int))=decide ((c+3) / 4<c):=by
  by_cases h:(c+3) / 4<c
  ·rw[zl86 h,zdt]
  ·rw[zl90 h,zdf]
 unfold AU
 cases hk:decide ((c+3) / 4<c) with
 |true=>
  rw[hk] at hk'
  refine⟨?_,?_⟩
  ·simp only[Cb,cb g3',cv g3',aG,a,zov a,w4,hk',isSm,zU]
  ·simp only[C6,AD,zov (AD _ _ _),wi1,cb g4,cv g4,aG,eF,zl70,PB,a,zov a,w4,hk',isSm,zU]
 |false=>
  rw[hk] at hk'
  refine⟨?_,?_⟩
  ·simp only[Cb,cb g3',cv g3',aG,a,zov a,w4,hk',isSm,zU,eF]
  ·simp only[C6,AD,zov (AD _ _ _),wi1,cb g4,cv g4,aG,eF,zl70,PB,a,zov a,w4,hk',isSm,zU]
end Pl
open Go Go.Ab
namespace Pc
def wrap64 {n:Int}(h1: -9223372036854775808≤n)(h2:n≤9223372036854775807):IntKind.wrap .i64 n=n:=by
 simp[IntKind.wrap,IntKind.signed,IntKind.bits]
 omega
def s4 {X Y:Type}{r:X→Option (X⊕Y)}(st:Nat→X){n:Nat}{y:Y}(hs:∀i,i<n→r (st i)=some (.inl (st (i+1))))(he:r (st n)=some (.inr y)):∀k,k≤n→Comes r (st k) y:=by
 intro k hk
 have:∀d k,k+d=n→Comes r (st k) y:=by
  intro d
  induction d with
  |zero=>intro k hk;have:k=n:=by omega
         subst this;exact .out he
  |succ d ih=>intro k hk;exact .again (hs k (by omega)) (ih (k+1) (by omega))
 exact this (n-k) k (by omega)
def cb {X Y:Type}{r:X→Option (X⊕Y)}{x:X}{y:Y}(h:Comes r x y):pY r x=true:=(h.is (y0:=y)).1
def cv {X Y:Type}{r:X→Option (X⊕Y)}{x:X}{y:Y}(h:Comes r x y)(y0:Y):oa r y0 x=y:=h.is.2
def Ag {α:Type}(x:α):isSm (some x)=true:=rfl
def getD_eq {α:Type}(l:List α)(i:Nat)(z:α)(h:i<l.length):l.getD i z=l[i]:=by simp[h]
def F6 (n lo hi:Int):r_ (n,lo,hi)=some (decide (lo≤n∧n≤hi),()):=by
 by_cases h:lo≤n<;>simp[r_,h]
def Al (n lo hi:Int):gz (n,lo,hi)=some (decide (lo≤n∧n≤hi),()):=by
 by_cases h:lo≤n<;>simp[gz,h]
def xb:Nat→(Nat→Bool)→Bool
 |0,_=>true
 |n+1,p=>xb n p&&p n
def BA {p:Nat→Bool}:∀{n:Nat},xb n p=true↔∀i,i<n→p i=true
 |0=>by simp[xb]
 |n+1=>by
  rw[xb,aF,BA]
  constructor
  ·rintro⟨h1,h2⟩ i hi
   by_cases e:i=n
   ·subst e;exact h2
   ·exact h1 i (by omega)
  ·intro h
   exact⟨fun i hi=>h i (by omega),h n (by omega)⟩
def CA {X Y:Type}{r:X→Option (X⊕Y)}(st:Nat→X){n:Nat}{p:Nat→Bool}{yf yt:Y}(hs:∀i,i<n→(∀j,j<i→p j=true)→p i=true→r (st i)=some (.inl (st (i+1))))
  (hf:∀i,i<n→(∀j,j<i→p j=true)→p i=false→r (st i)=some (.inr yf)) (he:r (st n)=some (.inr yt)):Comes r (st 0) (if xb n p=true then yt else yf):=by
 have main:∀d k,k+d=n→(∀j,j<k→p j=true)→Comes r (st k) (if xb n p=true then yt else yf):=by
  intro d
  induction d with
  |zero=>
   intro k hk hp
   have:k=n:=by omega
   subst this
   rw[bf (BA.2 hp)]
   exact .out he
  |succ d ih=>
   intro k hk hp
   cases hpk:p k with
   |true=>
    refine .again (hs k (by omega) hp hpk) (ih (k+1) (by omega) fun j hj=>?_)
    by_cases e:j=k
    ·subst e;exact hpk
    ·exact hp j (by omega)
   |false=>
    have:¬xb n p=true:=by
     intro h
     have:=BA.1 h k (by omega)
     rw[hpk] at this;cases this
    rw[bY this]
    exact .out (hf k (by omega) hp hpk)
 exact main n 0 (by omega) (fun j hj=>by omega)
def zX {i:Nat}(h:i≤4611686018427387904):IntKind.wrap .i64 ((i:Int)+1)=((i+1:Nat):Int):=by rw[wrap64]<;>omega
def Np {i:Nat}(h:i≤4611686018427387904):IntKind.wrap .i64 ((i:Int)-1)=(i:Int)-1:=by rw[wrap64]<;>omega
def wrap1:IntKind.wrap .i64 1=1:=by decide
def cnt (p:gv.D):Int:=(p.1+p.2.1-1).tdiv p.2.1
def Yg (p:gv.D)(h1:1≤p.1∧p.1≤300)(h2:1≤p.2.1∧p.2.1≤16):1≤cnt p∧cnt p≤400:=by
 unfold cnt
 rw[zl91 (by omega)]
 constructor
 ·exact(Int.le_ediv_iff_mul_le (by omega)).2 (by omega)
 ·have:(p.1+p.2.1-1) / p.2.1≤(p.1+p.2.1-1):=Int.ediv_le_self _ (by omega)
  omega
def Zp (p:gv.D)(h1:1≤p.1∧p.1≤300)(h2:1≤p.2.1∧p.2.1≤16):BH p=some (cnt p,()):=by
 have hb:=Yg p h1 h2
 have e1:IntKind.wrap .i64 (p.1+p.2.1)=p.1+p.2.1:=by rw[wrap64]<;>omega
 have e2:IntKind.wrap .i64 (p.1+p.2.1-1)=p.1+p.2.1-1:=by rw[wrap64]<;>omega
 have e3:IntKind.wrap .i64 ((p.1+p.2.1-1).tdiv p.2.1)=(p.1+p.2.1-1).tdiv p.2.1:=by unfold cnt at hb;rw[wrap64]<;>omega
 have hz:(p.2.1 != 0)=true:=by simp;omega
 simp[BH,e1,e2,e3,zU,cnt,hz]
def Ka (p:gv.D)(i:Nat):Bool:=
 decide (1≤p.2.2.1.getD i 0∧p.2.2.1.getD i 0≤cnt p)&&(decide (i=0) || decide (p.2.2.1.getD (i-1) 0<p.2.2.1.getD i 0))&&decide (1≤p.2.2.2.1.getD i 0∧p.2.2.2.1.getD i 0≤99)
def EX (p:gv.D):Bool:=decide (1≤p.1∧p.1≤300)&&decide (1≤p.2.1∧p.2.1≤16)&&decide (cnt p≤24)&&decide (1≤p.2.2.1.length∧p.2.2.1.length≤3)&&decide (p.2.2.2.1.length=p.2.2.1.length)
def EY (p:gv.D):Bool:=EX p&&xb p.2.2.1.length (Ka p)&&decide (p.2.2.1.getD (p.2.2.1.length-1) 0=cnt p)
def afY (p:gv.D)(h:EX p=true):Comes FA (((0:Int),(),p.2.2.1,(p.2.2.1.length:Int)),p) (if xb p.2.2.1.length (Ka p)=true then .inr ((),()) else .inl (false,())):=by
 simp only[EX,aF,gQ] at h
 obtain⟨⟨⟨⟨a1,a2⟩,a3⟩,a4⟩,a5⟩:=h
 have hc:=Zp p a1 a2
 refine CA (fun i=>(((i:Int),(),p.2.2.1,(p.2.2.1.length:Int)),p)) ?_ ?_ ?_
 ·intro i hi _ hp
  have hi2:i<p.2.2.2.1.length:=by omega
  have e0:p.2.2.1.getD i 0=p.2.2.1[i]:=by simp[hi]
  have e1:p.2.2.2.1.getD i 0=p.2.2.2.1[i]:=by simp[hi2]
  simp only[Ka,aF,kE,gQ,e0,e1] at hp
  obtain⟨⟨hp1,hp2⟩,hp3⟩:=hp
  have h3:=zX (i:=i) (by omega)
  have h5:=Np (i:=i) (by omega)
  by_cases hz:i=0
  ·subst hz
   simp[FA,hi,hi2,zU,wrap1,zog,zog,hc,Al,isSm,hp1,hp3]
  ·have h6:(0:Int)<i:=by omega
   have h8:((i:Int)-1).toNat=i-1:=by omega
   have h10:i-1<p.2.2.1.length:=by omega
   have h9:¬p.2.2.1[i]≤p.2.2.1[i-1]:=by
    have:p.2.2.1.getD (i-1) 0=p.2.2.1[i-1]:=by simp[h10]
    have:=hp2.resolve_left hz
    omega
   have h11:(0:Int)≤(i:Int)-1:=by omega
   have h12:(i:Int)-1<p.2.2.1.length:=by omega
   have h13:(1:Int)≤i:=by omega
   simp[FA,hi,hi2,zU,h3,h5,h8,h9,h10,h12,h13,zog,zog,hc,Al,isSm,hp1,hp3,show 0<i by omega]
 ·intro i hi _ hp
  have hi2:i<p.2.2.2.1.length:=by omega
  have e0:p.2.2.1.getD i 0=p.2.2.1[i]:=by simp[hi]
  have e1:p.2.2.2.1.getD i 0=p.2.2.2.1[i]:=by simp[hi2]
  simp only[Ka,zl81,jD,zl97,e0,e1] at hp
  have h5:=Np (i:=i) (by omega)
  by_cases hp1:1≤p.2.2.1[i]∧p.2.2.1[i]≤cnt p
  ·by_cases hz:i=0
   ·subst hz
    have hp3:¬((1:Int)≤p.2.2.2.1[0]∧p.2.2.2.1[0]≤(99:Int)):=by
     rcases hp with(hp|hp)|hp
     ·exact absurd hp1 hp
     ·exact absurd rfl hp.1
     ·exact hp
    simp[FA,hi,hi2,zU,zog,zog,hc,Al,isSm,hp1,hp3]
   ·have h6:(0:Int)<i:=by omega
    have h8:((i:Int)-1).toNat=i-1:=by omega
    have h10:i-1<p.2.2.1.length:=by omega
    have e2:p.2.2.1.getD (i-1) 0=p.2.2.1[i-1]:=by simp[h10]
    rw[e2] at hp
    have h11:(0:Int)≤(i:Int)-1:=by omega
    have h12:(i:Int)-1<p.2.2.1.length:=by omega
    have h13:(1:Int)≤i:=by omega
    by_cases h9:p.2.2.1[i]≤p.2.2.1[i-1]
    ·simp[FA,hi,zU,h5,h8,h9,h10,h12,h13,zog,zog,hc,Al,isSm,hp1,show 0<i by omega]
    ·have hp3:¬(1≤p.2.2.2.1[i]∧p.2.2.2.1[i]≤99):=by
      rcases hp with(hp|hp)|hp
      ·exact absurd hp1 hp
      ·exact absurd hp.2 (by omega)
      ·exact hp
     simp[FA,hi,hi2,zU,h5,h8,h9,h10,h12,h13,zog,zog,hc,Al,isSm,hp1,hp3,show 0<i by omega]
  ·simp[FA,hi,zU,zog,zog,hc,Al,isSm,hp1]
 ·simp[FA]
def Zn (p:gv.D):C4 p=some (EY p,()):=by
 by_cases a1:1≤p.1∧p.1≤300
 case neg=>simp[C4,zog,Al,zU,isSm,a1,EY,EX]
 by_cases a2:1≤p.2.1∧p.2.1≤16
 case neg=>simp[C4,zog,Al,zU,isSm,a1,a2,EY,EX]
 have hc:=Zp p a1 a2
 have hb:=Yg p a1 a2
 by_cases a3:cnt p≤24
 case neg=>
  have a3':cnt p>24:=by omega
  simp[C4,zog,zog,hc,Al,zU,isSm,a1,a2,a3,a3',EY,EX]
 have a3':¬cnt p>24:=by omega
 by_cases a4:1≤p.2.2.1.length∧p.2.2.1.length≤3
 case neg=>
  have FU:¬((1:Int)≤(p.2.2.1.length:Int)∧(p.2.2.1.length:Int)≤3):=by omega
  simp only[C4,zog,zog,hc,Al,zU,isSm,a1,a2,a3,a3',a4,FU,EY,EX,and_self,zl73,pI,zl70,zl98,aG,eF,zl93,kG,zl76,zl99,zl92]
 by_cases a5:p.2.2.2.1.length=p.2.2.1.length
 case neg=>
  have FU:((1:Int)≤(p.2.2.1.length:Int)∧(p.2.2.1.length:Int)≤3):=by omega
  have a5':((p.2.2.2.1.length:Int) != (p.2.2.1.length:Int))=true:=by simp;omega
  simp only[C4,zog,zog,hc,Al,zU,isSm,a1,a2,a3,a3',a4,FU,a5,a5',EY,EX,and_self,zl73,pI,zl70,zl98,aG,eF,zl93,kG,zl76,zl99,zl92]
 have hA:EX p=true:=by simp only[EX,a1,a2,a3,a4,a5,and_self,zl73,zl92]
 have hl:=afY p hA
 have FU:((1:Int)≤(p.2.2.1.length:Int)∧(p.2.2.1.length:Int)≤3):=by omega
 have a5':((p.2.2.2.1.length:Int) != (p.2.2.1.length:Int))=false:=by simp;omega
 have w1:IntKind.wrap .i64 ((p.2.2.1.length:Int)-1)=(p.2.2.1.length:Int)-1:=Np (by omega)
 have w2:((p.2.2.1.length:Int)-1).toNat=p.2.2.1.length-1:=by omega
 have w3:(0:Int)≤(p.2.2.1.length:Int)-1:=by omega
 have w4:(p.2.2.1.length:Int)-1<(p.2.2.1.length:Int):=by omega
 by_cases a6:p.2.2.1.getD (p.2.2.1.length-1) 0=cnt p
 case neg=>
  have a6':(p.2.2.1.getD (p.2.2.1.length-1) 0 != cnt p)=true:=by simpa using a6
  simp only[C4,zog,zog,hc,Al,zU,isSm,a1,a2,a3',FU,a5',a6,a6',EY,hA,w1,w2,w3,w4,and_self,zl73,pI,zl70,zl98,aG,eF,zl108,kG,zl99,zl92]
 have a6':(p.2.2.1.getD (p.2.2.1.length-1) 0 != cnt p)=false:=by simpa using a6
 have a7:decide (p.2.2.1.getD (p.2.2.1.length-1) 0=cnt p)=true:=by simpa using a6
 cases hp:xb p.2.2.1.length (Ka p) with
 |true=>
  rw[hp,bf rfl] at hl
  simp only[C4,cb hl,cv hl,zog,zog,hc,Al,zU,isSm,a1,a2,a3',FU,a5',a6',a7,EY,hA,hp,w1,w2,w3,w4,and_self,zl73,pI,zl70,zl98,aG,eF,zl99,zl92]
 |false=>
  rw[hp,bY (by simp)] at hl
  simp only[C4,cb hl,cv hl,zog,zog,hc,Al,zU,isSm,a1,a2,a3',FU,a5',a6',a7,EY,hA,hp,w1,w2,w3,w4,and_self,zl73,pI,zl70,zl98,aG,eF,zl93,kG,zl99,zl92]
end Pc
open Go Go.Ab Go.Lib
namespace Pl
def HN (c id:Nat):Nat:=if(c+3) / 4<c then(if Av (n5 id) 5<2 then(c+3) / 4 else c) else c
def Ri (c id:Nat)(h:1≤c):1≤HN c id∧HN c id≤c:=by unfold HN;split<;>(try split)<;>omega
def BT (c id:Nat):List Int:=if id<c then [(id:Int)] else E9 (HN c id) id
def ac4 {c id:Nat}(h:1≤c){x:Int}(hx:x∈BT c id):0≤x∧x<c:=by
 unfold BT at hx
 split at hx
 ·rw[eH] at hx;omega
 ·have w:=Ri c id h
  have:=ajM w.1 hx
  omega
def ajN {c id:Nat}(h:1≤c):(BT c id).Pairwise (· < ·):=by
 unfold BT
 split
 ·exact List.pairwise_singleton _ _
 ·exact ajK (Ri c id h).1
def ac3 {c id:Nat}(h:1≤c):1≤(BT c id).length∧(BT c id).length≤c:=by
 unfold BT
 split
 ·exact⟨bw _,h⟩
 ·have w:=Ri c id h
  have:=ajL (seed:=id) w.1
  omega
def aks (L s a b id:Int):Comes OK ((0,(),0,id),((L,s,[a,b],[2,3],()):gv.D)) (((),5,id),(L,s,[a,b],[2,3],())):=
 .again (x':=((1,(),2,id),(L,s,[a,b],[2,3],()))) rfl (.again (x':=((2,(),5,id),(L,s,[a,b],[2,3],()))) rfl (.out rfl))
def akq (L s a id:Int):Comes OK ((0,(),0,id),((L,s,[a],[1],()):gv.D)) (((),1,id),(L,s,[a],[1],())):=
 .again (x':=((1,(),1,id),(L,s,[a],[1],()))) rfl (.out rfl)
def ak6 (L s a b:Int)(k:Nat)(hk:k<5):Comes OL ((0,(),(k:Int)),((L,s,[a,b],[2,3],()):gv.D)) (.inl (if k<2 then a else b,())):=by
 match k,hk with
 |0,_=>exact .out rfl
 |1,_=>exact .out rfl
 |2,_=>exact .again (x':=((1,(),0),(L,s,[a,b],[2,3],()))) rfl (.out rfl)
 |3,_=>exact .again (x':=((1,(),1),(L,s,[a,b],[2,3],()))) rfl (.out rfl)
 |4,_=>exact .again (x':=((1,(),2),(L,s,[a,b],[2,3],()))) rfl (.out rfl)
def ak4 (L s a:Int):Comes OL ((0,(),0),((L,s,[a],[1],()):gv.D)) (.inl (a,())):=.out rfl
def akr (L s a b id:Int):Comes ON ((0,0,[2,3],id,(),2),((L,s,[a,b],[2,3],()):gv.D)) ((id,(),5),(L,s,[a,b],[2,3],())):=
 .again (x':=((1,2,[2,3],id,(),2),(L,s,[a,b],[2,3],()))) rfl (.again (x':=((2,5,[2,3],id,(),2),(L,s,[a,b],[2,3],()))) rfl (.out rfl))
def akp (L s a id:Int):Comes ON ((0,0,[1],id,(),1),((L,s,[a],[1],()):gv.D)) ((id,(),1),(L,s,[a],[1],())):=
 .again (x':=((1,1,[1],id,(),1),(L,s,[a],[1],()))) rfl (.out rfl)
def VY (L s:Int)(W ws:List Int)(id k sum:Int)(i n:Nat)(r:List Int)(h1:i<ws.length)(h2:i<W.length)(h3:IntKind.wrap .i64 (sum+ws.getD i 0)>k)(hn:i<n)(hr:Fz (W.getD i 0,id)=some (r,())) :
  Hw ((id,(),(i:Int),k,sum,ws,(n:Int)),((L,s,W,ws,()):gv.D))=some (.inr (.inl ((),r))):=by
 simp only[Hw,gl hn,gl h1,gl h2,g0,zl94,w9,zl86 h3,hr,zov hr]
def ak5 (L s a b id:Int)(k:Nat)(hk:k<5)(ra rb:List Int)(ha:Fz (a,id)=some (ra,()))(hb:Fz (b,id)=some (rb,())) :
  Comes Hw ((id,(),0,(k:Int),0,[2,3],2),((L,s,[a,b],[2,3],()):gv.D)) (.inl ((),if k<2 then ra else rb)):=by
 have o0:k<2→Hw ((id,(),0,(k:Int),0,[2,3],2),((L,s,[a,b],[2,3],()):gv.D))=some (.inr (.inl ((),ra))):=fun h=>VY L s [a,b] [2,3] id k 0 0 2 ra (by decide) (by simp) (by show(2:Int)>k;omega) (by decide) ha
 have o1:Hw ((id,(),1,(k:Int),2,[2,3],2),((L,s,[a,b],[2,3],()):gv.D))=some (.inr (.inl ((),rb))):=VY L s [a,b] [2,3] id k 2 1 2 rb (by decide) (by simp) (by show(5:Int)>k;omega) (by decide) hb
 by_cases h:k<2
 ·rw[bf h];exact .out (o0 h)
 ·rw[bY h]
  refine .again (x':=((id,(),1,(k:Int),2,[2,3],2),(L,s,[a,b],[2,3],()))) ?_ (.out o1)
  match k,hk,h with
  |2,_,_=>rfl
  |3,_,_=>rfl
  |4,_,_=>rfl
def ak3 (L s a id:Int)(ra:List Int)(ha:Fz (a,id)=some (ra,())) :
  Comes Hw ((id,(),0,0,0,[1],1),((L,s,[a],[1],()):gv.D)) (.inl ((),ra)):=
 .out (VY L s [a] [1] id 0 0 0 1 ra (by decide) (by simp) (by decide) (by decide) ha)
def aaU (L s c:Nat)(h1:1≤L)(h2:L≤300)(h3:1≤s)(h4:s≤13)(h5:(L+s-1) / s=c)(h6:1≤c)(h7:c≤24):Pc.EY (AU L s c)=true:=by
 have hc:∀W ws:List Int,Pc.cnt ((L:Int),(s:Int),W,ws,())=(c:Int):=by
  intro W ws
  unfold Pc.cnt
  rw[show(L:Int)+(s:Int)-1=((L+s-1:Nat):Int) by omega]
  rw[←h5];exact Nd _ _
 unfold AU
 by_cases hk:(c+3) / 4<c
 ·rw[zl86 hk,aG]
  simp[Pc.EY,Pc.EX,Pc.Ka,Pc.xb,hc]
  omega
 ·rw[zl90 hk,eF]
  simp[Pc.EY,Pc.EX,Pc.Ka,Pc.xb,hc]
  omega
def QF (L s c:Nat)(h2:L≤300)(h3:1≤s)(h4:s≤13)(h5:(L+s-1) / s=c):C3 (AU L s c)=some ((c:Int),()):=by
 have e:=fun W ws=>count_eq (L:Int) (s:Int) W ws () (by omega)
 rw[NC L s (by omega) h3 (by omega),h5] at e
 unfold AU
 cases decide ((c+3) / 4<c)<;>exact e _ _
def akc (L s c id:Nat)(h2:L≤300)(h3:1≤s)(h4:s≤13)(h5:(L+s-1) / s=c)(h6:1≤c)(h7:c≤24)(hid:id≤9999):KU (AU L s c,(id:Int))=some (BT c id,()):=by
 have ec:=QF L s c h2 h3 h4 h5
 by_cases hc:id<c
 ·have d:decide ((id:Int)<(c:Int))=true:=zdt
  simp only[KU,ec,zov ec,Ag,zU,aG,d,BT,bf hc]
 ·have d:decide ((id:Int)<(c:Int))=false:=zdf
  have w:=Ri c id h6
  have n1:=Q4 id (by omega)
  have er:=aj9 (HN c id) id w.1 (by omega) (by omega)
  have ew:q90 (AU L s c,(id:Int))=some ((HN c id:Int),()):=by
   unfold AU HN
   have sl:=HE id
   generalize n5 id=S at *
   by_cases hk:(c+3) / 4<c
   ·have p1:DM ((S:Int),5)=some ((Av S 5:Int),()):=Q5 _ 5 sl (by decide)
    have pl:=Ge S 5 (by decide)
    generalize Av S 5=K at *
    have c1:=aks (L:Int) (s:Int) (((c+3) / 4:Nat):Int) (c:Int) (id:Int)
    have c2:=ak6 (L:Int) (s:Int) (((c+3) / 4:Nat):Int) (c:Int) K pl
    rw[zl86 hk,aG,bf hk]
    simp only[q90,cb c1,cv c1,n1,zov n1,p1,zov p1,w9,cb c2,cv c2]
    split<;>rfl
   ·have p1:DM ((S:Int),1)=some ((Av S 1:Int),()):=Q5 _ 1 sl (by decide)
    have pl:=Ge S 1 (by decide)
    generalize Av S 1=K at *
    obtain rfl:K=0:=by omega
    have c1:=akq (L:Int) (s:Int) (c:Int) (id:Int)
    have c2:=ak4 (L:Int) (s:Int) (c:Int)
    rw[zl90 hk,eF,bY hk]
    simp only[q90,cb c1,cv c1,n1,zov n1,p1,zov p1,w9,Int.natCast_zero,cb c2,cv c2]
  simp only[KU,ec,zov ec,w9,eF,d,BT,bY hc,ew,zov ew,er,zov er]
def Zl (L s c id:Nat)(h1:1≤L)(h2:L≤300)(h3:1≤s)(h4:s≤13)(h5:(L+s-1) / s=c)(h6:1≤c)(h7:c≤24)(hid:id≤9999):FD (AU L s c,(id:Int))=some (BT c id,()):=by
 have ec:BH (AU L s c)=some ((c:Int),()):=QF L s c h2 h3 h4 h5
 have ok:=Pc.Zn (AU L s c)
 rw[aaU L s c h1 h2 h3 h4 h5 h6 h7] at ok
 have wi:=Al (id:Int) 0 9999
 rw[zdt (p:=(0:Int)≤(id:Int)∧(id:Int)≤9999)] at wi
 by_cases hc:id<c
 ·have d:decide ((id:Int)<(c:Int))=true:=zdt
  simp only[FD,ok,zov ok,wi,zov wi,ec,zov ec,w9,eF,zl70,zl98,zl99,d,BT,bf hc]
 ·have d:decide ((id:Int)<(c:Int))=false:=zdf
  have n1:=P3 id (by omega)
  have rw_:BT c id=E9 (HN c id) id:=bY hc
  rw[rw_]
  unfold AU HN at *
  have sl:=HE id
  generalize n5 id=S at *
  have rc:=Zj c id h6 h7 (by omega)
  by_cases hk:(c+3) / 4<c
  ·have ra:=Zj ((c+3) / 4) id (by omega) (by omega) (by omega)
   have p1:DO ((S:Int),5)=some ((Av S 5:Int),()):=P4 _ 5 sl (by decide) (by decide)
   have pl:=Ge S 5 (by decide)
   generalize Av S 5=K at *
   have c1:=akr (L:Int) (s:Int) (((c+3) / 4:Nat):Int) (c:Int) (id:Int)
   have c2:=ak5 (L:Int) (s:Int) (((c+3) / 4:Nat):Int) (c:Int) (id:Int) K pl _ _ ra rc
   rw[zl86 hk,aG] at ok ec ⊢
   rw[bf hk]
   simp only[FD,ok,zov ok,wi,zov wi,ec,zov ec,w9,eF,zl70,zl98,zl99,d,kF,nQ,jE,Nat.reduceAdd,Int.cast_ofNat_Int,cb c1,cv c1,n1,zov n1,p1,zov p1,cb c2,cv c2]
   split<;>rfl
  ·have p1:DO ((S:Int),1)=some ((Av S 1:Int),()):=P4 _ 1 sl (by decide) (by decide)
   have pl:=Ge S 1 (by decide)
   generalize Av S 1=K at *
   obtain rfl:K=0:=by omega
   have c1:=akp (L:Int) (s:Int) (c:Int) (id:Int)
   have c2:=ak3 (L:Int) (s:Int) (c:Int) (id:Int) _ rc
   rw[zl90 hk,eF] at ok ec ⊢
   rw[bY hk]
   simp only[FD,ok,zov ok,wi,zov wi,ec,zov ec,w9,eF,zl70,zl98,zl99,d,kF,nQ,jE,Int.natCast_one,Int.natCast_zero,cb c1,cv c1,n1,zov n1,p1,zov p1,cb c2,cv c2]
def akn (l:List Int):(sM l).length=l.length:=by simp[sM]
def ako (n:Nat):sM (List.replicate n (0:Int))=List.replicate n (0:UInt8):=by
 unfold sM;rw[List.map_replicate];rfl
def ahh:∀(d n k m:Nat),n≤500→n<2 ^ d→k*2 ^ d≤1024→m+n*k≤1024 →
  Comes Kz (((n:Int),List.replicate k (0:UInt8),List.replicate m (0:UInt8)),()) (List.replicate (m+n*k) (0:UInt8),()):=by
 intro d
 induction d with
 |zero=>
  intro n k m h0 h1 h2 h3
  obtain rfl:n=0:=by omega
  rw[Nat.zero_mul,qN]
  exact .out rfl
 |succ d ih=>
  intro n k m h0 h1 h2 h3
  by_cases hn:n=0
  ·subst hn;rw[Nat.zero_mul,qN];exact .out rfl
  rw[Nat.pow_succ] at h1 h2
  have hp:1≤2 ^ d:=Nat.one_le_two_pow
  have e0:decide ((n:Int)>0)=true:=zdt
  have e1:Int.tmod (n:Int) 2=((n % 2:Nat):Int):=Je n 2
  have e2:IntKind.wrap .i64 (Int.tdiv (n:Int) 2)=((n / 2:Nat):Int):=C8 (Nd n 2) (by omega)
  have ek:k≤1024:=mL (Nat.le_mul_of_pos_right k (Nat.mul_pos hp (by omega))) h2
  have b1:decide ((List.replicate k (0:UInt8)).length+(List.replicate k (0:UInt8)).length≤eD)=true:=by
   rw[zl67];unfold eD;exact zdt
  have ekk:List.replicate k (0:UInt8)++List.replicate k (0:UInt8)=List.replicate (k+k) (0:UInt8):=List.replicate_append_replicate
  have em:List.replicate m (0:UInt8)++List.replicate k (0:UInt8)=List.replicate (m+k) (0:UInt8):=List.replicate_append_replicate
  have hk2:(k+k)*2 ^ d≤1024:=by rw[←Nat.two_mul,Nat.mul_comm 2 k,Nat.mul_assoc,Nat.mul_comm 2];exact h2
  have hd:n / 2<2 ^ d:=by omega
  by_cases ho:n % 2=1
  ·have hnk:n*k=(n / 2)*(k+k)+k:=by
    rw[←Nat.two_mul,←Nat.mul_assoc]
    have:n=n / 2*2+1:=by omega
    rw[←Nat.succ_mul];congr 1
   have b2:decide ((List.replicate m (0:UInt8)).length+(List.replicate k (0:UInt8)).length≤eD)=true:=by
    rw[zl67,zl67];unfold eD;exact zdt
   have:=ih (n / 2) (k+k) (m+k) (by omega) hd hk2 (by omega)
   rw[show m+k+n / 2*(k+k)=m+n*k by omega] at this
   refine .again ?_ this
   simp only[Kz,e0,e1,e2,ho,b1,b2,ekk,em,aG,zU,Int.cast_ofNat_Int,zl95]
  ·have hnk:n*k=(n / 2)*(k+k):=by
    rw[←Nat.two_mul,←Nat.mul_assoc];congr 1;omega
   have:=ih (n / 2) (k+k) m (by omega) hd hk2 (by omega)
   rw[←hnk] at this
   refine .again ?_ this
   have ez:n % 2=0:=by omega
   have:(((0:Nat):Int)==1)=false:=rfl
   simp only[Kz,e0,e1,e2,ez,b1,ekk,aG,eF,zU,this]
def ado (n:Nat)(h:n≤500):Ky (sM [(0:Int)],(n:Int))=some (List.replicate n 0,()):=by
 have c:=ahh 10 n 1 0 h (by omega) (by omega) (by omega)
 rw[jE,Nat.mul_one] at c
 have c':Comes Kz (((n:Int),sM [(0:Int)],[]),()) _:=c
 simp only[Ky,cb c',cv c',aG]
def aki (n:Nat)(h:n≤500):Iy (n:Int)=some (List.replicate n 0,()):=by
 have e:=ado n h
 simp only[Iy,e,zov e,Ag,zU,aG]
def Zm (n:Nat)(h:n≤500):Gp (n:Int)=some (List.replicate n 0,()):=by
 have h1:decide ((n:Int)≤(eD:Int))=true:=by unfold eD;exact zdt
 simp only[Gp,g0,h1,Int.le_refl,zl73,zU,zl92,aG,zl94,ako]
def xI (a b:List UInt8)(i:Nat):Int:=pS Go.BinOp.xor Go.IntKind.u8 ((a.getD i 0).toNat:Int) ((b.getD i 0).toNat:Int)
def xL (a b:List UInt8)(i:Nat):List Int:=(List.range i).map (xI a b)
def LF (a b:List UInt8)(i:Nat):(xL a b i).length=i:=by simp[xL]
def adD (a b:List UInt8)(i:Nat):xL a b (i+1)=xL a b i ++ [xI a b i]:=by simp[xL,List.range_succ]
def HO (a b:List UInt8):List UInt8:=sM (xL a b a.length)
def ak_ (a b:List UInt8):(HO a b).length=a.length:=by rw[HO,akn,LF]
def akh (a b:List UInt8)(h:a.length=b.length)(hl:a.length≤1000):Kl (a,b)=some (HO a b,()):=by
 have c:=s4 (r:=Km) (fun i=>(((i:Int),b,a,()),xL a b i)) (n:=a.length) (y:=((),xL a b a.length)) (by
  intro i hi
  have hr:decide (i+1≤eD)=true:=by unfold eD;exact zdt
  have hb:i<b.length:=by omega
  simp only[Km,gl hi,gl hb,g0,LF,hr,aG,zU,zl92,zl94,mb (i:=i),adD,xI]) (by
  have:decide ((a.length:Int)<(a.length:Int))=false:=zdf
  simp only[Km,this,eF]) 0 (by omega)
 have c':Comes Km (((0:Int),b,a,()),[]) _:=c
 simp only[Kl,cb c',cv c',aG,HO]
def afX (a b:List UInt8)(h:a.length=b.length)(hl:a.length≤1000):KV (a,b)=some (HO a b,()):=by
 have hbl:(bytesOf a).length=a.length:=by simp[bytesOf]
 have c:=s4 (r:=KW) (fun i=>(((i:Int),b,(),(a.length:Int)),xL a b i++(bytesOf a).drop i)) (n:=a.length) (y:=((),xL a b a.length)) (by
  intro i hi
  have hb:i<b.length:=by omega
  have hll:(xL a b i++(bytesOf a).drop i).length=a.length:=by rw[cK,LF,zl4,hbl];omega
  have hi':i<(bytesOf a).length:=by omega
  have hd:(bytesOf a).drop i=((a.getD i 0).toNat:Int)::(bytesOf a).drop (i+1):=by
   rw[zl109 hi',getD_eq _ _ _ hi];simp[bytesOf]
  have hg:(xL a b i++(bytesOf a).drop i).getD i 0=((a.getD i 0).toNat:Int):=by
   rw[nO,c_ (by rw[LF];omega),LF,Nat.sub_self,hd];rfl
  have hs:∀v,(xL a b i++(bytesOf a).drop i).set i v=xL a b i++v::(bytesOf a).drop (i+1):=by
   intro v
   rw[zl87 _ _ (by rw[LF];omega),LF,Nat.sub_self,hd];rfl
  have hi2:i<(xL a b i++(bytesOf a).drop i).length:=by omega
  simp only[KW,gl hi,gl hb,gl hi2,g0,hg,hs,aG,zU,zl92,zl94,mb (i:=i),adD,xI,bX,zl104]) (by
  have:decide ((a.length:Int)<(a.length:Int))=false:=zdf
  have e:(bytesOf a).drop a.length = []:=by rw[←hbl,List.drop_length]
  simp only[KW,this,eF,e,jV]) 0 (by omega)
 have c':Comes KW (((0:Int),b,(),(a.length:Int)),bytesOf a) _:=c
 have hr:decide (a.length≤eD)=true:=by unfold eD;exact zdt
 simp only[KV,hr,hbl,zU,cb c',cv c',aG,HO]
def DR (s:Nat)(bl:List (List UInt8))(row:List Int):List UInt8:=row.foldl (fun o x=>HO o (bl.getD x.toNat [])) (List.replicate s 0)
def OZ (s:Nat)(bl:List (List UInt8))(row:List Int):(DR s bl row).length=s:=by
 unfold DR
 have:∀(r:List Int) (o:List UInt8),o.length=s→(r.foldl (fun o x=>HO o (bl.getD x.toNat [])) o).length=s:=by
  intro r
  induction r with
  |nil=>intro o h;exact h
  |cons x r ih=>intro o h;exact ih _ (by rw[ak_,h])
 exact this row _ zl67
def adp (s:Nat)(bl:List (List UInt8))(row:List Int)(i:Nat)(h:i<row.length):DR s bl (row.take (i+1))=HO (DR s bl (row.take i)) (bl.getD (row.getD i 0).toNat []):=by
 unfold DR
 rw[zl88 h,List.foldl_append,getD_eq _ _ _ h];rfl
structure Bls (s:Nat) (bl:List (List UInt8)) (row:List Int):Prop where
 s1:1≤s
 s2:s≤13
 sz:∀x∈bl,x.length=s
 n1:1≤bl.length
 n2:bl.length≤24
 mem:∀x∈row,0≤x∧x<(bl.length:Int)
 DY:row.Pairwise (· < ·)
 len:row.length≤24
def Bls.at {s:Nat}{bl:List (List UInt8)}{row:List Int}(B:Bls s bl row){i:Nat}(h:i<row.length):0≤row.getD i 0∧row.getD i 0<(bl.length:Int)∧(bl.getD (row.getD i 0).toNat []).length=s:=by
 have m:=B.mem (row.getD i 0) (by rw[getD_eq _ _ _ h];exact zl96 h)
 refine⟨m.1,m.2,?_⟩
 have hk:(row.getD i 0).toNat<bl.length:=by omega
 rw[getD_eq _ _ _ hk]
 exact B.sz _ (zl96 hk)
def akb {s:Nat}{bl:List (List UInt8)}{row:List Int}(B:Bls s bl row):IL (bl,row,(s:Int))=some (DR s bl row,()):=by
 have hz:=ado s (by have:=B.s2;omega)
 have c:=s4 (r:=KO) (fun i=>(((i:Int),row,bl,DR s bl (row.take i)),())) (n:=row.length) (y:=(DR s bl row,())) (by
  intro i hi
  obtain⟨m1,m2,m3⟩:=B.at hi
  have hx:=akh (DR s bl (row.take i)) (bl.getD (row.getD i 0).toNat []) (by rw[OZ,m3]) (by rw[OZ];have:=B.s2;omega)
  have hl:=B.len
  have d1:=zl86 m1
  have d2:=zl86 m2
  simp only[KO,gl hi,g0,zl94,hx,zov hx,d1,d2,w9,mb (i:=i),adp _ _ _ _ hi]) (by
  have:decide ((row.length:Int)<(row.length:Int))=false:=zdf
  simp only[KO,this,eF,zl102]) 0 (by omega)
 have c':Comes KO (((0:Int),row,bl,List.replicate s 0),()) _:=c
 simp only[IL,hz,zov hz,Ag,zU,aG,cb c',cv c']
def afP {s:Nat}{bl:List (List UInt8)}{row:List Int}(B:Bls s bl row):KE (row,(bl.length:Int))=some (true,()):=by
 have c:=s4 (r:=IE) (fun i=>(((i:Int),row,(bl.length:Int),row,(row.length:Int)),())) (n:=row.length) (y:=.inr ((bl.length:Int),())) (by
  intro i hi
  obtain⟨m1,m2,m3⟩:=B.at hi
  have hl:=B.len
  have hn:=B.n2
  have w:=Np (i:=bl.length) (by omega)
  have wi:=Al (row.getD i 0) 0 ((bl.length:Int)-1)
  rw[zdt (p:=(0:Int)≤row.getD i 0∧row.getD i 0≤(bl.length:Int)-1)] at wi
  by_cases hz:i=0
  ·subst hz
   have e:decide (((0:Nat):Int)>0)=false:=by decide
   simp only[IE,gl hi,g0,zl94,w,wi,zov wi,e,zl70,zl93,zl98,zl76,w9,eF]
   rfl
  ·have e:decide ((i:Int)>0)=true:=zdt
   have w2:=Np (i:=i) (by omega)
   have h1:(((i:Int)-1)).toNat=i-1:=by omega
   have h0:decide ((0:Int)≤(i:Int)-1)=true:=zdt
   have h2:decide ((i:Int)-1<(row.length:Int))=true:=zdt
   have h3:decide (row.getD (i-1) 0≥row.getD i 0)=false:=zl90 (by
    have h4:i-1<row.length:=by omega
    rw[getD_eq _ _ _ hi,getD_eq _ _ _ h4]
    have:=List.pairwise_iff_getElem.1 B.DY (i-1) i h4 hi (by omega)
    omega)
   simp only[IE,gl hi,g0,zl94,w,w2,wi,zov wi,e,h0,h1,h2,h3,zl70,zl98,zl99,w9,eF,mb (i:=i)]) (by
  have:decide ((row.length:Int)<(row.length:Int))=false:=zdf
  simp only[IE,this,eF]) 0 (by omega)
 have c':Comes IE (((0:Int),row,(bl.length:Int),row,(row.length:Int)),()) _:=c
 have hn:=B.n2
 have wi:=Al (bl.length:Int) 0 24
 rw[zdt (p:=(0:Int)≤(bl.length:Int)∧(bl.length:Int)≤24)] at wi
 simp only[KE,cb c',cv c',aG]
 dsimp only[sumC]
 simp only[wi,zov wi,Ag,zU,aG]
def afS {s:Nat}{bl:List (List UInt8)}{row:List Int}(B:Bls s bl row):Ko (bl,row)=some ((DR s bl row,true),()):=by
 have ro:=afP B
 have b1:=B.n1
 have b2:=B.n2
 have s1:=B.s1
 have s2:=B.s2
 have e0:((bl.length:Int)==0)=false:=by rw[zl89];omega
 have l0:(bl.getD 0 []).length=s:=by rw[getD_eq _ _ _ b1];exact B.sz _ (zl96 b1)
 have l0':(bl.getD (Int.toNat (0:Int)) []).length=s:=l0
 have eb:decide ((s:Int)>16)=false:=zdf
 have z:=Zm s (by omega)
 have d0:decide ((0:Int)<(bl.length:Int))=true:=zdt
 have c0:=s4 (r:=Kp) (fun i=>(((i:Int),bl,bl,row,(bl.length:Int)),())) (n:=bl.length) (y:=.inr ((bl,row),())) (by
  intro i hi
  have hs:(bl.getD i []).length=s:=by rw[getD_eq _ _ _ hi];exact B.sz _ (zl96 hi)
  have hn:((s:Int) != (s:Int))=false:=by simp
  simp only[Kp,gl hi,g0,zl94,hs,l0',hn,d0,zU,zl92,aG,eF,mb (i:=i)]) (by
  have:decide ((bl.length:Int)<(bl.length:Int))=false:=zdf
  simp only[Kp,this,eF]) 0 (by omega)
 have c0':Comes Kp (((0:Int),bl,bl,row,(bl.length:Int)),()) _:=c0
 have c1:=s4 (r:=Kq) (fun i=>(((i:Int),bl,DR s bl (row.take i),row,(row.length:Int)),())) (n:=row.length) (y:=(DR s bl row,())) (by
  intro i hi
  obtain⟨m1,m2,m3⟩:=B.at hi
  have hx:=afX (DR s bl (row.take i)) (bl.getD (row.getD i 0).toNat []) (by rw[OZ,m3]) (by rw[OZ];omega)
  have hl:=B.len
  have d1:=zl86 m1
  have d2:=zl86 m2
  simp only[Kq,gl hi,g0,zl94,hx,zov hx,d1,d2,w9,mb (i:=i),adp _ _ _ _ hi]) (by
  have:decide ((row.length:Int)<(row.length:Int))=false:=zdf
  simp only[Kq,this,eF,zl102]) 0 (by omega)
 have c1':Comes Kq (((0:Int),bl,List.replicate s 0,row,(row.length:Int)),()) _:=c1
 simp only[Ko,ro,zov ro,e0,l0',eb,d0,eF,zl70,zl98,zl99,w9,Int.le_refl,zl73,cb c0',cv c0']
 dsimp only[sumC]
 simp only[l0',d0,aG,Ag,zl92,z,zov z,cb c1',cv c1']
def aaT (L s c:Nat):(AU L s c).1=(L:Int):=by unfold AU;cases decide ((c+3) / 4<c)<;>rfl
def TC (L s c:Nat):(AU L s c).2.1=(s:Int):=by unfold AU;cases decide ((c+3) / 4<c)<;>rfl
def NG (s:Nat)(al:List UInt8)(i:Nat):List UInt8:=(al.drop (i*s)).take s
def CR (s:Nat)(al:List UInt8)(i:Nat):List (List UInt8):=(List.range i).map (NG s al)
def NH (s:Nat)(al:List UInt8)(i:Nat):(CR s al i).length=i:=by simp[CR]
def Yj (s:Nat)(al:List UInt8)(i:Nat):CR s al (i+1)=CR s al i ++ [NG s al i]:=by simp[CR,List.range_succ]
def adX {s:Nat}{al:List UInt8}{c:Nat}(h:al.length=c*s){x:List UInt8}(hx:x∈CR s al c):x.length=s:=by
 obtain⟨i,hi,rfl⟩:=eV.1 hx
 have hi:=List.mem_range.1 hi
 unfold NG
 rw[zl3,zl4,h]
 have:(i+1)*s≤c*s:=gD s (by omega)
 rw[Nat.succ_mul] at this
 omega
def ED (c s:Nat)(t:List UInt8):List UInt8:=t++List.replicate (c*s-t.length) 0
def Ru (c s:Nat)(t:List UInt8)(h:t.length≤c*s):(ED c s t).length=c*s:=by simp[ED];omega
def RL (L s c:Nat)(h3:1≤s)(h5:(L+s-1) / s=c):L≤c*s∧c*s≤L+s-1:=by
 subst h5
 have h1:=Nat.div_mul_le_self (L+s-1) s
 have h2:=Nat.lt_div_mul_add (a:=L+s-1) (b:=s) (by omega)
 omega
def Rh {a b:Nat}(ha:a≤1000)(hb:b≤1000):IntKind.wrap .i64 ((a:Int)*(b:Int))=((a*b:Nat):Int):=by
 have:a*b≤1000*1000:=Nat.mul_le_mul ha hb
 exact C8 (by simp) (by omega)
def Yk (al:List UInt8)(i s:Nat):List.take (Int.toNat ((((i+1)*s:Nat):Int)-((i*s:Nat):Int))) (List.drop (Int.toNat ((i*s:Nat):Int)) al)=NG s al i:=by
 unfold NG
 rw[show Int.toNat ((((i+1)*s:Nat):Int)-((i*s:Nat):Int))=s by rw[Nat.succ_mul];omega,zl94]
def ajY (L s c:Nat)(t:List UInt8)(hL:t.length=L)(h2:L≤300)(h3:1≤s)(h4:s≤13)(h5:(L+s-1) / s=c)(h7:c≤24) :
  KR (AU L s c,t)=some (CR s (ED c s t) c,()):=by
 have ec:=QF L s c h2 h3 h4 h5
 have cl:=RL L s c h3 h5
 have pz:=TC L s c
 generalize AU L s c=P at *
 have w1:IntKind.wrap .i64 (IntKind.wrap .i64 ((c:Int)*(s:Int))-(t.length:Int))=((c*s-t.length:Nat):Int):=by
  rw[Rh (by omega) (by omega)];exact C8 (by omega) (by omega)
 have ez:=aki (c*s-t.length) (by omega)
 have al:=Ru c s t (by omega)
 have b1:decide (t.length+(List.replicate (c*s-t.length) (0:UInt8)).length≤eD)=true:=by
  rw[zl67];unfold eD;exact zdt
 have ea:t++List.replicate (c*s-t.length) 0=ED c s t:=rfl
 generalize ED c s t=A at *
 have cm:=s4 (r:=KS) (fun i=>(((i:Int),(),A,()),P,CR s A i)) (n:=c) (y:=((),CR s A c)) (by
  intro i hi
  have m1:=Rh (a:=i) (b:=s) (by omega) (by omega)
  have m2:=Rh (a:=i+1) (b:=s) (by omega) (by omega)
  have m3:(i+1)*s≤c*s:=gD s (by omega)
  have m4:i*s≤(i+1)*s:=gD s (by omega)
  have d1:decide (((i*s:Nat):Int)≤(((i+1)*s:Nat):Int))=true:=zdt
  have d2:decide ((((i+1)*s:Nat):Int)≤(A.length:Int))=true:=zdt
  have b2:decide (i+1≤eD)=true:=by unfold eD;exact zdt
  simp only[KS,ec,zov ec,gl hi,pz,mb (i:=i),m1,m2,d1,d2,g0,NH,b2,w9,Yk,Yj]) (by
  have:decide ((c:Int)<(c:Int))=false:=zdf
  simp only[KS,ec,zov ec,Ag,this,zU,aG,eF]) 0 (by omega)
 have cm':Comes KS (((0:Int),(),A,()),P,[]) _:=cm
 simp only[KR,ec,zov ec,pz,w1,ez,zov ez,b1,ea,w9,cb cm',cv cm']
def afG (L s c:Nat)(t:List UInt8)(hL:t.length=L)(h1:1≤L)(h2:L≤300)(h3:1≤s)(h4:s≤13)(h5:(L+s-1) / s=c)(h6:1≤c)(h7:c≤24) :
  q96 (AU L s c,t)=some (CR s (ED c s t) c,()):=by
 have ec:BH (AU L s c)=some ((c:Int),()):=QF L s c h2 h3 h4 h5
 have ok:=Pc.Zn (AU L s c)
 rw[aaU L s c h1 h2 h3 h4 h5 h6 h7] at ok
 have cl:=RL L s c h3 h5
 have pz:=TC L s c
 have pl:=aaT L s c
 generalize AU L s c=P at *
 have w1:IntKind.wrap .i64 (IntKind.wrap .i64 ((c:Int)*(s:Int))-(L:Int))=((c*s-t.length:Nat):Int):=by
  rw[Rh (by omega) (by omega)];exact C8 (by omega) (by omega)
 have ez:=Zm (c*s-t.length) (by omega)
 have al:=Ru c s t (by omega)
 have b1:decide (t.length+(List.replicate (c*s-t.length) (0:UInt8)).length≤eD)=true:=by
  rw[zl67];unfold eD;exact zdt
 have ea:t++List.replicate (c*s-t.length) 0=ED c s t:=rfl
 have ne:((t.length:Int) != (L:Int))=false:=by rw[hL];simp
 generalize ED c s t=A at *
 have cm:=s4 (r:=Lj) (fun i=>(((),((i*s:Nat):Int),A,()),P,CR s A i)) (n:=c) (y:=((),CR s A c)) (by
  intro i hi
  have m3:(i+1)*s≤c*s:=gD s (by omega)
  have m5:(i+1)*s=i*s+s:=Nat.succ_mul i s
  have w2:IntKind.wrap .i64 (((i*s:Nat):Int)+(s:Int))=(((i+1)*s:Nat):Int):=C8 (by omega) (by omega)
  have d0:decide (((i*s:Nat):Int)<(A.length:Int))=true:=zdt
  have d1:decide (((i*s:Nat):Int)≤(((i+1)*s:Nat):Int))=true:=zdt
  have d2:decide ((((i+1)*s:Nat):Int)≤(A.length:Int))=true:=zdt
  have b2:decide (i+1≤eD)=true:=by unfold eD;exact zdt
  simp only[Lj,pz,w2,d0,d1,d2,g0,NH,b2,zU,zl92,aG,Yk,Yj]) (by
  have:decide (((c*s:Nat):Int)<(A.length:Int))=false:=zdf
  simp only[Lj,this,eF]) 0 (by omega)
 simp only[Nat.zero_mul] at cm
 have cm':Comes Lj (((),(0:Int),A,()),P,[]) _:=cm
 simp only[q96,ok,zov ok,ne,pl,ec,zov ec,pz,w1,ez,zov ez,b1,ea,w9,zl70,eF,cb cm',cv cm']
def M_ (s c id:Nat)(t:List UInt8):List UInt8:=DR s (CR s (ED c s t) c) (BT c id)
def adt (L s c id:Nat)(t:List UInt8)(hL:t.length=L)(h3:1≤s)(h4:s≤13)(h5:(L+s-1) / s=c)(h6:1≤c)(h7:c≤24):Bls s (CR s (ED c s t) c) (BT c id):=by
 have cl:=RL L s c h3 h5
 have rl:=ac3 (id:=id) h6
 refine⟨h3,h4,fun x hx=>adX (Ru c s t (by omega)) hx,by rw[NH];exact h6,by rw[NH];exact h7,fun x hx=>?_,ajN h6,by omega⟩
 rw[NH];exact ac4 h6 hx
def akd (L s c id:Nat)(t:List UInt8)(hL:t.length=L)(h3:1≤s)(h4:s≤13)(h5:(L+s-1) / s=c)(h6:1≤c)(h7:c≤24) :
  IL (CR s (ED c s t) c,BT c id,(s:Int))=some (M_ s c id t,()):=akb (adt L s c id t hL h3 h4 h5 h6 h7)
def afT (L s c id:Nat)(t:List UInt8)(hL:t.length=L)(h1:1≤L)(h2:L≤300)(h3:1≤s)(h4:s≤13)(h5:(L+s-1) / s=c)(h6:1≤c)(h7:c≤24)(hid:id≤9999) :
  q26 (AU L s c,t,(id:Int))=some ((M_ s c id t,true),()):=by
 have e1:=afG L s c t hL h1 h2 h3 h4 h5 h6 h7
 have e2:=Zl L s c id h1 h2 h3 h4 h5 h6 h7 hid
 have e3:=afS (adt L s c id t hL h3 h4 h5 h6 h7)
 have wi:=Al (id:Int) 0 9999
 rw[zdt (p:=(0:Int)≤(id:Int)∧(id:Int)≤9999)] at wi
 simp only[q26,wi,zov wi,e1,zov e1,e2,zov e2,e3,zov e3,w9,zl70,eF,M_]
def skipB (own:Bool)(h:Int)(f:Fr):Bool:=bif own then bif f.2.1==(0:Int) then true else f.1 != h else false
def No (own:Bool)(h:Int)(f:Fr):Bool:= !(skipB own h f)&&(!(decide (f.2.2.2.1>(0:Int))) && !f.2.2.2.2.1)
def unuse (f:Fr):Fr:=(f.1,f.2.1,f.2.2.1,f.2.2.2.1,false,f.2.2.2.2.2)
def Nn (own:Bool)(h:Int)(l:List Fr)(k:Nat):List Fr:=
 bif skipB own h (l.getD k zF) then l else bif decide ((l.getD k zF).2.2.2.1>(0:Int)) then l else bif(l.getD k zF).2.2.2.2.1 then l.set k (unuse (l.getD k zF)) else l
def dh (hd n:Nat):Nat:=(hd+n) % 8
def Aa (own:Bool)(h:Int)(hd:Nat)(l:List Fr):Nat→List Fr
 |0=>l
 |n+1=>Nn own h (Aa own h hd l n) (dh hd n)
def ak1 (own:Bool)(h:Int)(l:List Fr)(k:Nat):(Nn own h l k).length=l.length:=by
 unfold Nn;cases skipB own h (l.getD k zF)<;>cases decide ((l.getD k zF).2.2.2.1>(0:Int))<;>cases (l.getD k zF).2.2.2.2.1<;>simp
def Nl (own:Bool)(h:Int)(hd:Nat)(l:List Fr):∀n,(Aa own h hd l n).length=l.length
 |0=>rfl
 |n+1=>by rw[Aa,ak1,Nl own h hd l n]
def Jo (own:Bool)(h:Int)(hd:Nat)(l:List Fr)(n:Nat):Bool:=No own h ((Aa own h hd l n).getD (dh hd n) zF)
def Jn (own:Bool)(h:Int)(hd:Nat)(l:List Fr):Option Nat:=first 17 (Jo own h hd l)
def afs {hd:Nat}(h:hd<8):dh hd 0=hd:=by unfold dh;omega
def GM (hd n:Nat):dh hd n<8:=by unfold dh;omega
def PX (hd n:Nat):Int.tmod (IntKind.wrap .i64 ((dh hd n:Nat)+1:Int)) 8=((dh hd (n+1):Nat):Int):=by
 rw[zX (by have:=GM hd n;omega)]
 refine(Je (dh hd n+1) 8).trans ?_
 unfold dh;omega
def Y6 (hd n:Nat)(h:hd<8)(hn:n≤100):Int.tmod (IntKind.wrap .i64 ((hd:Int)+(n:Int))) 8=((dh hd n:Nat):Int):=by
 rw[C8 (x:=(hd:Int)+n) (y:=hd+n) (by omega) (by omega)]
 exact Je (hd+n) 8
def akf (own:Bool)(h:Int)(hd:Nat)(l:List Fr)(hh:hd<8)(hl:l.length=8) :
  Comes IY (((0:Int),(),(),h,own),((),(hd:Int),()),((),(0:Int),()),l,[])
   (match Jn own h hd l with
    |some n=>.inl (((),(dh hd n:Int)),((),(dh hd (n+1):Int),()),Aa own h hd l n)
    |none=>.inr (((),()),((),(0:Int),()),((),(dh hd 17:Int),()),[],Aa own h hd l 17)):=by
 have c:=D3 (r:=IY) (fun n=>(((n:Int),(),(),h,own),((),(dh hd n:Int),()),((),(0:Int),()),Aa own h hd l n,[])) (n:=17) (p:=Jo own h hd l)
  (yt:=fun n=>.inl (((),(dh hd n:Int)),((),(dh hd (n+1):Int),()),Aa own h hd l n)) (yn:=.inr (((),()),((),(0:Int),()),((),(dh hd 17:Int),()),[],Aa own h hd l 17)) (by
   intro n hn hp
   have ll:=Nl own h hd l n
   have ha:=GM hd n
   have g1:dh hd n<(Aa own h hd l n).length:=by omega
   have g2:decide ((n:Int)<17)=true:=zdt
   simp only[Jo] at hp
   simp only[Aa]
   generalize Aa own h hd l n=L at *
   unfold No skipB at hp
   unfold Nn skipB unuse
   unfold zF at hp ⊢
   simp only[IY,g2,zl94,gl g1,g0,zU,zl92,aG,PX,mb (i:=n)]
   cases h1:(bif own then bif(List.getD L (dh hd n) ((0:Int),(0:Int),(0:Int),(0:Int),false,())).2.1==(0:Int) then true else(List.getD L (dh hd n) ((0:Int),(0:Int),(0:Int),(0:Int),false,())).1 != h else false)
   ·cases h2:decide ((List.getD L (dh hd n) ((0:Int),(0:Int),(0:Int),(0:Int),false,())).2.2.2.1>(0:Int))
    ·cases h3:(List.getD L (dh hd n) ((0:Int),(0:Int),(0:Int),(0:Int),false,())).2.2.2.2.1
     ·rw[h1,h2,h3] at hp;cases hp
     ·simp only[aG,eF]
    ·simp only[aG,eF]
   ·simp only[aG]) (by
   intro n hn hp
   have ll:=Nl own h hd l n
   have ha:=GM hd n
   have g1:dh hd n<(Aa own h hd l n).length:=by omega
   have g2:decide ((n:Int)<17)=true:=zdt
   simp only[Jo] at hp
   generalize Aa own h hd l n=L at *
   unfold No skipB at hp
   unfold zF at hp
   simp only[IY,g2,zl94,gl g1,g0,zU,zl92,aG,PX]
   cases h1:(bif own then bif(List.getD L (dh hd n) ((0:Int),(0:Int),(0:Int),(0:Int),false,())).2.1==(0:Int) then true else(List.getD L (dh hd n) ((0:Int),(0:Int),(0:Int),(0:Int),false,())).1 != h else false)
   ·cases h2:decide ((List.getD L (dh hd n) ((0:Int),(0:Int),(0:Int),(0:Int),false,())).2.2.2.1>(0:Int))
    ·cases h3:(List.getD L (dh hd n) ((0:Int),(0:Int),(0:Int),(0:Int),false,())).2.2.2.2.1
     ·simp only[eF]
     ·rw[h1,h2,h3] at hp;cases hp
    ·rw[h1,h2] at hp;cases hp
   ·rw[h1] at hp;cases hp) (by
   have g2:decide (((17:Nat):Int)<17)=false:=by decide
   simp only[IY,g2,eF])
 rw[afs hh] at c
 exact c
def afW (own:Bool)(h e b:Int)(hd:Nat)(l:List Fr)(hh:hd<8)(hl:l.length=8) :
  Comes IX (((0:Int),(),(),b,e,h,own,()),((),(0:Int),()),((),(hd:Int),()),(l,(hd:Int),()),[],l)
   (match Jn own h hd l with
    |some n=>.inl (((),(dh hd n:Int),(1:Int)),((),(dh hd (n+1):Int),()),(Aa own h hd l n).set (dh hd n) (h,e,b,1,true,()))
    |none=>.inr (((),()),((),(0:Int),()),(l,(hd:Int),()),[])):=by
 have c:=D3 (r:=IX) (fun n=>(((n:Int),(),(),b,e,h,own,()),((),(0:Int),()),((),(hd:Int),()),(l,(hd:Int),()),[],Aa own h hd l n)) (n:=17) (p:=Jo own h hd l)
  (yt:=fun n=>.inl (((),(dh hd n:Int),(1:Int)),((),(dh hd (n+1):Int),()),(Aa own h hd l n).set (dh hd n) (h,e,b,1,true,()))) (yn:=.inr (((),()),((),(0:Int),()),(l,(hd:Int),()),[])) (by
   intro n hn hp
   have ll:=Nl own h hd l n
   have ha:=GM hd n
   have g1:dh hd n<(Aa own h hd l n).length:=by omega
   have g2:decide ((n:Int)<17)=true:=zdt
   have w:=Y6 hd n hh (by omega)
   simp only[Jo] at hp
   simp only[Aa]
   generalize Aa own h hd l n=L at *
   unfold No skipB at hp
   unfold Nn skipB unuse
   unfold zF at hp ⊢
   simp only[IX,g2,w,zl94,gl g1,g0,zU,zl92,aG,PX,mb (i:=n)]
   cases h1:(bif own then bif(List.getD L (dh hd n) ((0:Int),(0:Int),(0:Int),(0:Int),false,())).2.1==(0:Int) then true else(List.getD L (dh hd n) ((0:Int),(0:Int),(0:Int),(0:Int),false,())).1 != h else false)
   ·cases h2:decide ((List.getD L (dh hd n) ((0:Int),(0:Int),(0:Int),(0:Int),false,())).2.2.2.1>(0:Int))
    ·cases h3:(List.getD L (dh hd n) ((0:Int),(0:Int),(0:Int),(0:Int),false,())).2.2.2.2.1
     ·rw[h1,h2,h3] at hp;cases hp
     ·simp only[aG,eF]
    ·simp only[aG,eF]
   ·simp only[aG]) (by
   intro n hn hp
   have ll:=Nl own h hd l n
   have ha:=GM hd n
   have g1:dh hd n<(Aa own h hd l n).length:=by omega
   have g2:decide ((n:Int)<17)=true:=zdt
   have w:=Y6 hd n hh (by omega)
   simp only[Jo] at hp
   generalize Aa own h hd l n=L at *
   unfold No skipB at hp
   unfold zF at hp
   simp only[IX,g2,w,zl94,gl g1,g0,zU,zl92,aG,PX]
   cases h1:(bif own then bif(List.getD L (dh hd n) ((0:Int),(0:Int),(0:Int),(0:Int),false,())).2.1==(0:Int) then true else(List.getD L (dh hd n) ((0:Int),(0:Int),(0:Int),(0:Int),false,())).1 != h else false)
   ·cases h2:decide ((List.getD L (dh hd n) ((0:Int),(0:Int),(0:Int),(0:Int),false,())).2.2.2.1>(0:Int))
    ·cases h3:(List.getD L (dh hd n) ((0:Int),(0:Int),(0:Int),(0:Int),false,())).2.2.2.2.1
     ·simp only[eF]
     ·rw[h1,h2,h3] at hp;cases hp
    ·rw[h1,h2] at hp;cases hp
   ·rw[h1] at hp;cases hp) (by
   have g2:decide (((17:Nat):Int)<17)=false:=by decide
   simp only[IX,g2,eF])
 exact c
def JJ (l:List Fr)(e b:Int):Option Nat:=first l.length (fun i=>bif(l.getD i zF).2.1==e then(l.getD i zF).2.2.1==b else false)
def aj2 (p:Po)(ed bl:Int)(hl:p.1.length≤9999999):Mv (p,ed,bl)=some (zH (JJ p.1 ed bl),()):=by
 obtain⟨l,nx,u⟩:=p
 have hl:l.length≤9999999:=hl
 have q:=D3 (r:=Ip) (fun i=>(((i:Int),bl,(),ed),(l,nx,u))) (n:=l.length) (p:=fun i=>bif(l.getD i zF).2.1==ed then(l.getD i zF).2.2.1==bl else false) (yt:=fun i=>.inl ((i:Int),())) (yn:=.inr ((),())) (fun i hi hp=>by
   have hp':(bif(l.getD i zF).2.1==ed then(l.getD i zF).2.2.1==bl else false)=false:=hp
   unfold zF at hp'
   simp only[Ip,gl hi,g0,zl94,hp',zl99,zU,zl92,aG,eF,mb (i:=i)]) (fun i hi hp=>by
   have hp':(bif(l.getD i zF).2.1==ed then(l.getD i zF).2.2.1==bl else false)=true:=hp
   unfold zF at hp'
   simp only[Ip,gl hi,g0,zl94,hp',zl99,zU,zl92,aG]) (by
   have d1:decide ((l.length:Int)<(l.length:Int))=false:=zdf
   simp only[Ip,d1,eF])
 have q':Comes Ip ((0,bl,(),ed),(l,nx,u)) _:=q
 simp only[Mv,cb q',cv q',aG,JJ]
 cases first l.length (fun i=>bif(l.getD i zF).2.1==ed then(l.getD i zF).2.2.1==bl else false)<;>rfl
def Nc (f:Fr):Fr:=(f.1,f.2.1,f.2.2.1,f.2.2.2.1+1,true,f.2.2.2.2.2)
def JL (l:List Fr)(hd:Nat)(h e b:Int):(List Fr×Int×Unit)×Int×Int:=
 match JJ l e b with
 |some k=>bif(bif decide ((l.getD k zF).2.2.2.1≥99999) then true else(l.getD k zF).1 != h) then((l,(hd:Int),()),0,3) else((l.set k (Nc (l.getD k zF)),(hd:Int),()),(k:Int),0)
 |none=>match Jn (decide (gT l h 8≥5)) h hd l with
  |some n=>(((Aa (decide (gT l h 8≥5)) h hd l n).set (dh hd n) (h,e,b,1,true,()),(dh hd (n+1):Int),()),(dh hd n:Int),1)
  |none=>((l,(hd:Int),()),0,2)
def take_set (l:List Fr)(k:Nat)(hk:k<l.length)(hw:(l.getD k zF).2.2.2.1≤99999)(hw0:0≤(l.getD k zF).2.2.2.1)(x:Fr)(hx:x=(Prod.fst (List.getD l k zF),Prod.fst (Prod.snd (List.getD l k zF)),Prod.fst (Prod.snd (Prod.snd (List.getD l k zF))),IntKind.wrap .i64 (Prod.fst (Prod.snd (Prod.snd (Prod.snd (List.getD l k zF))))+(1:Int)),Prod.snd (Prod.snd (Prod.snd (Prod.snd (List.getD l k zF)))))) :
  (l.set k x).set k (Prod.fst (List.getD (l.set k x) k zF),Prod.fst (Prod.snd (List.getD (l.set k x) k zF)),Prod.fst (Prod.snd (Prod.snd (List.getD (l.set k x) k zF))),Prod.fst (Prod.snd (Prod.snd (Prod.snd (List.getD (l.set k x) k zF)))),true,Prod.snd (Prod.snd (Prod.snd (Prod.snd (Prod.snd (List.getD (l.set k x) k zF))))))=l.set k (Nc (l.getD k zF)):=by
 rw[JK _ _ _ _ hk,M7,hx,Nc]
 rw[wrap64 (by omega) (by omega)]
def aj3 (l:List Fr)(hd:Nat)(h e b:Int)(hh:hd<8)(hl:l.length=8)(hw:∀k,k<8→0≤(l.getD k zF).2.2.2.1∧(l.getD k zF).2.2.2.1≤99999):G3 ((l,(hd:Int),()),h,e,b)=some (JL l hd h e b,()):=by
 have c:=VO (l,(hd:Int),()) (by unfold EB;simp;omega)
 have f:=aj2 (l,(hd:Int),()) e b (by simp;omega)
 have o:=adj (l,(hd:Int),()) h (by simp;omega)
 have vc:=akf (decide (gT l h 8≥5)) h hd l hh hl
 simp only[hl] at o
 have eo:decide ((gT l h 8:Int)≥5)=decide (gT l h 8≥5):=by
  by_cases g:gT l h 8≥5
  ·rw[zl86 g,zdt]
  ·rw[zl90 g,zdf]
 unfold JL
 simp only at f
 cases hf:JJ l e b with
 |some k=>
  rw[hf] at f
  have hk:k<l.length:=(Bp.1 hf).1
  have hkw:=hw k (by omega)
  have d:decide ((k:Int)≥0)=true:=zdt
  have ts:=take_set l k hk hkw.2 hkw.1 _ rfl
  have hks:∀x:Fr,k<(l.set k x).length:=fun x=>by rw[zl66];exact hk
  unfold zF at ts ⊢
  simp only[G3,c,zov c,f,zov f,zH,d,zl94,gl hk,zl99,w9]
  cases (bif decide ((List.getD l k ((0:Int),(0:Int),(0:Int),(0:Int),false,())).2.2.2.1≥99999) then true else(List.getD l k ((0:Int),(0:Int),(0:Int),(0:Int),false,())).1 != h) with
  |true=>rfl
  |false=>
   simp only[eF,gl (hks _),zl92,aG]
   rw[ts]
 |none=>
  rw[hf] at f
  have d:decide ((-1:Int)≥0)=false:=by decide
  have ev:q53 ((l,(hd:Int),()),h)=some (match Jn (decide (gT l h 8≥5)) h hd l with
    |some n=>((Aa (decide (gT l h 8≥5)) h hd l n,(dh hd (n+1):Int),()),(dh hd n:Int))
    |none=>((Aa (decide (gT l h 8≥5)) h hd l 17,(dh hd 17:Int),()),(-1:Int)),()):=by
   simp only[q53,o,zov o,Ag,zU,aG,eo,cb vc,cv vc]
   cases Jn (decide (gT l h 8≥5)) h hd l<;>rfl
  cases hv:Jn (decide (gT l h 8≥5)) h hd l with
  |some n=>
   rw[hv] at ev
   have dn:decide ((dh hd n:Int)<0)=false:=zdf
   have hn:dh hd n<(Aa (decide (gT l h 8≥5)) h hd l n).length:=by rw[Nl];have:=GM hd n;omega
   simp only[G3,c,zov c,f,zov f,zH,d,ev,zov ev,dn,zl94,gl hn,g0,w9,eF]
  |none=>
   rw[hv] at ev
   have dn:decide ((-1:Int)<0)=true:=by decide
   simp only[G3,c,zov c,f,zov f,zH,d,ev,zov ev,dn,Ag,zU,aG,eF]
def afK (l:List Fr)(hd:Nat)(h e b:Int)(hh:hd<8)(hl:l.length=8)(hw:∀k,k<8→0≤(l.getD k zF).2.2.2.1∧(l.getD k zF).2.2.2.1≤99999)
  (ho:gT l h 8≤5) (h1:mw h 0 1=true) (h2:mw e 1 99999=true) (h3:mw b 0 23=true):q42 ((l,(hd:Int),()),h,e,b)=some (JL l hd h e b,()):=by
 have c:=Zh (l,(hd:Int),()) (by unfold EB;simp;omega)
 have f:Ho ((l,(hd:Int),()),e,b)=some (zH (JJ l e b),()):=find_eq (l,(hd:Int),()) e b (by simp;omega)
 have o:=Zf (l,(hd:Int),()) h (by simp;omega)
 have b1:=Sa h
 have b2:=AD e 1 99999
 have b3:=AD b 0 23
 rw[h1] at b1
 rw[h2] at b2
 rw[h3] at b3
 simp only[hl] at o
 have eo:((gT l h 8:Int)==5)=decide (gT l h 8≥5):=by
  by_cases g:gT l h 8≥5
  ·rw[zl86 g,zl78];omega
  ·rw[zl90 g,zl89];omega
 unfold JL
 cases hf:JJ l e b with
 |some k=>
  rw[hf] at f
  have hk:k<l.length:=(Bp.1 hf).1
  have hkw:=hw k (by omega)
  have d:decide ((k:Int)≥0)=true:=zdt
  have ts:=take_set l k hk hkw.2 hkw.1 _ rfl
  have eb:(bif(l.getD k zF).1 != h then true else(l.getD k zF).2.2.2.1==(99999:Int))=(bif decide ((l.getD k zF).2.2.2.1≥99999) then true else(l.getD k zF).1 != h):=by
   by_cases g:(l.getD k zF).2.2.2.1≥99999
   ·rw[zl86 g,zl78.2 (by omega)];cases ((l.getD k zF).1 != h)<;>rfl
   ·rw[zl90 g,zl89.2 (by omega)];cases ((l.getD k zF).1 != h)<;>rfl
  unfold zF at ts eb ⊢
  simp only[q42,c,zov c,b1,zov b1,b2,zov b2,b3,zov b3,f,zov f,zH,d,zl94,gl hk,zl70,zl98,zl99,w9,eF,eb]
  cases (bif decide ((List.getD l k ((0:Int),(0:Int),(0:Int),(0:Int),false,())).2.2.2.1≥99999) then true else(List.getD l k ((0:Int),(0:Int),(0:Int),(0:Int),false,())).1 != h) with
  |true=>rfl
  |false=>
   simp only[eF]
   rw[ts]
 |none=>
  rw[hf] at f
  have d:decide ((-1:Int)≥0)=false:=by decide
  have vc:=afW (decide (gT l h 8≥5)) h e b hd l hh hl
  simp only[q42,c,zov c,b1,zov b1,b2,zov b2,b3,zov b3,f,zov f,zH,d,o,zov o,eo,zl70,zl98,zl99,w9,eF,cb vc,cv vc]
  cases Jn (decide (gT l h 8≥5)) h hd l with
  |some n=>rfl
  |none=>
   dsimp only[sumC]
   simp only[c,zov c,Ag,aG]
structure AI (l:List Fr) (hd:Nat):Prop where
 len:l.length=8
 hd:hd<8
 ok:∀i,i<8→okF (l.getD i zF)=true
 tw:∀i,i<8→∀k,k<i→AG l i k=false
 c0:gT l 0 8≤5
 c1:gT l 1 8≤5
def ahM {p:Po}(h:DL p=true):∃hd:Nat,p=(p.1,(hd:Int),())∧AI p.1 hd:=by
 obtain⟨l,n,u⟩:=p
 unfold DL at h
 simp only[aF,zl78,gQ] at h
 obtain⟨⟨h1,h2⟩,h3,h4,h5⟩:=h
 have h2:=zl79 h2
 have hr:=BA.1 h3
 refine⟨n.toNat,by rw[show((n.toNat:Nat):Int)=n by omega],h1,by omega,fun i hi=>?_,fun i hi k hk=>?_,h4,h5⟩
 ·have:=hr i hi;unfold Cf at this;rw[aF] at this;exact this.1
 ·have:=hr i hi;unfold Cf at this;rw[aF] at this
  have:=BA.1 this.2 k hk
  simpa using this
def AI.v {l:List Fr}{hd:Nat}(G:AI l hd):DL (l,(hd:Int),())=true:=by
 have h:=G.hd
 have e:mw (hd:Int) 0 7=true:=zdt
 have r:xb 8 (Cf l)=true:=BA.2 fun i hi=>by
  unfold Cf
  rw[G.ok i hi,zl108]
  exact BA.2 fun k hk=>by rw[G.tw i hi k hk];rfl
 unfold DL
 simp only[G.len,zl95,e,r,zl86 G.c0,zl86 G.c1,zl92]
def AI.at {l:List Fr}{hd:Nat}(G:AI l hd){hd':Nat}(h:hd'<8):AI l hd':=⟨G.len,h,G.ok,G.tw,G.c0,G.c1⟩
def AI.held {l:List Fr}{hd:Nat}(G:AI l hd)(k:Nat)(hk:k<8):0≤(l.getD k zF).2.2.2.1∧(l.getD k zF).2.2.2.1≤99999:=by
 have o:=G.ok k hk
 unfold okF at o
 cases e:((l.getD k zF).2.1==0) with
 |true=>
  rw[e,aG] at o
  simp only[aF,zl78] at o
  omega
 |false=>
  rw[e,eF] at o
  simp only[aF] at o
  have:=zl79 o.2
  omega
def EI (l:List Fr)(k i:Nat)(f:Fr)(hk:k<l.length):(l.set k f).getD i zF=if i=k then f else l.getD i zF:=by
 rw[nO,List.getElem?_set]
 by_cases h:k=i
 ·subst h;simp[hk]
 ·rw[bY h,bY (Ne.symm h),←nO]
def CC (h:Int)(f:Fr):Nat:=if(bif decide (f.2.1>0) then f.1==h else false)=true then 1 else 0
def Mg (l:List Fr)(h:Int)(i:Nat):gT l h (i+1)=gT l h i+CC h (l.getD i zF):=rfl
def aaG (l:List Fr)(h:Int)(v:Nat)(f:Fr)(hv:v<l.length):∀i,i≤v→gT (l.set v f) h i=gT l h i
 |0,_=>rfl
 |i+1,hi=>by rw[Mg,Mg,aaG l h v f hv i (by omega),EI _ _ _ _ hv,bY (by omega)]
def Oz (l:List Fr)(h:Int)(v:Nat)(f:Fr)(hv:v<l.length):∀i,v<i→gT (l.set v f) h i+CC h (l.getD v zF)=gT l h i+CC h f
 |0,hi=>by omega
 |i+1,hi=>by
  rw[Mg,Mg,EI _ _ _ _ hv]
  by_cases e:i=v
  ·subst e;rw[bf rfl,aaG l h i f hv i (bw _)];omega
  ·rw[bY e]
   have:=Oz l h v f hv i (by omega)
   omega
def SK (f g:Fr):Prop:=f.1=g.1∧f.2.1=g.2.1∧f.2.2.1=g.2.2.1
def Se {h:Int}{f g:Fr}(s:SK f g):CC h f=CC h g:=by unfold CC;rw[s.1,s.2.1]
def akX {l m:List Fr}{i k:Nat}(a:SK (l.getD i zF) (m.getD i zF))(b:SK (l.getD k zF) (m.getD k zF)):AG l i k=AG m i k:=by
 unfold AG;rw[a.2.1,a.2.2,b.2.1,b.2.2]
def AI.same {l:List Fr}{hd:Nat}(G:AI l hd){k:Nat}(hk:k<8){f:Fr}(ho:okF f=true)(s:SK f (l.getD k zF)):AI (l.set k f) hd:=by
 have hk':k<l.length:=by rw[G.len];exact hk
 have sk:∀i,SK ((l.set k f).getD i zF) (l.getD i zF):=fun i=>by
  rw[EI _ _ _ _ hk']
  by_cases e:i=k
  ·subst e;rw[bf rfl];exact s
  ·rw[bY e];exact⟨rfl,rfl,rfl⟩
 refine⟨by rw[zl66];exact G.len,G.hd,fun i hi=>?_,fun i hi j hj=>?_,?_,?_⟩
 ·rw[EI _ _ _ _ hk']
  by_cases e:i=k
  ·rw[bf e];exact ho
  ·rw[bY e];exact G.ok i hi
 ·rw[akX (sk i) (sk j)];exact G.tw i hi j hj
 ·have:=Oz l 0 k f hk' 8 hk;rw[Se s] at this;have:=G.c0;omega
 ·have:=Oz l 1 k f hk' 8 hk;rw[Se s] at this;have:=G.c1;omega
def ahy {f:Fr}(h:okF f=true):okF (unuse f)=true:=by
 unfold okF at h ⊢
 unfold unuse
 cases e:(f.2.1==0) with
 |true=>
  rw[e] at h
  simp only[aG] at h ⊢
  simp only[aF,zl78] at h ⊢
  exact⟨h.1,h.2.1,h.2.2.1,h.2.2.2.1,by simp⟩
 |false=>
  rw[e] at h
  simp only[eF] at h ⊢
  exact h
def Ff (l:List Fr):Prop:=∀i,i<8→(l.getD i zF).2.2.2.1=0
structure VicI (l L:List Fr) (hd:Nat):Prop where
 g:AI L hd
 f:Ff L
 sk:∀i,i<8→SK (L.getD i zF) (l.getD i zF)
def adC {l:List Fr}{hd:Nat}(G:AI l hd)(F:Ff l)(own:Bool)(h:Int):∀n,VicI l (Aa own h hd l n) hd
 |0=>⟨G,F,fun _ _=>⟨rfl,rfl,rfl⟩⟩
 |n+1=>by
  have V:=adC G F own h n
  rw[Aa]
  generalize Aa own h hd l n=L at *
  have ha:=GM hd n
  generalize dh hd n=a at *
  have set_:VicI l (L.set a (unuse (L.getD a zF))) hd:=by
   have hl:a<L.length:=by rw[V.g.len];exact ha
   refine⟨V.g.same ha (ahy (V.g.ok a ha)) ⟨rfl,rfl,rfl⟩,fun i hi=>?_,fun i hi=>?_⟩
   ·rw[EI _ _ _ _ hl]
    by_cases e:i=a
    ·rw[bf e];exact V.f a ha
    ·rw[bY e];exact V.f i hi
   ·rw[EI _ _ _ _ hl]
    by_cases e:i=a
    ·subst e;rw[bf rfl];exact V.sk i hi
    ·rw[bY e];exact V.sk i hi
  unfold Nn
  cases skipB own h (L.getD a zF)
  ·cases decide ((L.getD a zF).2.2.2.1>(0:Int))
   ·cases (L.getD a zF).2.2.2.2.1
    ·exact V
    ·exact set_
   ·exact V
  ·exact V
def AI.miss {L:List Fr}{hd:Nat}(G:AI L hd){h e b:Int}(h1:mw h 0 1=true)(h2:mw e 1 99999=true)(h3:mw b 0 23=true)
  (nf:∀i,i<8→¬((L.getD i zF).2.1=e∧(L.getD i zF).2.2.1=b)) {v:Nat} (hv:v<8) (ho:gT L h 8≥5→CC h (L.getD v zF)=1):AI (L.set v (h,e,b,1,true,())) hd:=by
 have fP:v<L.length:=by rw[G.len];exact hv
 have he:=zl79 h2
 have hh:=zl79 h1
 have key:∀i,(L.set v (h,e,b,1,true,())).getD i zF=if i=v then(h,e,b,1,true,()) else L.getD i zF:=fun i=>EI _ _ _ _ fP
 refine⟨by rw[zl66];exact G.len,G.hd,fun i hi=>?_,fun i hi j hj=>?_,?_,?_⟩
 ·rw[key]
  by_cases q:i=v
  ·rw[bf q]
   unfold okF
   have:(e==0)=false:=zl89.2 (by omega)
   simp only[this,eF,h1,h2,h3,zl92,zl108]
   decide
  ·rw[bY q];exact G.ok i hi
 ·unfold AG
  rw[key,key]
  by_cases q:i=v
  ·have qj:¬j=v:=by omega
   rw[bf q,bY qj]
   have:=nf j (by omega)
   simp only[zdt (p:=e>0),aG]
   by_cases q1:e=(L.getD j zF).2.1
   ·rw[zl78.2 q1,aG,zl89]
    intro q2;exact this ⟨q1.symm,q2.symm⟩
   ·rw[zl89.2 q1];rfl
  ·rw[bY q]
   by_cases qj:j=v
   ·rw[bf qj]
    have:=nf i hi
    by_cases q1:(L.getD i zF).2.1=e
    ·have q2:¬(L.getD i zF).2.2.1=b:=fun q2=>this ⟨q1,q2⟩
     simp only[zl89.2 q2]
     cases (bif decide ((L.getD i zF).2.1>0) then(L.getD i zF).2.1==e else false)<;>rfl
    ·simp only[zl89.2 q1]
     cases decide ((L.getD i zF).2.1>0)<;>rfl
   ·rw[bY qj];exact G.tw i hi j hj
 ·have s:=Oz L 0 v (h,e,b,1,true,()) fP 8 hv
  have c:=G.c0
  by_cases q:h=0
  ·subst q
   have i1:CC 0 ((0,e,b,1,true,()):Fr)≤1:=by unfold CC;split<;>omega
   by_cases g:gT L 0 8≥5
   ·rw[ho g] at s;omega
   ·omega
  ·have i1:CC 0 ((h,e,b,1,true,()):Fr)=0:=by
    unfold CC;rw[bY];simp only[zl89.2 q];cases decide (e>0)<;>simp
   omega
 ·have s:=Oz L 1 v (h,e,b,1,true,()) fP 8 hv
  have c:=G.c1
  by_cases q:h=1
  ·subst q
   have i1:CC 1 ((1,e,b,1,true,()):Fr)≤1:=by unfold CC;split<;>omega
   by_cases g:gT L 1 8≥5
   ·rw[ho g] at s;omega
   ·omega
  ·have i1:CC 1 ((h,e,b,1,true,()):Fr)=0:=by
    unfold CC;rw[bY];simp only[zl89.2 q];cases decide (e>0)<;>simp
   omega
def Lp (f:Fr):Fr:=(f.1,f.2.1,f.2.2.1,f.2.2.2.1-1,f.2.2.2.2)
def aj6 {l:List Fr}{hd:Nat}(G:AI l hd)(k:Nat)(hk:k<8)(hh:(l.getD k zF).2.2.2.1=1):Mu ((l,(hd:Int),()),(k:Int))=some (((l.set k (Lp (l.getD k zF)),(hd:Int),()),true),()):=by
 have c:=VO (l,(hd:Int),()) (by unfold EB;have:=G.len;simp only;omega)
 have o:=adl (l,(hd:Int),()) (by have:=G.len;simp only;omega)
 rw[G.v] at o
 have i:=De (k:Int) 0 7
 rw[show mw (k:Int) 0 7=true from zdt] at i
 have hk':k<l.length:=by rw[G.len];exact hk
 have z:((1:Int)==0)=false:=rfl
 have w:IntKind.wrap .i64 ((1:Int)-1)=1-1:=by decide
 unfold Lp
 rw[hh]
 unfold zF at hh ⊢
 simp only[Mu,o,zov o,c,zov c,i,zov i,hh,z,w,zl94,gl hk',g0,zl70,zl98,zl99,w9,eF]
def ahx {f:Fr}(h:okF f=true)(h0:f.2.2.2.1=0)(he:f.2.1≠0):okF (Nc f)=true:=by
 unfold okF at h ⊢
 unfold Nc
 have e:(f.2.1==0)=false:=zl89.2 he
 rw[e] at h
 simp only[eF,e,aF] at h ⊢
 refine⟨h.1,?_⟩
 rw[h0];decide
def ahw {f:Fr}(h:okF f=true)(h0:f.2.2.2.1=1):okF (Lp f)=true:=by
 unfold okF at h ⊢
 unfold Lp
 cases e:(f.2.1==0) with
 |true=>
  rw[e] at h
  simp only[aG,aF,zl78] at h
  omega
 |false=>
  rw[e] at h
  simp only[eF,aF] at h ⊢
  refine⟨h.1,?_⟩
  rw[h0];decide
def afr {l:List Fr}(k:Nat)(hk:k<l.length)(f:Fr)(h0:f.2.2.2.1=0)(o:∀i,i<8→i≠k→(l.getD i zF).2.2.2.1=0):Ff (l.set k f):=fun i hi=>by
 rw[EI _ _ _ _ hk]
 by_cases e:i=k
 ·rw[bf e];exact h0
 ·rw[bY e];exact o i hi e
structure Got (l l':List Fr) (hd' k:Nat):Prop where
 g:AI l' hd'
 lt:k<8
 one:(l'.getD k zF).2.2.2.1=1
 g':AI (l'.set k (Lp (l'.getD k zF))) hd'
 f':Ff (l'.set k (Lp (l'.getD k zF)))
def Y4 {l l':List Fr}{hd' k:Nat}(g:AI l' hd')(hk:k<8)(h:(l'.getD k zF).2.2.2.1=1)(o:∀i,i<8→i≠k→(l'.getD i zF).2.2.2.1=0):Got l l' hd' k:=by
 have hk':k<l'.length:=by rw[g.len];exact hk
 refine⟨g,hk,h,g.same hk (ahw (g.ok k hk) h) ⟨rfl,rfl,rfl⟩,afr k hk' _ ?_ o⟩
 show(l'.getD k zF).2.2.2.1-1=0
 rw[h]
 rfl
def aaH {l m:List Fr}{h:Int}(s:∀i,i<8→SK (l.getD i zF) (m.getD i zF)):∀i,i≤8→gT l h i=gT m h i
 |0,_=>rfl
 |i+1,hi=>by rw[Mg,Mg,aaH s i (by omega),Se (s i (by omega))]
def got_ok {l:List Fr}{hd:Nat}(G:AI l hd)(F:Ff l){h e b:Int}(h1:mw h 0 1=true)(h2:mw e 1 99999=true)(h3:mw b 0 23=true) :
  (∃l' hd' k c,JL l hd h e b=((l',((hd':Nat):Int),()),((k:Nat):Int),c)∧(c=0∨c=1)∧Got l l' hd' k)∨(∃f c,JL l hd h e b=((l,(hd:Int),()),f,c)∧(c=2∨c=3)):=by
 have he:=zl79 h2
 unfold JL
 cases hf:JJ l e b with
 |some k=>
  obtain⟨k1,k2,k3⟩:=Bp.1 hf
  have k8:k<8:=by rw[G.len] at k1;exact k1
  have ke:(l.getD k zF).2.1=e:=by
   cases q:((l.getD k zF).2.1==e) with
   |true=>exact eq_of_beq q
   |false=>rw[q] at k2;cases k2
  simp only
  cases (bif decide ((l.getD k zF).2.2.2.1≥99999) then true else(l.getD k zF).1 != h) with
  |true=>exact .inr ⟨0,3,rfl,.inr rfl⟩
  |false=>
   refine .inl ⟨l.set k (Nc (l.getD k zF)),hd,k,0,rfl,.inl rfl,Y4 (G.same k8 (ahx (G.ok k k8) (F k k8) (by omega)) ⟨rfl,rfl,rfl⟩) k8 ?_ fun i hi hne=>?_⟩
   ·rw[EI _ _ _ _ k1,bf rfl]
    show(l.getD k zF).2.2.2.1+1=1
    rw[F k k8];rfl
   ·rw[EI _ _ _ _ k1,bY hne];exact F i hi
 |none=>
  simp only
  cases hv:Jn (decide (gT l h 8≥5)) h hd l with
  |none=>exact .inr ⟨0,2,rfl,.inl rfl⟩
  |some n=>
   obtain⟨n1,n2,n3⟩:=Bp.1 hv
   have V:=adC G F (decide (gT l h 8≥5)) h n
   have nf:∀i,i<8→¬(((Aa (decide (gT l h 8≥5)) h hd l n).getD i zF).2.1=e∧((Aa (decide (gT l h 8≥5)) h hd l n).getD i zF).2.2.1=b):=by
    rintro i hi ⟨q1,q2⟩
    have:=JI.1 hf i (by rw[G.len];exact hi)
    have s:=V.sk i hi
    rw[←s.2.1,←s.2.2,q1,q2] at this
    simp at this
   have ofe:gT (Aa (decide (gT l h 8≥5)) h hd l n) h 8=gT l h 8:=aaH V.sk 8 (bw _)
   have ha:=GM hd n
   unfold Jo at n2
   have ho:gT (Aa (decide (gT l h 8≥5)) h hd l n) h 8≥5→CC h ((Aa (decide (gT l h 8≥5)) h hd l n).getD (dh hd n) zF)=1:=by
    intro g5
    rw[ofe] at g5
    rw[zl86 g5] at n2 ⊢
    have ok:=V.g.ok (dh hd n) ha
    rw[zl86 g5] at ok
    generalize (Aa true h hd l n).getD (dh hd n) zF=f at *
    unfold No skipB at n2
    simp only[aG] at n2
    cases q:(f.2.1==0) with
    |true=>rw[q] at n2;cases n2
    |false=>
     cases q2:(f.1 != h) with
     |true=>rw[q,q2] at n2;cases n2
     |false=>
      unfold okF at ok
      rw[q,eF] at ok
      simp only[aF] at ok
      have:=zl79 ok.1.1.2
      unfold CC
      rw[bf]
      rw[zdt (p:=f.2.1>0),aG]
      simpa using q2
   have hl:dh hd n<(Aa (decide (gT l h 8≥5)) h hd l n).length:=by rw[V.g.len];exact ha
   refine .inl ⟨_,dh hd (n+1),dh hd n,1,rfl,.inr rfl,Y4 ((V.g.miss h1 h2 h3 nf ha ho).at (GM _ _)) ha ?_ fun i hi hne=>?_⟩
   ·rw[EI _ _ _ _ hl,bf rfl]
   ·rw[EI _ _ _ _ hl,bY hne];exact V.f i hi
section
variable (up:Bool) (now:Int) (log:List UInt8) (cl:Int) (row:List Int) (t:an.D) (P1 P2:Int) (v:bx.D) (eL:List an.D) (BN:List di.D) (Aj:List bx.D) (W ws:List Int) (k:Int)
variable (Eu:Bool) (Ef:Int) (Ea:List UInt8) (D0 hd0:Int) (w:r5.D) (D_:List an.D) (D6:List Fr) (DZ:List di.D) (Es:List bx.D)
def akD (h1:mw t.1 0 1=true)(h2:mw t.2.2.1 1 99999=true)(i:Nat)(hi:i<row.length)(hr:row.length≤24)(h3:mw (row.getD i 0) 0 23=true){l:List Fr}{hd:Nat}(G:AI l hd)(F:Ff l) :
  ∃(l':List Fr) (hd':Nat),AI l' hd'∧Ff l' ∧
  G5 (((i:Int),(),(),(),(),(),(),k),(up,now,log,(cl,(),()),((),(hd:Int),()),(),(),()),row,t,(false,(0:Int),[],((0:Int),(),()),((),(0:Int),()),(),(),()),(P1,P2,(),(),()),v,eL,l,BN,Aj,[],[],[],[],W,ws)
   = some (.inl ((((i+1:Nat):Int),(),(),(),(),(),(),k),(up,now,log,(cl,(),()),((),(hd':Int),()),(),(),()),row,t,(false,(0:Int),[],((0:Int),(),()),((),(0:Int),()),(),(),()),(P1,P2,(),(),()),v,eL,l',BN,Aj,[],[],[],[],W,ws)) ∧
  Hl (((i:Int),(),(),(),(),(),k,(),(),(row.length:Int)),(up,now,log,(cl,(),()),((),(hd:Int),()),(),(),()),t,row,(Eu,Ef,Ea,(D0,(),()),((),hd0,()),(),(),()),w,v,(P1,P2,(),(),()),eL,l,BN,Aj,D_,D6,DZ,Es,W,ws)
   = some (.inl ((((i+1:Nat):Int),(),(),(),(),(),k,(),(),(row.length:Int)),(up,now,log,(cl,(),()),((),(hd':Int),()),(),(),()),t,row,(Eu,Ef,Ea,(D0,(),()),((),hd0,()),(),(),()),w,v,(P1,P2,(),(),()),eL,l',BN,Aj,D_,D6,DZ,Es,W,ws)):=by
 have hw:∀k,k<8→0≤(l.getD k zF).2.2.2.1∧(l.getD k zF).2.2.2.1≤99999:=fun k hk=>G.held k hk
 have e1:=aj3 l hd t.1 t.2.2.1 (row.getD i 0) G.hd G.len hw
 have ho:gT l t.1 8≤5:=by
  have:=zl79 h1
  rcases(show t.1=0∨t.1=1 by omega) with q|q
  ·rw[q];exact G.c0
  ·rw[q];exact G.c1
 have e2:=afK l hd t.1 t.2.2.1 (row.getD i 0) G.hd G.len hw ho h1 h2 h3
 have wi:=mb (i:=i)
 rcases got_ok G F h1 h2 h3 with⟨l',hd',n,c,eq,hc,g⟩|⟨f,c,eq,hc⟩
 ·refine⟨_,hd',g.g',g.f',?_,?_⟩
  all_goals rw[eq] at e1 e2
  ·have el:=aj6 g.g n g.lt g.one
   have aM:(bif(c==(0:Int)) then true else c==(1:Int))=true:=by rcases hc with rfl|rfl<;>rfl
   simp only[G5,gl hi,g0,zl94,e1,zov e1,aM,el,zov el,w9,wi]
  ·have aM:(bif(c==(0:Int)) then true else c==(1:Int))=true:=by rcases hc with rfl|rfl<;>rfl
   have hn:n<l'.length:=by rw[g.g.len];exact g.lt
   have gh:=g.one
   have w1:IntKind.wrap .i64 ((1:Int)-1)=1-1:=by decide
   unfold Lp
   rw[gh]
   unfold zF at gh ⊢
   simp only[Hl,gl hi,gl hn,g0,zl94,e2,zov e2,aM,gh,w1,w9,wi]
 ·refine⟨l,hd,G,F,?_,?_⟩
  all_goals rw[eq] at e1 e2
  all_goals have aM:(bif(c==(0:Int)) then true else c==(1:Int))=false:=by rcases hc with rfl|rfl<;>rfl
  ·simp only[G5,gl hi,g0,zl94,e1,zov e1,aM,w9,eF,wi]
  ·simp only[Hl,gl hi,g0,zl94,e2,zov e2,aM,w9,eF,wi]
def adw (h1:mw t.1 0 1=true)(h2:mw t.2.2.1 1 99999=true)(hr:row.length≤24)(h3:∀i,i<row.length→mw (row.getD i 0) 0 23=true):∀(d i:Nat),i+d=row.length→∀(l:List Fr) (hd:Nat),AI l hd→Ff l →
  ∃(l':List Fr) (hd':Nat),AI l' hd'∧Ff l' ∧
  Comes G5 (((i:Int),(),(),(),(),(),(),k),(up,now,log,(cl,(),()),((),(hd:Int),()),(),(),()),row,t,(false,(0:Int),[],((0:Int),(),()),((),(0:Int),()),(),(),()),(P1,P2,(),(),()),v,eL,l,BN,Aj,[],[],[],[],W,ws)
   (((),(),(),(),(),(),k),(false,(0:Int),[],((0:Int),(),()),((),(0:Int),()),(),(),()),(P1,P2,(),(),()),row,t,v,(up,now,log,(cl,(),()),((),(hd':Int),()),(),(),()),[],[],[],[],W,ws,eL,l',BN,Aj) ∧
  Comes Hl (((i:Int),(),(),(),(),(),k,(),(),(row.length:Int)),(up,now,log,(cl,(),()),((),(hd:Int),()),(),(),()),t,row,(Eu,Ef,Ea,(D0,(),()),((),hd0,()),(),(),()),w,v,(P1,P2,(),(),()),eL,l,BN,Aj,D_,D6,DZ,Es,W,ws)
   (((),(),(),k,(),(),()),(Eu,Ef,Ea,(D0,(),()),((),hd0,()),(),(),()),w,(up,now,log,(cl,(),()),((),(hd':Int),()),(),(),()),v,t,(P1,P2,(),(),()),D_,D6,DZ,Es,eL,l',BN,Aj,W,ws)
 |0,i,hi,l,hd,G,F=>by
  have d1:decide ((i:Int)<(row.length:Int))=false:=zdf
  refine⟨l,hd,G,F,.out ?_,.out ?_⟩
  ·simp only[G5,d1,eF]
  ·simp only[Hl,d1,eF]
 |d+1,i,hi,l,hd,G,F=>by
  obtain⟨l1,hd1,G1,F1,s1,s2⟩:=akD up now log cl row t P1 P2 v eL BN Aj W ws k Eu Ef Ea D0 hd0 w D_ D6 DZ Es h1 h2 i (by omega) hr (h3 i (by omega)) G F
  obtain⟨l2,j7,G2,F2,c1,c2⟩:=adw h1 h2 hr h3 d (i+1) (by omega) l1 hd1 G1 F1
  exact⟨l2,j7,G2,F2,.again s1 c1,.again s2 c2⟩
end
abbrev Jb:Type:=Int×Int×Int×Unit
def zJ:Jb:=((0:Int),(0:Int),(0:Int),())
def jv (j:Jb):Int:=j.2.1-j.2.2.1
def AN (v:Nat→Int):Nat→Option Nat
 |0=>none
 |i+1=>match AN v i with
  |none=>some i
  |some b=>bif decide (v i>v b) then some i else some b
def HR {v:Nat→Int}:∀{n b:Nat},AN v n=some b→b<n
 |0,b,h=>by cases h
 |n+1,b,h=>by
  rw[AN] at h
  cases e:AN v n with
  |none=>rw[e] at h;cases h;omega
  |some c=>
   have:=HR e
   rw[e] at h
   dsimp only at h
   cases q:decide (v n>v c) with
   |true=>rw[q] at h;cases h;omega
   |false=>rw[q] at h;cases h;omega
def X8 {v w:Nat→Int}:∀{n:Nat},(∀i,i<n→v i=w i)→AN v n=AN w n
 |0,_=>rfl
 |n+1,h=>by
  rw[AN,AN,X8 fun i hi=>h i (by omega)]
  cases e:AN w n with
  |none=>rfl
  |some b=>dsimp only;rw[h n (by omega),h b (by have:=HR e;omega)]
structure Rn (J:List Jb) (now:Int):Prop where
 len:J.length≤100000
 nw:now≤99999
 ok:∀i,i<J.length→(0≤(J.getD i zJ).2.1∧(J.getD i zJ).2.1≤3)∧0≤(J.getD i zJ).2.2.1∧(J.getD i zJ).2.2.1≤now
def wJ {w s now:Int}(h1:0≤w∧w≤3)(h2:0≤s∧s≤now)(h3:now≤99999):IntKind.wrap .i64 (IntKind.wrap .i64 (w+now)-s)=w+now-s:=by
 rw[wrap64 (n:=w+now) (by omega) (by omega),wrap64 (by omega) (by omega)]
def wJ' {w s now:Int}(h1:0≤w∧w≤3)(h2:0≤s∧s≤now)(h3:now≤99999):IntKind.wrap .i64 (w-s)=w-s:=by
 rw[wrap64 (by omega) (by omega)]
def adi {J:List Jb}{now:Int}(I:Rn J now):Ki (J,now)=some (zH (AN (fun k=>jv (J.getD k zJ)) J.length),()):=by
 have hl:=I.len
 have c:=s4 (r:=Io) (fun i=>(((i:Int),zH (AN (fun k=>jv (J.getD k zJ)) i),J,now),())) (n:=J.length) (y:=.inr (zH (AN (fun k=>jv (J.getD k zJ)) J.length),())) (fun i hi=>by
  have o:=I.ok i hi
  have hn:=I.nw
  have wi:=mb (i:=i)
  have i1:=De (J.getD i zJ).2.1 0 99999
  have i2:=De (J.getD i zJ).2.2.1 0 now
  rw[show mw (J.getD i zJ).2.1 0 99999=true from zdt] at i1
  rw[show mw (J.getD i zJ).2.2.1 0 now=true from zdt] at i2
  have dn:decide (now>99999)=false:=zdf
  have w1:=wJ o.1 o.2 hn
  rw[AN]
  cases e:AN (fun k=>jv (J.getD k zJ)) i with
  |none=>
   have d:decide ((-1:Int)<0)=true:=by decide
   dsimp only[zH]
   unfold zJ at i1 i2
   simp only[Io,gl hi,g0,zl94,i1,zov i1,i2,zov i2,dn,d,zl70,zl98,zl99,zl76,w9,eF,wi]
  |some b=>
   have hb:=HR e
   have hb':b<J.length:=by omega
   have ob:=I.ok b hb'
   have w2:=wJ ob.1 ob.2 hn
   have d:decide ((b:Int)<0)=false:=zdf
   have dv:decide ((J.getD i zJ).2.1+now-(J.getD i zJ).2.2.1>(J.getD b zJ).2.1+now-(J.getD b zJ).2.2.1)=decide (jv (J.getD i zJ)>jv (J.getD b zJ)):=by
    unfold jv
    by_cases q:(J.getD i zJ).2.1-(J.getD i zJ).2.2.1>(J.getD b zJ).2.1-(J.getD b zJ).2.2.1
    ·rw[zl86 q,zdt]
    ·rw[zl90 q,zdf]
   dsimp only[zH]
   rw[←dv]
   unfold zJ at i1 i2 w1 w2 ⊢
   simp only[Io,gl hi,gl hb',g0,zl94,i1,zov i1,i2,zov i2,dn,d,w1,w2,zl70,zl98,zl99,w9,eF,wi]
   cases decide ((J.getD i ((0:Int),(0:Int),(0:Int),())).2.1+now-(J.getD i ((0:Int),(0:Int),(0:Int),())).2.2.1>(J.getD b ((0:Int),(0:Int),(0:Int),())).2.1+now-(J.getD b ((0:Int),(0:Int),(0:Int),())).2.2.1)<;>rfl) (by
  have d1:decide ((J.length:Int)<(J.length:Int))=false:=zdf
  simp only[Io,d1,eF]) 0 (lz _)
 have c':Comes Io ((0,-1,J,now),()) _:=c
 simp only[Ki,cb c',cv c',aG]
def afL {J:List Jb}{now:Int}(I:Rn J now):q94 (J,now)=some (zH (AN (fun k=>jv (J.getD k zJ)) J.length),()):=by
 have hl:=I.len
 have c:=s4 (r:=I7) (fun i=>(((i:Int),zH (AN (fun k=>jv (J.getD k zJ)) i),J,now,J,(J.length:Int)),())) (n:=J.length) (y:=.inr (zH (AN (fun k=>jv (J.getD k zJ)) J.length),())) (fun i hi=>by
  have o:=I.ok i hi
  have hn:=I.nw
  have wi:=mb (i:=i)
  have i1:=AD (J.getD i zJ).2.1 0 99999
  have i2:=AD (J.getD i zJ).2.2.1 0 now
  rw[show mw (J.getD i zJ).2.1 0 99999=true from zdt] at i1
  rw[show mw (J.getD i zJ).2.2.1 0 now=true from zdt] at i2
  have dn:decide (now>99999)=false:=zdf
  have w1:=wJ' o.1 o.2 hn
  rw[AN]
  cases e:AN (fun k=>jv (J.getD k zJ)) i with
  |none=>
   have d:decide ((-1:Int)<0)=true:=by decide
   dsimp only[zH]
   unfold zJ at i1 i2
   simp only[I7,gl hi,g0,zl94,i1,zov i1,i2,zov i2,dn,d,zl70,zl98,zl99,zl76,w9,eF,wi]
  |some b=>
   have hb:=HR e
   have hb':b<J.length:=by omega
   have ob:=I.ok b hb'
   have w2:=wJ' ob.1 ob.2 hn
   have d:decide ((b:Int)<0)=false:=zdf
   have dv:decide ((J.getD i zJ).2.1-(J.getD i zJ).2.2.1>(J.getD b zJ).2.1-(J.getD b zJ).2.2.1)=decide (jv (J.getD i zJ)>jv (J.getD b zJ)):=rfl
   dsimp only[zH]
   rw[←dv]
   unfold zJ at i1 i2 w1 w2 ⊢
   simp only[I7,gl hi,gl hb',g0,zl94,i1,zov i1,i2,zov i2,dn,d,w1,w2,zl70,zl98,zl99,w9,eF,wi]
   cases decide ((J.getD i ((0:Int),(0:Int),(0:Int),())).2.1-(J.getD i ((0:Int),(0:Int),(0:Int),())).2.2.1>(J.getD b ((0:Int),(0:Int),(0:Int),())).2.1-(J.getD b ((0:Int),(0:Int),(0:Int),())).2.2.1)<;>rfl) (by
  have d1:decide ((J.length:Int)<(J.length:Int))=false:=zdf
  simp only[I7,d1,eF]) 0 (lz _)
 have c':Comes I7 ((0,-1,J,now,J,(J.length:Int)),()) _:=c
 simp only[q94,cb c',cv c',aG]
def sv (v:Sv):Int:=3-v.2.2.2.2.1-v.2.2.2.2.2.1
structure C9 (S:List Sv) (now:Int):Prop where
 len:S.length≤100000
 nw:now≤99999
 cl:∀i,i<S.length→0≤(S.getD i zS).1∧(S.getD i zS).1≤3
 DY:∀i j,i<j→j<S.length→(S.getD i zS).1<(S.getD j zS).1
 wd:∀i,i<S.length→0≤(S.getD i zS).2.2.2.2.1∧(S.getD i zS).2.2.2.2.1≤3
 sn:∀i,i<S.length→0≤(S.getD i zS).2.2.2.2.2.1∧(S.getD i zS).2.2.2.2.2.1≤now
def C9.inj {S:List Sv}{now:Int}(I:C9 S now){i j:Nat}(hi:i<S.length)(hj:j<S.length)(h:(S.getD i zS).1=(S.getD j zS).1):i=j:=by
 rcases Nat.lt_trichotomy i j with q|q|q
 ·have:=I.DY i j q hj;omega
 ·exact q
 ·have:=I.DY j i q hi;omega
def vO (S:List Sv)(O:List Nat)(k:Nat):Int:=sv (S.getD (O.getD k 0) zS)
def BR (S:List Sv)(O:List Nat):Option Nat:=(AN (vO S O) O.length).map fun k=>O.getD k 0
def J6 {S:List Sv}{O:List Nat}{j:Nat}(h:BR S O=some j):j∈O:=by
 unfold BR at h
 cases e:AN (vO S O) O.length with
 |none=>rw[e] at h;cases h
 |some k=>
  rw[e] at h
  have hk:=HR e
  cases h
  show O.getD k 0∈O
  rw[getD_eq _ _ _ hk]
  exact zl96 hk
def Ax (f:Nat→Int)(S:List Sv)(O:List Nat):List Jb:=O.map fun i=>(f i,3-(S.getD i zS).2.2.2.2.1,(S.getD i zS).2.2.2.2.2.1,())
def FX (f:Nat→Int)(S:List Sv)(O:List Nat):(Ax f S O).length=O.length:=by simp[Ax]
def NV (f:Nat→Int)(S:List Sv)(O:List Nat)(k:Nat)(h:k<O.length):(Ax f S O).getD k zJ=(f (O.getD k 0),3-(S.getD (O.getD k 0) zS).2.2.2.2.1,(S.getD (O.getD k 0) zS).2.2.2.2.2.1,()):=by
 rw[getD_eq _ _ _ (by rw[FX];exact h),getD_eq _ _ _ h]
 simp[Ax]
def Sk {S:List Sv}{now:Int}(I:C9 S now)(f:Nat→Int){O:List Nat}(h:∀i∈O,i<S.length)(hl:O.length≤S.length):Rn (Ax f S O) now:=by
 refine⟨by rw[FX];have:=I.len;omega,I.nw,fun i hi=>?_⟩
 rw[FX] at hi
 rw[NV _ _ _ _ hi]
 have m:O.getD i 0<S.length:=h _ (by rw[getD_eq _ _ _ hi];exact zl96 hi)
 have a:=I.wd _ m
 have b:=I.sn _ m
 exact⟨⟨by show 0≤3-_;omega,by show 3-_≤(3:Int);omega⟩,b⟩
def Sj (f:Nat→Int)(S:List Sv)(O:List Nat):AN (fun k=>jv ((Ax f S O).getD k zJ)) (Ax f S O).length=AN (vO S O) O.length:=by
 rw[FX]
 exact X8 fun i hi=>by rw[NV _ _ _ _ hi];rfl
def wD {w:Int}(h:0≤w∧w≤3):IntKind.wrap .i64 (3-w)=3-w:=wrap64 (by omega) (by omega)
def Ze (s:eA.D)(I:C9 s.2.2.2.2.2.2.1 s.2.1)(O:List Nat)(h:∀i∈O,i<s.2.2.2.2.2.2.1.length)(hl:O.length≤s.2.2.2.2.2.2.1.length) :
  FB (s,O.map fun(i:Nat)=>(i:Int))=some (zH (BR s.2.2.2.2.2.2.1 O),()):=by
 have hS:=I.len
 have Ol:(O.map fun(i:Nat)=>(i:Int)).length=O.length:=by simp
 have Og:∀i,i<O.length→(O.map fun(i:Nat)=>(i:Int)).getD i 0=(O.getD i 0:Int):=fun i hi=>by
  rw[getD_eq _ _ _ (by rw[Ol];exact hi),getD_eq _ _ _ hi];simp
 have jo:=afL (Sk I (fun i=>(i:Int)) h hl)
 rw[Sj] at jo
 have c:=s4 (r:=KJ) (fun i=>(((i:Int),(),(),(O.map fun(i:Nat)=>(i:Int)),(O.map fun(i:Nat)=>(i:Int)),((O.map fun(i:Nat)=>(i:Int)).length:Int)),s,(Ax (fun i=>(i:Int)) s.2.2.2.2.2.2.1 O).take i)) (n:=O.length) (y:=(((O.map fun(i:Nat)=>(i:Int)),(),()),s,Ax (fun i=>(i:Int)) s.2.2.2.2.2.2.1 O)) (fun i hi=>by
  have m:O.getD i 0<s.2.2.2.2.2.2.1.length:=h _ (by rw[getD_eq _ _ _ hi];exact zl96 hi)
  have wd:=wD (I.wd _ m)
  have hi':i<(O.map fun(i:Nat)=>(i:Int)).length:=by rw[Ol];exact hi
  have hj:i<(Ax (fun i=>(i:Int)) s.2.2.2.2.2.2.1 O).length:=by rw[FX];exact hi
  have tl:((Ax (fun i=>(i:Int)) s.2.2.2.2.2.2.1 O).take i).length=i:=by rw[zl3];omega
  have hm:decide (i+1≤eD)=true:=by unfold eD;exact zdt
  rw[zl88 hj,←getD_eq _ _ zJ hj,NV _ _ _ _ hi]
  unfold zS at wd ⊢
  simp only[KJ,gl hi',g0,zl94,Og i hi,gl m,wd,tl,hm,zU,zl92,aG,mb (i:=i)]) (by
  have d1:decide ((O.length:Int)<((O.map fun(i:Nat)=>(i:Int)).length:Int))=false:=zl90 (by rw[Ol];omega)
  have t:(Ax (fun i=>(i:Int)) s.2.2.2.2.2.2.1 O).take O.length=Ax (fun i=>(i:Int)) s.2.2.2.2.2.2.1 O:=zl57 (by rw[FX];omega)
  simp only[KJ,d1,eF,t]) 0 (lz _)
 have c':Comes KJ ((0,(),(),(O.map fun(i:Nat)=>(i:Int)),(O.map fun(i:Nat)=>(i:Int)),((O.map fun(i:Nat)=>(i:Int)).length:Int)),s,[]) _:=c
 unfold BR
 cases e:AN (vO s.2.2.2.2.2.2.1 O) O.length with
 |none=>
  rw[e] at jo
  simp only[FB,cb c',cv c',aG,jo,zov jo,Ag,zU]
  rfl
 |some k=>
  have hk:=HR e
  have hk':k<(O.map fun(i:Nat)=>(i:Int)).length:=by rw[Ol];exact hk
  have d:decide ((k:Int)<0)=false:=zdf
  rw[e] at jo
  dsimp only[zH,Option.map] at jo ⊢
  simp only[FB,cb c',cv c',jo,zov jo,w9,d,eF,zl94,gl hk',g0,Og k hk]
def hs (S:List Sv)(k:Nat):Int:=Int.tmod (S.getD k zS).1 2
def own (S:List Sv)(h:Int)(i:Nat):List Nat:=(List.range i).filter fun k=>hs S k==h
def aaL (S:List Sv)(h:Int)(i:Nat):own S h (i+1)=own S h i++(bif hs S i==h then [i] else []):=by
 unfold own
 rw[List.range_succ,List.filter_append]
 cases e:(hs S i==h)<;>simp[e]
def Qz (S:List Sv)(h:Int)(i:Nat):(own S h i).length≤i:=by
 have:=List.length_filter_le (fun k=>hs S k==h) (List.range i)
 rw[List.length_range] at this
 exact this
def Ii {S:List Sv}{h:Int}{n k:Nat}:k∈own S h n↔k<n∧hs S k=h:=by
 unfold own;rw[List.mem_filter,List.mem_range,zl78]
def isB (S:List Sv)(h c:Int):Bool:=match BR S (own S h S.length) with
 |some j=>(S.getD j zS).1==c
 |none=>false
def ajW (s:eA.D)(I:C9 s.2.2.2.2.2.2.1 s.2.1)(c:Int):Gi (s,c)=some (isB s.2.2.2.2.2.2.1 (Int.tmod c 2) c,()):=by
 have hS:=I.len
 have hh (x:Int):Cr x=some (Int.tmod x 2,()):=rfl
 have jo:=adi (Sk I (fun i=>(s.2.2.2.2.2.2.1.getD i zS).1) (O:=own s.2.2.2.2.2.2.1 (Int.tmod c 2) s.2.2.2.2.2.2.1.length) (fun i hi=>(Ii.1 hi).1) (Qz _ _ _))
 rw[Sj] at jo
 have q:=s4 (r:=Iq) (fun i=>(((i:Int),(),(),c),s,Ax (fun i=>(s.2.2.2.2.2.2.1.getD i zS).1) s.2.2.2.2.2.2.1 (own s.2.2.2.2.2.2.1 (Int.tmod c 2) i))) (n:=s.2.2.2.2.2.2.1.length) (y:=((c,(),()),Ax (fun i=>(s.2.2.2.2.2.2.1.getD i zS).1) s.2.2.2.2.2.2.1 (own s.2.2.2.2.2.2.1 (Int.tmod c 2) s.2.2.2.2.2.2.1.length),s)) (fun i hi=>by
  have ol:=Qz s.2.2.2.2.2.2.1 (Int.tmod c 2) i
  have hm:decide ((Ax (fun i=>(s.2.2.2.2.2.2.1.getD i zS).1) s.2.2.2.2.2.2.1 (own s.2.2.2.2.2.2.1 (Int.tmod c 2) i)).length+1≤eD)=true:=by rw[FX];unfold eD;exact zdt
  have jb:Ek (s.2.2.2.2.2.2.1.getD i zS)=some (((s.2.2.2.2.2.2.1.getD i zS).1,3-(s.2.2.2.2.2.2.1.getD i zS).2.2.2.2.1,(s.2.2.2.2.2.2.1.getD i zS).2.2.2.2.2.1,()),()):=by
   simp only[Ek,wD (I.wd i hi)]
  rw[aaL]
  unfold hs
  cases e:(Int.tmod (s.2.2.2.2.2.2.1.getD i zS).1 2==Int.tmod c 2) with
  |true=>
   simp only[aG,Ax,zl54,kD,List.map_nil]
   unfold Ax at hm
   unfold zS at e jb hm ⊢
   simp only[Iq,gl hi,g0,zl94,hh,zov (hh _),e,jb,zov jb,hm,w9,mb (i:=i)]
  |false=>
   simp only[eF,jV]
   unfold zS at e ⊢
   simp only[Iq,gl hi,g0,zl94,hh,zov (hh _),e,w9,eF,mb (i:=i)]) (by
  have d1:decide ((s.2.2.2.2.2.2.1.length:Int)<(s.2.2.2.2.2.2.1.length:Int))=false:=zdf
  simp only[Iq,d1,eF]) 0 (lz _)
 have q':Comes Iq ((0,(),(),c),s,[]) _:=q
 unfold isB BR
 cases e:AN (vO s.2.2.2.2.2.2.1 (own s.2.2.2.2.2.2.1 (Int.tmod c 2) s.2.2.2.2.2.2.1.length)) (own s.2.2.2.2.2.2.1 (Int.tmod c 2) s.2.2.2.2.2.2.1.length).length with
 |none=>
  rw[e] at jo
  simp only[Gi,cb q',cv q',aG,jo,zov jo,Ag,zU]
  rfl
 |some k=>
  have hk:=HR e
  have hk':k<(Ax (fun i=>(s.2.2.2.2.2.2.1.getD i zS).1) s.2.2.2.2.2.2.1 (own s.2.2.2.2.2.2.1 (Int.tmod c 2) s.2.2.2.2.2.2.1.length)).length:=by rw[FX];exact hk
  have d:decide ((k:Int)≥0)=true:=zdt
  have g:=NV (fun i=>(s.2.2.2.2.2.2.1.getD i zS).1) s.2.2.2.2.2.2.1 _ _ hk
  unfold zJ at g
  rw[e] at jo
  dsimp only[zH,Option.map] at jo ⊢
  simp only[Gi,cb q',cv q',jo,zov jo,w9,d,zl94,gl hk',g,zl70,pH]
end Pl
