import Derived.Test.YtfeoanopdlpabaaGreatDoorX9
set_option linter.defProp false
namespace Wh
end Wh
open Wh
open Go Go.Ab Go.Lib
namespace Pl
def lvl (b:Bu)(now:Int):Int:=IntKind.wrap .i64 (b.1+IntKind.wrap .i64 (b.2.2.1*IntKind.wrap .i64 (now-b.2.2.2.1)))
def bV (b:Bu)(now:Int):Bu:=(if b.2.1<lvl b now then b.2.1 else lvl b now,b.2.1,b.2.2.1,now,b.2.2.2.2)
def ada (b:Bu)(now:Int):Gq (b,now)=some (bV b now,()):=by
 unfold bV
 by_cases h:b.2.1<lvl b now
 ·have d:decide (lvl b now>b.2.1)=true:=zl86 h
  rw[bf h]
  unfold lvl at d
  simp only[Gq,d,aG]
 ·have d:decide (lvl b now>b.2.1)=false:=zl90 h
  rw[bY h]
  unfold lvl at d ⊢
  simp only[Gq,d,eF]
def afD (b:Bu)(now:Int)(h:Cy b=true)(h1:mw now 0 99999=true)(h2:b.2.2.2.1≤now):q58 (b,now)=some (bV b now,()):=by
 have a:=Sd b
 rw[h] at a
 have w:=AD now 0 99999
 rw[h1] at w
 have d:decide (now<b.2.2.2.1)=false:=zdf
 unfold bV lvl
 simp only[q58,a,zov a,w,zov w,d,zl70,zl98,zl99,w9,eF]
noncomputable def szV (L:Nat):Int:=(zog Cb (L:Int)).1.2.1
noncomputable def E_ (eL:List It) (e:Int):Int:=match BB eL e with
 |some i=>szV (eL.getD i z0).2.2.2.1.length
 |none=>0
def aaV {L:Nat}(h1:1≤L)(hL:L≤300):∃P:gv.D,Cb (L:Int)=some (P,())∧C6 (L:Int)=some (P,())∧P.2.1=szV L:=by
 obtain⟨P,_,a,b⟩:=TD L h1 hL
 exact⟨P,a,b,by unfold szV;rw[zov a]⟩
def Si {c:Ct}(I:AE c){i:Nat}(h:i<c.2.1.length):(0≤(c.2.1.getD i z0).1∧(c.2.1.getD i z0).1≤1)∧1≤(c.2.1.getD i z0).2.2.2.1.length∧(c.2.1.getD i z0).2.2.2.1.length≤300:=by
 have m:c.2.1.getD i z0∈c.2.1:=by rw[getD_eq _ _ _ h];exact zl96 h
 have:=QG (I.ok _ m)
 exact⟨this.1,this.2.2⟩
def afU (s:eA.D)(I:AE s.2.2.2.1)(e:Int):q18 (s,e)=some (E_ s.2.2.2.1.2.1 e,()):=by
 have hl:=I.len
 have ed:=NS s.2.2.2.1 e (by omega)
 unfold E_
 cases h:BB s.2.2.2.1.2.1 e with
 |none=>
  rw[h] at ed
  have d:decide ((-1:Int)<0)=true:=by decide
  dsimp only[zH] at ed
  simp only[q18,ed,zov ed,d,Ag,zU,aG]
 |some i=>
  rw[h] at ed
  have hi:=LO h
  obtain⟨_,l1,l2⟩:=Si I hi
  obtain⟨P,_,p2,p3⟩:=aaV l1 l2
  have d:decide ((i:Int)<0)=false:=zdf
  dsimp only[zH] at ed ⊢
  rw[←p3]
  unfold z0 at p2
  simp only[q18,ed,zov ed,d,zl94,p2,zov p2,gl hi,g0,w9,eF]
noncomputable def Gx (B:List Bu) (eL:List It) (S:List Sv) (k:Nat):Bool:=
 isB S (hs S k) (S.getD k zS).1&&decide ((B.getD (hs S k).toNat zB).1≥E_ eL (S.getD k zS).2.2.1)
noncomputable def Bk (B:List Bu) (eL:List It) (S:List Sv) (i:Nat):List Nat:=(List.range i).filter (Gx B eL S)
def ajP (B:List Bu)(eL:List It)(S:List Sv)(i:Nat):Bk B eL S (i+1)=Bk B eL S i++(bif Gx B eL S i then [i] else []):=by
 unfold Bk
 rw[List.range_succ,List.filter_append]
 cases e:Gx B eL S i<;>simp[e]
def VM (B:List Bu)(eL:List It)(S:List Sv)(i:Nat):(Bk B eL S i).length≤i:=by
 have:=List.length_filter_le (Gx B eL S) (List.range i)
 rw[List.length_range] at this
 exact this
def Q2 {B:List Bu}{eL:List It}{S:List Sv}{n k:Nat}:k∈Bk B eL S n↔k<n∧Gx B eL S k=true:=by
 unfold Bk;rw[List.mem_filter,List.mem_range]
def hs_b {S:List Sv}{now:Int}(I:C9 S now){k:Nat}(h:k<S.length):hs S k=0∨hs S k=1:=by
 have:=I.cl k h
 unfold hs
 rw[Int.tmod_eq_emod_of_nonneg this.1];omega
def aj5 (s:eA.D)(I:C9 s.2.2.2.2.2.2.1 s.2.1)(C:AE s.2.2.2.1)(hB:s.2.2.2.2.2.1.length=2) :
  My s=some (Ax (fun i=>(s.2.2.2.2.2.2.1.getD i zS).1) s.2.2.2.2.2.2.1 (Bk s.2.2.2.2.2.1 s.2.2.2.1.2.1 s.2.2.2.2.2.2.1 s.2.2.2.2.2.2.1.length),()):=by
 have hS:=I.len
 have hl:=C.len
 have hh (x:Int):Cr x=some (Int.tmod x 2,()):=rfl
 have q:=s4 (r:=Gj) (fun i=>(((i:Int),(),()),Ax (fun i=>(s.2.2.2.2.2.2.1.getD i zS).1) s.2.2.2.2.2.2.1 (Bk s.2.2.2.2.2.1 s.2.2.2.1.2.1 s.2.2.2.2.2.2.1 i),s)) (n:=s.2.2.2.2.2.2.1.length)
  (y:=((),Ax (fun i=>(s.2.2.2.2.2.2.1.getD i zS).1) s.2.2.2.2.2.2.1 (Bk s.2.2.2.2.2.1 s.2.2.2.1.2.1 s.2.2.2.2.2.2.1 s.2.2.2.2.2.2.1.length))) (fun i hi=>by
  have ol:=VM s.2.2.2.2.2.1 s.2.2.2.1.2.1 s.2.2.2.2.2.2.1 i
  have hm:decide ((Ax (fun i=>(s.2.2.2.2.2.2.1.getD i zS).1) s.2.2.2.2.2.2.1 (Bk s.2.2.2.2.2.1 s.2.2.2.1.2.1 s.2.2.2.2.2.2.1 i)).length+1≤eD)=true:=by rw[FX];unfold eD;exact zdt
  have jb:Ek (s.2.2.2.2.2.2.1.getD i zS)=some (((s.2.2.2.2.2.2.1.getD i zS).1,3-(s.2.2.2.2.2.2.1.getD i zS).2.2.2.2.1,(s.2.2.2.2.2.2.1.getD i zS).2.2.2.2.2.1,()),()):=by
   simp only[Ek,wD (I.wd i hi)]
  have bt:=ajW s I (s.2.2.2.2.2.2.1.getD i zS).1
  have ed:=Q3 s.2.2.2.1 (s.2.2.2.2.2.2.1.getD i zS).2.2.1 (by omega)
  have hb:=hs_b I hi
  have hk:(hs s.2.2.2.2.2.2.1 i).toNat<s.2.2.2.2.2.1.length:=by omega
  have hk0:decide (0≤hs s.2.2.2.2.2.2.1 i)=true:=zdt
  have hk1:decide (hs s.2.2.2.2.2.2.1 i<(s.2.2.2.2.2.1.length:Int))=true:=zdt
  rw[ajP]
  have key:Ax (fun i=>(s.2.2.2.2.2.2.1.getD i zS).1) s.2.2.2.2.2.2.1 (Bk s.2.2.2.2.2.1 s.2.2.2.1.2.1 s.2.2.2.2.2.2.1 i++(bif Gx s.2.2.2.2.2.1 s.2.2.2.1.2.1 s.2.2.2.2.2.2.1 i then [i] else []))
    = bif Gx s.2.2.2.2.2.1 s.2.2.2.1.2.1 s.2.2.2.2.2.2.1 i then Ax (fun i=>(s.2.2.2.2.2.2.1.getD i zS).1) s.2.2.2.2.2.2.1 (Bk s.2.2.2.2.2.1 s.2.2.2.1.2.1 s.2.2.2.2.2.2.1 i) ++ [((s.2.2.2.2.2.2.1.getD i zS).1,3-(s.2.2.2.2.2.2.1.getD i zS).2.2.2.2.1,(s.2.2.2.2.2.2.1.getD i zS).2.2.2.2.2.1,())] else Ax (fun i=>(s.2.2.2.2.2.2.1.getD i zS).1) s.2.2.2.2.2.2.1 (Bk s.2.2.2.2.2.1 s.2.2.2.1.2.1 s.2.2.2.2.2.2.1 i):=by
   cases Gx s.2.2.2.2.2.1 s.2.2.2.1.2.1 s.2.2.2.2.2.2.1 i
   ·simp only[eF,jV]
   ·simp only[aG,Ax,zl54,kD,List.map_nil]
  rw[key]
  generalize Ax (fun i=>(s.2.2.2.2.2.2.1.getD i zS).1) s.2.2.2.2.2.2.1 (Bk s.2.2.2.2.2.1 s.2.2.2.1.2.1 s.2.2.2.2.2.2.1 i)=J at *
  unfold Gx
  unfold hs at hk hk0 hk1 ⊢
  generalize isB s.2.2.2.2.2.2.1 (Int.tmod (s.2.2.2.2.2.2.1.getD i zS).1 2) (s.2.2.2.2.2.2.1.getD i zS).1=bb at *
  cases h:BB s.2.2.2.1.2.1 (s.2.2.2.2.2.2.1.getD i zS).2.2.1 with
  |none=>
   rw[h] at ed
   dsimp only[FV,Option.isSome] at ed
   have ez:E_ s.2.2.2.1.2.1 (s.2.2.2.2.2.2.1.getD i zS).2.2.1=0:=by unfold E_;rw[h]
   rw[ez]
   unfold zS at *
   unfold zB
   cases bb with
   |false=>
    simp only[Gj,gl hi,g0,zl94,hh,zov (hh _),ed,zov ed,bt,zov bt,zl98,zl76,zl93,w9,eF,mb (i:=i)]
   |true=>
    simp only[Gj,gl hi,g0,zl94,hh,zov (hh _),ed,zov ed,bt,zov bt,hk0,hk1,zl70,pH,zl108,w9,eF,mb (i:=i),jb,zov jb,hm]
    cases decide ((List.getD s.2.2.2.2.2.1 (Int.tmod (List.getD s.2.2.2.2.2.2.1 i ((0:Int),(0:Int),(0:Int),(0:Int),(0:Int),(0:Int),())).1 2).toNat ((0:Int),(0:Int),(0:Int),(0:Int),())).1≥0)<;>rfl
  |some j=>
   rw[h] at ed
   have hj:=LO h
   obtain⟨_,l1,l2⟩:=Si C hj
   obtain⟨P,p1,_,p3⟩:=aaV l1 l2
   dsimp only[FV,Option.isSome] at ed
   have ez:E_ s.2.2.2.1.2.1 (s.2.2.2.2.2.2.1.getD i zS).2.2.1=P.2.1:=by unfold E_;rw[h];exact p3.symm
   rw[ez]
   unfold z0 at ed p1
   unfold zS at *
   unfold zB
   cases bb with
   |false=>
    simp only[Gj,gl hi,g0,zl94,hh,zov (hh _),ed,zov ed,p1,bt,zov bt,zl98,zl76,zl93,w9,eF,mb (i:=i)]
   |true=>
    simp only[Gj,gl hi,g0,zl94,hh,zov (hh _),ed,zov ed,p1,zov p1,bt,zov bt,hk0,hk1,zl70,pH,zl108,w9,mb (i:=i),jb,zov jb,hm]
    cases decide ((List.getD s.2.2.2.2.2.1 (Int.tmod (List.getD s.2.2.2.2.2.2.1 i ((0:Int),(0:Int),(0:Int),(0:Int),(0:Int),(0:Int),())).1 2).toNat ((0:Int),(0:Int),(0:Int),(0:Int),())).1≥P.2.1)<;>rfl) (by
  have d1:decide ((s.2.2.2.2.2.2.1.length:Int)<(s.2.2.2.2.2.2.1.length:Int))=false:=zdf
  simp only[Gj,d1,eF]) 0 (lz _)
 have q':Comes Gj ((0,(),()),[],s) _:=q
 simp only[My,cb q',cv q',aG]
noncomputable def A_ (b:Bu) (eL:List It) (S:List Sv) (h:Int):List Nat:=match BR S (own S h S.length) with
 |some j=>bif decide (b.1≥E_ eL (S.getD j zS).2.2.1) then [j] else []
 |none=>[]
def Sg {S:List Sv}{now:Int}(I:C9 S now){h:Int}{j:Nat}(hj:j<S.length):isB S h (S.getD j zS).1=true↔BR S (own S h S.length)=some j:=by
 unfold isB
 cases e:BR S (own S h S.length) with
 |none=>simp
 |some k=>
  have hk:=(Ii.1 (J6 e)).1
  simp only[zl78,au]
  exact⟨fun q=>I.inj hk hj q,fun q=>by rw[q]⟩
def QW {b:Bu}{eL:List It}{S:List Sv}{h:Int}{j:Nat}:j∈A_ b eL S h↔BR S (own S h S.length)=some j∧decide (b.1≥E_ eL (S.getD j zS).2.2.1)=true:=by
 unfold A_
 cases e:BR S (own S h S.length) with
 |none=>simp
 |some k=>
  dsimp only
  cases d:decide (b.1≥E_ eL (S.getD k zS).2.2.1) with
  |true=>
   simp only[aG,eH,au]
   exact⟨fun q=>by subst q;exact⟨rfl,d⟩,fun q=>q.1.symm⟩
  |false=>
   simp only[eF,iG,au,false_iff]
   rintro⟨rfl,q⟩
   rw[d] at q;cases q
def OV (b:Bu)(eL:List It)(S:List Sv)(h:Int):(A_ b eL S h).Nodup∧(A_ b eL S h).length≤1:=by
 unfold A_
 cases BR S (own S h S.length) with
 |none=>exact⟨List.nodup_nil,by simp⟩
 |some k=>dsimp only;cases decide (b.1≥E_ eL (S.getD k zS).2.2.1)<;>simp
def ajC {S:List Sv}{now:Int}(I:C9 S now)(b0 b1:Bu)(eL:List It):(A_ b0 eL S 0++A_ b1 eL S 1).Perm (Bk [b0,b1] eL S S.length):=by
 refine(List.perm_ext_iff_of_nodup ?_ ?_).2 fun j=>?_
 ·rw[cM]
  refine⟨(OV _ _ _ _).1,(OV _ _ _ _).1,fun a ha c hc=>?_⟩
  rintro rfl
  have q0:=(Ii.1 (J6 (QW.1 ha).1)).2
  have q1:=(Ii.1 (J6 (QW.1 hc).1)).2
  omega
 ·exact(List.nodup_range (n:=S.length)).filter _
 ·rw[bB,QW,QW,Q2]
  unfold Gx
  constructor
  ·rintro(⟨q,d⟩|⟨q,d⟩)
   ·have m:=Ii.1 (J6 q)
    refine⟨m.1,?_⟩
    rw[m.2,(Sg I m.1).2 q,zl108];exact d
   ·have m:=Ii.1 (J6 q)
    refine⟨m.1,?_⟩
    rw[m.2,(Sg I m.1).2 q,zl108];exact d
  ·rintro⟨hj,q⟩
   rw[aF,Sg I hj] at q
   rcases hs_b I hj with e|e
   ·rw[e] at q;exact .inl q
   ·rw[e] at q;exact .inr q
def ajD {S:List Sv}{now:Int}(I:C9 S now)(b0 b1:Bu)(eL:List It) :
  ((A_ b0 eL S 0++A_ b1 eL S 1).map fun(i:Nat)=>(i:Int)).mergeSort (fun a b=>decide (a≤b))=(Bk [b0,b1] eL S S.length).map fun(i:Nat)=>(i:Int):=by
 refine List.Perm.eq_of_pairwise (le:=(· ≤ ·)) (fun a b _ _ h1 h2=>Int.le_antisymm h1 h2) ?_ ?_ ((List.mergeSort_perm _ _).trans ((ajC I b0 b1 eL).map _))
 ·have:=List.pairwise_mergeSort (le:=fun(a b:Int)=>decide (a≤b)) (fun a b c h1 h2=>by simp at *;omega) (fun a b=>by simp;omega) ((A_ b0 eL S 0++A_ b1 eL S 1).map fun(i:Nat)=>(i:Int))
  exact this.imp fun h=>by simpa using h
 ·rw[List.pairwise_map]
  exact((List.pairwise_lt_range (n:=S.length)).filter _).imp fun h=>by omega
def ci (l:List Nat):List Int:=l.map fun(i:Nat)=>(i:Int)
def RM (l:List Nat):(ci l).length=l.length:=by simp[ci]
section
variable (now:Int) (log:List UInt8) (cl hd:Int) (eL:List It) (fr:List Fr) (S:List Sv)
def akj (b0 b1:Bu) :
  Comes MR (((0:Int),(),()),(true,now,log,(cl,(),()),((),hd,()),(),(),()),(false,(0:Int),[],((0:Int),(),()),((),(0:Int),()),(),(),()),eL,fr,[b0,b1],S,[],[],[],[])
   (((),()),(false,(0:Int),[],((0:Int),(),()),((),(0:Int),()),(),(),()),(true,now,log,(cl,(),()),((),hd,()),(),(),()),[],[],[],[],eL,fr,[bV b0 now,bV b1 now],S):=by
 have e0:=ada b0 now
 have e1:=ada b1 now
 refine .again (x':=(((1:Int),(),()),(true,now,log,(cl,(),()),((),hd,()),(),(),()),(false,(0:Int),[],((0:Int),(),()),((),(0:Int),()),(),(),()),eL,fr,[bV b0 now,b1],S,[],[],[],[])) ?_
  (.again (x':=(((2:Int),(),()),(true,now,log,(cl,(),()),((),hd,()),(),(),()),(false,(0:Int),[],((0:Int),(),()),((),(0:Int),()),(),(),()),eL,fr,[bV b0 now,bV b1 now],S,[],[],[],[])) ?_ (.out rfl))
 ·have f:Gq (List.getD [b0,b1] (Int.toNat 0) ((0:Int),(0:Int),(0:Int),(0:Int),()),now)=some (bV b0 now,()):=e0
  simp only[MR,f,zov f,Ag]
  rfl
 ·have f:Gq (List.getD [bV b0 now,b1] (Int.toNat 1) ((0:Int),(0:Int),(0:Int),(0:Int),()),now)=some (bV b1 now,()):=e1
  simp only[MR,f,zov f,Ag]
  rfl
variable (Eu:Bool) (Ef:Int) (Ea:List UInt8) (D0 hd0:Int) (D_:List It) (D6:List Fr) (DZ:List Bu) (Es:List Sv) (rd:List Int) (B:List Bu)
def ahH (hS:S.length≤100000)(h:Int) :
  Comes KX (((0:Int),(),h,(),(),(),h,(),(S.length:Int)),[],S,(true,now,log,(cl,(),()),((),hd,()),(),(),()),(Eu,Ef,Ea,(D0,(),()),((),hd0,()),(),(),()),rd,eL,fr,B,D_,D6,DZ,Es)
   (((),(),h,(),h,()),(true,now,log,(cl,(),()),((),hd,()),(),(),()),(Eu,Ef,Ea,(D0,(),()),((),hd0,()),(),(),()),rd,ci (own S h S.length),eL,fr,B,S,D_,D6,DZ,Es):=by
 have hh (x:Int):Im x=some (Int.tmod x 2,()):=rfl
 have q:=s4 (r:=KX) (fun i=>(((i:Int),(),h,(),(),(),h,(),(S.length:Int)),ci (own S h i),S,(true,now,log,(cl,(),()),((),hd,()),(),(),()),(Eu,Ef,Ea,(D0,(),()),((),hd0,()),(),(),()),rd,eL,fr,B,D_,D6,DZ,Es)) (n:=S.length)
  (y:=(((),(),h,(),h,()),(true,now,log,(cl,(),()),((),hd,()),(),(),()),(Eu,Ef,Ea,(D0,(),()),((),hd0,()),(),(),()),rd,ci (own S h S.length),eL,fr,B,S,D_,D6,DZ,Es)) (fun i hi=>by
  have ol:=Qz S h i
  have hm:decide ((ci (own S h i)).length+1≤eD)=true:=by rw[RM];unfold eD;exact zdt
  have key:ci (own S h (i+1))=bif hs S i==h then ci (own S h i) ++ [(i:Int)] else ci (own S h i):=by
   rw[aaL]
   cases hs S i==h
   ·simp only[eF,jV]
   ·simp only[aG,ci,zl54,kD,List.map_nil]
  rw[key]
  generalize ci (own S h i)=L at *
  unfold hs
  unfold zS
  simp only[KX,gl hi,g0,zl94,hh,zov (hh _),hm,w9,mb (i:=i)]
  cases (Int.tmod (List.getD S i ((0:Int),(0:Int),(0:Int),(0:Int),(0:Int),(0:Int),())).1 2==h)<;>rfl) (by
  have d1:decide ((S.length:Int)<(S.length:Int))=false:=zdf
  simp only[KX,d1,eF]) 0 (lz _)
 exact q
def ady (I:C9 S now)(C:AE (cl,eL,()))(h:Nat)(hh:h<2)(hB:B.length=2)(b:Bu)(hb:B.getD h zB=b)(ok:Cy b=true)(h0:0≤now)(ha:b.2.2.2.1≤now)(hr:rd.length≤2) :
  IQ (((h:Int),(),(),()),rd,(true,now,log,(cl,(),()),((),hd,()),(),(),()),(Eu,Ef,Ea,(D0,(),()),((),hd0,()),(),(),()),eL,fr,B,S,D_,D6,DZ,Es)
   = some (.inl ((((h+1:Nat):Int),(),(),()),rd++ci (A_ (bV b now) eL S (h:Int)),(true,now,log,(cl,(),()),((),hd,()),(),(),()),(Eu,Ef,Ea,(D0,(),()),((),hd0,()),(),(),()),eL,fr,B.set h (bV b now),S,D_,D6,DZ,Es)):=by
 have oc:=ahH now log cl hd eL fr S Eu Ef Ea D0 hd0 D_ D6 DZ Es rd (B.set h (bV b now)) I.len (h:Int)
 have hS:=I.len
 have nx:=Ze (true,now,log,(cl,eL,()),(fr,hd,()),B.set h (bV b now),S,()) I (own S h S.length) (fun i hi=>(Ii.1 hi).1) (Qz _ _ _)
 have nx':FB ((true,now,log,(cl,eL,()),(fr,hd,()),B.set h (bV b now),S,()),ci (own S h S.length))=some (zH (BR S (own S h S.length)),()):=nx
 have bk:=afD b now ok (zl86 ⟨h0,I.nw⟩) ha
 have d2:decide ((h:Int)<2)=true:=zdt
 have hl:h<B.length:=by omega
 have hl':h<(B.set h (bV b now)).length:=by rw[zl66];omega
 have gb:(B.set h (bV b now)).getD h zB=bV b now:=JK _ _ _ _ hl
 have wi:=mb (i:=h)
 have hm:decide (rd.length+1≤eD)=true:=by unfold eD;exact zdt
 unfold A_
 cases e:BR S (own S h S.length) with
 |none=>
  rw[e] at nx'
  dsimp only[zH] at nx'
  have d:decide ((-1:Int)≥0)=false:=by decide
  have nil:ci [] = []:=rfl
  unfold zB at hb
  simp only[IQ,d2,zl94,hb,bk,zov bk,gl hl,g0,cb oc,cv oc,nx',zov nx',d,zl98,zl76,w9,eF,wi,nil,jV]
 |some j=>
  rw[e] at nx'
  dsimp only[zH] at nx' ⊢
  have hj:j<S.length:=(Ii.1 (J6 e)).1
  have d:decide ((j:Int)≥0)=true:=zdt
  have sz:=afU (true,now,log,(cl,eL,()),(fr,hd,()),B.set h (bV b now),S,()) C (S.getD j zS).2.2.1
  dsimp only at sz
  unfold zB at hb gb
  unfold zS at sz ⊢
  simp only[IQ,d2,zl94,hb,bk,zov bk,gl hl,gl hl',gl hj,g0,cb oc,cv oc,nx',zov nx',d,sz,zov sz,gb,zl70,pH,w9,wi,hm]
  cases decide ((bV b now).1≥E_ eL (List.getD S j ((0:Int),(0:Int),(0:Int),(0:Int),(0:Int),(0:Int),())).2.2.1) with
  |true=>rfl
  |false=>simp only[eF,ci,List.map_nil,jV]
def akJ (b0 b1:Bu)(I:C9 S now)(C:AE (cl,eL,()))(h0:0≤now)(o0:Cy b0=true)(o1:Cy b1=true)(a0:b0.2.2.2.1≤now)(a1:b1.2.2.2.1≤now) :
  Comes IQ (((0:Int),(),(),()),[],(true,now,log,(cl,(),()),((),hd,()),(),(),()),(false,(0:Int),[],((0:Int),(),()),((),(0:Int),()),(),(),()),eL,fr,[b0,b1],S,[],[],[],[])
   (((),(),()),(false,(0:Int),[],((0:Int),(),()),((),(0:Int),()),(),(),()),(true,now,log,(cl,(),()),((),hd,()),(),(),()),ci (A_ (bV b0 now) eL S 0++A_ (bV b1 now) eL S 1),[],[],[],[],eL,fr,[bV b0 now,bV b1 now],S):=by
 have r0:=ady now log cl hd eL fr S false (0:Int) [] (0:Int) (0:Int) [] [] [] [] [] [b0,b1] I C 0 (by omega) rfl b0 rfl o0 h0 a0 (by simp)
 have l0:=(OV (bV b0 now) eL S 0).2
 have r1:=ady now log cl hd eL fr S false (0:Int) [] (0:Int) (0:Int) [] [] [] [] (ci (A_ (bV b0 now) eL S 0)) [bV b0 now,b1] I C 1 (by omega) rfl b1 rfl o1 h0 a1 (by rw[RM];omega)
 have e:ci (A_ (bV b0 now) eL S 0++A_ (bV b1 now) eL S 1)=ci (A_ (bV b0 now) eL S 0)++ci (A_ (bV b1 now) eL S 1):=by simp[ci]
 rw[e]
 exact .again r0 (.again r1 (.out rfl))
end
def ajV (s:eA.D){now:Int}(I:C9 s.2.2.2.2.2.2.1 now)(k:Nat)(hk:k<s.2.2.2.2.2.2.1.length):KK (s,(s.2.2.2.2.2.2.1.getD k zS).1)=some ((k:Int),()):=by
 have hS:=I.len
 have q:=D3 (r:=IK) (fun i=>(((i:Int),(s.2.2.2.2.2.2.1.getD k zS).1,()),s)) (n:=s.2.2.2.2.2.2.1.length) (p:=fun i=>(s.2.2.2.2.2.2.1.getD i zS).1==(s.2.2.2.2.2.2.1.getD k zS).1) (yt:=fun i=>.inl ((i:Int),())) (yn:=.inr ((),())) (fun i hi hp=>by
   unfold zS at hp ⊢
   simp only[IK,gl hi,g0,zl94,hp,zU,zl92,aG,eF,mb (i:=i)]) (fun i hi hp=>by
   unfold zS at hp ⊢
   simp only[IK,gl hi,g0,zl94,hp,zU,zl92,aG]) (by
   have d1:decide ((s.2.2.2.2.2.2.1.length:Int)<(s.2.2.2.2.2.2.1.length:Int))=false:=zdf
   simp only[IK,d1,eF])
 have f:first s.2.2.2.2.2.2.1.length (fun i=>(s.2.2.2.2.2.2.1.getD i zS).1==(s.2.2.2.2.2.2.1.getD k zS).1)=some k:=Bp.2 ⟨hk,zl95 _,fun j hj=>by
  rw[zl89]
  have:=I.DY j k hj hk
  omega⟩
 rw[f] at q
 have q':Comes IK ((0,(s.2.2.2.2.2.2.1.getD k zS).1,()),s) (.inl ((k:Int),())):=q
 simp only[KK,cb q',cv q',aG]
def wo (S:List Sv)(c:Int)(i:Nat):List Sv:=(S.take i).filter fun v=>v.1 != c
def ak7 (S:List Sv)(c:Int)(i:Nat)(h:i<S.length):wo S c (i+1)=wo S c i++(bif(S.getD i zS).1 != c then [S.getD i zS] else []):=by
 unfold wo
 rw[zl88 h,List.filter_append,getD_eq _ _ _ h]
 cases e:(S[i].1 != c)<;>simp[e]
def wo_len (S:List Sv)(c:Int)(i:Nat):(wo S c i).length≤i:=by
 have:=List.length_filter_le (fun v:Sv=>v.1 != c) (S.take i)
 rw[zl3] at this
 unfold wo;omega
def wo_all {S:List Sv}{now:Int}(I:C9 S now)(k:Nat)(hk:k<S.length):wo S (S.getD k zS).1 S.length=S.eraseIdx k:=by
 have sp:S=S.take k++S.getD k zS::S.drop (k+1):=by
  rw[getD_eq _ _ _ hk,←zl109 hk,zl68]
 have f1:∀v∈S.take k,(v.1 != (S.getD k zS).1)=true:=fun v hv=>by
  obtain⟨i,hi,rfl⟩:=List.mem_iff_getElem.1 hv
  rw[zl3] at hi
  have:=I.DY i k (by omega) hk
  rw[getD_eq _ _ _ (show i<S.length by omega)] at this
  rw[List.getElem_take]
  simp only[bne_iff_ne];omega
 have f2:∀v∈S.drop (k+1),(v.1 != (S.getD k zS).1)=true:=fun v hv=>by
  obtain⟨i,hi,rfl⟩:=List.mem_iff_getElem.1 hv
  rw[zl4] at hi
  have:=I.DY k (k+1+i) (by omega) (by omega)
  rw[getD_eq S (k+1+i) _ (show k+1+i<S.length by omega)] at this
  rw[List.getElem_drop]
  simp only[bne_iff_ne];omega
 unfold wo
 rw[zl102,zl112]
 generalize (S.getD k zS)=x at *
 conv=>lhs;rw[sp]
 rw[List.filter_append,List.filter_cons,List.filter_eq_self.2 f1,List.filter_eq_self.2 f2]
 simp
def akg (s:eA.D)(hS:s.2.2.2.2.2.2.1.length≤100000)(c:Int):q36 (s,c)=some ((s.1,s.2.1,s.2.2.1,s.2.2.2.1,s.2.2.2.2.1,s.2.2.2.2.2.1,wo s.2.2.2.2.2.2.1 c s.2.2.2.2.2.2.1.length,s.2.2.2.2.2.2.2),()):=by
 have q:=s4 (r:=IT) (fun i=>(((i:Int),(),(),c,()),s,wo s.2.2.2.2.2.2.1 c i,(false,(0:Int),[],((0:Int),(),()),((),(0:Int),()),(),(),()),[],[],[],[])) (n:=s.2.2.2.2.2.2.1.length)
  (y:=(((),(),()),(false,(0:Int),[],((0:Int),(),()),((),(0:Int),()),(),(),()),s,wo s.2.2.2.2.2.2.1 c s.2.2.2.2.2.2.1.length,[],[],[],[])) (fun i hi=>by
  have wl:=wo_len s.2.2.2.2.2.2.1 c i
  have hm:decide ((wo s.2.2.2.2.2.2.1 c i).length+1≤eD)=true:=by unfold eD;exact zdt
  rw[ak7 _ _ _ hi]
  generalize wo s.2.2.2.2.2.2.1 c i=L at *
  unfold zS
  cases e:((List.getD s.2.2.2.2.2.2.1 i ((0:Int),(0:Int),(0:Int),(0:Int),(0:Int),(0:Int),())).1 != c) with
  |true=>simp only[IT,gl hi,g0,zl94,e,hm,zU,zl92,aG,mb (i:=i)]
  |false=>simp only[IT,gl hi,g0,zl94,e,zU,zl92,aG,eF,jV,mb (i:=i)]) (by
  have d1:decide ((s.2.2.2.2.2.2.1.length:Int)<(s.2.2.2.2.2.2.1.length:Int))=false:=zdf
  simp only[IT,d1,eF]) 0 (lz _)
 have q':Comes IT ((0,(),(),c,()),s,[],(false,(0:Int),[],((0:Int),(),()),((),(0:Int),()),(),(),()),[],[],[],[]) _:=q
 simp only[q36,cb q',cv q',aG]
def ad3 (L:List Sv)(K:Nat)(h:K<L.length)(_hl:L.length≤100000):Wh.q7 (L,(K:Int),((K+1:Nat):Int))=some (L.eraseIdx K,()):=by
 have t2:List.take (Int.toNat ((L.length:Int)-((K+1:Nat):Int))) (List.drop (K+1) L)=List.drop (K+1) L:=zl57 (by rw[zl4];omega)
 have t1:Int.toNat ((K:Int)-0)=K:=by omega
 have b2:decide (((K+1:Nat):Int)≤(L.length:Int))=true:=zdt
 have b5:decide ((L.length:Int)≤(L.length:Int))=true:=zdt
 have b6:decide ((K:Int)≤(L.length:Int))=true:=zdt
 have b7:decide ((K:Int)≤((K+1:Nat):Int))=true:=zdt
 have b8:((K:Int)==((K+1:Nat):Int))=false:=zl89.2 (by omega)
 have hd:(L.drop (K+1)).length=L.length-(K+1):=zl4
 have b9:decide (0+K+(L.length-(K+1))≤L.length)=true:=zdt
 have b10:decide (((K+(L.length-(K+1)):Nat):Int)≤(L.length:Int))=true:=zdt
 have hlen:(L.take (0+K)++(L.drop (K+1)++L.drop (0+K+(L.length-(K+1))))).length=L.length:=by
  simp only[cK,zl3,zl4];omega
 have b11:decide (((0:Nat):Int)+(L.length:Int)≤(L.length:Int))=true:=zdt
 simp only[Wh.q7,g0,b7,b2,b5,zU,zl92,aG,b8,eF,t1,zl94,Int.toNat_zero,t2,hd,b9,b6,b10,hlen,b11]
 congr 2
 rw[zl112,zl110 (by rw[zl3,hlen];omega),List.take_take,jE,jE,Nat.min_self]
 rw[←bX,zl110 (by rw[cK,zl3,zl4];omega),zl57 (by rw[cK,zl3,zl4];omega)]
def afM (s:eA.D)(K:Nat)(h:K<s.2.2.2.2.2.2.1.length)(hl:s.2.2.2.2.2.2.1.length≤100000) :
  q11 (s,(K:Int))=some ((),(s.1,s.2.1,s.2.2.1,s.2.2.2.1,s.2.2.2.2.1,s.2.2.2.2.2.1,s.2.2.2.2.2.2.1.eraseIdx K,s.2.2.2.2.2.2.2),()):=by
 have w:IntKind.wrap .i64 ((K:Int)+1)=((K+1:Nat):Int):=zX (by omega)
 have d:=ad3 _ _ h hl
 have el:(s.2.2.2.2.2.2.1.eraseIdx K).length≤100000:=by rw[zl113 h];omega
 have m:decide (0+(s.2.2.2.2.2.2.1.eraseIdx K).length≤eD)=true:=by unfold eD;exact zdt
 simp only[q11,w,d,zov d,m,w9,zl17]
def nx1 (v:Sv):Sv:=(v.1,v.2.1,v.2.2.1,Int.tmod (IntKind.wrap .i64 (v.2.2.2.1+1)) 10000,v.2.2.2.2)
def nx2 (now:Int)(v:Sv):Sv:=(v.1,v.2.1,v.2.2.1,v.2.2.2.1,v.2.2.2.2.1,now,v.2.2.2.2.2.2)
def Jf (S:List Sv)(k:Nat)(now:Int):List Sv:=(S.set k (nx1 (S.getD k zS))).set k (nx2 now ((S.set k (nx1 (S.getD k zS))).getD k zS))
def M8 (b:Bu)(n:Int):Bu:=(IntKind.wrap .i64 (b.1-n),b.2)
def Nf (v:Sv)(d:List UInt8):r5.D:=(3,v.1,v.2.1,v.2.2.1,v.2.2.2.1,[],d,())
structure Rt (now cl hd:Int) (eL:List It) (l:List Fr) (h:Nat) (S:List Sv):Prop where
 nw0:0≤now
 Aj:C9 S now
 cat:AE (cl,eL,())
 hde:hd=(h:Int)
 DK:AI l h
 free:Ff l
 ed:∀i,i<S.length→1≤(S.getD i zS).2.2.1∧(S.getD i zS).2.2.1≤cl
 nx:∀i,i<S.length→0≤(S.getD i zS).2.2.2.1∧(S.getD i zS).2.2.2.1≤9999
 hse:∀i,i<S.length→∀j,BB eL (S.getD i zS).2.2.1=some j→(eL.getD j z0).1=Int.tmod (S.getD i zS).1 2
section
variable {now cl hd:Int} {log:List UInt8} {eL:List It} {l:List Fr} {h:Nat} {S:List Sv} {B:List Bu}
def told (T:Rt now cl hd eL l h S)(hB:B.length=2)(k j:Nat)(hk:k<S.length)(hj:BB eL (S.getD k zS).2.2.1=some j)(K:List Nat)
  (nx:FB ((true,now,log,(cl,eL,()),(l,hd,()),B,S,()),ci K)=some ((k:Int),()))
  (s:eA.D) (b0 b1:Bu) (rd:List Int) (s1:s.1=true) (s2:(s.2.1==99999)=false) (cp:q20 s=some (s,())) (se:s=(true,now-1,log,(cl,eL,()),(l,hd,()),[b0,b1],S,()))
  (wn:IntKind.wrap .i64 (now-1+1)=now)
  (tc:Comes IQ (((0:Int),(),(),()),[],(true,now,log,(cl,(),()),((),hd,()),(),(),()),(false,(0:Int),[],((0:Int),(),()),((),(0:Int),()),(),(),()),eL,l,[b0,b1],S,[],[],[],[])
   (((),(),()),(false,(0:Int),[],((0:Int),(),()),((),(0:Int),()),(),(),()),(true,now,log,(cl,(),()),((),hd,()),(),(),()),rd,[],[],[],[],eL,l,B,S))
  (so:Wh.slices_Sort_int rd=some ((),ci K,())) :
  ∃(l':List Fr) (h':Nat) (d:List UInt8) (n:Int),AI l' h'∧d.length≤20 ∧
   Mz ((true,now,log,(cl,eL,()),(l,hd,()),B,S,()),(k:Int),eL.getD j z0)=some (((true,now,log,(cl,eL,()),(l',(h':Int),()),B.set (Int.tmod (S.getD k zS).1 2).toNat (M8 (B.getD (Int.tmod (S.getD k zS).1 2).toNat zB) n),Jf S k now,()),[Nf (S.getD k zS) d]),()) ∧
   DN s=some (((true,now,log,(cl,eL,()),(l',(h':Int),()),B.set (Int.tmod (S.getD k zS).1 2).toNat (M8 (B.getD (Int.tmod (S.getD k zS).1 2).toNat zB) n),Jf S k now,()),[Nf (S.getD k zS) d]),()):=by
 have hh (x:Int):Cr x=some (Int.tmod x 2,()):=rfl
 have hjl:=LO hj
 have il:=Si T.cat hjl
 obtain⟨i1,i2,i3⟩:=il
 have hse:=T.hse k hk j hj
 have hb:=hs_b T.Aj hk
 have nxk:=T.nx k hk
 have edk:=T.ed k hk
 have ced:=T.cat.ed
 have i1:0≤(eL.getD j z0).1∧(eL.getD j z0).1≤1:=i1
 have i2:1≤(eL.getD j z0).2.2.2.1.length:=i2
 have i3:(eL.getD j z0).2.2.2.1.length≤300:=i3
 have CS:=NS (cl,eL,()) (S.getD k zS).2.2.1 (by have:=T.cat.len;omega)
 have et:(eL.getD j z0).2.2.1=(S.getD k zS).2.2.1:=by
  have:=(Bp.1 hj).2.1
  exact eq_of_beq this
 have ced:0≤cl∧cl≤99999:=ced
 unfold hs at hb
 generalize hv:S.getD k zS=v at *
 generalize ht:eL.getD j z0=t at *
 obtain⟨id,hid⟩:∃id:Nat,v.2.2.2.1=(id:Int):=⟨v.2.2.2.1.toNat,by omega⟩
 obtain⟨s',c,q1,q2,q3,q4,q5,q6,q7⟩:=ahL t.2.2.2.1.length i2 i3
 have pz:=TC t.2.2.2.1.length s' c
 have pl:=aaT t.2.2.2.1.length s' c
 have r1:=akc t.2.2.2.1.length s' c id i3 q1 q2 q3 q4 q5 (by omega)
 have r2:=Zl t.2.2.2.1.length s' c id i2 i3 q1 q2 q3 q4 q5 (by omega)
 have y1:=ajY t.2.2.2.1.length s' c t.2.2.2.1 rfl i3 q1 q2 q3 q5
 have y2:=akd t.2.2.2.1.length s' c id t.2.2.2.1 rfl q1 q2 q3 q4 q5
 have y3:=afT t.2.2.2.1.length s' c id t.2.2.2.1 rfl i2 i3 q1 q2 q3 q4 q5 (by omega)
 have dl:(M_ s' c id t.2.2.2.1).length≤20:=by unfold M_;rw[OZ];omega
 have rl:=(ac3 (id:=id) q4).2
 have rm:∀i,i<(BT c id).length→mw ((BT c id).getD i 0) 0 23=true:=fun i hi=>by
  have:=ac4 (id:=id) q4 (x:=(BT c id).getD i 0) (by rw[getD_eq _ _ _ hi];exact zl96 hi)
  exact zdt
 generalize M_ s' c id t.2.2.2.1=d at *
 generalize CR s' (ED c s' t.2.2.2.1) c=ct at *
 generalize BT c id=row at *
 generalize AU t.2.2.2.1.length s' c=P at *
 obtain⟨P1,P2,W,ws,u⟩:=P
 have pz:P2=(s':Int):=pz
 subst pz
 have te:mw t.2.2.1 1 99999=true:=zdt
 have t1:mw t.1 0 1=true:=zdt
 obtain⟨l',h',G',F',c1,c2⟩:=adw true now log cl row t P1 (s':Int) v eL B S W ws (k:Int) false (0:Int) [] (0:Int) (0:Int) ((0:Int),v.1,v.2.1,v.2.2.1,(0:Int),[],[],()) [] [] [] [] t1 te (by omega) rm row.length 0 (by omega) l h T.DK T.free
 rw[←T.hde] at c1 c2
 refine⟨l',h',d,(s':Int),G',dl,?_,?_⟩
 ·have hk0:decide (0≤Int.tmod v.1 2)=true:=zdt
  have hk1:decide (Int.tmod v.1 2<(B.length:Int))=true:=zdt
  have hks:∀x:Sv,k<(S.set k x).length:=fun x=>by rw[zl66];exact hk
  have c1':Comes G5 ((0,(),(),(),(),(),(),(k:Int)),_) _:=c1
  rw[←hid] at r1
  unfold Jf Nf M8 nx1 nx2
  rw[hv]
  unfold zB
  unfold zS at hv ⊢
  simp only[Mz,hv,zl94,gl hk,gl (hks _),g0,q6,zov q6,r1,zov r1,w9,cb c1',cv c1',hh,zov (hh _),hk0,hk1,y1,zov y1,y2,zov y2]
 ·subst se
  have c2':Comes Hl ((0,(),(),(),(),(),(k:Int),(),(),(row.length:Int)),_) _:=c2
  rw[hj] at CS
  dsimp only[zH] at CS
  have dk:decide ((k:Int)<0)=false:=zdf
  have dj:decide ((j:Int)<0)=false:=zdf
  have hjl':j<eL.length:=hjl
  have ht0:decide (0≤t.1)=true:=zdt
  have ht1:decide (t.1<(B.length:Int))=true:=zdt
  have hks:∀x:Sv,k<(S.set k x).length:=fun x=>by rw[zl66];exact hk
  rw[←hid] at r2 y3
  unfold Jf Nf M8 nx1 nx2
  rw[hv,←hse]
  unfold zB
  unfold zS at hv ⊢
  unfold z0 at ht
  dsimp only at s2
  simp only[DN,cp,zov cp,zl70,s2,eF,wn,cb tc,cv tc,so,zov so,nx,zov nx,dk,zl94,hv,gl hk,gl (hks _),g0,w9,CS,zov CS,dj,ht,gl hjl',q7,zov q7,r2,zov r2,cb c2',cv c2',ht0,ht1,y3,zov y3]
end
noncomputable def Dk (_:r5.D) (k:Int):r5.D:=(k,k+1,k+2,k+3,k+4,mt (k+5),mt (k+6),())
def nW (_:r5.D):Nat:=7
def aeg (w:r5.D):Ku (w,w)=some (true,()):=by simp[Ku]
def aef (a:List r5.D)(h:a.length≤4611686018427387904):GZ (a,a)=some (true,()):=by
 have hl:Comes Mn (((0:Int),a,a),()) (.inr ((),())):=by
  refine s4 (st:=fun i=>(((i:Int),a,a),())) (n:=a.length) ?_ ?_ 0 (lz _)
  ·intro i hi
   have h2:=zX (i:=i) (by omega)
   have h4:=aeg (a[i])
   simp[Mn,zog,zU,h2,hi,h4,isSm]
  ·simp[Mn]
 simp[GZ,cb hl,cv hl]
def ahq (a:List r5.D)(k:Int)(h0:0≤k)(h1:k+(nE nW a:Nat)<A3)(hl:a.length≤4611686018427387904):q49 (a,k)=some (k+(nE nW a:Nat),vN Dk nW a k,()):=by
 have hc:Comes K9 (((0:Int),(),k),a) (k+(nE nW a:Nat),vN Dk nW a k):=by
  have:=s4 (r:=K9) (st:=fun i=>(((i:Int),(),ks nW k a i),part Dk nW k a i)) (n:=a.length) (y:=(k+(nE nW a:Nat),vN Dk nW a k)) ?_ ?_ 0 (lz _)
  ·simpa[F5,OD] using this
  ·intro i hi
   have b1:=Fq nW k a i
   have b2:=F4 nW k a i hi
   have b3:nW a[i]=7:=rfl
   have e2:=zX (i:=i) (by omega)
   have e3:=OC Dk nW k a i hi
   have e4:=Fs nW k a i hi
   have pl:=OB Dk nW k a i (Nat.le_of_lt hi)
   have pg:=OA Dk nW k a i ((0:Int),(0:Int),(0:Int),(0:Int),(0:Int),[],[],()) hi
   have hi':i<(part Dk nW k a i).length:=by omega
   simp only[Dk] at e3
   rw[b3] at e4
   generalize ks nW k a i=q at *
   have w0:=we (k:=q) (by omega) (by omega)
   have w1:=we (k:=q+1) (by omega) (by omega)
   have w2:=we (k:=q+2) (by omega) (by omega)
   have w3:=we (k:=q+3) (by omega) (by omega)
   have w4:=we (k:=q+4) (by omega) (by omega)
   have w5:=we (k:=q+5) (by omega) (by omega)
   have w6:=we (k:=q+6) (by omega) (by omega)
   rw[show q+1+1=q+2 by omega] at w1
   rw[show q+2+1=q+3 by omega] at w2
   rw[show q+3+1=q+4 by omega] at w3
   rw[show q+4+1=q+5 by omega] at w4
   rw[show q+5+1=q+6 by omega] at w5
   rw[show q+6+1=ks nW k a (i+1) by rw[e4];omega] at w6
   have t5:=Ig (q+5) (by omega) (by omega)
   have t6:=Ig (q+6) (by omega) (by omega)
   have c1:decide ((i:Int)<(a.length:Int))=true:=by simpa using hi
   have a1:q+1+1=q+2:=by omega
   have a2:q+2+1=q+3:=by omega
   have a3:q+3+1=q+4:=by omega
   have a4:q+4+1=q+5:=by omega
   have a5:q+5+1=q+6:=by omega
   have a6:q+6+1=ks nW k a (i+1):=by rw[e4];omega
   simp only[K9,zl94,pl,pg,JK _ _ _ _ hi',M7,zl66,c1,aG,zU,zl92,zl111,zl73,isSm,w0,a1,w1,a2,w2,a3,w3,a4,w4,a5,w5,a6,w6,zov t5,t5,zov t6,t6,e2,e3]
  ·simp[K9,F3,J7,BP]
 simp[q49,cb hc,cv hc]
def afA (a:List r5.D)(k:Int)(h0:0≤k)(h1:k+(nE nW a:Nat)<A3)(hl:a.length≤4611686018427387904):q47 (vN Dk nW a k,k)=some (k+(nE nW a:Nat),()):=by
 have hc:Comes K7 (((0:Int),vN Dk nW a k,k),()) (.inr (k+(nE nW a:Nat),())):=by
  have:=s4 (r:=K7) (st:=fun i=>(((i:Int),vN Dk nW a k,ks nW k a i),())) (n:=a.length) (y:=.inr (k+(nE nW a:Nat),())) ?_ ?_ 0 (lz _)
  ·simpa[F5] using this
  ·intro i hi
   have b1:=Fq nW k a i
   have b2:=F4 nW k a i hi
   have b3:nW a[i]=7:=rfl
   have e2:=zX (i:=i) (by omega)
   have e4:=Fs nW k a i hi
   have pl:=BP Dk nW a k
   have pg:=Ow Dk nW k a i ((0:Int),(0:Int),(0:Int),(0:Int),(0:Int),[],[],()) hi
   simp only[Dk] at pg
   rw[b3] at e4
   generalize ks nW k a i=q at *
   have w0:=we (k:=q) (by omega) (by omega)
   have w1:=we (k:=q+1) (by omega) (by omega)
   have w2:=we (k:=q+2) (by omega) (by omega)
   have w3:=we (k:=q+3) (by omega) (by omega)
   have w4:=we (k:=q+4) (by omega) (by omega)
   have w5:=we (k:=q+5) (by omega) (by omega)
   have w6:=we (k:=q+6) (by omega) (by omega)
   have a1:q+1+1=q+2:=by omega
   have a2:q+2+1=q+3:=by omega
   have a3:q+3+1=q+4:=by omega
   have a4:q+4+1=q+5:=by omega
   have a5:q+5+1=q+6:=by omega
   have a6:q+6+1=ks nW k a (i+1):=by rw[e4];omega
   rw[a1] at w1;rw[a2] at w2;rw[a3] at w3;rw[a4] at w4;rw[a5] at w5;rw[a6] at w6
   have t5:=Ig (q+5) (by omega) (by omega)
   have t6:=Ig (q+6) (by omega) (by omega)
   have c1:decide ((i:Int)<(a.length:Int))=true:=by simpa using hi
   have d5:(mt (q+5)==mt (q+5))=true:=by simp
   have d6:(mt (q+6)==mt (q+6))=true:=by simp
   have bn:∀x:Int,(x != x)=false:=by intro x;simp
   simp only[K7,zl94,pl,pg,c1,aG,eF,zU,zl92,zl111,zl73,isSm,bn,w0,a1,w1,a2,w2,a3,w3,a4,w4,a5,w5,a6,w6,zov t5,t5,zov t6,t6,e2,d5,d6,zl70]
  ·simp[K7,BP,F3]
 simp[q47,cb hc,cv hc,sumC]
structure TickR (s:eA.D) (R:eA.D×List r5.D):Prop where
 sp:E3 s=some (R,())
 im:E0 s=some (R,())
 sm:Cj R.1
 ln:R.2.length≤1
def ajS {rd:List Nat}{K:List Nat}(h:(ci rd).mergeSort (fun a b=>decide (a≤b))=ci K)(hl:rd.length≤2):Wh.slices_Sort_int (ci rd)=some ((),ci K,()):=by
 unfold Wh.slices_Sort_int
 rw[h,zl86 (by rw[RM];omega)]
 rfl
def akK {N cl hd:Int}{log:List UInt8}{eL:List It}{l:List Fr}{h:Nat}{S:List Sv}{b0 b1:Bu}(T:Rt N cl hd eL l h S)
  (o0:Cy b0=true) (o1:Cy b1=true) (a0:b0.2.2.2.1≤N) (a1:b1.2.2.2.1≤N) (N1:1≤N)
  (ok:okV (true,N-1,log,(cl,eL,()),(l,hd,()),[b0,b1],S,())=true) (Sm:Cj (true,N-1,log,(cl,eL,()),(l,hd,()),[b0,b1],S,())) :
  ∃R,TickR (true,N-1,log,(cl,eL,()),(l,hd,()),[b0,b1],S,()) R:=by
 have so:=adk _ Sm
 have io:=Zg _ Sm
 rw[ok] at so io
 have cl8:=T.cat.len
 have sc:=adg _ Sm (by show eL.length≤99999;have:eL.length≤8:=cl8;omega)
 have ic:=Zb _ Sm (by show eL.length≤99999;have:eL.length≤8:=cl8;omega)
 have hN:=T.Aj.nw
 have wn:IntKind.wrap .i64 (N-1+1)=N:=by rw[wrap64 (by omega) (by omega)];omega
 have d9:decide (N-1≥99999)=false:=zdf
 have e9:(N-1==(99999:Int))=false:=zl89.2 (by omega)
 have sb:=akj N log cl hd eL l S b0 b1
 have tc:=akJ N log cl hd eL l S b0 b1 T.Aj T.cat T.nw0 o0 o1 a0 a1
 have rs:=ajD T.Aj (bV b0 N) (bV b1 N) eL
 have rl:(A_ (bV b0 N) eL S 0++A_ (bV b1 N) eL S 1).length≤2:=by
  have:=(OV (bV b0 N) eL S 0).2
  have:=(OV (bV b1 N) eL S 1).2
  rw[cK];omega
 have st:=ajS (K:=Bk [bV b0 N,bV b1 N] eL S S.length) rs rl
 have sj:=aj5 (true,N,log,(cl,eL,()),(l,hd,()),[bV b0 N,bV b1 N],S,()) T.Aj T.cat rfl
 have nx:=Ze (true,N,log,(cl,eL,()),(l,hd,()),[bV b0 N,bV b1 N],S,()) T.Aj (Bk [bV b0 N,bV b1 N] eL S S.length) (fun i hi=>(Q2.1 hi).1) (VM _ _ _ _)
 have jn:=adi (Sk T.Aj (fun i=>(S.getD i zS).1) (O:=Bk [bV b0 N,bV b1 N] eL S S.length) (fun i hi=>(Q2.1 hi).1) (VM _ _ _ _))
 rw[Sj] at jn
 dsimp only at sj
 have nx:FB ((true,N,log,(cl,eL,()),(l,hd,()),[bV b0 N,bV b1 N],S,()),ci (Bk [bV b0 N,bV b1 N] eL S S.length))=some (zH (BR S (Bk [bV b0 N,bV b1 N] eL S S.length)),()):=nx
 have kS:∀k,BR S (Bk [bV b0 N,bV b1 N] eL S S.length)=some k→k<S.length:=fun k e=>(Q2.1 (J6 e)).1
 generalize ci (A_ (bV b0 N) eL S 0++A_ (bV b1 N) eL S 1)=rd at *
 generalize Bk [bV b0 N,bV b1 N] eL S S.length=K at *
 have hB: [bV b0 N,bV b1 N].length=2:=rfl
 generalize [bV b0 N,bV b1 N]=B at *
 have SmX:Cj (true,N,log,(cl,eL,()),(l,hd,()),B,S,()):=⟨Sm.log,Sm.cat,Sm.items,Sm.DK,by show B.length≤_;omega,Sm.Aj⟩
 have hS:=T.Aj.len
 cases e:AN (vO S K) K.length with
 |none=>
  have en:BR S K=none:=by unfold BR;rw[e];rfl
  rw[e] at jn
  rw[en] at nx
  dsimp only[zH] at jn nx
  have dm:decide ((-1:Int)<0)=true:=by decide
  refine⟨((true,N,log,(cl,eL,()),(l,hd,()),B,S,()),[]),?_,?_,SmX,by simp⟩
  ·simp only[E3,so,zov so,sc,zov sc,Ag,zl70,d9,wn,zU,aG,eF,cb sb,cv sb,sj,zov sj,jn,zov jn,dm]
  ·have tk:DN (true,N-1,log,(cl,eL,()),(l,hd,()),[b0,b1],S,())=some (((true,N,log,(cl,eL,()),(l,hd,()),B,S,()),[]),()):=by
    simp only[DN,ic,zov ic,Ag,zl70,e9,wn,zU,aG,eF,cb tc,cv tc,st,zov st,nx,zov nx,dm]
   simp only[E0,io,zov io,Ag,zl70,zU,aG,eF,tk,zov tk]
 |some b=>
  have hb:=HR e
  obtain⟨k,hk⟩:∃k,k=K.getD b 0:=⟨_,rfl⟩
  have en:BR S K=some k:=by unfold BR;rw[e,hk];rfl
  have kl:=kS k en
  rw[e] at jn
  rw[en] at nx
  dsimp only[zH] at jn nx
  have db:decide ((b:Int)<0)=false:=zdf
  have dk:decide ((k:Int)<0)=false:=zdf
  have jg:=NV (fun i=>(S.getD i zS).1) S K b hb
  rw[←hk] at jg
  have jl:b<(Ax (fun i=>(S.getD i zS).1) S K).length:=by rw[FX];exact hb
  have at_:=ajV (true,N,log,(cl,eL,()),(l,hd,()),B,S,()) T.Aj k kl
  have CS:=Q3 (cl,eL,()) (S.getD k zS).2.2.1 (by show eL.length≤_;have:eL.length≤8:=cl8;omega)
  have ed2:=NS (cl,eL,()) (S.getD k zS).2.2.1 (by show eL.length≤_;have:eL.length≤8:=cl8;omega)
  dsimp only at at_ CS ed2
  cases ej:BB eL (S.getD k zS).2.2.1 with
  |none=>
   rw[ej] at CS ed2
   dsimp only[zH,FV,Option.isSome] at CS ed2
   have dm:decide ((-1:Int)<0)=true:=by decide
   have w:=akg (true,N,log,(cl,eL,()),(l,hd,()),B,S,()) hS (S.getD k zS).1
   dsimp only at w
   rw[wo_all T.Aj k kl] at w
   have lv:=afM (true,N,log,(cl,eL,()),(l,hd,()),B,S,()) k kl hS
   dsimp only at lv
   have g:Mx ((S.getD k zS).1,(S.getD k zS).2.1,(S.getD k zS).2.2.1)=some ([((6:Int),(S.getD k zS).1,(S.getD k zS).2.1,(S.getD k zS).2.2.1,(0:Int),[],[],())],()):=rfl
   refine⟨((true,N,log,(cl,eL,()),(l,hd,()),B,S.eraseIdx k,()),[((6:Int),(S.getD k zS).1,(S.getD k zS).2.1,(S.getD k zS).2.2.1,(0:Int),[],[],())]),?_,?_,⟨Sm.log,Sm.cat,Sm.items,Sm.DK,by show B.length≤_;omega,by show(S.eraseIdx k).length≤_;rw[zl113 kl];omega⟩,by simp⟩
   ·unfold zJ at jg
    unfold zS at jg at_ CS w g ⊢
    simp only[E3,so,zov so,sc,zov sc,Ag,zl70,d9,wn,zU,aG,eF,cb sb,cv sb]
    unfold zS at sj jn
    simp only[sj,zov sj,jn,zov jn,db,eF,aG,zl94,jg,at_,zov at_,Ag]
    unfold zS at jl
    simp only[gl jl,g0,gl kl,CS,zov CS,Ag,zl92,aG,zl98,w,zov w,g,zov g]
   ·have tk:DN (true,N-1,log,(cl,eL,()),(l,hd,()),[b0,b1],S,())=some (((true,N,log,(cl,eL,()),(l,hd,()),B,S.eraseIdx k,()),[((6:Int),(S.getD k zS).1,(S.getD k zS).2.1,(S.getD k zS).2.2.1,(0:Int),[],[],())]),()):=by
     unfold zS at ed2 ⊢
     simp only[DN,ic,zov ic,zl70,e9,wn,w9,eF,cb tc,cv tc,st,zov st,nx,zov nx,dk,zl94,g0,gl kl,ed2,zov ed2,dm,lv,zov lv]
    simp only[E0,io,zov io,Ag,zl70,zU,aG,eF,tk,zov tk]
  |some j=>
   rw[ej] at CS
   dsimp only[FV,Option.isSome] at CS
   obtain⟨l',h',d,n,G',dl,te,tk⟩:=told (log:=log) T hB k j kl ej K nx (true,N-1,log,(cl,eL,()),(l,hd,()),[b0,b1],S,()) b0 b1 rd rfl e9 ic rfl wn tc st
   refine⟨((true,N,log,(cl,eL,()),(l',(h':Int),()),B.set (Int.tmod (S.getD k zS).1 2).toNat (M8 (B.getD (Int.tmod (S.getD k zS).1 2).toNat zB) n),Jf S k N,()),[Nf (S.getD k zS) d]),?_,?_,⟨Sm.log,Sm.cat,Sm.items,by show l'.length≤_;have:=G'.len;omega,by show(B.set _ _).length≤_;rw[zl66];omega,by show(Jf S k N).length≤_;unfold Jf;rw[zl66,zl66];omega⟩,?_⟩
   rotate_left
   ·simp only[E0,io,zov io,Ag,zl70,zU,aG,eF,tk,zov tk]
   ·simp
   ·generalize (B.set (Int.tmod (S.getD k zS).1 2).toNat (M8 (B.getD (Int.tmod (S.getD k zS).1 2).toNat zB) n),Jf S k N,())=rest at *
    generalize [Nf (S.getD k zS) d]=ww at *
    unfold zJ at jg
    unfold zS at jg at_ CS
    simp only[E3,so,zov so,sc,zov sc,Ag,zl70,d9,wn,zU,aG,eF,cb sb,cv sb]
    unfold zS at sj jn
    simp only[sj,zov sj,jn,zov jn,db,eF,aG,zl94,jg,at_,zov at_,Ag]
    unfold zS at jl
    simp only[gl jl,g0,gl kl,CS,zov CS,Ag,zl92,aG,zl70,eF,te,zov te]
def ok_up {now cl:Int}{log:List UInt8}{eL:List It}{p:Po}{bk:List Bu}{S:List Sv}(ok:okV (true,now,log,(cl,eL,()),p,bk,S,())=true)(h9:now<99999)(hl:S.length≤9999999) :
  ∃(l:List Fr) (h:Nat) (b0 b1:Bu),p=(l,(h:Int),())∧bk = [b0,b1]∧Rt (now+1) cl (h:Int) eL l h S∧Cy b0=true∧Cy b1=true∧b0.2.2.2.1≤now+1∧b1.2.2.2.1≤now+1∧1≤now+1:=by
 have C:=aaI ok
 unfold okV at ok
 simp only[aF] at ok
 obtain⟨n0,_,_,up⟩:=ok
 have n0:=zl79 n0
 simp only[aG,upV,aF,zl78] at up
 obtain⟨_,_,pv,bl,sv,fv,bv⟩:=up
 obtain⟨h,pe,G⟩:=ahM pv
 have n0:0≤now∧now≤99999:=n0
 have bl:bk.length=2:=bl
 match bk,bl with
 | [b0,b1],_=>
 have bq:=BA.1 bv
 have sq:=BA.1 sv
 have fq:=BA.1 fv
 have bz:∀b:Bu,(!Fh now b)=true→Cy b=true∧b.2.2.2.1≤now:=fun b q=>by
  unfold Fh at q
  cases e:Cy b with
  |false=>rw[e] at q;cases q
  |true=>
   rw[e] at q
   cases e1:(b.2.1 != 40) with
   |true=>rw[e1] at q;cases q
   |false=>
    cases e2:(b.2.2.1 != 8) with
    |true=>rw[e1,e2] at q;cases q
    |false=>
     cases e3:decide (b.2.2.2.1>now) with
     |true=>rw[e1,e2,e3] at q;cases q
     |false=>exact⟨rfl,by have:=zl101 e3;omega⟩
 have z0_:=bz b0 (bq 0 (by show 0<2;omega))
 have z1_:=bz b1 (bq 1 (by show 1<2;omega))
 have sx:∀i,i<S.length→Dv (cl,eL,()) now S i=false:=fun i hi=>by
  have:=sq i hi
  cases e:Dv (cl,eL,()) now S i with
  |false=>rfl
  |true=>have this:(!Dv (cl,eL,()) now S i)=true:=this;rw[e] at this;cases this
 have sy:∀i,i<S.length→(0≤(S.getD i zS).1∧(S.getD i zS).1≤3)∧Mj S i (S.getD i zS).1=false∧(1≤(S.getD i zS).2.2.1∧(S.getD i zS).2.2.1≤cl)∧(0≤(S.getD i zS).2.2.2.1∧(S.getD i zS).2.2.2.1≤9999)∧(0≤(S.getD i zS).2.2.2.2.1∧(S.getD i zS).2.2.2.2.1≤3)∧(0≤(S.getD i zS).2.2.2.2.2.1∧(S.getD i zS).2.2.2.2.2.1≤now)∧JG (cl,eL,()) (S.getD i zS)=false:=fun i hi=>by
  have q:=sx i hi
  unfold Dv at q
  simp only[jD,Bool.not_eq_false'] at q
  obtain⟨⟨⟨⟨⟨⟨⟨q1,q2⟩,_⟩,q3⟩,q4⟩,q5⟩,q6⟩,q7⟩:=q
  exact⟨zl79 q1,q2,zl79 q3,zl79 q4,zl79 q5,zl79 q6,q7⟩
 have nxt_:∀i,i+1<S.length→(S.getD i zS).1<(S.getD (i+1) zS).1:=fun i hi=>by
  have q:=(sy (i+1) hi).2.1
  have:=zl101 q
  omega
 have DY:∀d i,i+1+d<S.length→(S.getD i zS).1<(S.getD (i+1+d) zS).1:=by
  intro d
  induction d with
  |zero=>intro i hi;exact nxt_ i hi
  |succ d ih=>
   intro i hi
   have a:=ih i (by omega)
   have b:=nxt_ (i+1+d) (by omega)
   rw[show i+1+(d+1)=i+1+d+1 by omega]
   omega
 have cl3:S.length≤100000:=by
  by_cases q:S.length≤100000
  ·exact q
  ·exfalso
   have h1:=DY 0 0 (by omega)
   have h2:=DY 0 1 (by omega)
   have h3:=DY 0 2 (by omega)
   have h4:=DY 0 3 (by omega)
   have:=(sy 0 (by omega)).1
   have:=(sy 4 (by omega)).1
   simp only[Nat.reduceAdd] at h1 h2 h3 h4
   omega
 have fr:Ff p.1:=fun i hi=>by
  have hd:=(G.held i hi).1
  have q:=fq i (by show i<p.1.length;rw[G.len];exact hi)
  cases e:decide ((p.1.getD i zF).2.2.2.1>0) with
  |false=>have:=zl101 e;omega
  |true=>
   have q:(!Fi (cl,eL,()) (p.1.getD i zF))=true:=q
   unfold Fi at q
   rw[e] at q;cases q
 refine⟨p.1,h,b0,b1,pe,rfl,⟨by omega,⟨cl3,by omega,fun i hi=>(sy i hi).1,fun i j hij hj=>?_,fun i hi=>(sy i hi).2.2.2.2.1,fun i hi=>?_⟩,C,rfl,G,fr,fun i hi=>(sy i hi).2.2.1,fun i hi=>(sy i hi).2.2.2.1,fun i hi j hj=>?_⟩,z0_.1,z1_.1,by omega,by omega,by omega⟩
 ·have:=DY (j-i-1) i (by omega)
  rwa[show i+1+(j-i-1)=j by omega] at this
 ·have:=(sy i hi).2.2.2.2.2.1;omega
 ·have q:=(sy i hi).2.2.2.2.2.2
  unfold JG at q
  dsimp only at q
  rw[hj] at q
  simpa[FV] using q
def akI (s:eA.D)(Sm:Cj s):∃R,TickR s R:=by
 have so:=adk s Sm
 have io:=Zg s Sm
 cases ok:okV s with
 |false=>
  rw[ok] at so io
  refine⟨(GD,[]),?_,?_,ala,by simp⟩
  ·simp only[E3,so,zov so,Ag,zU,aG,zl98,GD]
  ·simp only[E0,io,zov io,Ag,zU,aG,zl98,GD]
 |true=>
  rw[ok] at so io
  have C:=(aaI ok).len
  have sc:=adg s Sm (by omega)
  have ic:=Zb s Sm (by omega)
  have n0:0≤s.2.1∧s.2.1≤99999:=by
   have q:=ok
   unfold okV at q
   simp only[aF] at q
   exact zl79 q.1
  obtain⟨up,now,log,⟨cl,eL,cu⟩,p,bk,S,u⟩:=s
  have n0:0≤now∧now≤99999:=n0
  cases up with
  |false=>
   refine⟨((false,now,log,(cl,eL,cu),p,bk,S,u),[]),?_,?_,Sm,by simp⟩
   ·simp only[E3,so,zov so,Ag,zU,aG,zl70,zl98,eF,sc,zov sc]
   ·have tk:DN (false,now,log,(cl,eL,cu),p,bk,S,u)=some (((false,now,log,(cl,eL,cu),p,bk,S,u),[]),()):=by
     simp only[DN,ic,zov ic,Ag,zU,aG,zl98]
    simp only[E0,io,zov io,Ag,zl70,zU,aG,eF,tk,zov tk]
  |true=>
   by_cases h9:now<99999
   ·have S1:S.length≤1048576:=Sm.Aj
    obtain⟨l,h,b0,b1,rfl,rfl,T,o0,o1,a0,a1,N1⟩:=ok_up ok h9 (by omega)
    obtain⟨N,hN⟩:∃N,now=N-1:=⟨now+1,by omega⟩
    subst hN
    rw[show N-1+1=N by omega] at T a0 a1 N1
    exact akK T o0 o1 a0 a1 N1 ok Sm
   ·obtain rfl:now=99999:=by omega
    have d9:decide ((99999:Int)≥99999)=true:=by decide
    have e9:((99999:Int)==99999)=true:=rfl
    refine⟨((true,99999,log,(cl,eL,cu),p,bk,S,u),[]),?_,?_,Sm,by simp⟩
    ·simp only[E3,so,zov so,Ag,zU,aG,zl70,eF,sc,zov sc,d9]
    ·have tk:DN (true,99999,log,(cl,eL,cu),p,bk,S,u)=some (((true,99999,log,(cl,eL,cu),p,bk,S,u),[]),()):=by
      simp only[DN,ic,zov ic,Ag,zU,aG,zl70,eF,e9]
     simp only[E0,io,zov io,Ag,zl70,zU,aG,eF,tk,zov tk]
def sumW (a:List r5.D):nE nW a=7*a.length:=HG nW 7 (fun _=>rfl) a
def aga (s:eA.D)(hb:iK eA s≤1048576):Wh.q5 s=some (true,()):=by
 have S:=ajR s hb
 obtain⟨v,hv⟩:=akB s 1048576 S
 have e1:=akV s S
 obtain⟨R,e3,e4,SR,ln⟩:=akI s S
 obtain⟨R,W⟩:=R
 have ln:W.length≤1:=ln
 have SR:Cj R:=SR
 have M0:=markS s S
 have M:=markS R SR
 have v3:=zov e3
 have v4:=zov e4
 have hn:((B8 R:Nat):Int)≤60000000:=by
  have h1:R.2.2.2.1.2.1.length≤1048576:=SR.cat
  have h2:R.2.2.2.2.1.1.length≤1048576:=SR.DK
  have h3:=SR.BN
  have h4:=SR.Aj
  unfold B8 Br Cp
  rw[HG zO 4 (fun _=>rfl),HG zN 5 (fun _=>rfl),HG zE 4 (fun _=>rfl),HG zP 6 (fun _=>rfl)]
  omega
 have wb:1+((B8 R:Nat):Int)+(nE nW W:Nat)<A3:=by rw[sumW];unfold A3;omega
 have w1:=aef W (by omega)
 have w2:=ahq W (1+((B8 R:Nat):Int)) (by omega) wb (by omega)
 have w3:=afA W (1+((B8 R:Nat):Int)) (by omega) wb (by omega)
 have ng:decide (1+((B8 R:Nat):Int)+(nE nW W:Nat)<0)=false:=zdf
 simp only[Wh.q5,hv,zov hv,e1,zov e1,e3,v3,e4,v4,M0.eq,zov M0.eq,M0.mrk,zov M0.mrk,M0.ng,M.eq,zov M.eq,M.mrk,zov M.mrk,M.hd,zov M.hd,M.ng,w1,zov w1,w2,zov w2,w3,zov w3,ng,bneS,isSm,zU,zl99,zl92,zl70,zl98,aG,eF]
 cases decide (v<0)<;>rfl
end Pl
