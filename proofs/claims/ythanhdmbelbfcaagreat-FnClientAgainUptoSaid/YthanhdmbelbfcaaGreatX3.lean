import Derived.Test.YthanhdmbelbfcaaGreatX2
set_option linter.defProp false
namespace Go.Ab
section
variable {P:Program} {F:Fix} {C:Cx} {o:Oper} {a:Act} {w w':World} {m:MF} {I I':Nat→Prop} {ρ:Pl} {d:aD}
def wV {I':Nat→Prop}(hm:aC F m w I ρ)(hI:∀B,I B→I' B){mo:Mode}{x:AT}{y:Arg}{v:Value}(hy:mkArg m mo x=some y)(hx:aj w I m ρ x v)
  (hle:∀id∈sL m mo x,∀b B,m id=some b→b.live→bO ρ id b B→I' B) (hown:∀id∈fB mo x++jt m mo x,∀B,aH m ρ id B→¬I' B) (aE:(fB mo x++jt m mo x).Nodup) :
  ∃Bs Ks,ArgO w I' y v Bs∧(Bs++Ks).Nodup∧(∀B∈Bs++Ks,∃id∈fB mo x++jt m mo x,aH m ρ id B) ∧
   rB m ρ w I (mQ m mo x) (fun w' b_ z Z=>tO w w' b_ y v z Z) Ks (fB mo x):=by
 cases mo with
 |v=>
  simp only[mkArg,cq] at hy
  obtain⟨dv,gO,rfl⟩:=hy
  obtain⟨hs1,ha1⟩:=wF gO
  obtain⟨cs,k1,k2,_⟩:=wE hm hI (fun id hi=>hle id hi) gO hs1 hx
  exact⟨[],[],⟨cs,k1,cD.fY k2⟩,by simp,by simp,mZ fun y u h=>by trivial⟩
 |f=>
  cases x<;>simp only[mkArg,reduceCtorEq] at hy
  rename_i g c
  simp only[cq] at hy
  obtain⟨dv,gO,rfl⟩:=hy
  have hx':=cj (a:=.fn g c) rfl hx (by simp) (by simp) (by simp) (by simp)
  simp only[aq,jY,jZ] at hx'
  obtain⟨caps,e,hc⟩:=hx'
  exact⟨[],[],⟨rfl,caps,e,toC_ok (x:=c) hm hI (fun id hi=>hle id hi) gO hc⟩,by simp,by simp,mZ fun y u h=>by trivial⟩
 |k=>
  simp only[mkArg,cq] at hy
  obtain⟨dv,gO,rfl⟩:=hy
  obtain⟨hs1,ha1⟩:=z_ gO
  obtain⟨cs,k1,k2⟩:=qW hs1 ha1 hx
  obtain⟨B1,q1,q2,q3⟩:=wC (I':=I') hm hI gO k2 (fun id hi=>hown id (by trivial)) (by trivial)
  exact⟨B1,[],⟨cs,k1,q1⟩,by grind,fun B hB=>by obtain⟨i,j,k⟩:=q3 B (by grind);exact⟨i,by trivial,k⟩,mZ fun y u h=>by trivial⟩
 |d=>
  simp only[mkArg,cq] at hy
  obtain⟨dv,gO,rfl⟩:=hy
  obtain⟨hs1,ha1⟩:=wA gO
  obtain⟨cs,k1,k2⟩:=qW hs1 ha1 hx
  obtain⟨B1,K1,q1,q2,q3,q4⟩:=qX (I':=I') hm hI gO k2 (fun id hi=>hown id (by simp[jt,fB,hi])) (by simpa[jt,fB] using aE)
  refine⟨B1,K1,⟨cs,k1,q1⟩,q2,fun B hB=>by obtain⟨i,j,k⟩:=q3 B hB;exact⟨i,by simp[jt,fB,j],k⟩,?_⟩
  intro w' b_ z u Z ha hu d_ hZ hk cW iR
  obtain⟨cs',e1,e2,e3,e4⟩:=d_
  have hcs:cs'=cs:=by
   have hl1:=au.length q1
   have hl2:=au.length e3
   rw[e2] at hl2
   rw[k1] at e1
   unfold aQ at e1
   cases ha:dv.t.isAgg with
   |true=>grind
   |false=>
    have hone:dv.t.size=1:=by cases hdt:dv.t<;>simp[hdt,Ty.isAgg] at ha<;>rfl
    rw[hone] at hl1 hl2
    obtain⟨u1,rfl⟩:=List.length_eq_one_iff.1 hl1
    obtain⟨u2,rfl⟩:=List.length_eq_one_iff.1 hl2
    grind
  subst hcs
  exact q4 w' b_ z u Z ha hu ⟨e2,e3,e4⟩ hZ hk cW iR
 |m=>
  cases x<;>simp only[mkArg,reduceCtorEq] at hy
  case nil t=>
   simp only[aX] at hy
   subst hy
   have e:=pI (.inl rfl) hx
   exact⟨[],[],⟨none,0,by grind,by simp,.inl ⟨rfl,rfl,rfl⟩⟩,by simp,by simp,mZ fun y u h=>by simp only[mQ,aX] at h;grind⟩
  case whole id st t=>
   split at hy
   ·rename_i xs hro
    simp only[aX] at hy
    subst hy
    have hx':=cj (a:=.whole id st t) rfl hx (by simp) (by simp) (by simp) (by simp)
    obtain⟨B1,q1,q2⟩:=sZ hm hx' hro hI (hown id (by simp[fB]))
    refine⟨B1,[],q1,?_,?_,?_⟩
    ·rcases q2 with rfl|⟨B,rfl,_⟩<;>simp
    ·rcases q2 with rfl|⟨B,rfl,q2⟩
     ·simp
     ·intro B' br
      simp only[jM,i_] at br
      subst br
      exact⟨id,by simp[fB],q2⟩
    ·intro w' b_ z u Z ha hu d_ hZ hk cW _
     obtain⟨ys',rfl,hl,hr,hcs⟩:=d_
     simp only[jM] at hZ cW
     simp only[mQ] at hu
     split at hu
     ·rename_i zs hzs
      have e0:=cz hzs
      cases e0
      cases hu
      have hb:=gW hro
      obtain⟨ad,cap,e1,e2,e3⟩:=uJ hx hro
      obtain⟨ad',cap',f1,f2,f3⟩:=hr
      rw[e1] at f1
      simp only[jY,Value.slice.injEq,jZ] at f1
      obtain⟨rfl,f1l,rfl⟩:=f1
      have uN:bf w' b_ [(id,⟨st,false,.rows t ys'⟩)] Z ⟨fun _=>ρ id,fun _=>[]⟩:=by
       refine bf.single rfl (fC rfl) (fun m' ρ' hρ=>?_) (fun B o' hp=>?_)
       ·simp only[cM]
        refine⟨trivial,?_⟩
        rcases f3 with⟨g1,g2,g3⟩|⟨B,o',cs,g1,g2,g3,g4,g5,g6⟩
        ·rcases e3 with e3|⟨B,o',cs,_,e4,_⟩
         ·exact .inl ⟨by rw[←eC];omega,hρ.trans e3.2.2⟩
         ·rw[g1] at e4;cases e4
        ·rcases e3 with e3|⟨B',de,cs',e4,e5,_⟩
         ·rw[g1] at e3;cases e3.1
         ·rw[g1] at e5
          cases e5
          have:=gH t.size f2
          exact .inr ⟨B,o',cs,hρ.trans e4,g2,by omega,g4,by simpa using g5⟩
       ·rcases e3 with e3|⟨B',de,cs',e4,e5,_⟩
        ·rw[e3.2.2] at hp;cases hp
        ·rw[e4] at hp
         cases hp
         rcases f3 with⟨g1,_⟩|⟨B2,o2,cs2,g1,_,_,_,_,g6⟩
         ·rw[g1] at e5;cases e5
         ·rw[g1] at e5;cases e5;rw[g6];exact i_.2 rfl
      have iU:iG m ρ w w' ⟨fun _=>ρ id,fun _=>[]⟩ id ⟨st,false,.rows t ys'⟩:=by
       refine⟨_,hb,fC rfl,rfl,⟨rfl,hl.symm⟩,rfl,fun B o' cs hp hc=>?_,fun _ _ _ _ _ h=>by cases h⟩
       exact hcs B (uN.src id _ B (by rw[aF,bQ rfl]) (.inl ⟨_,hp⟩)) cs hc
      refine⟨_,Z,uN,by simp,fun i b hf=>?_,fun i hi=>?_⟩
      ·obtain⟨rfl,rfl⟩:=gL hf
       exact .inr ⟨by simp[fB],iU⟩
      ·simp only[fB,i_] at hi
       subst hi
       exact⟨_,by rw[aF,bQ rfl],iU⟩
     ·cases hu
   ·simp at hy
 |p=>
  cases x<;>simp only[mkArg,reduceCtorEq] at hy
  rename_i id st p
  cases p with
  |cons s p=>simp[] at hy
  |nil=>
   simp only[] at hy
   split at hy
   ·rename_i st' t b hc
    simp only[cq] at hy
    obtain⟨dv,gO,rfl⟩:=hy
    obtain⟨hb,hst⟩:=cN hc
    simp only at hst
    subst hst
    have e2:fB .p (AT.aR id st' [])++jt m .p (AT.aR id st' [])=id::b.ids:=by simp[fB,jt,tJ,hb]
    rw[e2] at hown aE ⊢
    have hx':=cj (a:=.aR id st' []) rfl hx (by simp) (by simp) (by simp) (by simp)
    simp only[aq] at hx'
    obtain⟨_,_,h3⟩:=hx'
    obtain⟨e0,B,f1,f2⟩:=h3 _ hb rfl t b rfl
    simp only[jY,jZ,Ty.off] at f2
    have aA:=hm.aN id _ hb
    simp only[cM] at aA
    obtain⟨ht,B',cs,k1,k2,k3,k4⟩:=aA
    rw[f1] at k1
    cases k1
    have bP:aH m ρ id B:=⟨_,hb,kz rfl,rfl,.inl ⟨0,f1⟩⟩
    have hnid:=dN.1 aE
    obtain⟨B1,q1,q2,q3⟩:=wC (I':=I') hm hI gO k3 (fun j hj=>hown j (by simp[hj])) hnid.2
    refine⟨B::B1,[],⟨B,cs,B1,f2,k2,hown id (by simp) B bP,q1,rfl⟩,?_,?_,?_⟩
    ·rw[jM,dN]
     refine⟨fun hB=>?_,q2⟩
     obtain⟨i2,j2,r⟩:=q3 B hB
     have:=bP.inj hm r
     subst this
     exact hnid.1 j2
    ·intro B' br
     rw[jM] at br
     rcases bN.1 br with h|h
     ·subst h;exact⟨id,by simp,bP⟩
     ·obtain⟨i2,j2,r⟩:=q3 B' h
      exact⟨i2,by simp[j2],r⟩
    ·intro w' b_ z u Z ha hu d_ hZ hk cW _
     obtain⟨B0,cs0,B2,e1,cV,hIB,aW,hr,rfl⟩:=d_
     simp only[jM] at hZ cW
     simp only[mQ,hc] at hu
     obtain⟨hti,hu⟩:=aU hu
     cases hu
     have jq:=Ty.cX hti
     rw[e1] at f2
     simp only[Value.pointer.injEq,aX,Addr.mk.injEq,jZ] at f2
     have hBB:B0=B:=f2
     subst hBB
     have fV:=ht.length k3
     have hl1:=hr.length
     have hnc:=dN.1 hZ
     simp only[mT] at hk
     have ka4:=dN.1 hk
     obtain⟨p1,n1,n2⟩:=oJ m ((id+1)*1000) hr hnc.2
     have hnone:find (aZ m z.t z.x ((id+1)*1000)).2.1 id=none:=by
      cases hf:find (aZ m z.t z.x ((id+1)*1000)).2.1 id with
      |none=>rfl
      |some c=>exact(ka4.1 (qc hf)).elim
     have htyp:Typed (aZ m z.t z.x ((id+1)*1000)).1 t:=by rw[jq];exact oK m z.t z.x _
     have hv:=bf.var (st:=st') n1.new cV hIB hnc.1 hnone htyp fun m' ρ' hf=>n2 m' ρ' fun i b h=>⟨(hf i b h).1,(hf i b h).2.1⟩
     have iU:iG m ρ w w' (p1.put id (some (B0,0))) id ⟨st',false,.var t (aZ m z.t z.x ((id+1)*1000)).1⟩:=by
      refine⟨_,hb,kz rfl,rfl,rfl,by simp[Pl.put,f1],fun C o' cs' hp aI=>?_,fun _ _ _ _ _ h=>by cases h⟩
      rw[f1] at hp
      cases hp
      have:=k2.unique aI
      subst this
      exact⟨cs0,cV,by rw[fV,hl1,jq,yq];exact bA _⟩
     refine⟨_,_,hv,by simp,fun i c hf=>?_,fun i hi=>?_⟩
     ·rw[aF] at hf
      split at hf
      ·rename_i e
       subst e
       cases hf
       exact .inr ⟨by simp[fB],iU⟩
      ·exact .inl (n1.aN i c hf).2.2.1
     ·simp only[fB,i_] at hi
      subst hi
      exact⟨_,by rw[aF,bQ rfl],iU⟩
   ·simp at hy
def wZ {I':Nat→Prop}(hm:aC F m w I ρ)(hI:∀B,I B→I' B):∀{os:List Mode} {as:List AT} {args:List Arg} {vals:List Value},mL m os as=some args→dI (aj w I m ρ) as vals →
  (∀id∈gE m os as,∀b B,m id=some b→b.live→bO ρ id b B→I' B)→(∀id∈eH os as++fX m os as,∀B,aH m ρ id B→¬I' B)→(eH os as++fX m os as).Nodup →
  ∃Bs Ks,mV w I' args vals Bs∧(Bs++Ks).Nodup∧(∀B∈Bs++Ks,∃id∈eH os as++fX m os as,aH m ρ id B) ∧
   ∀(w':World) (b_:Nat→Prop) (ds:List DV) (u:List (Nat×aa)) (Z:List Nat),bH I b_ w w'→eX m os as ds=some u→eR w w' b_ args vals ds Z→(Z++Ks).Nodup→(u.map (·.1)).Nodup→(∀B∈Z++Ks,¬b_ B)→(∀B∈Ks,w'.heap[B]?=w.heap[B]?) →
    ∃pl Ws,bf w' b_ u Ws pl∧(∀B∈Ws,B∈Z++Ks)∧(∀i b,find u i=some b→b.st=aP m i∨(i∈eH os as∧iG m ρ w w' pl i b))∧(∀i∈eH os as,∃b,find u i=some b∧iG m ρ w w' pl i b):=by
 intro os
 induction os with
 |nil=>
  intro as args vals h hs _ _ _
  cases as with
  |cons x as=>simp[mL] at h
  |nil=>
   simp only[mL,aX] at h
   subst h
   cases hs
   refine⟨[],[],rfl,by simp,by simp,fun w' b_ ds u Z _ hu _ _ _ _ _=>?_⟩
   cases ds with
   |cons d ds=>simp[eX] at hu
   |nil=>
    simp only[eX,aX] at hu
    subst hu
    exact⟨ρ,[],bf.nil _,by simp,fun i b h=>by simp[find] at h,fun i h=>by simp[eH] at h⟩
 |cons mo os ih=>
  intro as args vals h hs hle hown aE
  cases as with
  |nil=>simp[mL] at h
  |cons x as=>
  simp only[mL] at h
  split at h
  ·rename_i y ys hy hys
   simp only[aX] at h
   subst h
   cases hs with
   |cons hx hs=>
   rw[yI] at hle
   rw[uU,uV] at hown aE
   rw[uU,uV]
   have iT:((fB mo x++eH os as)++(jt m mo x++fX m os as)).Perm ((fB mo x++jt m mo x)++(eH os as++fX m os as)):=by
    simp only[cZ]
    refine List.Perm.append_left _ ?_
    rw[←cZ,←cZ]
    exact mg _ mh
   have hnd2:=iT.nodup_iff.1 aE
   have hnd2':=cL.1 hnd2
   obtain⟨B1,K1,a1,a2,a3,a4⟩:=wV hm hI hy hx (fun id hi=>hle id (ee _ hi)) (fun id hi=>hown id (iT.mem_iff.2 (ee _ hi))) hnd2'.1
   obtain⟨B2,K2,b1,b2,b3,b4⟩:=ih hys hs (fun id hi=>hle id (dy _ hi)) (fun id hi=>hown id (iT.mem_iff.2 (dy _ hi))) hnd2'.2.1
   have hall:((B1++K1)++(B2++K2)).Nodup:=jA hm hnd2 a2 b2 a3 b3
   have hp2:∀(Z1 Z2:List Nat),((Z1++Z2)++(K1++K2)).Perm ((Z1++K1)++(Z2++K2)):=by
    intro Z1 Z2
    simp only[cZ]
    refine List.Perm.append_left _ ?_
    rw[←cZ,←cZ]
    exact mg _ mh
   refine⟨B1++B2,K1++K2,⟨B1,B2,rfl,a1,b1⟩,(hp2 B1 B2).nodup_iff.2 hall,fun B hB=>?_,?_⟩
   ·rcases bU.1 ((hp2 B1 B2).mem_iff.1 hB) with hB|hB
    ·obtain⟨i,j,k⟩:=a3 B hB;exact⟨i,iT.mem_iff.2 (ee _ j),k⟩
    ·obtain⟨i,j,k⟩:=b3 B hB;exact⟨i,iT.mem_iff.2 (dy _ j),k⟩
   ·intro w' b_ ds u Z ha hu d_ hZ hk cW iR
    have htk:=yS hy
    rcases Aj hu with⟨t1,hu⟩|⟨t1,z,ds',u1,u2,rfl,hu1,hu2,rfl⟩
    ·rcases wN d_ with⟨t2,d_⟩|⟨t2,_⟩
     ·have hke:fB mo x = []:=by cases mo<;>cases x<;>first|rfl|(simp[Mode.l7] at t1)
      have hZ':(Z++K2).Nodup:=by
       refine hZ.sublist ?_
       exact List.Sublist.append_left (List.sublist_append_right _ _) _
      have hsub:∀B∈Z++K2,B∈Z++(K1++K2):=fun B hB=>by simp only[bU] at hB ⊢;rcases hB with h|h<;>simp[h]
      obtain⟨pl,Ws,c1,c2,c3,c4⟩:=b4 w' b_ ds u Z ha hu d_ hZ' hk (fun B hB=>cW B (hsub B hB)) (fun B hB=>iR B (dy _ hB))
      refine⟨pl,Ws,c1,fun B hB=>hsub B (c2 B hB),fun i b hf=>?_,fun i hi=>?_⟩
      ·rw[hke];exact c3 i b hf
      ·rw[hke] at hi;exact c4 i hi
     ·rw[t2] at htk;rw[t1] at htk;cases htk
    ·rcases wN d_ with⟨t2,_⟩|⟨t2,z',ds'',Z1,Z2,e,rfl,hup1,hup2⟩
     ·rw[t2] at htk;rw[t1] at htk;cases htk
     ·cases e
      have hZ':=(hp2 Z1 Z2).nodup_iff.1 hZ
      have hZn:=cL.1 hZ'
      obtain⟨ka1,ka2,ka3⟩:=qv hk
      obtain⟨p1,W1,n1,s1,t1,t2⟩:=a4 w' b_ z u1 Z1 ha hu1 hup1 hZn.1 ka1 (fun B hB=>cW B ((hp2 Z1 Z2).mem_iff.2 (ee _ hB))) (fun B hB=>iR B (ee _ hB))
      obtain⟨p2,W2,n2,s2,t3,t4⟩:=b4 w' b_ ds' u2 Z2 ha hu2 hup2 hZn.2.1 ka2 (fun B hB=>cW B ((hp2 Z1 Z2).mem_iff.2 (dy _ hB))) (fun B hB=>iR B (dy _ hB))
      refine⟨bM u1 p1 p2,W1++W2,bf.app n1 n2 (fun B hB B' br=>hZn.2.2 B (s1 B hB) B' (s2 B' br)) ka3,fun B hB=>?_,fun i b hf=>?_,fun i hi=>?_⟩
      ·refine(hp2 Z1 Z2).mem_iff.2 ?_
       rcases bU.1 hB with hB|hB
       ·exact ee _ (s1 B hB)
       ·exact dy _ (s2 B hB)
      ·rw[cO] at hf
       simp only[bU]
       split at hf
       ·rename_i c hc
        cases hf
        exact(t1 i _ hc).imp id fun h=>⟨.inl h.1,h.2.to (kF hc).1⟩
       ·rename_i hno
        exact(t3 i _ hf).imp id fun h=>⟨.inr h.1,h.2.to (kE hno).1⟩
      ·simp only[bU] at hi
       rcases hi with hi|hi
       ·obtain⟨b,hb,hs⟩:=t2 i hi
        exact⟨b,by rw[cO,hb],hs.to (kF hb).1⟩
       ·obtain⟨b,hb,hs⟩:=t4 i hi
        have hno:find u1 i=none:=by
         cases hf:find u1 i with
         |none=>rfl
         |some c=>exact(ka3 i c b hf hb).elim
        exact⟨b,by rw[cO,hno];exact hb,hs.to (kE hno).1⟩
  ·simp at h
end
section
variable {P:Program} {F:Fix} {C:Cx} {o:Oper} {a:Act} {w w':World} {m:MF} {I I':Nat→Prop} {ρ:Pl} {d:aD}
def qd (m:MF)(i:Nat):∀ids,find (cK m ids) i=if i∈ids then(m i).map (fun b=>⟨b.st+1,false,.dead⟩) else none
 | []=>by simp[cK,dY,find]
 |j::l=>by
  have ih:=qd m i l
  unfold cK at ih ⊢
  simp[dY]
  cases hm:m j with
  |none=>
   grind
  |some b=>
   simp[aF]
   grind
def aB.called {ke ki le Bs Ws:List Nat}{L:List (Nat×aa)}{pl:Pl}(hm:aC F m w I ρ)(_hle:∀i∈le,¬i∈ke++ki)
  (hBs:∀B∈Bs,∃id∈ke++ki,aH m ρ id B) (hnew:bf w' I' L Ws pl)
  (hst:∀i b,find L i=some b→b.st=aP m i∨(i∈ke∧iG m ρ w w' pl i b)) (hke:∀i∈ke,∃b,find L i=some b)
  (hW:∀B∈Ws,((∃id∈ke++ki,aH m ρ id B)∨w.heap.size≤B)∧¬I' B) (hIa:∀B,dV m ρ I le B→I' B) (hIs:∀B,I B→w'.heap[B]?=w.heap[B]?)
  (hIb:∀B,I' B→B<w'.heap.size∧(dV m ρ I le B∨w.heap.size≤B∨∃id∈ke++ki,aH m ρ id B)) (hframe:∀B,B<w.heap.size→¬B∈Bs→w'.heap[B]?=w.heap[B]?)
  (hsize:w.heap.size≤w'.heap.size) (hos:w'.os=w.os) (gB:w'.tape=w.tape) (hout:w'.output=w.output) :
  aB F m (m.ag (app L (app (cK m ki) (bD m le)))) w w' I I' ρ (bM L pl ρ)∧Fits L pl (m.ag (app L (app (cK m ki) (bD m le)))) (bM L pl ρ):=by
 have hval:∀i,m.ag (app L (app (cK m ki) (bD m le))) i=match find L i with
   |some b=>some b
   |none=>if i∈ki then(m i).map (fun b=>⟨b.st+1,false,.dead⟩) else if i∈le then(m i).map aa.bD else m i:=by
  intro i
  unfold MF.ag
  rw[cO,cO,qd,r6]
  cases find L i with
  |some b=>rfl
  |none=>
   by_cases h1:i∈ki
   ·simp only[h1,fE]
    cases m i with
    |none=>by_cases h2:i∈le<;>simp[h2]
    |some b=>rfl
   ·by_cases h2:i∈le
    ·simp only[h1,h2,fE,l_]
     cases m i<;>rfl
    ·simp[h1,h2]
 have hfit:Fits L pl (m.ag (app L (app (cK m ki) (bD m le)))) (bM L pl ρ):=by
  intro j c hc
  exact⟨by rw[hval,hc],(kF hc).1,(kF hc).2⟩
 refine⟨?_,hfit⟩
 have ha:bH I I' w w':=⟨fun B h=>hIa B (.inl h),hIs⟩
 have hold:∀i b B,find L i=none→¬i∈ki→m i=some b→b.live→bO ρ i b B→w'.heap[B]?=w.heap[B]?∧B<w.heap.size∧¬∃id∈ke++ki,aH m ρ id B:=by
  intro i b B h1 h2 h3 h4 h5
  have hlt:B<w.heap.size:=by
   rcases h5 with⟨o,h5⟩|⟨h5,h6⟩
   ·exact hm.lt h3 h4 h5
   ·exact(hm.dlt h3 h5 h6).1
  have hno:¬∃id∈ke++ki,aH m ρ id B:=by
   rintro⟨j,hj,b',k1,k2,_,k3⟩
   have:=hm.jC h3 h4 h5 k1 k2 k3
   subst this
   rcases bU.1 hj with hj|hj
   ·obtain⟨c,hc⟩:=hke i hj
    rw[h1] at hc;cases hc
   ·exact h2 hj
  exact⟨hframe B hlt fun hB=>hno (hBs B hB),hlt,hno⟩
 have hk:c_ m (m.ag (app L (app (cK m ki) (bD m le)))) ρ (bM L pl ρ) w w':=by
  refine⟨fun i b hb=>?_,fun i b b' rs t u xs ys hb hb' hs hc aI B o' hr=>?_⟩
  ·rw[hval]
   cases hf:find L i with
   |some c=>
    refine⟨c,rfl,?_⟩
    rcases hst i c hf with h|⟨_,b0,h1,h2,h3,h4,h5,h6,_⟩
    ·left
     rw[h]
     exact lS hb
    ·rw[hb] at h1
     cases h1
     exact .inr ⟨h3,h4,(kF hf).1.trans h5,fun _ B o' hr cs hc=>h6 B o' cs hr hc⟩
   |none=>
    by_cases h1:i∈ki
    ·exact⟨_,by simp only[h1,fE,hb];rfl,.inl (Nat.lt_succ_self _)⟩
    ·have hpl:bM L pl ρ i=ρ i:=(kE hf).1
     have cV:b.live→∀B o',ρ i=some (B,o')→∀cs,Cells w B cs→∃cs',Cells w' B cs'∧cs.length≤cs'.length:=
      fun hl B o' hr cs hc=>⟨cs,hc.of_same (hold i b B hf h1 hb hl (.inl ⟨o',hr⟩)).1,bA _⟩
     by_cases h2:i∈le
     ·rcases b.qf with⟨_,hz⟩|⟨_,hz⟩
      ·exact⟨b.bD,by simp only[h1,h2,fE,l_,hb];rfl,.inl (by rw[hz];exact Nat.lt_succ_self _)⟩
      ·exact⟨b.bD,by simp only[h1,h2,fE,l_,hb];rfl,.inr ⟨by rw[hz],by rw[hz];exact bX.refl _,hpl,cV⟩⟩
     ·exact⟨b,by simp only[h1,h2,l_,hb],.inr ⟨rfl,bX.refl _,hpl,cV⟩⟩
  ·rw[hval] at hb'
   cases hf:find L i with
   |some c=>
    rw[hf] at hb'
    cases hb'
    rcases hst i _ hf with h|⟨_,b0,h1,h2,h3,h4,h5,h6,h7⟩
    ·have:=lS hb
     omega
    ·rw[hb] at h1
     cases h1
     exact h7 rs t u xs ys hc aI B o' hr
   |none=>
    rw[hf] at hb'
    by_cases h1:i∈ki
    ·simp only[h1,fE,hb,zl23,aX] at hb'
     subst hb'
     cases aI
    ·exact(hold i b B hf h1 hb (fj (by unfold aa.bI;rw[hc];trivial)) (.inl ⟨o',hr⟩)).1
 have dA:∀i b,m.ag (app L (app (cK m ki) (bD m le))) i=some b→b.live→(find L i=some b∧bM L pl ρ i=pl i∧(bM L pl ρ).d i=pl.d i) ∨
   (find L i=none∧¬i∈ki∧bM L pl ρ i=ρ i∧(bM L pl ρ).d i=ρ.d i∧∃b0,m i=some b0∧b0.live∧b0.c=b.c∧(i∈le∧b.fz=true∧¬b0.bI∨¬i∈le∧b0=b)):=by
  intro i b hb hl
  rw[hval] at hb
  cases hf:find L i with
  |some c=>
   rw[hf] at hb
   cases hb
   exact .inl ⟨rfl,kF hf⟩
  |none=>
   rw[hf] at hb
   simp only at hb
   by_cases h1:i∈ki
   ·simp only[h1,fE,cq] at hb
    obtain⟨b0,_,rfl⟩:=hb
    simp[aa.live] at hl
   ·refine .inr ⟨rfl,h1,(kE hf).1,(kE hf).2,?_⟩
    by_cases h2:i∈le
    ·simp only[h1,h2,fE,l_,cq] at hb
     obtain⟨b0,h3,rfl⟩:=hb
     rcases b0.qf with⟨_,hz⟩|⟨hd,hz⟩
     ·rw[hz] at hl;simp[aa.live] at hl
     ·rw[hz] at hl
      exact⟨b0,h3,hl,by rw[hz],.inl ⟨h2,by rw[hz],hd⟩⟩
    ·simp only[h1,h2,l_] at hb
     exact⟨b,hb,hl,rfl,.inr ⟨h2,rfl⟩⟩
 have o5:∀{i:Nat} {b:aa} {B:Nat},bM L pl ρ i=pl i∧(bM L pl ρ).d i=pl.d i→bO (bM L pl ρ) i b B→bO pl i b B:=by
  intro i b B e h
  exact h.imp (fun⟨o,h⟩=>⟨o,e.1▸h⟩) (fun⟨h1,h2⟩=>⟨h1,e.2▸h2⟩)
 have o6:∀{i:Nat} {b b0:aa} {B:Nat},bM L pl ρ i=ρ i→(bM L pl ρ).d i=ρ.d i→b0.c=b.c→bO (bM L pl ρ) i b B→bO ρ i b0 B:=by
  intro i b b0 B e1 e2 hc h
  exact h.imp (fun⟨o,h⟩=>⟨o,e1▸h⟩) (fun⟨h1,h2⟩=>⟨by unfold aa.bI at *;rw[hc];exact h1,e2▸h2⟩)
 have cross:∀{i j:Nat} {b c:aa} {B:Nat},find L i=some b→bO pl i b B→find L j=none→¬j∈ki→m j=some c→c.live→bO ρ j c B→False:=by
  intro i j b c B e1 e2 e4 e5 e7 e8 e9
  obtain⟨_,k2,k3⟩:=hold j c B e4 e5 e7 e8 e9
  rcases(hW B (hnew.src i b B e1 e2)).1 with h|h
  ·exact k3 h
  ·omega
 have hone:∀i j b c B,m.ag (app L (app (cK m ki) (bD m le))) i=some b→m.ag (app L (app (cK m ki) (bD m le))) j=some c→b.live→c.live→bO (bM L pl ρ) i b B→bO (bM L pl ρ) j c B→i=j:=by
  intro i j b c B h1 h2 h3 h4 h5 h6
  rcases dA i b h1 h3 with⟨e1,e2⟩|⟨e1,e2,e3,e3',b0,e4,e5,e6,_⟩
  ·rcases dA j c h2 h4 with⟨g1,g2⟩|⟨g1,g2,g3,g3',c0,g4,g5,g6,_⟩
   ·exact hnew.one i j b c B e1 g1 (o5 e2 h5) (o5 g2 h6)
   ·exact(cross e1 (o5 e2 h5) g1 g2 g4 g5 (o6 g3 g3' g6 h6)).elim
  ·rcases dA j c h2 h4 with⟨g1,g2⟩|⟨g1,g2,g3,g3',c0,g4,g5,g6,_⟩
   ·exact(cross g1 (o5 g2 h6) e1 e2 e4 e5 (o6 e3 e3' e6 h5)).elim
   ·exact hm.jC e4 e5 (o6 e3 e3' e6 h5) g4 g5 (o6 g3 g3' g6 h6)
 have hfzI:∀B,dV m ρ I le B→F.I0 B∨F.w0.heap.size≤B∨F.X0 B:=by
  rintro B (h|⟨id,_,b,o',h1,h2,h3⟩|⟨id,_,b,h1,h2,h3⟩)
  ·exact hm.iu B h
  ·exact .inr (hm.mine id b B o' h1 h2 h3)
  ·exact .inr ((hm.dp id b h1 h2).2 B h3).1
 have d_:∀i b B,m.ag (app L (app (cK m ki) (bD m le))) i=some b→b.live→bO (bM L pl ρ) i b B→F.w0.heap.size≤B∨F.X0 B:=by
  intro i b B h1 h2 h3
  rcases dA i b h1 h2 with⟨e1,e2⟩|⟨e1,e2,e3,e3',b0,e4,e5,e6,_⟩
  ·rcases(hW B (hnew.src i b B e1 (o5 e2 h3))).1 with⟨id,_,h⟩|h
   ·exact h.up hm
   ·exact .inl (nV hm.size h)
  ·rcases o6 e3 e3' e6 h3 with⟨o,h⟩|⟨h,h'⟩
   ·exact hm.mine i b0 B o e4 e5 h
   ·exact((hm.dp i b0 e4 h).2 B h').1
 refine⟨ha,hk,⟨fun i b hb=>?_,fun i i' b b' B o1 o2 h1 h2 h3 h4 h5 h6=>hone i i' b b' B h1 h2 h3 h4 (.inl ⟨_,h5⟩) (.inl ⟨_,h6⟩),fun B h=>(hIb B h).1,fun B h=>hIa B (.inl (hm.iJ B h)),fun B h=>?_,fun i b B o1 h1 h2 h3=>d_ i b B h1 h2 (.inl ⟨_,h3⟩),fun i b hb hd=>?_,fun B h1 h2=>?_,nV hm.size hsize,hos.trans hm.os,gB.trans hm.tape,hout.trans hm.output,F.G.mono ha hm.fU⟩⟩
 ·by_cases hl:b.live
  ·rcases dA i b hb hl with⟨h1,_⟩|⟨h1,h2,h3,h3',b0,h4,h5,h6,h7⟩
   ·exact(hnew.aN i b h1).2.2 _ _ hfit
   ·have aA:=hm.aN i b0 h4
    rcases h7 with⟨hle',hfz,aE⟩|⟨hle',rfl⟩
    ·unfold cM at aA ⊢
     cases hc:b.c with
     |dead=>trivial
     |deep rs t xs=>exact absurd (by unfold aa.bI;rw[h6,hc];trivial) aE
     |var t x=>
      rw[h6,hc] at aA
      simp only at aA ⊢
      obtain⟨q1,B,cs,q2,q3,q4,_⟩:=aA
      obtain⟨k1,_,_⟩:=hold i b0 B h1 h2 h4 h5 (.inl ⟨_,q2⟩)
      refine⟨q1,B,cs,h3.trans q2,q3.of_same k1,q4.mono ha hk,?_⟩
      simp only[hfz,true_iff]
      exact hIa B (.inr (.inl ⟨i,hle',b0,0,h4,h5,q2⟩))
     |rows t xs=>
      rw[h6,hc] at aA
      simp only at aA ⊢
      obtain⟨_,q⟩:=aA
      refine⟨trivial,?_⟩
      rcases q with⟨q1,q2⟩|⟨B,o',cs,q1,q2,q3,q4,_⟩
      ·exact .inl ⟨q1,h3.trans q2⟩
      ·obtain⟨k1,_,_⟩:=hold i b0 B h1 h2 h4 h5 (.inl ⟨_,q1⟩)
       refine .inr ⟨B,o',cs,h3.trans q1,q2.of_same k1,q3,q4.mono (fun o=>World.cell?_of_block (w:=w) k1) (fun x vs h=>af.mono ha h),?_⟩
       simp only[hfz,true_iff]
       exact hIa B (.inr (.inl ⟨i,hle',b0,o',h4,h5,q1⟩))
    ·have jR:∀B,bO ρ i b0 B→w'.heap[B]?=w.heap[B]?∧(I' B→I B):=by
      intro B hO
      obtain⟨k1,k2,k3⟩:=hold i b0 B h1 h2 h4 h5 hO
      refine⟨k1,fun kO=>?_⟩
      rcases(hIb B kO).2 with h|h|h
      ·rcases h with h|⟨id,hid,c,de,e1,e2,e3⟩|⟨id,hid,c,e1,e2,e3⟩
       ·exact h
       ·have:=hm.jC h4 h5 hO e1 e2 (.inl ⟨_,e3⟩)
        subst this
        exact absurd hid hle'
       ·have:=hm.jC h4 h5 hO e1 (fj e2) (.inr ⟨e2,e3⟩)
        subst this
        exact absurd hid hle'
      ·omega
      ·exact absurd h k3
     exact aA.mono ha hk h3 h3' (fun B o' hr _=>jR B (.inl ⟨o',hr⟩)) (fun hd B hB=>jR B (.inr ⟨hd,hB⟩))
  ·unfold cM
   unfold aa.live at hl
   cases hc:b.c with
   |dead=>trivial
   |var t x=>simp[hc] at hl
   |rows t xs=>simp[hc] at hl
   |deep rs t xs=>simp[hc] at hl
 ·rcases(hIb B h).2 with h|h|⟨id,_,h⟩
  ·exact hfzI B h
  ·exact .inr (.inl (nV hm.size h))
  ·exact .inr (h.up hm)
 ·have hl:=fj hd
  have hnm:((bM L pl ρ).d i).Nodup∧∀B∈(bM L pl ρ).d i,∀o,bM L pl ρ i≠some (B,o):=by
   rcases dA i b hb hl with⟨e1,e2,e3⟩|⟨e1,e2,e3,e3',b0,e4,e5,e6,_⟩
   ·rw[e2,e3];exact hnew.dn i b e1 hd
   ·rw[e3,e3']
    obtain⟨q1,q2⟩:=hm.dp i b0 e4 (by unfold aa.bI at *;rw[e6];exact hd)
    exact⟨q1,fun B hB o=>(q2 B hB).2.1 i b0 o e4 e5⟩
  refine⟨hnm.1,fun B hB=>⟨d_ i b B hb hl (.inr ⟨hd,hB⟩),fun i' b' o h1 h2 h3=>?_,fun i' b' h1 h2 h3=>?_⟩⟩
  ·have:=hone i i' b b' B hb h1 hl h2 (.inr ⟨hd,hB⟩) (.inl ⟨o,h3⟩)
   subst this
   exact hnm.2 B hB o h3
  ·exact(hone i i' b b' B hb h1 hl (fj h2) (.inr ⟨hd,hB⟩) (.inr ⟨h2,h3⟩)).symm
 ·have hnB:¬B∈Bs:=by
   intro h
   obtain⟨id,_,iI⟩:=hBs B h
   rcases iI.up hm with h|h
   ·omega
   ·exact h2 h
  rw[hframe B (Nat.lt_of_lt_of_le h1 hm.size) hnB]
  exact hm.frame B h1 h2
end
section
variable {P:Program} {F:Fix} {C:Cx} {o:Oper} {a:Act} {w w':World} {m:MF} {I I':Nat→Prop} {ρ:Pl} {d:aD}
def af.fL:∀{t:Ty} {x:t.den} {vs:List Value},t.aV=false→af w I t x vs→af w I' t x vs:=by
 intro t
 induction t with
 |lst t _=>simp[Ty.aV]
 |ref t _=>simp[Ty.aV]
 |own t _=>simp[af]
 |pair a b aO aK=>
  intro x vs h hr
  simp[Ty.aV] at h
  simp[af] at hr ⊢
  grind
 |arr n t ih=>
  intro x vs h hr
  exact⟨hr.1,aT.mono (fun x vs hh=>ih h hh) hr.2⟩
 |_=>simp[af]
def cD.fL (hI:∀B,I' B→I B):∀{t:Ty} {x:t.den} {vs:List Value} {Bs:List Nat},t.aV=false→cD w I t x vs Bs→cD w I' t x vs Bs:=by
 intro t
 induction t with
 |own t _=>
  intro x vs Bs h hr
  obtain⟨ad,cap,e,hl,hr⟩:=hr
  refine⟨ad,cap,e,hl,hr.imp (fun h=>h) ?_⟩
  rintro⟨B,o',cs,h1,h2,h3,h4,h5,h6⟩
  exact⟨B,o',cs,h1,h2,h3,h4.mono (fun _=>rfl) (fun x vs hh=>af.fL h hh),fun h=>h5 (hI B h),h6⟩
 |pair a b aO aK=>
  intro x vs Bs h hr
  simp[Ty.aV] at h
  obtain⟨v1,v2,B1,B2,e,eb,h1,h2⟩:=hr
  exact⟨v1,v2,B1,B2,e,eb,aO h.1 h1,aK h.2 h2⟩
 |_=>intro x vs Bs h hr;exact⟨hr.1,af.fL h hr.2⟩
def bE.anti {α:Type}{B sz:Nat}{R R':α→List Value→List Nat→Prop}(hR:∀x vs D,R x vs D→R' x vs D):∀{xs:List α} {off:Nat} {Ds:List Nat},bE w B sz R off xs Ds→bE w B sz R' off xs Ds
 | [],_,_,h=>h
 |_::_,_,_,⟨cs,D1,D2,e,h1,h2,h3,h4⟩=>⟨cs,D1,D2,e,h1,h2,hR _ _ _ h3,bE.anti hR h4⟩
def au.fL (hI:∀B,I' B→I B):∀{t:Ty} {x:t.den} {vs:List Value} {Bs:List Nat},au w I t x vs Bs→au w I' t x vs Bs:=by
 intro t
 induction t with
 |lst t ih=>
  intro x vs Bs hr
  obtain⟨ad,cap,e,hl,hr⟩:=hr
  refine⟨ad,cap,e,hl,hr.imp (fun h=>h) ?_⟩
  rintro⟨B,o',cs,Ds,h1,h2,h3,h4,h5,h6⟩
  exact⟨B,o',cs,Ds,h1,h2,h3,h4.anti fun x vs D h=>ih h,fun h=>h5 (hI B h),h6⟩
 |pair a b aO aK=>
  grind [au]
 |own t _=>simp[au]
 |ref t _=>simp[au]
 |arr n t _=>intro x vs Bs hr;exact⟨hr.1,hr.2.1,af.fL (by grind [au,Ty.aV]) hr.2.2⟩
 |_=>intro x vs Bs hr;trivial
def mY.fL (hI:∀B,I' B→I B){r:RV}{v:Value}{Bs:List Nat}(h:r.qy=false)(hr:mY w I r v Bs):mY w I' r v Bs:=by
 cases r with
 |v d=>obtain⟨cs,e,hr⟩:=hr;exact⟨cs,e,hr.fL hI h⟩
 |d y=>obtain⟨cs,e,hr⟩:=hr;exact⟨cs,e,hr.fL hI⟩
 |p d=>obtain⟨B,cs,B1,e,hc,hB,hr,e2⟩:=hr;exact⟨B,cs,B1,e,hc,fun h=>hB (hI B h),hr.fL hI h,e2⟩
def ja.fL (hI:∀B,I' B→I B):∀{outs:List RV} {vs:List Value} {Bs:List Nat},bW RV.qy outs=false→ja w I outs vs Bs→ja w I' outs vs Bs
 | [],[],_,_,h=>h
 | [],_::_,_,_,h=>h
 |_::_,[],_,_,h=>h
 |r::outs,v::vs,Bs,h,hr=>by
  simp[bW] at h
  obtain⟨B1,B2,e,h1,h2⟩:=hr
  exact⟨B1,B2,e,h1.fL hI h.1,ja.fL hI h.2 h2⟩
def eR.fL (hI:∀B,I' B→I B):∀{args:List Arg} {vs:List Value} {ds:List DV} {Bs:List Nat},kJ args ds=false→eR w w' I args vs ds Bs→eR w w' I' args vs ds Bs:=by
 intro args
 induction args with
 |nil=>intro vs ds Bs h hr;cases ds<;>first|trivial|(done)
 |cons a args ih=>
  intro vs ds Bs h hr
  cases vs with
  |nil=>simp_all [eR]
  |cons v vs=>
  cases a with
  |v d=>simp_all [eR,kJ]
  |f g d=>simp_all [eR,kJ]
  |d y=>
   cases ds with
   |nil=>trivial
   |cons u ds=>
   obtain⟨cs,B1,B2,e1,e2,e3,e4,e5,e6⟩:=hr
   exact⟨cs,B1,B2,e1,e2,e3.fL hI,e4,e5,ih h e6⟩
  |p d=>
   cases ds with
   |nil=>trivial
   |cons u ds=>
   simp[kJ] at h
   obtain⟨B,cs,B1,B2,e1,e2,e3,e4,e5,e6,e7⟩:=hr
   exact⟨B,cs,B1,B2,e1,e2,fun h=>e3 (hI B h),e4,e5.fL hI h.1,e6,ih h.2 e7⟩
  |m t xs=>
   cases ds with
   |nil=>trivial
   |cons u ds=>
   simp[kJ] at h
   obtain⟨ys,B1,B2,e1,e2,e3,e4,e5,e6⟩:=hr
   subst e1
   exact⟨ys,B1,B2,rfl,e2,e3.fL hI h.1,e4,e5,ih h.2 e6⟩
end
section
variable {P:Program} {F:Fix} {C:Cx} {o:Oper} {a:Act} {w w':World} {m:MF} {I I':Nat→Prop} {ρ:Pl} {d:aD}
def dI.app {α β:Type}{R:α→β→Prop}:∀{l1 l2:List α} {k1 k2:List β},dI R l1 k1→dI R l2 k2→dI R (Ab.app l1 l2) (k1++k2)
 | [],_,_,_,h,h'=>by cases h;trivial
 |_::_,_,_,_,h,h'=>by cases h with | cons h1 h2=>exact .cons h1 (h2.app h')
def w_:∀{c:AT} {vs:List Value},m_ c=true→aq w I m ρ c vs→dI (aj w I m ρ) (k9 c) vs:=by
 intro c
 induction c with
 |bJ l r _ ihr=>
  intro vs h hr
  simp[m_] at h
  obtain⟨v,vs',rfl,h1,h2⟩:=hr
  refine .cons ?_ (ihr h.2 h2)
  have hsl:l.slot=true:=by cases l<;>first|rfl|exact h.1
  refine(lZ hsl).2 ?_
  unfold aG
  have:l.isAgg=false:=by
   cases l<;>simp[AT.one] at h<;>first|rfl|(simp[AT.isAgg];grind)
  grind
 |dM=>intro vs _ hr;subst hr;exact .nil
 |_=>intro vs h hr;trivial
def wq:∀{l:List AT} {vs:List Value},dI (fun x v=>x.slot=true∧aj w I m ρ x v) l vs→eD w I m ρ (nR l) vs
 | [],_,h=>by cases h;rfl
 |_::_,_,h=>by
  cases h with
  |cons h1 h2=>exact⟨_,_,rfl,(lZ h1.1).1 h1.2,wq h2⟩
structure eN (P:Program) (G:jN) (C:Cx):Prop where
 fns:∀f cG den,find C.fns f=some (cG,den)→(∀(args:Array Value) (w:World),(callFunc f args).run P w = .ok (.enter f args) w) ∧
  ∀args r,den args=some r→(∀b∈r.ok,b=true)→mq P G f args r
 gl:∀g d,find C.gl g=some d→∀w I,G.ok w I→af w I (.ref d.t) d.x [.pointer (some ⟨g,0,none⟩)]
end
section
variable {P:Program} {F:Fix} {C:Cx} {o:Oper} {a:Act} {w w':World} {m:MF} {I I':Nat→Prop} {ρ:Pl} {d:aD}
def za {outs:List RV}{v:Value}{Ys:List Nat}{n:Nat}(h:mu w I outs v Ys)(aE:Ys.Nodup) :
  ∃pl:Pl,bf w I (cP m outs n).2 Ys pl∧(∀i b,find (cP m outs n).2 i=some b→n≤i∧b.st=aP m i) ∧
   ∀m' ρ',Fits (cP m outs n).2 pl m' ρ'→aj w I m' ρ' (oneOf (cP m outs n).1) v:=by
 have hlen:∀{outs:List RV} {n:Nat},(cP m outs n).1.length=outs.length:=by
  intro outs
  induction outs with
  |nil=>intro n;rfl
  |cons r outs ih=>cases r<;>simp[cP,ih]
 match outs,h with
 | [r],h=>
  have h':ja w I [r] [v] Ys:=⟨Ys,[],by simp,h,rfl⟩
  obtain⟨pl,h1,h2,h3⟩:=sY m n h' aE
  refine⟨pl,h1,h2,fun m' ρ' hf=>?_⟩
  have h4:=h3 m' ρ' hf
  generalize (cP m [r] n).1=l at h4
  cases h4 with
  |cons h5 h6=>cases h6;exact h5.2
 | [],h=>
  obtain⟨arr,rfl,h'⟩:=h
  obtain⟨pl,h1,h2,h3⟩:=sY m n h' aE
  refine⟨pl,h1,h2,fun m' ρ' hf=>?_⟩
  have h5:arr.toList = []:=by
   cases ha:arr.toList with
   |nil=>rfl
   |cons x l=>rw[ha] at h';trivial
  have:arr = #[]:=by simp_all
  subst this
  rfl
 |r::r2::outs,h=>
  obtain⟨arr,rfl,h'⟩:=h
  obtain⟨pl,h1,h2,h3⟩:=sY m n h' aE
  refine⟨pl,h1,h2,fun m' ρ' hf=>?_⟩
  have h4:=wq (h3 m' ρ' hf)
  have hl:=hlen (outs:=r::r2::outs) (n:=n)
  generalize (cP m (r::r2::outs) n).1=l at h4 hl
  match l,hl with
  |x::y::l,_=>exact⟨arr,rfl,h4⟩
end
section
variable {P:Program} {F:Fix} {C:Cx} {o:Oper} {a:Act} {w w':World} {m:MF} {I I':Nat→Prop} {ρ:Pl} {d:aD}
def wS {l l':List Nat}(h:pY l l'=true):∀i∈l,¬i∈l':=by
 induction l with
 |nil=>simp
 |cons x l ih=>
  simp[pY,cH] at h
  intro i hi
  rcases bN.1 hi with e|hi
  ·subst e
   intro hin
   rw[lE.2 hin] at h
   simp at h
  ·exact ih h.2 i hi
def xM {g:Operand}{f:FuncId}{caps:AT}{args:Array Operand}{ts:Array Nat}{as:List AT}{dst:Nat}(hC:eN P F.G C)(ho:o.op = .call ⟨.value g,args,ts⟩)(hm:aC F m w I ρ)
  (hg:aj w I m ρ (.fn f caps) (a.eval g)) (hs:dI (aj w I m ρ) as (args.toList.map a.eval)) (hcaps:m_ caps=true)
  (hd:rN C m dst f (app as (k9 caps))=some d) (hok:∀b∈d.ok,b=true):az P F o a w m I ρ d:=by
 have hg':=cj (a:=.fn f caps) rfl hg (by simp) (by simp) (by simp) (by simp)
 simp only[aq,jY,jZ] at hg'
 obtain⟨cv,hgv,hcv⟩:=hg'
 have hall:=dI.app hs (w_ hcaps hcv)
 unfold rN at hd
 split at hd
 ·grind
 ·rename_i cG den hfn
  obtain⟨hent,hden⟩:=hC.fns f cG den hfn
  generalize app as (k9 caps)=xs at hd hall
  cases hch:nodup (app (eH cG xs) (fX m cG xs))&&pY (gE m cG xs) (app (eH cG xs) (fX m cG xs)) with
  |false=>simp[hch] at hd
  |true=>
  simp only[hch,dW] at hd
  simp only[bB,lU,bY] at hch
  have hap:=wS hch.2
  split at hd
  ·simp at hd
  ·rename_i ar har
   split at hd
   ·simp at hd
   ·rename_i r hdr
    split at hd
    ·simp at hd
    ·rename_i u hu
     obtain⟨hk,hd⟩:=aU hd
     cases hd
     rw[lU,jw] at hk
     obtain⟨kd1,kd2,kd3⟩:=qv hk
     have hown:∀id∈eH cG xs++fX m cG xs,∀B,aH m ρ id B→¬dV m ρ I (gE m cG xs) B:=by
      rintro id hid B bP (hI|⟨j,hj,bj,oj,k1,k2,k3⟩|⟨j,hj,bj,k1,k2,k3⟩)
      ·exact bP.iX hm hI
      ·obtain⟨b,h1,h2,h3,h4⟩:=bP
       have:=hm.jC h1 h2 h4 k1 k2 (.inl ⟨_,k3⟩)
       subst this
       exact hap id hj hid
      ·obtain⟨b,h1,h2,h3,h4⟩:=bP
       have:=hm.jC h1 h2 h4 k1 (fj k2) (.inr ⟨k2,k3⟩)
       subst this
       exact hap id hj hid
     have hlent:∀id∈gE m cG xs,∀b B,m id=some b→b.live→bO ρ id b B→dV m ρ I (gE m cG xs) B:=by
      rintro id hi b B h1 h2 (⟨o',h3⟩|⟨h3,h4⟩)
      ·exact .inr (.inl ⟨id,hi,b,o',h1,h2,h3⟩)
      ·exact .inr (.inr ⟨id,hi,b,h1,h3,h4⟩)
     obtain⟨Bs,Ks,hargs,hBK,qg,hcont⟩:=wZ (I':=dV m ρ I (gE m cG xs)) hm (fun _ h=>.inl h) har hall hlent hown hch.1
     have oy:=cL.1 hBK
     have hBnd:=oy.1
     have hBnot:∀B∈Bs++Ks,¬dV m ρ I (gE m cG xs) B:=by
      intro B hB
      obtain⟨id,hid,bP⟩:=qg B hB
      exact hown id hid B bP
     have hBlt:∀B∈Bs++Ks,B<w.heap.size:=by
      intro B hB
      obtain⟨id,hid,bP⟩:=qg B hB
      exact bP.lt hm
     have sB:=hden ar r hdr hok w (dV m ρ I (gE m cG xs)) _ Bs (aB.freeze hm _).mem.aS (aB.freeze hm _).mem.fU hargs hBnd (fun B hB=>hBnot B (ee _ hB))
     intro K Q hK
     have fI:(execOp a.eval o).run P w = .ok (.enter f (args.toList.map a.eval++cv.toList).toArray) w:=by
      simp[execOp,ho,resolve,hgv,Deferred.ofValue,invoke,hent]
     unfold Oper.wp
     rw[fI,Oper.upon_enter]
     refine Calls.mono sB fun e w' he=>?_
     obtain⟨v,I',Ys,Zs,rfl,hO,hU,hYZ,hW,cS,kO,hfr,hsz,hos,htp,hout⟩:=he
     have hYn:=cL.1 hYZ
     have iR:∀B∈Ks,w'.heap[B]?=w.heap[B]? :=fun B hB=>hfr B (hBlt B (dy _ hB)) fun h=>oy.2.2 B h B hB rfl
     have hKn:∀B∈Ks,¬I' B:=by
      intro B hB hIB
      rcases(kO B hIB).2 with h|h|h
      ·exact hBnot B (dy _ hB) h
      ·have:=hBlt B (dy _ hB);omega
      ·exact oy.2.2 B h B hB rfl
     have hYK:∀B∈Ys++Zs,∀B'∈Ks,B≠B':=by
      rintro B hB B' br rfl
      rcases(hW B hB).1 with h|h
      ·exact oy.2.2 B h B br rfl
      ·have:=hBlt B (dy _ br);omega
     have hZK:(Zs++Ks).Nodup:=cL.2 ⟨hYn.2.1,oy.2.1,fun B hB B' br=>hYK B (dy _ hB) B' br⟩
     have fin:∀(I2:Nat→Prop) (le2:List Nat),(∀i∈le2,i∈gE m cG xs)→mu w' I2 r.outs v Ys→eR w w' I2 ar (args.toList.map a.eval++cv.toList) r.kK Zs→(∀B,I2 B→I' B)→(∀B,dV m ρ I le2 B→I2 B) →
       (∀B,I2 B→dV m ρ I le2 B∨w.heap.size≤B∨B∈Bs) →
       ∃ρ',aB F m (m.ag (app (app (cP m r.outs ((dst+1)*1000)).2 u) (app (cK m (fX m cG xs)) (bD m le2)))) w w' I I2 ρ ρ' ∧
        aj w' I2 (m.ag (app (app (cP m r.outs ((dst+1)*1000)).2 u) (app (cK m (fX m cG xs)) (bD m le2)))) ρ' (oneOf (cP m r.outs ((dst+1)*1000)).1) v:=by
      intro I2 le2 qp hO2 hU2 hsub hIa hIb
      have hag0:∀B,I B→w'.heap[B]?=w.heap[B]? :=fun B h=>cS.same B (.inl h)
      have hagr:bH I I2 w w':=⟨fun B h=>hIa B (.inl h),hag0⟩
      obtain⟨p1,n1,n2,n3⟩:=za (m:=m) (n:=(dst+1)*1000) hO2 hYn.1
      obtain⟨p2,Ws,u1,us,u2,u3⟩:=hcont w' I2 r.kK u Zs hagr hu hU2 hZK kd2 (fun B hB hI=>by
       rcases bU.1 hB with h|h
       ·exact(hW B (dy _ h)).2 (hsub B hI)
       ·exact hKn B h (hsub B hI)) iR
      have hnew:=bf.app n1 u1 (fun B hB B' br=>by
       rcases bU.1 (us B' br) with h|h
       ·exact hYn.2.2 B hB B' h
       ·exact hYK B (ee _ hB) B' h) kd3
      have hA:∀i b,find (app (cP m r.outs ((dst+1)*1000)).2 u) i=some b→b.st=aP m i∨(i∈eH cG xs∧iG m ρ w w' (bM (cP m r.outs ((dst+1)*1000)).2 p1 p2) i b):=by
       intro i b hb
       rw[cO] at hb
       split at hb
       ·rename_i b' hb'
        cases hb
        exact .inl (n2 i b hb').2
       ·rename_i hno
        exact(u2 i b hb).imp id fun h=>⟨h.1,h.2.to (kE hno).1⟩
      have hB:∀i∈eH cG xs,∃b,find (app (cP m r.outs ((dst+1)*1000)).2 u) i=some b:=by
       intro i hi
       obtain⟨b,hb,_⟩:=u3 i hi
       have hno:find (cP m r.outs ((dst+1)*1000)).2 i=none:=by
        cases hf:find (cP m r.outs ((dst+1)*1000)).2 i with
        |none=>rfl
        |some c=>exact(kd3 i c b hf hb).elim
       exact⟨b,by rw[cO,hno];exact hb⟩
      have hBs':∀B∈Bs,∃id∈eH cG xs++fX m cG xs,aH m ρ id B:=fun B hB=>qg B (ee _ hB)
      obtain⟨c1,c2⟩:=aB.called (le:=le2) hm (fun i hi=>hap i (qp i hi)) hBs' hnew hA hB (fun B hB=>by
        have fW:B∈Ys++Zs∨B∈Ks:=by
         rcases bU.1 hB with h|h
         ·exact .inl (ee _ h)
         ·rcases bU.1 (us B h) with h|h
          ·exact .inl (dy _ h)
          ·exact .inr h
        rcases fW with h|h
        ·exact⟨(hW B h).1.imp (hBs' B) id,fun hI=>(hW B h).2 (hsub B hI)⟩
        ·exact⟨.inl (qg B (dy _ h)),fun hI=>hKn B h (hsub B hI)⟩) hIa hag0
       (fun B hB=>⟨(kO B (hsub B hB)).1,(hIb B hB).imp id (Or.imp id (hBs' B))⟩) hfr hsz hos htp hout
      exact⟨_,c1,n3 _ _ (Fits.left c2)⟩
     have hass:∀{x y z:List (Nat×aa)},app (app x y) z=app x (app y z):=by intro x y z;simp[bY]
     cases hkp:bW RV.qy r.outs || kJ ar r.kK with
     |true=>
      obtain⟨ρ',f1,f2⟩:=fin I' (gE m cG xs) (fun _ h=>h) hO hU (fun _ h=>h) (fun B h=>cS.sub B h) (fun B h=>(kO B h).2)
      rw[hass] at f1 f2
      exact hK v w' I' ρ' (by simpa only[hkp,dW] using f1) (by simpa only[hkp,dW] using f2)
     |false=>
      simp only[ry] at hkp
      have hsub:∀B,I B→I' B:=fun B h=>cS.sub B (.inl h)
      have hO2:mu w' I r.outs v Ys:=by
       have hO':=hO
       unfold mu at hO' ⊢
       split
       ·rename_i x hx
        rw[hx] at hO' hkp
        simp only[bW,Bool.or_false] at hkp
        exact hO'.fL hsub hkp.1
       ·rename_i hx
        split at hO'
        ·rename_i x hx2;exact absurd hx2 (hx x)
        ·obtain⟨arr,e,h⟩:=hO'
         exact⟨arr,e,h.fL hsub hkp.1⟩
      obtain⟨ρ',f1,f2⟩:=fin I [] (fun _ h=>by simp at h) hO2 (hU.fL hsub hkp.2) hsub (fun B h=>by
       rcases h with h|⟨_,h,_⟩|⟨_,h,_⟩
       ·exact h
       ·simp at h
       ·simp at h) (fun B h=>.inl (.inl h))
      rw[hass] at f1 f2
      exact hK v w' I ρ' (by simpa only[hkp,Bool.or_false,pO,bD,dY] using f1) (by simpa only[hkp,Bool.or_false,pO,bD,dY] using f2)
end
section
variable {P:Program} {F:Fix} {C:Cx} {o:Oper} {a:Act} {w w':World} {m:MF} {I I':Nat→Prop} {ρ:Pl} {d:aD}
def bf.deep {id st rs B o:Nat}{t:Ty}{zs:List t.den}{Ds:List Nat}{cs:List Value}(hc:Cells w B cs)(hl:o+zs.length*t.size≤cs.length)(hr:bE w B t.size (au w I t) o zs Ds)(hI:¬I B)(aE:(B::Ds).Nodup) :
  bf w I [(id,⟨st,false,.deep rs t zs⟩)] (B::Ds) ⟨fun _=>some (B,o),fun _=>Ds⟩:=by
 have hnc:=dN.1 aE
 refine⟨fun i b hf=>?_,fun i b C hf hO=>?_,fun i j b c C hf hf' _ _=>(gL hf).1.symm.trans (gL hf').1,fun i b hf _=>⟨hnc.2,fun C hC o2 he=>?_⟩⟩
 ·obtain⟨rfl,rfl⟩:=gL hf
  refine⟨rfl,trivial,fun m' ρ' hfit=>?_⟩
  obtain⟨_,k2,k3⟩:=hfit id _ (by rw[aF,bQ rfl])
  simp only[cM]
  exact⟨trivial,.inr ⟨B,o,cs,k2,hc,hl,by rw[k3];exact hr,hI⟩⟩
 ·rcases hO with⟨o2,hO⟩|⟨_,hO⟩
  ·cases hO;exact me
  ·exact gZ _ hO
 ·cases he
  exact hnc.1 hC
def bf.deep0 {id st rs:Nat}{t:Ty}:bf w I [(id,⟨st,false,.deep rs t []⟩)] [] ⟨fun _=>none,fun _=>[]⟩:=by
 refine⟨fun i b hf=>?_,fun i b C hf hO=>?_,fun i j b c C hf hf' _ _=>(gL hf).1.symm.trans (gL hf').1,fun i b hf _=>⟨by simp,by simp⟩⟩
 ·obtain⟨rfl,rfl⟩:=gL hf
  refine⟨rfl,trivial,fun m' ρ' hfit=>?_⟩
  obtain⟨_,k2,k3⟩:=hfit id _ (by rw[aF,bQ rfl])
  simp only[cM]
  exact⟨trivial,.inl ⟨trivial,k2,k3⟩⟩
 ·rcases hO with⟨o2,hO⟩|⟨_,hO⟩
  ·cases hO
  ·simp at hO
def pH {m':MF}{ρ':Pl}{id st rs B o cap:Nat}{t:Ty}{zs:List t.den}{cs:List Value}{n:Nat}(hm':m' id=some ⟨st,false,.deep rs t zs⟩)(kV:ρ' id=some (B,o))(hn:n=zs.length)(hl:n≤cap)(hc:Cells w B cs)(hcap:o+cap*t.size≤cs.length) :
  aj w I m' ρ' (.whole id st t) (.slice (some ⟨B,o,none⟩) n cap):=by
 subst hn
 refine⟨⟨_,rfl,rfl⟩,cy.of hm' rfl,fun b hb' hs' t' k aI=>?_⟩
 rw[hm'] at hb'
 cases hb'
 cases aI
 exact⟨_,cap,rfl,hl,.inr ⟨B,o,cs,kV,rfl,hc,hcap⟩⟩
def wg {m':MF}{ρ':Pl}{id st rs:Nat}{t:Ty}(hm':m' id=some ⟨st,false,.deep rs t []⟩)(kV:ρ' id=none):aj w I m' ρ' (.whole id st t) (.slice none 0 0):=by
 refine⟨⟨_,rfl,rfl⟩,cy.of hm' rfl,fun b hb' hs' t' k aI=>?_⟩
 rw[hm'] at hb'
 cases hb'
 cases aI
 exact⟨none,0,rfl,bA _,.inl ⟨rfl,rfl,kV⟩⟩
def bE.cells {α:Type}{B sz:Nat}{R:α→List Value→List Nat→Prop}:∀{xs:List α} {off:Nat} {Ds:List Nat},bE w B sz R off xs Ds →
  ∃cs:List Value,cs.length=xs.length*sz∧(∀j,j<cs.length→w.cell? ⟨B,off+j,none⟩=cs[j]?)∧((∀x vs D,R x vs D→∀v∈vs,v.oneCell'=true)→∀v∈cs,v.oneCell'=true) ∧
   ∀(w':World) (B' off':Nat) (R':α→List Value→List Nat→Prop),(∀j,j<cs.length→w'.cell? ⟨B',off'+j,none⟩=cs[j]?)→(∀x vs D,(∀b∈D,b∈Ds)→R x vs D→R' x vs D)→bE w' B' sz R' off' xs Ds
 | [],off,Ds,h=>⟨[],by simp,fun j hj=>by grind,fun _=>by simp,fun _ _ _ _ _ _=>h⟩
 |x::xs,off,Ds,h=>by
  obtain⟨cs,D1,D2,e,h1,h2,h3,h4⟩:=h
  subst e
  obtain⟨ds,k1,k2,k3,k4⟩:=bE.cells h4
  refine⟨cs++ds,by grind,fun j hj=>?_,fun hR v hv=>?_,fun w' B' off' R' hc hR=>?_⟩
  ·grind
  ·grind
  ·refine⟨cs,D1,D2,rfl,h1,fun j hj=>?_,hR _ _ _ (fun b hb=>ee _ hb) h3,k4 w' B' (off'+sz) R' (fun j hj=>?_) (fun x vs D hD=>hR x vs D fun b hb=>dy _ (hD b hb))⟩
   ·rw[hc j (by simp;omega),eM (by omega)]
   ·have:=hc (sz+j) (by simp;omega)
    rw[←iM] at this
    rw[this,gj (by omega)]
    congr 1
    omega
def Aq:∀{t:Ty},t.dok=true→(∀{T:Nat},bh P t T→au w I t t.dflt (bg t) [])∧(∀{fs off},dO P t fs off→au w I t t.dflt (bg t) []):=by
 intro t
 induction t with
 |unit=>intro _;exact⟨fun _=>au.fY rfl rfl,fun _=>au.fY rfl rfl⟩
 |bool=>intro _;exact⟨fun _=>au.fY rfl rfl,fun _=>au.fY rfl rfl⟩
 |int k=>intro _;exact⟨fun _=>au.fY rfl rfl,fun _=>au.fY rfl rfl⟩
 |str=>intro _;exact⟨fun _=>au.fY rfl rfl,fun _=>au.fY rfl rfl⟩
 |lst u _=>
  have:au w I (.lst u) (Ty.dflt (.lst u)) (bg (.lst u)) []:=by
   simp only[au]
   exact⟨none,0,rfl,bA _,.inl ⟨rfl,rfl,trivial⟩⟩
  grind
 |own u _=>intro h;trivial
 |pair x y iV jr=>
  intro h
  simp[Ty.dok] at h
  refine⟨fun {T} hT=>?_,fun {fs off} hF=>?_⟩
  ·obtain⟨_,fs,_,f,l,_,_,h1,h2⟩:=hT
   exact⟨_,_,[],[],rfl,rfl,(iV h.1).1 h1,(jr h.2).2 h2⟩
  ·obtain⟨f,l,_,_,h1,h2⟩:=hF
   exact⟨_,_,[],[],rfl,rfl,(iV h.1).1 h1,(jr h.2).2 h2⟩
 |arr n u ih=>
  intro h
  simp[Ty.dok] at h
  refine⟨fun {T} hT=>?_,fun {fs off} hF=>by unfold dO at hF;simp[TO] at hF⟩
  exact au.fY (by simpa[Ty.aV] using h.2) ((ru (P:=P) (t:=.arr n u) (by simp[Ty.j3])).1 hT)
 |ref u _=>intro h;simp[Ty.dok] at h
def wR {t:Ty}{x:t.den}{z:List Value}{B:Nat}(hz:au w I t x z []):∀(n off:Nat),(∀j,j<n*z.length→w.cell? ⟨B,off+j,none⟩=((List.replicate n z).flatten)[j]?) →
  bE w B t.size (au w I t) off (List.replicate n x) []
 |0,_,_=>rfl
 |n+1,off,h=>by
  have hl:=au.length hz
  refine⟨z,[],[],rfl,hl,fun j hj=>?_,hz,wR hz n (off+t.size) fun j hj=>?_⟩
  ·grind
  ·have:=h (t.size+j) (by grind)
   rw[←iM] at this
   rw[this,zl29,List.flatten_cons,gj (by omega)]
   congr 1
   omega
def rC {B:Nat}:dV m ρ I [] B→I B:=by
 rintro(h|⟨_,h,_⟩|⟨_,h,_⟩)
 all_goals grind
def aB.n9 {id st rs B o:Nat}{t:Ty}{zs:List t.den}{Ds ki Bs:List Nat}{cs:List Value}(hm:aC F m w I ρ)(hst:st=aP m id)
  (hc:Cells w' B cs) (hl:o+zs.length*t.size≤cs.length) (hr:bE w' B t.size (au w' I t) o zs Ds) (aE:(B::Ds).Nodup)
  (hW:∀b∈B::Ds,((∃i∈ki,aH m ρ i b)∨w.heap.size≤b)∧¬I b) (hBs:∀b∈Bs,∃i∈ki,aH m ρ i b)
  (hframe:∀b,b<w.heap.size→¬b∈Bs→w'.heap[b]?=w.heap[b]?) (hsize:w.heap.size≤w'.heap.size) (hos:w'.os=w.os) (gB:w'.tape=w.tape) (hout:w'.output=w.output) :
  ∃ρ',aB F m (m.ag (app [(id,⟨st,false,.deep rs t zs⟩)] (app (cK m ki) (bD m [])))) w w' I I ρ ρ'∧ρ' id=some (B,o)∧(m.ag (app [(id,⟨st,false,.deep rs t zs⟩)] (app (cK m ki) (bD m [])))) id=some ⟨st,false,.deep rs t zs⟩:=by
 have hnew:=bf.deep (id:=id) (st:=st) (rs:=rs) hc hl hr (hW B me).2 aE
 obtain⟨h1,h2⟩:=aB.called (ke:=[]) (ki:=ki) (le:=[]) (Bs:=Bs) hm (by simp) (by grind) hnew (fun i b hf=>by
   obtain⟨rfl,rfl⟩:=gL hf
   grind) (by simp) (by grind) (fun _ h=>rC h) (fun b hI=>hframe b (hm.aS b hI) fun hb=>by
   obtain⟨i,_,h⟩:=hBs b hb
   exact h.iX hm hI) (fun b hI=>⟨Nat.lt_of_lt_of_le (hm.aS b hI) hsize,.inl (.inl hI)⟩) hframe hsize hos gB hout
 obtain⟨h3,h4,_⟩:=h2 id _ (by rw[aF,bQ rfl])
 grind
def xY {T:Nat}{xl xc:Operand}{al ac:AT}{l c:Int}{dst:Nat}(hC:bR P C)(ho:o.op = .makeSlice T xl xc)(hm:aC F m w I ρ)(hl:aj w I m ρ al (a.eval xl))(hc:aj w I m ρ ac (a.eval xc))
  (hil:gS al=some l) (hic:gS ac=some c) (hd:nB C m dst T l c=some d) (hok:∀b∈d.ok,b=true):=by
 cases hel:C.el T with
 |none=>simp[nB,hel] at hd
 |some t=>
 cases cF:C.dp&&t.aV with
 |false=>exact xZ hC ho hm hl hc hil hic (fun t' ht'=>by grind) hd hok
 |true=>
  obtain⟨kl,hkl⟩:=js hil hl
  obtain⟨kc,hkc⟩:=js hic hc
  unfold nB at hd
  rw[hel] at hd
  obtain⟨hz,hd⟩:=aU hd
  rw[cF] at hd
  cases hd
  have ql:t.dok=true:=by grind
  simp[or_false,forall_eq] at hok
  obtain⟨h0,hlc,jU⟩:=hok
  obtain⟨E,h1,h2,h3⟩:=hC.el hel
  obtain⟨i0,g1,g2,g3,g4⟩:=h3.info.info
  obtain⟨z1,z2⟩:=lu (w:=w) (I:=I) (m:=m) (ρ:=ρ) h3
  have ir:=gK h3 (z1.length z2) (aq.cB z1 z2)
  have hzl:=z1.length z2
  have hmx:c≤34359738368:=by trivial
  have hb:(i0.bytes:Int)*c≤281474976710656:=by
   have h5:(i0.bytes:Int)≤4096:=by omega
   have:=Int.mul_le_mul h5 hmx (by omega) (by simp)
   omega
  have hrun:=run_make (P:=P) w T E i0 _ h1 g1 g3 kl kc l c h0 hlc hb (by omega)
  have cV:madeCells (aQ t (bg t)).cells (c.toNat*i0.size)=((List.replicate l.toNat (bg t)).flatten++(List.replicate (c.toNat-l.toNat) (bg t)).flatten).toArray:=by
   apply j0
   rw[ir,g2,←hzl,oQ,←List.flatten_append,List.replicate_append_replicate,show l.toNat+(c.toNat-l.toNat)=c.toNat by omega]
  rw[cV] at hrun
  generalize hcs:(List.replicate l.toNat (bg t)).flatten++(List.replicate (c.toNat-l.toNat) (bg t)).flatten=cs at hrun
  have bK:cs.length=c.toNat*t.size:=by
   rw[←hcs]
   simp[List.length_flatten,List.map_replicate,List.sum_replicate_nat]
   rw[←cC]
   grind
  have gP:=by simpa using Cells.alloc w cs.toArray E
  have oF:bE (w.alloc (.cells cs.toArray E)) w.heap.size t.size (au (w.alloc (.cells cs.toArray E)) I t) 0 (List.replicate l.toNat t.dflt) []:=by
   refine wR ((Aq (P:=P) ql).1 h3) l.toNat 0 fun j hj=>?_
   rw[lA,gP.cell,←hcs,eM (by simp_all)]
  obtain⟨ρ',j_,kf,hd3⟩:=aB.n9 (id:=dst) (rs:=0) (o:=0) (ki:=[]) (Bs:=[]) hm rfl gP (by
    simp[bK]
    exact gH _ (by omega)) oF (by simp) (fun b hb=>by
    simp[] at hb
    subst hb
    exact⟨.inr (bA _),fun hI=>absurd (hm.aS _ hI) (lz _)⟩) (by simp) (fun b hb _=>heap_alloc_old w _ b hb) (by simp) rfl rfl rfl
  refine az.world (v:=.slice (some ⟨w.heap.size,0,none⟩) l.toNat c.toNat) (w':=w.alloc (.cells cs.toArray E)) (by simp only[execOp,ho,hkl,hkc,Sem.run_bind,hrun];rfl) j_ ?_
  exact pH hd3 kf (by simp) (by omega) gP (by omega)
def z7:∀{v:AT} {u:Ty} {y:DV},Typed v u→eK m v=some y→y.t=u:=by
 intro v
 induction v with
 |leaf t x=>intro u y h hv;simp[eK] at hv;cases hl:t.aV<;>rw[hl] at hv<;>simp at hv;subst hv;exact h
 |nil t=>intro u y h hv;simp[eK] at hv;subst hv;exact h.symm
 |whole id st t=>intro u y h hv;simp[eK] at hv;obtain⟨r,_,rfl⟩:=hv;exact h.symm
 |pair l r ihl ihr=>
  intro u y h hv
  obtain⟨a,b,rfl,h1,h2⟩:=h
  simp[eK] at hv
  grind
 |nest id st rs row p t=>
  intro u y h hv
  simp[eK] at hv
  split at hv
  ·obtain⟨h1,h2⟩:=aU hv
   simp at h1
   obtain⟨z,rfl,_⟩:=sW (iw h1.2) h1.1.2 h2
   exact h
  ·cases hv
 |_=>intro u y h hv;simp[eK] at hv
def yd {T:Nat}{xo vo:Operand}{ax av:AT}(hC:bR P C)(ho:o.op = .store T xo vo)(hm:aC F m w I ρ)(hx:aj w I m ρ ax (a.eval xo))(hv:aj w I m ρ av (a.eval vo))
  (hd:mP C m T ax av=some d):az P F o a w m I ρ d:=by
 by_cases kg:∃id st row p s fz rs t xs,ax = .ptr id st row p∧cur m id st=some ⟨s,fz,.deep rs t xs⟩
 case neg=>
  exact ye hC ho hm hx hv (fun id st row p e s fz rs t xs h=>kg ⟨id,st,row,p,s,fz,rs,t,xs,e,h⟩) hd
 case pos=>
  obtain⟨id,st,row,p,s,fz,rs,t,xs,rfl,hc⟩:=kg
  unfold mP at hd
  cases hu:C.ty T with
  |none=>grind
  |some u=>
  have hT:=hC.ty hu
  rw[hu] at hd
  simp only[hc] at hd
  obtain⟨hb,hst⟩:=cN hc
  subst hst
  cases fz with
  |true=>grind
  |false=>
  obtain⟨hi,hd⟩:=aU hd
  simp only[bB,zl63] at hi
  obtain⟨⟨⟨⟨hi1,hi2⟩,hi3⟩,hi5⟩,hi6⟩:=hi
  have dJ:=iw hi1
  have aW:=j8 hi2
  have hnot:¬id∈av.ids:=fun h=>by rw[lE.2 h] at hi5;grind
  have aE:=lU.1 hi6
  split at hd
  ·rename_i s' y hvv
   split at hd
   ·rename_i r hr0
    split at hd
    ·rename_i z hz
     cases hd
     have hsu:=z7 aW hvv
     simp only at hsu
     subst hsu
     have hx':=cj (a:=.ptr id s row p) rfl hx (by simp) (by simp) (by simp) (by simp)
     obtain⟨_,_,h3⟩:=hx'
     obtain⟨e0,hrow,B,o',e1,e2⟩:=h3 _ hb rfl t xs.length rfl
     simp only[jY,jZ] at e2
     obtain⟨aL,fJ,hmid⟩:=aG.pack aW ((gX aW).1 hv)
     have hlen:=aW.length hmid
     have hone:=aq.cB aW hmid
     have cV:(a.eval vo).cells=aL.toArray:=by rw[fJ];exact gK hT hlen hone
     obtain⟨Bv,Kv,r1,r2,r3,_⟩:=qX (I':=I) hm (fun _ h=>h) hvv hmid (fun i _ B hB=>hB.iX hm) aE
     have r2':=(cL.1 r2).1
     have r3':∀b∈Bv,∃i∈av.ids,aH m ρ i b:=fun b hb'=>r3 b (ee _ hb')
     obtain⟨B',de,cs,rcs,pre,mid,post,D1,D2,B1,Bm,B2,y',f1,f2,f3,f4,f5,f6,f7,f8,f9,f10,f11,f12,f13⟩:=rT hm hb hrow hi3 dJ
     rw[e1] at f1
     cases f1
     have hml:=au.length f12
     have hrl:rcs.length=t.off p+s'.size+post.length:=by rw[f10,eY,eY,f11,hml]
     have hrowle:(row+1)*t.size≤xs.length*t.size:=gH _ hrow
     rw[cC] at hrowle
     have hfit:o'+row*t.size+t.off p+aL.length≤cs.length:=by omega
     obtain⟨w',hr,aI,hsame,hsize,hos,gB,hout⟩:=tj hT cV hlen hone f2 hfit
     have hlen':=pn hfit
     have kR:aH m ρ id B:=⟨_,hb,trivial,rfl,.inl ⟨o',e1⟩⟩
     have hmD:∀b∈ρ.d id,aH m ρ id b:=fun b hb'=>⟨_,hb,trivial,rfl,.inr ⟨trivial,hb'⟩⟩
     obtain⟨dq1,dq2⟩:=hm.dp id _ hb trivial
     have hBd:¬B∈ρ.d id:=fun hin=>(dq2 B hin).2.1 id _ _ hb trivial e1
     have hBv:∀b∈Bv,b≠B∧¬b∈ρ.d id:=by
      intro b hb'
      obtain⟨i,hi,iI⟩:=r3' b hb'
      refine⟨fun e=>?_,fun e=>?_⟩
      ·subst e
       have:=iI.inj hm kR
       subst this
       exact hnot hi
      ·have:=iI.inj hm (hmD b e)
       subst this
       exact hnot hi
     have ha:bH I I w w':=⟨fun _ h=>h,fun k hk=>hsame k (fun e=>f4 (e▸hk))⟩
     have hsub:∀b∈D1++(B1++B2)++D2,b∈ρ.d id:=by
      intro b hb'
      rw[f6]
      simp only[bU] at hb' ⊢
      rcases hb' with(h|h|h)|h<;>simp[h]
     obtain⟨x',g1,g2⟩:=f13 w' I y aL Bv ha (fun b hb'=>⟨hsame b (fun e=>hBd (e▸hsub b hb')),fun h=>h⟩) (fun k hk=>by
       rw[aI.cell,f2.cell,jD hfit,cT (by omega)]) (fun j hj=>by
       rw[aI.cell,jD hfit]
       by_cases hin:t.off p≤j∧j<t.off p+aL.length
       ·rw[bQ (by omega),cZ,gj (by omega),eM (by omega)]
        congr 1
        omega
       ·rw[cT (by omega),←f2.cell,f8 j hj,f10]
        by_cases hlo:j<pre.length
        ·rw[cZ,cZ,eM hlo,eM hlo]
        ·rw[gj (by simp;omega),gj (by simp;omega)]
         simp only[eY]
         congr 1
         omega) (au.mono ha (fun b hb'=>⟨hsame b (hBv b hb').1,fun h=>h⟩) r1)
     rw[g1] at hr0
     cases hr0
     have:z=x':=by simpa[DV.as] using hz.symm
     subst this
     have hmem:∀b∈D1++(B1++Bv++B2)++D2,b∈Bv∨b∈D1++(B1++B2)++D2:=by
      intro b hb'
      simp only[bU] at hb' ⊢
      rcases hb' with(h|(h|h)|h)|h<;>simp[h]
     have hndD:(B::(D1++(B1++Bv++B2)++D2)).Nodup:=by
      rw[dN]
      refine⟨fun h=>?_,?_⟩
      ·rcases hmem B h with h|h
       ·exact(hBv B h).1 rfl
       ·exact hBd (hsub B h)
      ·have e1:(D1++(B1++Bv++B2)++D2).Perm (Bv++(D1++(B1++B2)++D2)):=by
        have e1:D1++(B1++Bv++B2)++D2=((D1++B1)++Bv)++(B2++D2):=by simp
        have e2:Bv++(D1++(B1++B2)++D2)=(Bv++(D1++B1))++(B2++D2):=by simp
        rw[e1,e2]
        exact mg _ mh
       have e2:(ρ.d id).Perm (Bm++(D1++(B1++B2)++D2)):=by
        rw[f6]
        have e1:D1++(B1++Bm++B2)++D2=((D1++B1)++Bm)++(B2++D2):=by simp
        have e2:Bm++(D1++(B1++B2)++D2)=(Bm++(D1++B1))++(B2++D2):=by simp
        rw[e1,e2]
        exact mg _ mh
       refine e1.nodup_iff.2 (cL.2 ⟨r2',(cL.1 (e2.nodup_iff.1 dq1)).2.1,?_⟩)
       rintro b cU b' cE rfl
       exact(hBv b cU).2 (hsub b cE)
     have oC:(xs.set row z).length=xs.length:=zl66
     have hnew:=bf.deep (id:=id) (st:=s) (rs:=rs+1) aI (by rw[hlen',oC];exact f3) g2 f4 hndD
     have iU:iG m ρ w w' ⟨fun _=>some (B,o'),fun _=>D1++(B1++Bv++B2)++D2⟩ id ⟨s,false,.deep (rs+1) t (xs.set row z)⟩:=by
      refine⟨_,hb,trivial,rfl,⟨Nat.le_succ _,rfl,oC.symm⟩,e1.symm,fun C o2 cs' hp hcs=>?_,fun r' _ _ _ _ h h'=>?_⟩
      ·rw[e1] at hp
       cases hp
       have:=f2.unique hcs
       subst this
       exact⟨_,aI,by omega⟩
      ·cases h
       simp only[BC.deep.injEq] at h'
       omega
     obtain⟨c1,c2⟩:=aB.called (ke:=[id]) (ki:=av.ids) (le:=[]) (Bs:=[B]) hm (by simp) (fun b hb'=>by
       simp only[i_] at hb'
       subst hb'
       exact⟨id,by simp,kR⟩) hnew (fun i b hf=>by
       obtain⟨rfl,rfl⟩:=gL hf
       exact .inr ⟨by simp,iU⟩) (fun i hi=>by
       simp only[i_] at hi
       subst hi
       exact⟨_,by rw[aF,bQ rfl]⟩) (fun b hb'=>by
       rcases bN.1 hb' with e|h
       ·subst e;exact⟨.inl ⟨id,by simp,kR⟩,f4⟩
       ·rcases hmem b h with h|h
        ·obtain⟨i,hi,iI⟩:=r3' b h
         exact⟨.inl ⟨i,by simp[hi],iI⟩,iI.iX hm⟩
        ·exact⟨.inl ⟨id,by simp,hmD b (hsub b h)⟩,(hmD b (hsub b h)).iX hm⟩) (fun _ h=>rC h) (fun b hI=>ha.same b hI)
      (fun b hI=>⟨by rw[hsize];exact hm.aS b hI,.inl (.inl hI)⟩) (fun b _ hb'=>hsame b (by simpa using hb')) (by rw[hsize];exact bA _) hos gB hout
     have hmm:m.ag (app [(id,(⟨s,false,.deep (rs+1) t (xs.set row z)⟩:aa))] (app (cK m av.ids) (bD m [])))=m.ag ((id,⟨s,false,.deep (rs+1) t (xs.set row z)⟩)::cK m av.ids):=by
      simp[bY,bD,dY]
     rw[hmm] at c1
     exact az.skip (w':=w') (by simp[execOp,ho,e2,hr]) c1 rfl
    ·cases hd
   ·cases hd
  ·cases hd
end
section
variable {P:Program} {F:Fix} {C:Cx} {o:Oper} {a:Act} {w w':World} {m:MF} {I I':Nat→Prop} {ρ:Pl} {d:aD}
def rF (w:World)(I:Nat→Prop)(t:Ty)(xs:List t.den)(Ds:List Nat)(news:List Value):Prop:=
 ∀(w':World) (B' off':Nat),bH I I w w'→(∀j,j<news.length→w'.cell? ⟨B',off'+j,none⟩=news[j]?)→(∀b∈Ds,w'.heap[b]?=w.heap[b]?)→bE w' B' t.size (au w' I t) off' xs Ds
def uv {jd sj rs:Nat}{fz:Bool}{t u:Ty}{ys:List t.den}{v:Value}(hm:aC F m w I ρ)(hs:aj w I m ρ (.whole jd sj u) v)(hb:m jd=some ⟨sj,fz,.deep rs t ys⟩) :
  ∃news,n8 P w t.size v ys.length news∧news.length=ys.length*t.size∧(∀v∈news,v.oneCell'=true)∧rF w I t ys (ρ.d jd) news:=by
 obtain⟨ad,cap,e1,e2,e3⟩:=nt hs hb rfl rfl
 subst e1
 have aA:=hm.aN jd _ hb
 obtain⟨_,aA⟩:=aA
 have hempty:ys = []→ρ.d jd = []→∃news,n8 P w t.size (.slice ad ys.length cap) ys.length news∧news.length=ys.length*t.size∧(∀v∈news,v.oneCell'=true)∧rF w I t ys (ρ.d jd) news:=by
  intro h1 h2
  subst h1
  refine⟨[],⟨rfl,fun w' _=>?_⟩,by simp,by simp,fun w' B' off' _ _ _=>?_⟩
  ·cases ad<;>simp[Builtin.firstCells,loadCells,loadCellsFrom]
  ·trivial
 rcases aA with⟨f1,_,f3⟩|⟨B,o',cs,f1,f2,f3,f4,f5⟩
 ·grind
 ·rcases e3 with⟨g1,g2,g3⟩|⟨B',de,cs',g1,g2,g3,g4⟩
  ·rw[g3] at f1;cases f1
  ·rw[f1] at g1
   cases g1
   subst g2
   obtain⟨news,k1,k2,k3,k4⟩:=f4.cells
   refine⟨news,⟨by simp[Builtin.lenOf],fun w' hw=>?_⟩,k1,k3 fun x vs D h=>au.cB h,fun w' B' off' ha hc hD=>k4 w' B' off' _ hc fun x vs D hsub h=>au.mono ha (fun b hb=>⟨hD b (hsub b hb),fun h=>h⟩) h⟩
   have:(loadCells ⟨B,o',none⟩ news.length).run P w' = .ok news.toArray w':=qR fun j hj=>by
    rw[←k2 j hj]
    simp[World.cell?,hw]
   simp[Builtin.firstCells,←k1,this]
def tH (m:MF)(id:Nat)(b:aa)(l:List Nat):m.ag (app [(id,b)] (app (cK m (id::l)) (bD m [])))=m.ag ((id,b)::cK m l):=by
 funext i
 have e:app [(id,b)] (app (cK m (id::l)) (bD m []))=(id,b)::cK m (id::l):=by simp[bY,bD,dY]
 unfold MF.ag
 rw[e,aF,aF,qd,qd]
 grind
def tG (m:MF)(id:Nat)(b:aa)(l:List Nat):m.ag (app [(id,b)] (app (cK m l) (bD m [])))=m.ag ((id,b)::cK m l):=by
 simp[bY,bD,dY]
def aB.tP {id st rs:Nat}{t:Ty}{ki:List Nat}(hm:aC F m w I ρ)(hst:st=aP m id) :
  ∃ρ',aB F m (m.ag (app [(id,⟨st,false,.deep rs t []⟩)] (app (cK m ki) (bD m [])))) w w I I ρ ρ'∧ρ' id=none∧(m.ag (app [(id,⟨st,false,.deep rs t []⟩)] (app (cK m ki) (bD m [])))) id=some ⟨st,false,.deep rs t []⟩:=by
 have hnew:=bf.deep0 (w:=w) (I:=I) (id:=id) (st:=st) (rs:=rs) (t:=t)
 obtain⟨h1,h2⟩:=aB.called (ke:=[]) (ki:=ki) (le:=[]) (Bs:=[]) hm (by simp) (by simp) hnew (fun i b hf=>by
   obtain⟨rfl,rfl⟩:=gL hf
   grind) (by simp) (by simp) (fun _ h=>rC h) (fun b hI=>rfl) (fun b hI=>⟨hm.aS b hI,.inl (.inl hI)⟩) (fun _ _ _=>rfl) (bA _) rfl rfl rfl
 obtain⟨h3,h4,_⟩:=h2 id _ (by rw[aF,bQ rfl])
 grind
def vu {id:Nat}{b:aa}(hb:m id=some b)(hf:b.fz=false)(hd:b.bI):∀B∈ρ.d id,aH m ρ id B:=fun _B hB=>⟨b,hb,fj hd,hf,.inr ⟨hd,hB⟩⟩
def uE {T T2:Nat}{xo yo:Operand}{ax ay:AT}{dst:Nat}{t:Ty}{jj:TypeDesc}(hC:bR P C)(ho:o.op = .call ⟨.builtin .append,#[xo,yo],#[T,T2]⟩)(hm:aC F m w I ρ)
  (hx:aj w I m ρ ax (a.eval xo)) (hy:aj w I m ρ ay (a.eval yo)) (ht:C.el T=some t) (fo:P.underlying T2=some jj) (hk:∀k,jj ≠ .int k)
  (hd:oa C m dst t ax ay=some d) (hok:∀b∈d.ok,b=true):az P F o a w m I ρ d:=by
 cases cF:sK m ay with
 |false=>exact xE hC ho hm hx hy ht fo hk cF hd hok
 |true=>
 obtain⟨E,h1,h2,h3⟩:=hC.el ht
 obtain⟨i0,g1,g2,g3,g4⟩:=h3.info.info
 obtain⟨z1,z2⟩:=lu (w:=w) (I:=I) (m:=m) (ρ:=ρ) h3
 have ir:=gK h3 (z1.length z2) (aq.cB z1 z2)
 have hzl:=z1.length z2
 have hzs:(aQ t (bg t)).cells.size=t.size:=by grind
 have fI:∀{v:Value} {w':World},(Builtin.append_ #[T,T2] o.type #[a.eval xo,a.eval yo]).run P w = .ok v w'→(execOp a.eval o).run P w = .ok (.value v) w':=by
  intro v w' h
  simp[execOp,ho,resolve,invoke,builtin,h]
 unfold oa at hd
 rw[cF,dW] at hd
 unfold tX at hd
 split at hd
 case h_2=>grind
 rename_i jd sj u'
 split at hd
 case h_2=>grind
 rename_i sj' rs' v zs hcj
 obtain⟨hbj,hsj⟩:=cN hcj
 simp only at hsj
 subst hsj
 split at hd
 case h_1=>grind
 rename_i ys hys
 have:=cz hys
 cases this
 obtain⟨news,gQ,jm,hn1,fA⟩:=uv (P:=P) hm hy hbj
 rw[←g2] at gQ
 have dQ:∀b∈ρ.d jd,aH m ρ jd b:=vu hbj rfl trivial
 obtain⟨dj1,dj2⟩:=hm.dp jd _ hbj trivial
 have oA:∀{i b:Nat},aH m ρ i b→b<w.heap.size:=fun h=>h.lt hm
 have fresh:∀{y:AT},y=ax→(y = .nil t∨y = .dU)→ys.length≤eV →
   az P F o a w m I ρ ⟨.whole dst (aP m dst) t,(dst,⟨aP m dst,false,.deep 0 t ys⟩)::cK m [jd],[decide (ys.length≤eV)]⟩:=by
  intro y hya hyn jU
  subst hya
  have hv:=pI hyn hx
  cases lK:ys with
  |nil=>
   subst lK
   have hn0:news = []:=by simp_all
   subst hn0
   obtain⟨ρ',q1,q2,q3⟩:=aB.tP (id:=dst) (rs:=0) (t:=t) (ki:=[jd]) hm rfl
   rw[tG] at q1 q3
   refine az.world (v:=.slice none 0 0) (w':=w) (fI ?_) q1 (wg q3 q2)
   rw[hv]
   exact k7 h1 fo hk g1 gQ (bA _) rfl
  |cons y0 ys0=>
   have hpos:0<ys.length:=by grind
   rw[←lK]
   have hrun:=qO (ty:=o.type) (base:=none) (sLen:=0) (sCap:=0) (olds:=[]) h1 fo hk g1 g3 gQ (by omega) (fun w' _=>by rfl) (by simpa[eV] using jU) g4
   have hge:=grownCap_ge w (0+ys.length) 0 E
   generalize eT:(Builtin.zeroCells (aQ t (bg t)).cells (grownCap w (0+ys.length) 0 E-(0+ys.length))).toList=rest at hrun
   have hrl:rest.length=(grownCap w (0+ys.length) 0 E-(0+ys.length))*t.size:=by rw[←eT,qT,hzs]
   generalize grownCap w (0+ys.length) 0 E=cap at hrun hge hrl
   have gP:Cells (w.drew.alloc (.cells ([]++news++rest).toArray E)) w.heap.size (news++rest):=by
    exact Cells.alloc w.drew ([]++news++rest).toArray E
   have cS:bH I I w (w.drew.alloc (.cells ([]++news++rest).toArray E)):=⟨fun _ h=>h,fun b hb=>heap_alloc_old w.drew _ b (hm.aS b hb)⟩
   have oF:=fA (w.drew.alloc (.cells ([]++news++rest).toArray E)) w.heap.size 0 cS (fun j hj=>by rw[lA,gP.cell,eM hj]) (fun b hb=>heap_alloc_old w.drew _ b (oA (dQ b hb)))
   have hmul:ys.length*t.size+(cap-(0+ys.length))*t.size=cap*t.size:=by rw[←cC];grind
   obtain⟨ρ',q1,q2,q3⟩:=aB.n9 (id:=dst) (rs:=0) (o:=0) (ki:=[jd]) (Bs:=[]) hm rfl gP (by grind) oF (by
     grind) (fun b hb=>by
     rcases bN.1 hb with e|h
     ·subst e;exact⟨.inr (bA _),fun hI=>absurd (hm.aS _ hI) (lz _)⟩
     ·exact⟨.inl ⟨jd,by simp,dQ b h⟩,(dQ b h).iX hm⟩) (by simp) (fun b hb _=>heap_alloc_old w.drew _ b hb) (by simp) rfl rfl rfl
   rw[tG] at q1 q3
   rw[←hv] at hrun
   refine az.world (fI hrun) q1 (pH q3 q2 (by simp) hge gP (by grind))
 simp only at hd
 split at hd
 ·
  rename_i u
  obtain⟨hu,j_⟩:=aU hd
  obtain⟨_,kf⟩:=aU j_
  have:=Ty.cX hu
  subst this
  cases kf<;>simp_all
 ·obtain⟨_,hd⟩:=aU hd
  cases hd
  exact fresh rfl (.inr rfl) (by simpa using hok)
 ·rename_i id st u
  split at hd
  case h_2=>cases hd
  rename_i st' rs v' ws hci
  obtain⟨jS,hsi⟩:=cN hci
  simp only at hsi
  subst hsi
  split at hd
  case h_2=>cases hd
  rename_i xs hxs
  have:=cz hxs
  cases this
  obtain⟨hu,j_⟩:=aU hd
  cases j_
  simp only[bB,zl63] at hu
  have kU:=Ty.cX hu.1
  subst kU
  have hne:id≠jd:=fun e=>by rw[e,Nat.beq_refl] at hu;cases hu.2
  have jU:xs.length+ys.length≤eV:=by simpa using hok
  obtain⟨olds,ot1,onl,on1,omv⟩:=uv (P:=P) hm hx jS
  obtain⟨ad,cap,e1,e2,e3⟩:=nt hx jS rfl rfl
  have iI:∀b∈ρ.d id,aH m ρ id b:=vu jS rfl trivial
  obtain⟨di1,di2⟩:=hm.dp id _ jS trivial
  have hdd:(ρ.d id++ρ.d jd).Nodup:=cL.2 ⟨di1,dj1,fun b hb b' hb' e=>by
   subst e
   exact hne ((iI b hb).inj hm (dQ b hb'))⟩
  have hst1:st'+1=aP m id:=by simp[aP,jS]
  by_cases hroom:xs.length+ys.length≤cap
  ·rcases e3 with⟨k1,k2,k3⟩|⟨B,o',cs,k1,k2,k3,k4⟩
   ·subst k1 k2
    have kq:xs = []:=by rw[←eC];omega
    have hy0:ys = []:=by rw[←eC];omega
    subst kq hy0
    have hn0:news = []:=by rw[←eC,jm];simp
    subst hn0
    obtain⟨ρ',q1,q2,q3⟩:=aB.tP (id:=id) (rs:=rs+1) (t:=u) (ki:=[id,jd]) hm hst1
    rw[tH] at q1 q3
    refine az.world (v:=.slice none 0 0) (w':=w) (fI ?_) q1 (wg q3 q2)
    rw[e1]
    exact k7 h1 fo hk g1 gQ (bA _) rfl
   ·subst k2
    have aA:=hm.aN id _ jS
    simp only[cM] at aA
    rcases aA.2 with⟨_,hno,_⟩|⟨B',de,cs',f1,f2,f3,f4,f5⟩
    ·rw[k1] at hno;cases hno
    ·rw[k1] at f1
     cases f1
     have:=k3.unique f2
     subst this
     have kR:aH m ρ id B:=⟨_,jS,trivial,rfl,.inl ⟨o',k1⟩⟩
     have hmul:xs.length*u.size+ys.length*u.size≤cap*u.size:=by rw[←cC];exact gH _ hroom
     have hle:o'+xs.length*u.size+news.length≤cs.length:=by omega
     obtain⟨w',hr,aI,hsame,hsize,hos,gB,hout⟩:=pE P B (o'+xs.length*u.size) news 0 cs w k3 (by simpa using hle) hn1
     simp only[zl50] at aI
     have hlen':=pn hle
     have cS:bH I I w w':=⟨fun _ h=>h,fun k hk=>hsame k (fun e=>f5 (e▸hk))⟩
     have hBi:∀b∈ρ.d id,b≠B:=fun b hb e=>(di2 b hb).2.1 id _ _ jS trivial (e▸k1)
     have hBj:∀b∈ρ.d jd,b≠B:=fun b hb e=>by
      subst e
      exact hne (kR.inj hm (dQ b hb))
     have hr1:bE w' B u.size (au w' I u) o' xs (ρ.d id):=by
      obtain⟨os',p1,p2,_,p4⟩:=f4.cells
      refine p4 w' B o' _ (fun j hj=>?_) fun x vs D hsub h=>au.mono cS (fun b hb=>⟨hsame b (hBi b (hsub b hb)),fun h=>h⟩) h
      rw[←p2 j hj,aI.cell,k3.cell,jD hle,cT (by omega)]
     have hr2:bE w' B u.size (au w' I u) (o'+xs.length*u.size) ys (ρ.d jd):=fA w' B _ cS (fun j hj=>by
      rw[aI.cell,jD hle,bQ (by omega)]
      congr 1
      omega) (fun b hb=>hsame b (hBj b hb))
     obtain⟨ρ',q1,q2,q3⟩:=aB.n9 (id:=id) (st:=st'+1) (rs:=rs+1) (ki:=[id,jd]) (Bs:=[B]) hm hst1 aI (by rw[hlen',eY,cC];omega) (hr1.app hr2) (by
       rw[dN]
       refine⟨fun h=>?_,hdd⟩
       rcases bU.1 h with h|h
       ·exact hBi B h rfl
       ·exact hBj B h rfl) (fun b hb=>by
       have fW:aH m ρ id b∨aH m ρ jd b:=by
        rcases bN.1 hb with e|h
        ·subst e;exact .inl kR
        ·rcases bU.1 h with h|h
         ·exact .inl (iI b h)
         ·exact .inr (dQ b h)
       rcases fW with h|h
       ·exact⟨.inl ⟨id,by simp,h⟩,h.iX hm⟩
       ·exact⟨.inl ⟨jd,by simp,h⟩,h.iX hm⟩) (fun b hb=>by
       simp only[i_] at hb
       subst hb
       exact⟨id,by simp,kR⟩) (fun b _ hb=>hsame b (by simpa using hb)) (by rw[hsize];exact bA _) hos gB hout
     rw[tH] at q1 q3
     refine az.world (v:=.slice (some ⟨B,o',none⟩) (xs.length+ys.length) cap) (w':=w') (fI ?_) q1 (pH q3 q2 (by simp) hroom aI (by rw[hlen'];omega))
     rw[e1]
     exact k7 h1 fo hk g1 gQ hroom (by simp only[Addr.j6,g2];exact hr)
  ·have ho2:∀w':World,w'.heap=w.heap→(Builtin.firstCells i0.size xs.length (.slice ad xs.length cap)).run P w' = .ok olds.toArray w':=by
    intro w' hw
    have:=ot1.2 w' hw
    rw[e1] at this
    rw[g2]
    exact this
   have hrun:=qO (ty:=o.type) h1 fo hk g1 g3 gQ (by omega) ho2 (by simpa[eV] using jU) g4
   have hge:=grownCap_ge w (xs.length+ys.length) cap E
   generalize eT:(Builtin.zeroCells (aQ u (bg u)).cells (grownCap w (xs.length+ys.length) cap E-(xs.length+ys.length))).toList=rest at hrun
   have hrl:rest.length=(grownCap w (xs.length+ys.length) cap E-(xs.length+ys.length))*u.size:=by rw[←eT,qT,hzs]
   generalize grownCap w (xs.length+ys.length) cap E=cap' at hrun hge hrl
   have gP:Cells (w.drew.alloc (.cells (olds++news++rest).toArray E)) w.heap.size (olds++news++rest):=Cells.alloc w.drew (olds++news++rest).toArray E
   have cS:bH I I w (w.drew.alloc (.cells (olds++news++rest).toArray E)):=⟨fun _ h=>h,fun b hb=>heap_alloc_old w.drew _ b (hm.aS b hb)⟩
   have hr1:=omv (w.drew.alloc (.cells (olds++news++rest).toArray E)) w.heap.size 0 cS (fun j hj=>by rw[lA,gP.cell,cZ,eM hj]) (fun b hb=>heap_alloc_old w.drew _ b (oA (iI b hb)))
   have hr2:=fA (w.drew.alloc (.cells (olds++news++rest).toArray E)) w.heap.size (0+xs.length*u.size) cS (fun j hj=>by
    rw[gP.cell,cZ,gj (by omega),eM (by omega)]
    congr 1
    omega) (fun b hb=>heap_alloc_old w.drew _ b (oA (dQ b hb)))
   have hmul:xs.length*u.size+ys.length*u.size+(cap'-(xs.length+ys.length))*u.size=cap'*u.size:=by rw[←cC,←cC];congr 1;omega
   obtain⟨ρ',q1,q2,q3⟩:=aB.n9 (id:=id) (st:=st'+1) (rs:=rs+1) (o:=0) (ki:=[id,jd]) (Bs:=[]) hm hst1 gP (by simp only[eY,cC];omega) (hr1.app hr2) (by
     rw[dN]
     refine⟨fun h=>?_,hdd⟩
     rcases bU.1 h with h|h
     ·exact absurd (oA (iI _ h)) (lz _)
     ·exact absurd (oA (dQ _ h)) (lz _)) (fun b hb=>by
     rcases bN.1 hb with e|h
     ·subst e;exact⟨.inr (bA _),fun hI=>absurd (hm.aS _ hI) (lz _)⟩
     ·rcases bU.1 h with h|h
      ·exact⟨.inl ⟨id,by simp,iI b h⟩,(iI b h).iX hm⟩
      ·exact⟨.inl ⟨jd,by simp,dQ b h⟩,(dQ b h).iX hm⟩) (by simp) (fun b hb _=>heap_alloc_old w.drew _ b hb) (by simp) rfl rfl rfl
   rw[tH] at q1 q3
   rw[←e1] at hrun
   exact az.world (fI hrun) q1 (pH q3 q2 (by simp) hge gP (by simp only[eY];omega))
 ·cases hd
end
section
variable {P:Program} {F:Fix} {C:Cx} {o:Oper} {a:Act} {w w':World} {m:MF} {I I':Nat→Prop} {ρ:Pl} {d:aD}
def ve {t:Ty}{T':Nat}{ρf:Operand→AT}(hT:bh P t T')(hm:aC F m w I ρ) :
  ∀(ps:List (Nat×Operand)) {n:Nat} {ys:List t.den} {pre post:List Value},(∀p∈ps,aj w I m ρ (ρf p.2) (a.eval p.2)) →
   (fG (fun p:Nat×AT=>p.2.ids) (bu (fun p=>(p.1,ρf p.2)) ps)).Nodup→qz m t n (bu (fun p=>(p.1,ρf p.2)) ps)=some ys→pre.length=n*t.size→post.length=ps.length*t.size →
   ∃news Ds,Instr.fill (fun i=>some (i*t.size,t.size)) (pre++post).toArray (ps.map fun p=>(p.1,a.eval p.2))=some (pre++news).toArray∧news.length=ps.length*t.size∧ys.length=ps.length ∧
    Ds.Nodup∧(∀b∈Ds,∃i∈fG (fun p:Nat×AT=>p.2.ids) (bu (fun p=>(p.1,ρf p.2)) ps),aH m ρ i b)∧rF w I t ys Ds news
 | [],n,ys,pre,post,_,_,h,hpre,hpost=>by
  simp[bu,qz] at h
  subst h
  have:post = []:=by simp_all
  subst this
  exact⟨[],[],by rfl,by simp,rfl,by simp,by simp,fun w' B' off' _ _ _=>rfl⟩
 | (i,x)::ps,n,ys,pre,post,hs,aE,h,hpre,hpost=>by
  obtain⟨hb,h1⟩:=aU h
  simp only[bB] at hb
  have hi:=dH hb.1
  subst hi
  split at h1
  ·rename_i d0 hd0
   split at h1
   ·rename_i y ys' hy hys
    cases h1
    have e0:=cz hy
    subst e0
    have aW:=j8 hb.2
    have hx:=og (u:=some t) (hs (i,x) (by simp))
    obtain⟨aL,hv,hmid⟩:=aG.pack aW ((gX aW).1 hx)
    have hlen:=aW.length hmid
    have cV:(a.eval x).cells=aL.toArray:=by rw[hv];exact gK hT hlen (aq.cB aW hmid)
    have hidsub:∀j∈(cI (some t) (ρf x)).ids,j∈(ρf x).ids:=by
     intro j hj
     unfold cI at hj
     split at hj
     ·simp[AT.ids] at hj
     ·exact hj
    simp only[bu,fG,bY] at aE
    have dc:=cL.1 aE
    have hidn:(cI (some t) (ρf x)).ids.Nodup:=by
     unfold cI
     split
     ·simp[AT.ids]
     ·exact dc.1
    obtain⟨Bv,Kv,r1,r2,r3,_⟩:=qX (I':=I) hm (fun _ h=>h) hd0 hmid (fun i _ B hB=>hB.iX hm) hidn
    have hpl:post.length=t.size+ps.length*t.size:=by rw[hpost,zl6,cC];omega
    obtain⟨mid,post',rfl,hml⟩:∃mid post',post=mid++post'∧mid.length=t.size:=⟨post.take t.size,post.drop t.size,(zl68 _ _).symm,by rw[zl3];omega⟩
    obtain⟨news,Ds,k1,k2,k3,k4,k5,k6⟩:=ve hT hm ps (n:=i+1) (pre:=pre++aL) (post:=post') (fun p hp=>hs p (by simp[hp])) dc.2.1 hys (by rw[eY,cC];omega) (by simp only[eY] at hpl;omega)
    have hr3:∀b∈Bv,∃j∈(ρf x).ids,aH m ρ j b:=fun b hb=>by
     obtain⟨j,hj,h⟩:=r3 b (ee _ hb)
     exact⟨j,hidsub j hj,h⟩
    refine⟨aL++news,Bv++Ds,?_,by rw[eY,zl6,cC];omega,by simp[k3],jA hm aE (cL.1 r2).1 k4 hr3 k5,fun b hb=>?_,fun w' B' off' ha hc hD=>?_⟩
    ·simp only[mT]
     rw[←cZ,rZ (n:=t.size) (by rw[hpre]) cV hml hlen]
     simpa using k1
    ·simp only[bu,fG,bY]
     rcases bU.1 hb with h|h
     ·obtain⟨j,hj,h⟩:=hr3 b h;exact⟨j,by simp[hj],h⟩
     ·obtain⟨j,hj,h⟩:=k5 b h;exact⟨j,by simp[hj],h⟩
    ·refine⟨aL,Bv,Ds,rfl,hlen,fun j hj=>?_,au.mono ha (fun b hb=>⟨hD b (ee _ hb),fun h=>h⟩) r1,k6 w' B' (off'+t.size) ha (fun j hj=>?_) (fun b hb=>hD b (dy _ hb))⟩
     ·rw[hc j (by simp;omega),eM (by omega)]
     ·have:=hc (t.size+j) (by simp;omega)
      rw[←iM] at this
      rw[this,gj (by omega)]
      congr 1
      omega
   ·cases h1
  ·cases h1
def xJ {T len:Nat}{parts:Array (Nat×Operand)}{ρf:Operand→AT}{dst:Nat}(hC:bR P C)(ho:o.op = .buildSlice T len parts)(hm:aC F m w I ρ)
  (hs:∀p∈parts.toList,aj w I m ρ (ρf p.2) (a.eval p.2)) (hd:m9 C m dst T len (bu (fun p=>(p.1,ρf p.2)) parts.toList)=some d):=by
 cases hel:C.el T with
 |none=>simp[m9,hel] at hd
 |some t=>
 cases cF:C.dp&&t.aV with
 |false=>exact xK hC ho hm hs (fun t' ht'=>by grind) hd
 |true=>
  unfold m9 at hd
  rw[hel] at hd
  simp at hd
  rw[cF] at hd
  obtain⟨hz,j_⟩:=aU hd
  simp only[bB] at hz
  obtain⟨⟨hz1,hz2⟩,hz3⟩:=hz
  have hlen:=by
   have:=dH hz1
   rw[jw,List.length_map] at this
   omega
  have hsm:=fc hz2
  have hndc:=dN.1 (lU.1 hz3)
  obtain⟨ys,hys,rfl⟩:=cq.1 j_
  obtain⟨E,h1,h2,h3⟩:=hC.el hel
  obtain⟨i0,g1,g2,g3,g4⟩:=h3.info.info
  obtain⟨z1,z2⟩:=lu (w:=w) (I:=I) (m:=m) (ρ:=ρ) h3
  have ir:=gK h3 (z1.length z2) (aq.cB z1 z2)
  have hzl:=z1.length z2
  obtain⟨news,Ds,q1,q2,q3,q4,q5,q6⟩:=ve (P:=P) (pre:=[]) (post:=(List.replicate len (bg t)).flatten) (n:=0) h3 hm parts.toList hs hndc.2 hys (by simp) (by simp_all)
  simp at q1
  have hrun:(Instr.buildSlice T len (parts.map fun(i,x)=>(i,a.eval x))).run P w = .ok (.slice (some ⟨w.heap.size,0,none⟩) len len) (w.alloc (.cells news.toArray E)):=by
   by_cases fV:len=0
   ·subst fV
    have hps:parts.toList = []:=by rw[←eC];exact hlen
    rw[hps] at q1 q2
    simp only[rA,Nat.zero_mul] at q1 q2
    have hn0:news = []:=by rw[←eC];exact q2
    subst hn0
    have:=by simpa using hps
    subst this
    simp[Instr.buildSlice,run_underlying h1,h3.info.run_sizeOf,Instr.fill,newRow,Array.range_zero']
   ·have hne:¬len*i0.size=0:=by
     rw[g2]
     exact Nat.ne_of_gt (Nat.mul_pos (by omega) h2)
    refine run_buildSlice w T E len _ _ i0 _ h1 g1 g3 (by rw[g2];omega) hne ?_
    have cV:((Array.range (len*i0.size)).map ((aQ t (bg t)).cells[· % (aQ t (bg t)).cells.size]!))=(List.replicate len (bg t)).flatten.toArray:=by
     apply j0
     have:=oQ (bg t) len
     unfold madeCells at this
     rw[ir,g2,←hzl,this]
    rw[cV,g2,←q1]
    simp
  have gP:Cells (w.alloc (.cells news.toArray E)) w.heap.size news:=Cells.alloc w news.toArray E
  have cS:bH I I w (w.alloc (.cells news.toArray E)):=⟨fun _ h=>h,fun b hb=>heap_alloc_old w _ b (hm.aS b hb)⟩
  have hlt:∀b∈Ds,b<w.heap.size:=fun b hb=>by obtain⟨j,_,h⟩:=q5 b hb;exact h.lt hm
  have oF:=q6 (w.alloc (.cells news.toArray E)) w.heap.size 0 cS (fun j _=>by rw[lA,gP.cell]) (fun b hb=>heap_alloc_old w _ b (hlt b hb))
  rw[hlen] at q2 q3
  obtain⟨ρ',p1,p2,p3⟩:=aB.n9 (id:=dst) (rs:=0) (o:=0) (ki:=fG (fun p=>p.2.ids) (bu (fun p=>(p.1,ρf p.2)) parts.toList)) (Bs:=[]) hm rfl gP (by rw[q3];omega) oF (by
    rw[dN]
    exact⟨fun h=>absurd (hlt _ h) (lz _),q4⟩) (fun b hb=>by
    rcases bN.1 hb with e|h
    ·subst e;exact⟨.inr (bA _),fun hI=>absurd (hm.aS _ hI) (lz _)⟩
    ·obtain⟨j,hj,dQ⟩:=q5 b h
     exact⟨.inl ⟨j,hj,dQ⟩,dQ.iX hm⟩) (by simp) (fun b hb _=>heap_alloc_old w _ b hb) (by simp) rfl rfl rfl
  rw[tG] at p1 p3
  exact az.world (v:=.slice (some ⟨w.heap.size,0,none⟩) len len) (w':=w.alloc (.cells news.toArray E)) (by simp only[execOp,ho,Sem.run_bind,hrun];rfl) p1 (pH p3 p2 q3.symm (bA _) gP (by omega))
end
section
variable {P:Program} {F:Fix} {C:Cx} {o:Oper} {a:Act} {w w':World} {m:MF} {I I':Nat→Prop} {ρ:Pl} {d:aD}
def rQ:∀{ts:List Nat} {as:List AT} {vs:List Value},dI (aj w I m ρ) as vs→dI (aj w I m ρ) (p6 C ts as) vs
 | [],_,_,h=>h
 |_::_,[],_,h=>h
 |_::_,_::_,_,.cons h1 h2=>.cons (p7 h1) (rQ h2)
def pW {ρf:Operand→AT}:∀{l:List Operand},(∀x∈l,aj w I m ρ (ρf x) (a.eval x))→dI (aj w I m ρ) (bu ρf l) (l.map a.eval)
 | [],_=>.nil
 |x::l,h=>.cons (h x (by simp)) (pW fun y hy=>h y (by grind))
def yc {ρf:Operand→AT}{dst:Nat}(hC:bR P C)(hF:eN P F.G C)(hm:aC F m w I ρ)(hx:∀x∈o.op.operands,aj w I m ρ (ρf x) (a.eval x))
  (hd:dF C m dst ρf o=some d) (hok:∀b∈d.ok,b=true):az P F o a w m I ρ d:=by
 obtain⟨odst,op,oty,pos,after,guard⟩:=o
 cases op with
 |move x=>simp only[dF,aX] at hd;subst hd;exact uF (.inl rfl) hm (hx x (by simp[Op.operands]))
 |assign x=>simp only[dF,aX] at hd;subst hd;exact uF (.inr rfl) hm (hx x (by simp[Op.operands]))
 |alloc T=>
  simp only[dF] at hd
  split at hd
  ·rename_i t ht;cases hd;exact xD hC rfl hm ht
  ·grind
 |box T x=>
  simp only[dF] at hd
  split at hd
  ·rename_i t ht
   cases hb:(C.co T (ρf x)).fits t with
   |false=>simp[hb] at hd
   |true=>
    simp only[hb,dW,aX] at hd
    subst hd
    exact xG hC rfl hm (p7 (hx x (by simp[Op.operands]))) ht hb
  ·cases hd
 |build T parts=>
  exact xH hC rfl hm (fun p hp=>hx p.2 (by simp only[Op.operands,List.mem_toArray,gG];exact⟨p,hp,rfl⟩)) hd
 |buildSlice T len parts=>
  exact xJ hC rfl hm (fun p hp=>hx p.2 (by simp only[Op.operands,List.mem_toArray,gG];exact⟨p,hp,rfl⟩)) hd
 |load T x=>exact xW hC rfl hm (hx x (by simp[Op.operands])) hd
 |store T x v=>exact yd hC rfl hm (hx x (by simp[Op.operands])) (p7 (hx v (by simp[Op.operands]))) hd
 |binOp op T x y T2=>exact xF hC rfl hm (hx x (by simp[Op.operands])) (hx y (by simp[Op.operands])) hd hok
 |unOp op T x=>exact yg rfl hm (hx x (by simp[Op.operands])) hd
 |convert S T x=>exact xO hC rfl hm (hx x (by simp[Op.operands])) hd hok
 |makeSlice T l c=>
  simp only[dF] at hd
  split at hd
  ·rename_i x y h1 h2
   exact xY hC rfl hm (hx l (by simp[Op.operands])) (hx c (by simp[Op.operands])) h1 h2 hd hok
  ·cases hd
 |slice T x lo hi mx=>
  cases mx with
  |some k=>
   cases lo with
   |none=>simp[dF] at hd
   |some l=>
    cases hi with
    |none=>simp[dF] at hd
    |some h=>
     exact x_ hC rfl hm (hx x (by simp[Op.operands])) (hx l (by simp[Op.operands])) (hx h (by simp[Op.operands])) (hx k (by simp[Op.operands])) hd hok
  |none=>
   exact x9 hC rfl hm (hx x (by simp[Op.operands])) (fun y hy=>hx y (by subst hy;simp[Op.operands])) (fun y hy=>hx y (by subst hy;simp[Op.operands])) hd hok
 |fieldAddr T x f=>exact xS hC rfl hm (hx x (by simp[Op.operands])) hd
 |field T x f=>exact xR hC rfl hm (hx x (by simp[Op.operands])) hd
 |indexAddr T x i=>
  simp only[dF] at hd
  split at hd
  ·rename_i n hn
   exact xU hC rfl hm (hx x (by simp[Op.operands])) (hx i (by simp[Op.operands])) hn hd hok
  ·cases hd
 |index T x i=>
  simp only[dF] at hd
  split at hd
  ·rename_i n hn
   exact xT hC rfl hm (hx x (by simp[Op.operands])) (hx i (by simp[Op.operands])) hn hd hok
  ·cases hd
 |extract x i=>exact xQ rfl hm (hx x (by simp[Op.operands])) hd
 |makeFunc fn first caps=>
  cases fn with
  |func g=>
   simp only[dF] at hd
   cases hb:first.toList.isEmpty&&cH AT.one (bu ρf caps.toList) with
   |false=>simp only[hb] at hd;simp at hd
   |true=>
    simp only[hb,dW,aX] at hd
    simp only[bB] at hb
    subst hd
    exact xX rfl hm hb.1 (pW fun y hy=>hx y (by simp[Op.operands,mU.1 hy])) hb.2
  |_=>simp[dF] at hd
 |nilCheck x=>exact x7 rfl hm (hx x (by simp[Op.operands])) hd
 |call c=>
  obtain⟨callee,args,ts⟩:=c
  cases callee with
  |builtin b=>
   simp only[dF] at hd
   have hall:=rQ (C:=C) (ts:=ts.toList) (pW (a:=a) (ρf:=ρf) (l:=args.toList) fun y hy=>hx y (by simp[Op.operands,Call.operands,mU.1 hy]))
   unfold uh at hd
   split at hd
   ·rename_i T x h1 h2
    have ets:ts = #[T]:=by apply j0;simpa using h1
    rw[h2] at hall
    cases hlt:qx C T x with
    |false=>simp[hlt] at hd
    |true=>
     simp only[hlt,dW] at hd
     split at hd
     ·rename_i n hn
      cases hd
      generalize hal:args.toList=al at hall
      cases al with
      |nil=>cases hall
      |cons y al=>
       cases hall with
       |cons e1 e2=>
        cases al with
        |cons _ _=>cases e2
        |nil=>
         have ea:args = #[y]:=by apply j0;simpa using hal
         subst ea ets
         exact xV hC rfl hm e1 hlt hn
     ·cases hd
   ·rename_i t t2 x y h1 h2
    have ets:ts = #[t,t2]:=by apply j0;simpa using h1
    rw[h2] at hall
    generalize hal:args.toList=al at hall
    rcases al with _|⟨p,_|⟨q,_|⟨r,al⟩⟩⟩
    ·cases hall
    ·cases hall with | cons _ e=>cases e
    ·cases hall with
     |cons e1 e2=>
     cases e2 with
     |cons e2 _=>
     have ea:args = #[p,q]:=by apply j0;simpa using hal
     subst ea ets
     split at hd
     ·rename_i u v hu hv
      obtain⟨E,hE,_⟩:=jI (hC.ty hv)
      exact uE hC rfl hm e1 e2 hu hE (by intro k hk;cases hk) hd hok
     ·rename_i u hu hv
      exact uE hC rfl hm e1 e2 hu (pL (hC.ty hv)) (by intro k hk;cases hk) hd hok
     ·cases hd
    ·cases hall with | cons _ e=>cases e with | cons _ e=>cases e
   ·exact x6 rfl hm hall hd
   ·exact x5 rfl hm hall hd
   ·rename_i T x h1 h2
    have ets:ts = #[T]:=by apply j0;simpa using h1
    rw[h2] at hall
    generalize hal:args.toList=al at hall
    rcases al with _|⟨y,_|⟨z,al⟩⟩
    ·cases hall
    ·cases hall with
     |cons e1 e2=>
     have ea:args = #[y]:=by apply j0;simpa using hal
     subst ea ets
     exact xN hC rfl hm e1 hd
    ·cases hall with | cons _ e=>cases e
   ·cases hd
  |value g=>
   simp only[dF] at hd
   split at hd
   ·rename_i f caps hg
    cases hc:m_ caps with
    |false=>simp[hc] at hd
    |true=>
     simp only[hc,dW] at hd
     exact xM hF rfl hm (hg▸hx g (by simp[Op.operands,Call.operands]))
      (rQ (pW fun y hy=>hx y (by simp[Op.operands,Call.operands,mU.1 hy]))) hc hd hok
   ·cases hd
  |invoke r mm=>simp[dF] at hd
 |_=>simp[dF] at hd
end
section
variable {P:Program} {F:Fix} {C:Cx} {o:Oper} {a:Act} {w w':World} {m:MF} {I I':Nat→Prop} {ρ:Pl} {d:aD}
def xp (v:Value):aj w I m ρ (p9 v) v:=by
 unfold p9
 split
 ·rfl
 ·rfl
 ·rfl
 ·simp[aj,aG,AT.isAgg,aq]
 ·trivial
def rK {x y:Bool}(h:oe x y=true):x=y:=by cases x<;>cases y<;>simp_all [oe]
def tV {α:Type}{p:α→Bool}:∀{l:List α},bW p l=true→∃x∈l,p x=true
 | [],h=>by trivial
 |x::l,h=>by
  simp[bW] at h
  rcases h with h|h
  ·grind
  ·obtain⟨y,h1,h2⟩:=tV h
   exact⟨y,by simp[h1],h2⟩
def pX {α:Type}{p:α→Bool}:∀{l:List α} {x:α},x∈l→p x=true→bW p l=true
 | [],x,h,_=>by grind
 |y::l,x,h,hp=>by
  simp[bW]
  rcases bN.1 h with e|h
  ·grind
  ·exact .inr (pX h hp)
def fR {α:Type}{p:α→Bool}:∀{l:List α},cH p l=true→∀x∈l,p x=true
 | [],_,x,h=>by grind
 |y::l,h,x,hx=>by
  simp[cH] at h
  rcases bN.1 hx with e|hx
  ·grind
  ·exact fR h.2 x hx
def tB {A T:eP}{tmps:Array Value}(h:pJ A T=true)(hT:fh tmps T):fh tmps A:=by
 intro t ht
 have:=fR h t ht
 obtain⟨u,hu,h2⟩:=tV this
 simp only[bB] at h2
 have h3:=dH h2.1
 have h4:=rK h2.2
 have:=hT u hu
 grind
def Reads (w:World)(I:Nat→Prop)(m:MF)(ρ:Pl)(tmps:Array Value)(env:List (Nat×AT))(s:Nat):Prop:=
 ∀av,find env s=some av→iC w I m ρ tmps av (tmps.getD s Go.undef)
def qF {env:List (Nat×AT)}{T:eP}{x:Operand}{G:jN}(hF:eN P G C)(hG:G.ok w I)(h:∀s,x = .tmp s→Reads w I m ρ a.tmps env s)(hT:fh a.tmps T):aj w I m ρ (iz C env T x) (a.eval x):=by
 unfold iz
 cases x with
 |tmp s=>
  simp[operand]
  cases hf:find env s with
  |none=>trivial
  |some av=>
   have:=h s rfl av hf
   simp
   split
   ·rename_i A b
    cases hs:pJ A T with
    |true=>exact this.1 (tB hs hT)
    |false=>trivial
   ·rename_i hn
    unfold iC at this
    split at this
    ·rename_i A b;exact absurd rfl (hn A b)
    ·exact this
 |const v=>
  simp[operand]
  split
  ·rename_i A b h;unfold p9 at h;split at h<;>cases h
  ·exact xp v
 |global g=>
  simp[operand]
  cases hf:find C.gl g with
  |none=>trivial
  |some d=>exact hF.gl g d hf w I hG
 |func f=>
  exact⟨#[],rfl,rfl⟩
def zh {ac ax ay:AT}(h:o9 ac ax ay=some d):(∃g,ac = .leaf .bool g)∧(∃t x,ax = .leaf t x)∧(∃t x,ay = .leaf t x)∧d.ag = []∧d.ok = []:=by
 unfold o9 at h
 grind
def uw {env:List (Nat×AT)}{T:eP}{p:Nat→Bool}(hC:bR P C)(hF:eN P F.G C)(hm:aC F m w I ρ)(bK:mW m p)(d_:∀x∈d.ag,p x.1=true)
  (hr:∀s,Operand.tmp s∈o.op.operands→Reads w I m ρ a.tmps env s) (hT:fh a.tmps T) (hp:∀x∈o.op.operands,∀id∈(iz C env T x).ids,p id=true)
  (hd:jQ C env T (m.on p) o=some d) (hok:∀b∈d.ok,b=true):az P F o a w m I ρ d:=by
 refine az.lift hm bK d_ fun F' hG hm'=>?_
 rw[←hG] at hF
 have hx:=fun x hx=>
  aj.cut (hp x hx) (qF hF hm'.fU (fun s hs=>hr s (hs▸hx)) hT)
 unfold jQ at hd
 split at hd
 ·rename_i c x y ho
  split at hd
  ·rename_i s hs
   have hc:c = .tmp s:=by cases c<;>simp[tC] at hs;subst hs;rfl
   subst hc
   obtain⟨⟨g,hg⟩,⟨tx,vx,hlx⟩,⟨ty,vy,hly⟩,_,_⟩:=zh hd
   have mc:Operand.tmp s∈o.op.operands:=by rw[ho];simp[Op.operands]
   have mx:x∈o.op.operands:=by rw[ho];simp[Op.operands]
   have my:y∈o.op.operands:=by rw[ho];simp[Op.operands]
   have tags:∀b,a.eval (.tmp s) = .bool b→fh a.tmps (app (l6 env s b) T):=by
    intro b hb t ht
    rw[bw] at ht
    rcases ht with ht|ht
    ·unfold l6 at ht
     split at ht
     ·rename_i A e hf
      rcases bN.1 ht with e|ht
      ·subst e;exact hb
      ·unfold iz at hg
       simp[operand,hf,Option.getD_some] at hg
       cases hsub:pJ A T with
       |true=>exact tB hsub hT t ht
       |false=>rw[hsub] at hg;cases hg
     ·rcases bN.1 ht with e|ht
      ·subst e;exact hb
      ·simp at ht
    ·exact hT t ht
   refine x8 ho hm' (hx _ mc) (fun h=>?_) (fun h=>?_) hd
   ·refine aj.cut (by rw[hlx];simp[AT.ids]) (qF hF hm'.fU (fun s hs=>hr s (hs▸mx)) (tags true h))
   ·refine aj.cut (by rw[hly];simp[AT.ids]) (qF hF hm'.fU (fun s hs=>hr s (hs▸my)) (tags false h))
  ·cases hd
 ·exact yc hC hF hm' hx hd hok
def xh {mem:Mem}{D:List Nat}(h:uo mem D=true):mW (find mem) (dK D):=by
 intro id b t x hid hb hc j hj
 have:=fR h _ (eS hb)
 simp[hid,hb] at this
 obtain⟨st,fz,c⟩:=b
 subst hc
 exact fR this j hj
def yu {D:List Nat}{i:Nat}(h:i∈D):dK D i=true:=pX h (by simp)
def sR {mf:Nat→Option aa}:∀{l:List Nat} {i:Nat},i∈l→i∈dR mf l
 | [],i,h=>by grind
 |x::l,i,h=>by
  simp[dR,bw]
  rcases bN.1 h with e|h
  ·grind
  ·exact .inr (.inr (sR h))
def yR {mem:Mem}{dst:Nat}{as:List AT}{x:AT}{i:Nat}(h:x∈as)(hi:i∈x.ids):i∈dom mem dst as:=
 gZ _ (sR (vq.2 ⟨x,h,hi⟩))
end
section
variable {P:Program} {F:Fix} {C:Cx} {w:World} {I:Nat→Prop} {ρ:Pl} {m:MF}
def aB.same (h:aC F m w I ρ){n st:Nat}{t:Ty}{a:AT}{d:DV}{x:t.den}(hm:m n=some ⟨st,false,.var t a⟩)(hp:a.pure=some d)(hx:d.as t=some x) :
  aB F m (m.put n ⟨st,false,.var t (.leaf t x)⟩) w w I I ρ ρ:=by
 have hb:=h.aN n _ hm
 obtain⟨_,B,cs,r1,r2,r3,r4⟩:=hb
 have hI:¬I B:=fun hI=>by grind
 have e:=cz hx
 subst e
 have hr:=o_ hp r3
 refine aB.write h n _ _ B 0 cs cs hm (by trivial) (.inr ⟨rfl,rfl⟩) r1 hI r2 r2 (bA _) (fun _ _=>rfl) rfl rfl rfl rfl ?_
 intro _ _
 exact⟨rfl,B,cs,r1,r2,by trivial,by omega⟩
def pM (m:MF)(i:Nat)(b:aa)(l:List (Nat×aa)):m.ag ((i,b)::l)=(m.ag l).put i b:=by
 funext j
 simp[MF.ag,MF.put,aF]
 grind
def oT {c:Bool}{m0:MF}:∀{l u:List (Nat×aa)},kW c m0 l=some u→u.map (·.1)=l.map (·.1)∧(l.map (·.1)).Nodup
 | [],u,h=>by simp[kW] at h;grind
 | (i,b)::l,u,h=>by
  simp[kW] at h
  split at h
  ·rename_i b' l' h1 h2
   cases ha:bW (fun x=>Nat.beq x.1 i) l with
   |true=>simp[ha] at h
   |false=>
    simp[ha] at h
    subst h
    obtain⟨e1,e2⟩:=oT h2
    refine⟨by simp[e1],?_⟩
    simp only[mT,dN]
    refine⟨fun hin=>?_,e2⟩
    obtain⟨y,hy,he⟩:=gG.1 hin
    have:=pX (p:=fun x=>Nat.beq x.1 i) hy (by rw[he];exact Nat.beq_refl i)
    rw[ha] at this
    cases this
  ·cases h
def sV {c:Bool}{m0:MF}:∀{l u:List (Nat×aa)} {ρ:Pl},kW c m0 l=some u→aC F m w I ρ→(∀x∈l,(c=false→m x.1=m0 x.1)∧(c=true→m x.1=some x.2)) →
  ∃ρ',aB F m (m.ag u) w w I I ρ ρ'
 | [],u,ρ,h,hm,_=>by
  simp[kW] at h
  subst h
  exact⟨ρ,aB.refl hm⟩
 | (i,b)::l,u,ρ,h,hm,hx=>by
  have lI:=oT h
  simp[kW] at h
  split at h
  ·rename_i b' l' h1 h2
   cases ha:bW (fun x=>Nat.beq x.1 i) l with
   |true=>simp[ha] at h
   |false=>
    simp[ha] at h
    subst h
    obtain⟨lC,hd⟩:=sV h2 hm fun x hin=>hx x (gZ _ hin)
    have hni:¬i∈l'.map (·.1):=by
     have:=lI.2
     have e:=(oT h2).1
     rw[e]
     exact(dN.1 this).1
    have hsame:(m.ag l') i=m i:=by
     have:find l' i=none:=by
      cases hf:find l' i with
      |none=>rfl
      |some b1=>exact absurd (gG.2 ⟨_,eS hf,rfl⟩) hni
     simp[MF.ag,this]
    obtain⟨q1,q2⟩:=hx (i,b) me
    rw[pM]
    have dead:∀st,(∀b1,(m.ag l') i=some b1→b1.st<st)→∃ρ',aB F m ((m.ag l').put i ⟨st,false,.dead⟩) w w I I ρ ρ':=fun st hst=>
     ⟨_,hd.trans (aB.stale hd.mem i _ hst (.inl (by simp[aa.live])))⟩
    cases hc:c with
    |false=>
     subst hc
     have q:=q1 rfl
     unfold sU at h1
     split at h1
     ·rename_i st t xs e0
      obtain⟨g1,g2⟩:=aU h1
      cases g2
      have hn:(m.ag l') i=none:=by rw[hsame,q,e0]
      obtain⟨kf,_⟩:=aB.empty (t:=t) hd.mem i st (fun b0 hb0=>by rw[hn] at hb0;cases hb0) (fc g1)
      exact⟨_,hd.trans kf⟩
     ·rename_i e0 hneq
      cases h1
      exact dead _ fun b1 cU=>by rw[hsame,q,e0] at cU;cases cU
     ·rename_i st fz e0
      obtain⟨g1,g2⟩:=aU h1
      cases g2
      exact dead _ fun b1 cU=>by
       rw[hsame,q,e0] at cU
       cases cU
       have:=fc g1
       simp
       omega
     ·rename_i st t a st' t' a' e0
      obtain⟨g1,g2⟩:=aU h1
      split at g2
      ·rename_i d e j_ he1
       split at g2
       ·rename_i x y hx1 hy1
        cases g2
        exact⟨_,hd.trans (aB.same hd.mem (by rw[hsame,q,e0]) j_ hx1)⟩
       ·cases g2
      ·cases g2
     ·cases h1
    |true=>
     subst hc
     have q:=q2 rfl
     unfold sU at h1
     split at h1
     ·rename_i st t xs e0
      obtain⟨g1,g2⟩:=aU h1
      cases g2
      have e:(m.ag l').put i ⟨st,false,.rows t (bif true then xs else [])⟩=m.ag l':=by
       funext j
       simp only[MF.put,dW]
       by_cases hj:i=j
       ·subst hj;rw[bQ rfl,hsame,q]
       ·rw[cT hj]
      rw[e]
      exact⟨_,hd⟩
     ·cases h1
      exact dead _ fun b1 cU=>by rw[hsame,q] at cU;cases cU;exact Nat.lt_succ_self _
     ·obtain⟨g1,g2⟩:=aU h1
      cases g2
      exact dead _ fun b1 cU=>by rw[hsame,q] at cU;cases cU;exact Nat.lt_succ_self _
     ·obtain⟨g1,g2⟩:=aU h1
      simp only[bB] at g1
      split at g2
      ·rename_i d e j_ he1
       split at g2
       ·rename_i x y hx1 hy1
        cases g2
        have e1:=dH g1.1
        have e2:=Ty.cX g1.2
        subst e1
        subst e2
        exact⟨_,hd.trans (aB.same hd.mem (by rw[hsame,q]) he1 hy1)⟩
       ·cases g2
      ·cases g2
     ·cases h1
  ·cases h
def vV {env:List (Nat×AT)}{m0:MF}{T:eP}{d d':aD}(h:nO env m0 T d=some d'):d'.av=d.av∧d'.ok=d.ok ∧
  (d'=d∧(T = []∨d.ag = [])∨oN env T=true∧kW (jG env T) m0 d.ag=some d'.ag):=by
 grind [nO]
def qM {env:List (Nat×AT)}{m0:MF}{T:eP}{d d':aD}(h:nO env m0 T d=some d'):d'.ag.map (·.1)=d.ag.map (·.1):=by
 obtain⟨_,_,h1|h1⟩:=vV h
 ·grind
 ·exact(oT h1.2).1
end
section
variable {P:Program} {F:Fix} {C:Cx} {o:Oper} {a:Act} {w w':World} {m:MF} {I I':Nat→Prop} {ρ:Pl} {d:aD}
inductive hY (C:Cx) (ops:List Oper):St→List Rec→St→Prop where
 |nil (st:St):hY C ops st [] st
 |cons {st st':St} {r:Rec} {rs:List Rec}:lW C ops r.o st=some r→hY C ops (r.go st) rs st'→hY C ops st (r::rs) st'
def recS_o {ops:List Oper}{st:St}{r:Rec}(h:lW C ops o st=some r):r.o=o:=by
 grind [lW]
def qG {ops:List Oper}:∀{l:List Oper} {st st':St} {rs:List Rec},nK C ops l st=some (st',rs)→hY C ops st rs st'∧rs.map (·.o)=l
 | [],st,st',rs,h=>by obtain⟨rfl,rfl⟩:=h;exact⟨.nil _,rfl⟩
 |o::l,st,st',rs,h=>by
  simp[nK] at h
  split at h
  ·rename_i r hr
   split at h
   ·rename_i st2 rs2 h2
    obtain⟨rfl,rfl⟩:=h
    obtain⟨e1,e2⟩:=qG h2
    have ho:=recS_o hr
    exact⟨.cons (ho▸hr) e1,by simp[ho,e2]⟩
   ·cases h
  ·cases h
def a_:List Rec→Nat→St→St
 | [],_,st=>st
 |_::_,0,st=>st
 |r::rs,k+1,st=>a_ rs k (r.go st)
def hY.at {ops:List Oper}:∀{st st':St} {rs:List Rec},hY C ops st rs st'→∀{k:Nat} {r:Rec},rs[k]?=some r→lW C ops r.o (a_ rs k st)=some r
 |_,_,_,.nil _,k,r,h=>by grind
 |_,_,_,.cons h1 h2,k,r,h=>by
  cases k with
  |zero=>simp at h;subst h;trivial
  |succ k=>exact h2.at (by grind)
def bL (L:Nat→Bool):List Rec→MF→MF
 | [],m=>m
 |r::rs,m=>bL (fun k=>L (k+1)) rs (bif L 0 then m.ag r.d.ag else m)
abbrev EF:=Nat→Option AT
def EF.put (e:EF)(r:Rec):EF:=match r.o.dst with
 |some s=>fun i=>if s=i then some (jK r.T r.d.av) else e i
 |none=>e
def dP (L:Nat→Bool):List Rec→EF→EF
 | [],e=>e
 |r::rs,e=>dP (fun k=>L (k+1)) rs (bif L 0 then e.put r else e)
def mem_go (r:Rec)(st:St):find (r.go st).mem=MF.ag (find st.mem) r.d.ag:=xB _ _
def uA (r:Rec)(st:St):find (r.go st).env=EF.put (find st.env) r:=by
 funext i
 unfold Rec.go EF.put
 cases r.o.dst<;>simp[aF]
def nD:∀(rs:List Rec) (m:MF),bL (fun _=>false) rs m=m
 | [],_=>rfl
 |r::rs,m=>by simp[bL];exact nD rs m
def ot:∀(rs:List Rec) (e:EF),dP (fun _=>false) rs e=e
 | [],_=>rfl
 |r::rs,m=>by simp[dP];exact ot rs m
def jx:∀(rs:List Rec) (k:Nat) (st:St),bL (fun i=>decide (i<k)) rs (find st.mem)=find (a_ rs k st).mem
 | [],k,st=>rfl
 |r::rs,0,st=>by
  have:(fun i=>decide (i<0))=fun _=>false:=rfl
  rw[this,nD];rfl
 |r::rs,k+1,st=>by
  have:(fun i=>decide (i+1<k+1))=fun i=>decide (i<k):=by simp
  simp only[bL,a_]
  rw[this,←mem_go]
  exact jx rs k _
def oq:∀(rs:List Rec) (k:Nat) (st:St),dP (fun i=>decide (i<k)) rs (find st.env)=find (a_ rs k st).env
 | [],k,st=>rfl
 |r::rs,0,st=>by
  have:(fun i=>decide (i<0))=fun _=>false:=rfl
  rw[this,ot];rfl
 |r::rs,k+1,st=>by
  have:(fun i=>decide (i+1<k+1))=fun i=>decide (i<k):=by simp
  simp only[dP]
  rw[this,←uA]
  exact oq rs k _
def hY.last {ops:List Oper}:∀{st st':St} {rs:List Rec},hY C ops st rs st'→a_ rs rs.length st=st'
 |_,_,_,.nil _=>rfl
 |_,_,_,.cons _ h2=>h2.last
def kA {id:Nat}:∀{rs:List Rec} {L L':Nat→Bool} {m m':MF},(∀k r,rs[k]?=some r→find r.d.ag id≠none→L k=L' k)→m id=m' id→bL L rs m id=bL L' rs m' id
 | [],_,_,_,_,_,h=>h
 |r::rs,L,L',m,m',hl,h=>by
  simp[bL]
  refine kA (fun k r' hk hw=>hl (k+1) r' (by grind) hw) ?_
  by_cases hw:find r.d.ag id=none
  ·have:∀(b:Bool) (m:MF),(bif b then m.ag r.d.ag else m) id=m id:=by
    intro b m;cases b
    ·rfl
    ·simp[MF.ag,hw]
   rw[this,this,h]
  ·rw[hl 0 r rfl hw]
   cases L' 0 with
   |false=>exact h
   |true=>simp[MF.ag];split<;>first|rfl|exact h
def qB {id:Nat}{b:aa}:∀{rs:List Rec} {L:Nat→Bool} {m:MF} {j:Nat} {r:Rec},rs[j]?=some r→L j=true→find r.d.ag id=some b →
  (∀k r',j<k→rs[k]?=some r'→find r'.d.ag id≠none→L k=false)→bL L rs m id=some b
 | [],_,_,j,r,h,_,_,_=>by grind
 |x::rs,L,m,0,r,h,hL,hf,hk=>by
  simp at h
  subst h
  simp[bL,hL]
  have:bL (fun k=>L (k+1)) rs (m.ag x.d.ag) id=bL (fun _=>false) rs (m.ag x.d.ag) id:=
   kA (fun k r' hr hw=>hk (k+1) r' (by simp) (by grind) hw) rfl
  rw[this,nD]
  simp[MF.ag,hf]
 |x::rs,L,m,j+1,r,h,hL,hf,hk=>by
  simp[bL]
  exact qB (j:=j) (by grind) hL hf (fun k r' hjk hr hw=>hk (k+1) r' (by omega) (by grind) hw)
def nj {s:Nat}:∀{rs:List Rec} {L L':Nat→Bool} {e e':EF},(∀k r,rs[k]?=some r→r.o.dst=some s→L k=L' k)→e s=e' s→dP L rs e s=dP L' rs e' s
 | [],_,_,_,_,_,h=>h
 |r::rs,L,L',e,e',hl,h=>by
  simp[dP]
  refine nj (fun k r' hk hw=>hl (k+1) r' (by grind) hw) ?_
  by_cases hw:r.o.dst=some s
  ·rw[hl 0 r rfl hw]
   cases L' 0 with
   |false=>exact h
   |true=>simp[EF.put,hw]
  ·have:∀(b:Bool) (e:EF),(bif b then e.put r else e) s=e s:=by
    intro b e;cases b
    ·rfl
    ·simp[EF.put]
     cases hd:r.o.dst with
     |some s'=>
      have:¬s'=s:=fun h=>hw (h▸hd)
      simp[this]
     |none=>rfl
   rw[this,this,h]
def uz {s:Nat}:∀{rs:List Rec} {L:Nat→Bool} {e:EF} {j:Nat} {r:Rec},rs[j]?=some r→L j=true→r.o.dst=some s →
  (∀k r',j<k→rs[k]?=some r'→r'.o.dst≠some s)→dP L rs e s=some (jK r.T r.d.av)
 | [],_,_,j,r,h,_,_,_=>by grind
 |x::rs,L,e,0,r,h,hL,hf,hk=>by
  simp at h
  subst h
  simp[dP,hL]
  have:dP (fun k=>L (k+1)) rs (e.put x) s=dP (fun _=>false) rs (e.put x) s:=
   nj (fun k r' hr hw=>absurd hw (hk (k+1) r' (by simp) (by grind))) rfl
  rw[this,ot]
  simp[EF.put,hf]
 |x::rs,L,e,j+1,r,h,hL,hf,hk=>by
  simp[dP]
  exact uz (j:=j) (by grind) hL hf (fun k r' hjk hr=>hk (k+1) r' (by omega) (by grind))
def iB (L:Nat→Bool)(j:Nat):Nat→Bool:=fun k=>L k || decide (k=j)
end
section
variable {P:Program} {F:Fix} {C:Cx} {o:Oper} {a:Act} {w w':World} {m:MF} {I I':Nat→Prop} {ρ:Pl} {d:aD}
def sQ {α β:Type}{f:α→Option β}{y:β}:∀{l:List α},y∈dY f l↔∃x∈l,f x=some y
 | []=>by simp[dY]
 |x::l=>by
  have ih:=sQ (f:=f) (y:=y) (l:=l)
  simp[dY]
  grind
def jB {α:Type}:∀(l:List α) (i:Nat),cY l i=l[i]?
 | [],_=>rfl
 |_::_,0=>rfl
 |_::l,n+1=>by simp[cY,jB]
def ff:BC→BC→Prop
 |.var t _,.var u _=>t=u
 |.rows t xs,.rows u ys=>t=u∧xs.length=ys.length
 |.deep _ t xs,.deep _ u ys=>t=u∧xs.length=ys.length
 |.dead,.dead=>True
 |_,_=>False
def bX.gY {a b:BC}(h:bX a b):ff a b:=by
 cases a<;>cases b<;>simp[bX] at h<;>simp[ff]
 all_goals grind
def ff.refl:∀c:BC,ff c c
 |.var _ _=>rfl
 |.rows _ _=>⟨rfl,rfl⟩
 |.deep _ _ _=>⟨rfl,rfl⟩
 |.dead=>trivial
def yL {b b':aa}(h:ff b.c b'.c)(hl:b.live):b'.live:=by
 grind [aa.live,ff]
def ff.trans {a b c:BC}(h:ff a b)(k:ff b c):ff a c:=by
 cases a<;>cases b<;>simp[ff] at h<;>cases c<;>simp[ff] at k ⊢
 all_goals grind
structure eO where
 m:MF
 ρ:Pl
 w:World
 pid:∀id b,m id=some b→gD id=true
def Kept (K:eO)(m:MF)(ρ:Pl)(w:World):Prop:=∀id b0,K.m id=some b0→∃b,m id=some b∧(0<b.st∨(b.st=0∧ff b0.c b.c∧ρ id=K.ρ id ∧
 (b0.live→∀B o,K.ρ id=some (B,o)→∀cs,Cells K.w B cs→∃cs',Cells w B cs'∧cs.length≤cs'.length)))
def Kept.mono {K:eO}{m':MF}{ρ':Pl}(h:Kept K m ρ w)(hk:c_ m m' ρ ρ' w w'):Kept K m' ρ' w':=by
 intro id b0 hb0
 obtain⟨b,hb,h1⟩:=h id b0 hb0
 obtain⟨b',hb',h2⟩:=hk.keep id b hb
 refine⟨b',hb',?_⟩
 rcases h2 with h2|⟨e1,e2,e3,e4⟩
 ·grind
 ·rcases h1 with h1|⟨k1,k2,k3,k4⟩
  ·exact .inl (by omega)
  ·refine .inr ⟨by omega,k2.trans e2.gY,e3.trans k3,fun hl B o hB cs hc=>?_⟩
   obtain⟨cs1,c1,c2⟩:=k4 hl B o hB cs hc
   obtain⟨cs2,c3,c4⟩:=e4 (yL k2 hl) B o (k3.trans hB) cs1 c1
   exact⟨cs2,c3,by omega⟩
structure RInv (F:Fix) (n:Nat) (K:eO) (rs:List Rec) (st:St) (L:Nat→Bool) (a:Act) (w:World) (I:Nat→Prop) (ρ:Pl):Prop where
 mem:aC F (bL L rs (find st.mem)) w I ρ
 env:∀s av,dP L rs (find st.env) s=some av→iC w I (bL L rs (find st.mem)) ρ a.tmps av (a.tmps.getD s Go.undef)
 size:a.tmps.size=n
 defers:a.defers = []
 kept:Kept K (bL L rs (find st.mem)) ρ w
structure bT (C:Cx) (n:Nat) (ops:List Oper) (st st':St) (rs:List Rec) (ah:Nat→Nat→Prop):Prop where
 runs:hY C ops st rs st'
 vJ:rs.map (·.o)=ops
 qa:∀(i j:Nat) (ri rj:Rec) (s:Nat),rs[i]?=some ri→rs[j]?=some rj→ri.o.dst=some s→rj.o.dst=some s→i=j
 back:∀(i:Nat) (r:Rec) (g:Nat) (w:Bool),rs[i]?=some r→r.o.guard=some (g,w)→g<i
 lt:∀i j,ah i j→i<j
 sep:∀(i j:Nat) (f g:Rec),i<j→rs[i]?=some f→rs[j]?=some g→ah i j∨jP (f.gM ops) (g.gM ops)=true
 e0:∀s A b,find st.env s≠some (.bS A b)
 tmps:∀(r:Rec) (s:Nat),r∈rs→r.o.dst=some s→s<n
def jO (ah:Nat→Nat→Prop)(L:Nat→Bool):Prop:=∀i j,ah i j→L j=true→L i=true
def v_ {s:Nat}{R:List Nat}(h:qU (some s) R=true):¬s∈R:=by
 intro hs
 simp[qU] at h
 rw[lE.2 hs] at h
 grind
def Ak (a:AT):∀A b,jK [] a ≠ .bS A b:=by
 intro A b h
 unfold jK at h
 grind
section
variable {n:Nat} {K:eO} {ops:List Oper} {st st':St} {rs:List Rec} {ah:Nat→Nat→Prop}
def bT.op (h:bT C n ops st st' rs ah){j:Nat}{r:Rec}(hr:rs[j]?=some r):ops[j]?=some r.o:=by
 rw[←h.vJ];grind
def bT.did (h:bT C n ops st st' rs ah){j:Nat}{r:Rec}(hr:rs[j]?=some r) :
  guardOf (a_ rs j st).env ops r.o=some r.T∧r.D=dom (a_ rs j st).mem (p_ r.o) (bu (iz C (a_ rs j st).env r.T) r.o.op.operands.toList) ∧
  jQ C (a_ rs j st).env r.T (view (a_ rs j st).mem r.D) r.o=some r.d0∧(∀x∈r.d.ag,dK r.D x.1=true)∧mW (find (a_ rs j st).mem) (dK r.D) ∧
  nO (a_ rs j st).env (find (a_ rs j st).mem) r.T r.d0=some r.d:=by
 have h1:=h.runs.at hr
 unfold lW at h1
 split at h1
 ·grind
 ·rename_i T hT
  dsimp at h1
  split at h1
  ·cases h1
  ·rename_i d hd
   obtain⟨hb,h1⟩:=aU h1
   simp at hb
   obtain⟨cU,cE⟩:=hb
   split at h1
   ·rename_i d' hd'
    simp at h1
    have e1:r.T=T:=by rw[←h1]
    have e2:r.d=d':=by rw[←h1]
    have e4:r.d0=d:=by rw[←h1]
    have e3:r.D=dom (a_ rs j st).mem (p_ r.o) (bu (iz C (a_ rs j st).env T) r.o.op.operands.toList):=by rw[←h1]
    rw[←e3] at hd cU cE
    refine⟨by rw[e1];exact hT,by rw[e1];exact e3,by rw[e1,e4];exact hd,fun x hx=>?_,xh cE,by rw[e1,e2,e4];exact hd'⟩
    have:x.1∈d.ag.map (·.1):=by rw[←qM hd',←e2];exact gG.2 ⟨x,hx,rfl⟩
    obtain⟨y,hy,he⟩:=gG.1 this
    rw[←he]
    exact fR cU y hy
   ·cases h1
def bT.sepW (h:bT C n ops st st' rs ah){i j:Nat}{f g:Rec}(hi:rs[i]?=some f)(hj:rs[j]?=some g)(hij:i≠j) :
  ah i j∨ah j i∨jP (f.gM ops) (g.gM ops)=true∨jP (g.gM ops) (f.gM ops)=true:=by
 rcases Nat.lt_or_gt_of_ne hij with hlt|hlt
 ·rcases h.sep i j f g hlt hi hj<;>grind
 ·rcases h.sep j i g f hlt hj hi<;>grind
def qt {r:Rec}(h:eU r=false):jV r.o=false:=by
 grind [eU,jV]
def yF {o:Oper}(h:eG o=true):jV o=false:=by
 grind [eG,jV]
def bT.ni (h:bT C n ops st st' rs ah){i j:Nat}{f g:Rec}(hi:rs[i]?=some f)(hj:rs[j]?=some g)(hij:i≠j){id:Nat}(hw:find f.d.ag id≠none)(hd:dK g.D id=true)(hsk:((mI f&&eG g.o) || (f.kv&&eU g))=false)(fA:jV g.o=false):ah i j∨ah j i:=by
 have hin:id∈bu (fun x=>x.1) f.d.ag:=by
  rw[jw]
  cases hf:find f.d.ag id with
  |none=>grind
  |some b=>exact qc hf
 rcases h.sepW hi hj hij with h1|h1|h1|h1
 ·grind
 ·grind
 ·simp only[jP,bB] at h1
  have h2:=h1.1.1.1
  simp[Rec.gM,hsk,fA] at h2
  have:=fR h2 id hin
  simp only[hd] at this
  cases this
 ·simp only[jP,bB] at h1
  have h2:=h1.1.1.2
  simp[Rec.gM,hsk,fA] at h2
  have:=fR h2 id hin
  simp only[hd] at this
  cases this
def bT.edgeS (h:bT C n ops st st' rs ah){i j:Nat}{f g:Rec}(hi:rs[i]?=some f)(hj:rs[j]?=some g)(hij:i≠j){s:Nat}(hw:f.o.dst=some s)(hd:s∈lQ ops g.o):ah i j∨ah j i:=by
 rcases h.sepW hi hj hij with h1|h1|h1|h1
 ·grind
 ·grind
 ·simp[jP,Rec.gM,hw] at h1
  exact absurd hd (v_ h1.1.2)
 ·simp[jP,Rec.gM,hw] at h1
  exact absurd hd (v_ h1.2)
def vj {s:Nat}(h:Operand.tmp s∈o.op.operands):s∈lQ ops o:=by
 unfold lQ
 rw[bw]
 exact .inl (sQ.2 ⟨.tmp s,mU.2 h,rfl⟩)
def vi {g s:Nat}{b:Bool}(h:o.guard=some (g,b))(hs:(cY ops g).bind (·.dst)=some s):s∈lQ ops o:=by
 unfold lQ
 rw[bw]
 grind
variable {L:Nat→Bool}
def bT.sP (h:bT C n ops st st' rs ah){j:Nat}{r:Rec}(hr:rs[j]?=some r)(hL:L j=false)(bK:jO ah L)(fH:∀i,ah i j→L i=true){id:Nat}(hid:dK r.D id=true)(hsh:eG r.o=false)(hvs:eU r=false) :
  bL L rs (find st.mem) id=find (a_ rs j st).mem id:=by
 rw[←jx]
 refine kA (fun k f hk hw=>?_) rfl
 by_cases gA:k=j
 ·grind
 ·rcases h.ni hk hr gA hw hid (by grind) (qt hvs) with h1|h1
  ·have:=h.lt _ _ h1
   simp[fH k h1,this]
  ·have hlt:=h.lt _ _ h1
   have:¬k<j:=by omega
   simp[this]
   cases fm:L k with
   |false=>rfl
   |true=>have:=bK _ _ h1 fm;rw[hL] at this;cases this
def BC.kind:BC→Nat×Option (Ty×Nat)×Option Ty
 |.var t _=>(0,none,some t)
 |.rows t xs=>(1,some (t,xs.length),none)
 |.deep _ t xs=>(2,some (t,xs.length),none)
 |.dead=>(3,none,none)
def dh (o:Option aa):Option (Nat×Nat×Option (Ty×Nat)×Option Ty):=o.map fun b=>(b.st,b.c.kind)
def uY {m m':MF}{id st:Nat}{t:Ty}{xs:List t.den}(hs:dh (m id)=dh (m' id))(h:gU m id st t=some xs):∃ys,gU m' id st t=some ys∧ys.length=xs.length:=by
 have key:∀{u:Ty} {zs:List u.den},DV.as ⟨.lst u,zs⟩ (.lst t)=some xs→u=t∧zs.length=xs.length:=by
  intro u zs h
  have:=cz h
  grind
 unfold gU cur at h
 unfold dh at hs
 cases hm:m id with
 |none=>grind
 |some b=>
  rw[hm] at h hs
  cases hm':m' id with
  |none=>grind
  |some b'=>
   rw[hm'] at hs
   obtain⟨s,fz,c⟩:=b
   obtain⟨s',fz',c'⟩:=b'
   simp at hs
   obtain⟨e1,e2⟩:=hs
   subst e1
   simp at h
   cases hst:Nat.beq s st with
   |false=>grind
   |true=>
    rw[hst] at h
    unfold gU cur
    rw[hm']
    simp[hst]
    cases c with
    |rows u zs=>
     cases c'<;>simp only[BC.kind,jX,aX,jZ,Nat.reduceEqDiff,false_and] at e2
     rename_i u' zs'
     obtain⟨k1,k2⟩:=key h
     subst k1
     obtain⟨k3,k4⟩:=e2.2
     subst k3
     exact⟨zs',by simp[DV.as],by omega⟩
    |deep rs u zs=>
     cases c'<;>simp only[BC.kind,jX,aX,jZ,Nat.reduceEqDiff,false_and] at e2
     rename_i rs' u' zs'
     obtain⟨k1,k2⟩:=key h
     subst k1
     obtain⟨k3,k4⟩:=e2.2
     subst k3
     exact⟨zs',by simp[DV.as],by omega⟩
    |_=>grind
def zO {m m':MF}{id st:Nat}{t:Ty}{fz:Bool}{xs:List t.den}(hs:dh (m id)=dh (m' id))(h:rowsOf m id st t=some (fz,xs)):∃f ys,rowsOf m' id st t=some (f,ys)∧ys.length=xs.length:=by
 have hl:gU m id st t=some xs:=by
  grind [gU,DV.as,rowsOf]
 obtain⟨ys,h1,h2⟩:=uY hs hl
 grind [gU,cur,rowsOf,dh,BC.kind]
def xq {m m':MF}{id st:Nat}(hs:dh (m id)=dh (m' id)){fz:Bool}{t:Ty}{a:AT}(h:cur m id st=some ⟨st,fz,.var t a⟩):∃f b,cur m' id st=some ⟨st,f,.var t b⟩:=by
 obtain⟨hm,_⟩:=cN h
 unfold dh at hs
 rw[hm] at hs
 cases hm':m' id with
 |none=>grind
 |some b'=>
  rw[hm'] at hs
  obtain⟨s',fz',c'⟩:=b'
  simp at hs
  obtain⟨e1,e2⟩:=hs
  cases c'<;>simp[BC.kind] at e2
  simp_all [cur]
def yw {m m':MF}{T:Nat}{x:AT}{i:Int}{d:aD}(hs:∀id∈x.ids,dh (m id)=dh (m' id))(h:lM C m T x i=some d):lM C m' T x i=some d:=by
 unfold lM at h ⊢
 split at h
 ·grind
 ·rename_i id st t u hu
  cases bG:t.is u with
  |false=>rw[bG] at h;simp at h
  |true=>
   rw[bG] at h
   split at h
   ·rename_i xs hr
    obtain⟨ys,h1,h2⟩:=uY (hs id (by simp[AT.ids])) hr
    simp only[h1,h2]
    exact h
   ·cases h
 ·rename_i id st off len t u hu
  cases bG:t.is u with
  |false=>rw[bG] at h;simp at h
  |true=>
   rw[bG] at h
   split at h
   ·rename_i r hr
    obtain⟨f,ys,h1,h2⟩:=zO (hs id (by simp[AT.ids])) hr
    simp only[h1]
    exact h
   ·cases h
 ·exact h
 ·rename_i id st p n u hu
  split at h
  ·rename_i st' fz t a hc
   have hst:=(cN hc).2
   subst hst
   obtain⟨f,b,h1⟩:=xq (hs id (by simp[AT.ids])) hc
   simp[h1]
   exact h
  ·cases h
 ·cases h
def yx {T:Nat}{x:AT}{i:Int}{d:aD}(h:lM C m T x i=some d):d.ag = []:=by
 unfold lM at h
 grind
def bT.pG (h:bT C n ops st st' rs ah){j:Nat}{r:Rec}(hr:rs[j]?=some r)(hs:eG r.o=true):r.d0.ag = []∧r.d.ag = []:=by
 obtain⟨_,_,hd,_,_,hrd⟩:=h.did hr
 have h0:=by
  unfold eG at hs
  unfold jQ at hd
  split at hd
  ·grind
  ·cases ho:r.o.op with
   |indexAddr T x i=>
    unfold dF at hd
    rw[ho] at hd
    simp at hd
    split at hd
    ·exact yx hd
    ·cases hd
   |_=>rw[ho] at hs;cases hs
 refine⟨h0,?_⟩
 have:=qM hrd
 rw[h0] at this
 simpa using this
def zX {m:MF}{T:Nat}{x v:AT}{d:aD}{id s:Nat}{fz:Bool}{t:Ty}{ys:List t.den}(h:mP C m T x v=some d)(hu:d.ag = [(id,⟨s,fz,.rows t ys⟩)]):dh (m id)=dh (some ⟨s,fz,.rows t ys⟩):=by
 unfold mP at h
 split at h
 ·grind
 ·split at h
  ·rename_i st' t' xs hc
   obtain⟨_,h⟩:=aU h
   split at h
   ·split at h
    ·split at h
     ·cases h
      simp only[jY,jX] at hu
      obtain⟨⟨e1,e2⟩,_⟩:=hu
      subst e1
      obtain⟨hm,hst⟩:=cN hc
      rw[hm,←e2]
      simp[dh,BC.kind]
      exact hst
     ·cases h
    ·cases h
   ·cases h
  ·obtain⟨_,h⟩:=aU h
   split at h
   ·split at h
    ·split at h
     ·cases h
      simp only[jY,jX] at hu
      obtain⟨⟨e1,e2⟩,_⟩:=hu
      cases e2
     ·cases h
    ·cases h
   ·cases h
  ·cases h
 ·cases h
def yH {r:Rec}(h:mI r=true):∃T x v id s fz t,∃(ys:List (Ty.den t)),r.o.op = .store T x v∧r.d.ag = [(id,⟨s,fz,.rows t ys⟩)]∧r.T = []:=by
 grind [mI]
def bT.keeps (h:bT C n ops st st' rs ah){k:Nat}{f:Rec}(hk:rs[k]?=some f)(hks:mI f=true){id:Nat}(hw:find f.d.ag id≠none) :
  dh (find (a_ rs k st).mem id)=dh (find f.d.ag id)∧∃s fz t,∃(ys:List (Ty.den t)),find f.d.ag id=some ⟨s,fz,.rows t ys⟩:=by
 obtain⟨T,x,v,id',s,fz,t,ys,ho,hu,hT⟩:=yH hks
 obtain⟨_,_,hd,d_,_,hrd⟩:=h.did hk
 have e:id'=id:=by
  rw[hu] at hw
  simp[aF] at hw
  by_cases e:id'=id
  ·grind
  ·rw[cT e] at hw;trivial
 subst e
 have hfu:find f.d.ag id'=some ⟨s,fz,.rows t ys⟩:=by rw[hu,aF,bQ rfl]
 have hd0:f.d=f.d0:=by
  unfold nO at hrd
  grind
 rw[←hd0] at hd
 unfold jQ at hd
 unfold dF at hd
 rw[ho] at hd
 have h1:=zX hd hu
 rw[hfu,←h1]
 unfold view
 simp_all
def uT {r:Rec}(h:eG r.o=true):eU r=false:=by
 grind [eG,eU]
def yG {r:Rec}(h:eU r=true):eG r.o=false:=by
 cases hs:eG r.o with
 |false=>rfl
 |true=>rw[uT hs] at h;grind
def yX {m:MF}{x:AT}{d:aD}(h:lT m x=some d):d.ag = []:=by
 unfold lT at h
 grind
def xy {m:MF}{T:Nat}{x:AT}{f:Nat}{d:aD}(h:lG C m T x f=some d):d.ag = []:=by
 unfold lG at h
 grind
def bT.pN (h:bT C n ops st st' rs ah){j:Nat}{r:Rec}(hr:rs[j]?=some r)(hs:eU r=true):r.d0.ag = []∧r.d.ag = []:=by
 obtain⟨_,_,hd,_,_,hrd⟩:=h.did hr
 have h0:r.d0.ag = []:=by
  unfold eU at hs
  unfold jQ at hd
  split at hd
  ·grind
  ·cases ho:r.o.op with
   |move x=>
    unfold dF at hd
    grind
   |nilCheck x=>
    unfold dF at hd
    rw[ho] at hd
    exact yX hd
   |fieldAddr T x f=>
    unfold dF at hd
    rw[ho] at hd
    exact xy hd
   |_=>simp_all
 have:=qM hrd
 simp_all
def iy (x y:Option aa):Prop:=x=y∨(nH x=true∧nH y=true)
def iy.trans {x y z:Option aa}(h:iy x y)(k:iy y z):iy x z:=by
 rcases h with rfl|⟨h1,h2⟩
 ·grind
 ·rcases k with rfl|⟨k1,k2⟩
  ·exact .inr ⟨h1,h2⟩
  ·exact .inr ⟨h1,k2⟩
def iy.symm {x y:Option aa}(h:iy x y):iy y x:=h.imp Eq.symm And.symm
def ur {m m':MF}{id st:Nat}{s:Nat}{fz:Bool}{t:Ty}{a:AT}(hs:iy (m' id) (m id))(h:cur m id st=some ⟨s,fz,.var t a⟩):cur m' id st=some ⟨s,fz,.var t a⟩:=by
 rcases hs with e|⟨_,e⟩
 ·grind [cur]
 ·rw[(cN h).1] at e;cases e
def yY {m m':MF}{x:AT}{d:aD}{i s:Nat}{p:Path}(hs:∀id,iy (m' id) (m id))(h:lT m x=some d)(ha:d.av = .aR i s p):lT m' x=some d:=by
 unfold lT at h ⊢
 split at h
 ·grind
 ·split at h
  ·rename_i hc
   simp only[ur (hs _) hc]
   exact h
  ·cases h
 ·cases h;cases ha
 ·cases h
def xz {m m':MF}{T:Nat}{x:AT}{f:Nat}{d:aD}{i s:Nat}{p:Path}(hs:∀id,iy (m' id) (m id))(h:lG C m T x f=some d)(ha:d.av = .aR i s p):lG C m' T x f=some d:=by
 unfold lG at h ⊢
 split at h
 ·grind
 ·split at h
  ·rename_i hc
   simp[ur (hs _) hc]
   exact h
  ·cases h
 ·split at h
  ·obtain⟨_,h⟩:=aU h;cases h;cases ha
  ·obtain⟨_,h⟩:=aU h;cases h;cases ha
  ·cases h
 ·cases h
def bT.kv (h:bT C n ops st st' rs ah){k:Nat}{f:Rec}(hk:rs[k]?=some f)(hkv:f.kv=true){id:Nat}(hw:find f.d.ag id≠none):nH (find (a_ rs k st).mem id)=true∧nH (find f.d.ag id)=true:=by
 have h1:=h.runs.at hk
 have e:f.kv=vF (find (a_ rs k st).mem) f.d.ag:=by
  unfold lW at h1
  grind
 rw[e] at hkv
 cases hf:find f.d.ag id with
 |none=>grind
 |some b=>
  have:=fR hkv _ (eS hf)
  grind
def bT.vn (h:bT C n ops st st' rs ah){j:Nat}{r:Rec}(hr:rs[j]?=some r)(hsh:eG r.o=true)(hL:L j=false)(bK:jO ah L)(fH:∀i,ah i j→L i=true){id:Nat}(hid:dK r.D id=true) :
  dh (bL L rs (find st.mem) id)=dh (find (a_ rs j st).mem id)∧∀s fz t a,find (a_ rs j st).mem id=some ⟨s,fz,.var t a⟩→bL L rs (find st.mem) id=find (a_ rs j st).mem id:=by
 have hjw:find r.d.ag id=none:=by rw[(h.pG hr hsh).2];rfl
 have hB:∀i k f g,i<k→rs[i]?=some f→rs[k]?=some g→find f.d.ag id≠none→find g.d.ag id≠none→L k=true→L i=true:=by
  intro i k f g hik hi hk kQ hgk fm
  have hgs:eG g.o=false:=by
   cases hs:eG g.o with
   |false=>rfl
   |true=>exact absurd (by rw[(h.pG hk hs).2];rfl) hgk
  have hgd:dK g.D id=true:=by
   cases hf:find g.d.ag id with
   |none=>grind
   |some b=>exact(h.did hk).2.2.2.1 _ (eS hf)
  have hgv:eU g=false:=by
   cases hs:eU g with
   |false=>rfl
   |true=>exact absurd (by rw[(h.pN hk hs).2];rfl) hgk
  rcases h.ni hi hk (by omega) kQ hgd (by grind) (qt hgv) with h1|h1
  ·exact bK _ _ h1 fm
  ·have:=h.lt _ _ h1;omega
 have hW:∀k f,rs[k]?=some f→find f.d.ag id≠none→L k=decide (k<j)∨mI f=true:=by
  intro k f hk hw
  cases hks:mI f with
  |true=>simp
  |false=>
   left
   have gA:k≠j:=by grind
   rcases h.ni hk hr gA hw hid (by rw[hks,uT hsh,zl74];rfl) (yF hsh) with h1|h1
   ·have:=h.lt _ _ h1
    simp[fH k h1,this]
   ·have hlt:=h.lt _ _ h1
    have:¬k<j:=by omega
    simp only[this,zl75]
    cases fm:L k with
    |false=>rfl
    |true=>have:=bK _ _ h1 fm;rw[hL] at this;cases this
 have hp:∀n,∃p,p≤n∧(∀i f,rs[i]?=some f→find f.d.ag id≠none→p≤i→i<n→L i=false)∧(p=0∨∃q f,p=q+1∧rs[q]?=some f∧find f.d.ag id≠none∧L q=true):=by
  intro n
  induction n with
  |zero=>exact⟨0,bA _,fun i f _ _ _ hi=>by omega,.inl rfl⟩
  |succ n ih=>
   obtain⟨p,h1,h2,h3⟩:=ih
   by_cases hq:∃f,rs[n]?=some f∧find f.d.ag id≠none∧L n=true
   ·obtain⟨f,k1,k2,k3⟩:=hq
    exact⟨n+1,bA _,fun i f _ _ hi hi'=>by omega,.inr ⟨n,f,rfl,k1,k2,k3⟩⟩
   ·refine⟨p,by omega,fun i f hi hw aJ hin=>?_,h3⟩
    by_cases e:i=n
    ·subst e
     cases hLi:L i with
     |false=>rfl
     |true=>exact absurd ⟨f,hi,hw,hLi⟩ hq
    ·exact h2 i f hi hw aJ (by omega)
 obtain⟨p,p1,p2,p3⟩:=hp rs.length
 have hpw:∀k f,rs[k]?=some f→find f.d.ag id≠none→L k=decide (k<p):=by
  intro k f hk hw
  have hkl:k<rs.length:=(nX.1 hk).1
  by_cases hkp:k<p
  ·rcases p3 with p3|⟨q,g,e,q1,q2,q3⟩
   ·omega
   ·by_cases e':k=q
    ·subst e';simp[q3,hkp]
    ·rw[hB k q f g (by omega) hk q1 hw q2 q3]
     simp[hkp]
  ·rw[p2 k f hk hw (by omega) hkl]
   simp[hkp]
 have hmem:bL L rs (find st.mem) id=find (a_ rs p st).mem id:=by
  rw[←jx]
  exact kA hpw rfl
 have sG:∀i,(∀f,rs[i]?=some f→find f.d.ag id=none)→find (a_ rs (i+1) st).mem id=find (a_ rs i st).mem id:=by
  intro i hn
  rw[←jx,←jx]
  refine kA (fun k f hk hw=>?_) rfl
  by_cases e:k=i
  ·subst e;exact absurd (hn f hk) hw
  ·have:(k<i+1)↔k<i:=by omega
   simp[this]
 have qs:∀i f,rs[i]?=some f→find f.d.ag id≠none→find (a_ rs (i+1) st).mem id=find f.d.ag id:=by
  intro i f hi hw
  cases hf:find f.d.ag id with
  |none=>exact absurd hf hw
  |some b=>
   rw[←jx]
   exact qB hi (by simp) hf fun k r' hk hr' _=>by simp;omega
 have hstep:∀i,((p≤i∧i<j)∨(j≤i∧i<p))→dh (find (a_ rs (i+1) st).mem id)=dh (find (a_ rs i st).mem id):=by
  intro i hi
  by_cases hw:∃f,rs[i]?=some f∧find f.d.ag id≠none
  ·obtain⟨f,k1,k2⟩:=hw
   rcases hW i f k1 k2 with h1|h1
   ·rw[hpw i f k1 k2] at h1
    have:(i<p)↔(i<j):=by simpa using h1
    omega
   ·rw[qs i f k1 k2,←(h.keeps k1 h1 k2).1]
  ·rw[sG i fun f hf=>by
    cases hx:find f.d.ag id with
    |none=>rfl
    |some b=>exact absurd ⟨f,hf,by rw[hx];simp⟩ hw]
 have hchain:∀d i,((p≤i∧i+d≤j)∨(j≤i∧i+d≤p))→dh (find (a_ rs (i+d) st).mem id)=dh (find (a_ rs i st).mem id):=by
  intro d
  induction d with
  |zero=>intro i _;rfl
  |succ d ih=>
   intro i hi
   rw[show i+(d+1)=(i+d)+1 by omega,hstep (i+d) (by omega),ih i (by omega)]
 have kj:∀i,((p≤i∧i≤j)∨(j≤i∧i≤p))→dh (find (a_ rs i st).mem id)=dh (find (a_ rs j st).mem id):=by
  intro i hi
  rcases Nat.le_total i j with hij|hij
  ·have:=hchain (j-i) i (by omega)
   rw[show i+(j-i)=j by omega] at this
   exact this.symm
  ·have:=hchain (i-j) j (by omega)
   rw[show j+(i-j)=i by omega] at this
   exact this
 refine⟨by rw[hmem];exact kj p (by omega),fun s fz t a hv=>?_⟩
 rw[←jx]
 refine kA (fun k f hk hw=>?_) rfl
 rcases hW k f hk hw with h0|hks
 ·exact h0
 ·by_cases hne:L k=decide (k<j)
  ·exact hne
  ·exfalso
   rw[hpw k f hk hw] at hne
   have hbt:(p≤k∧k<j)∨(j≤k∧k<p):=by
    by_cases h1:k<p<;>by_cases h2:k<j<;>simp[h1,h2] at hne<;>omega
   obtain⟨_,s',fz',t',ys',hrow⟩:=h.keeps hk hks hw
   have h1:=kj (k+1) (by omega)
   rw[qs k f hk hw,hrow,hv] at h1
   simp[dh,BC.kind] at h1
def bT.vp (h:bT C n ops st st' rs ah){j:Nat}{r:Rec}(hr:rs[j]?=some r)(hv:eU r=true)(fA:jV r.o=false)(hL:L j=false)(bK:jO ah L)(fH:∀i,ah i j→L i=true){id:Nat}(hid:dK r.D id=true) :
  iy (bL L rs (find st.mem) id) (find (a_ rs j st).mem id):=by
 have hjw:find r.d.ag id=none:=by rw[(h.pN hr hv).2];rfl
 have hB:∀i k f g,i<k→rs[i]?=some f→rs[k]?=some g→find f.d.ag id≠none→find g.d.ag id≠none→L k=true→L i=true:=by
  intro i k f g hik hi hk kQ hgk fm
  have hgs:eG g.o=false:=by
   cases hs:eG g.o with
   |false=>rfl
   |true=>exact absurd (by rw[(h.pG hk hs).2];rfl) hgk
  have hgd:dK g.D id=true:=by
   cases hf:find g.d.ag id with
   |none=>grind
   |some b=>exact(h.did hk).2.2.2.1 _ (eS hf)
  have hgv:eU g=false:=by
   cases hs:eU g with
   |false=>rfl
   |true=>exact absurd (by rw[(h.pN hk hs).2];rfl) hgk
  rcases h.ni hi hk (by omega) kQ hgd (by grind) (qt hgv) with h1|h1
  ·exact bK _ _ h1 fm
  ·have:=h.lt _ _ h1;omega
 have hW:∀k f,rs[k]?=some f→find f.d.ag id≠none→L k=decide (k<j)∨f.kv=true:=by
  intro k f hk hw
  cases hks:f.kv with
  |true=>simp
  |false=>
   left
   have gA:k≠j:=by grind
   rcases h.ni hk hr gA hw hid (by rw[hks,yG hv,zl74];rfl) fA with h1|h1
   ·have:=h.lt _ _ h1
    simp[fH k h1,this]
   ·have hlt:=h.lt _ _ h1
    have:¬k<j:=by omega
    simp only[this,zl75]
    cases fm:L k with
    |false=>rfl
    |true=>have:=bK _ _ h1 fm;rw[hL] at this;cases this
 have hp:∀n,∃p,p≤n∧(∀i f,rs[i]?=some f→find f.d.ag id≠none→p≤i→i<n→L i=false)∧(p=0∨∃q f,p=q+1∧rs[q]?=some f∧find f.d.ag id≠none∧L q=true):=by
  intro n
  induction n with
  |zero=>exact⟨0,bA _,fun i f _ _ _ hi=>by omega,.inl rfl⟩
  |succ n ih=>
   obtain⟨p,h1,h2,h3⟩:=ih
   by_cases hq:∃f,rs[n]?=some f∧find f.d.ag id≠none∧L n=true
   ·obtain⟨f,k1,k2,k3⟩:=hq
    exact⟨n+1,bA _,fun i f _ _ hi hi'=>by omega,.inr ⟨n,f,rfl,k1,k2,k3⟩⟩
   ·refine⟨p,by omega,fun i f hi hw aJ hin=>?_,h3⟩
    by_cases e:i=n
    ·subst e
     cases hLi:L i with
     |false=>rfl
     |true=>exact absurd ⟨f,hi,hw,hLi⟩ hq
    ·exact h2 i f hi hw aJ (by omega)
 obtain⟨p,p1,p2,p3⟩:=hp rs.length
 have hpw:∀k f,rs[k]?=some f→find f.d.ag id≠none→L k=decide (k<p):=by
  intro k f hk hw
  have hkl:k<rs.length:=(nX.1 hk).1
  by_cases hkp:k<p
  ·rcases p3 with p3|⟨q,g,e,q1,q2,q3⟩
   ·omega
   ·by_cases e':k=q
    ·subst e';simp[q3,hkp]
    ·rw[hB k q f g (by omega) hk q1 hw q2 q3]
     simp[hkp]
  ·rw[p2 k f hk hw (by omega) hkl]
   simp[hkp]
 have hmem:bL L rs (find st.mem) id=find (a_ rs p st).mem id:=by
  rw[←jx]
  exact kA hpw rfl
 have sG:∀i,(∀f,rs[i]?=some f→find f.d.ag id=none)→find (a_ rs (i+1) st).mem id=find (a_ rs i st).mem id:=by
  intro i hn
  rw[←jx,←jx]
  refine kA (fun k f hk hw=>?_) rfl
  by_cases e:k=i
  ·subst e;exact absurd (hn f hk) hw
  ·have:(k<i+1)↔k<i:=by omega
   simp[this]
 have qs:∀i f,rs[i]?=some f→find f.d.ag id≠none→find (a_ rs (i+1) st).mem id=find f.d.ag id:=by
  intro i f hi hw
  cases hf:find f.d.ag id with
  |none=>exact absurd hf hw
  |some b=>
   rw[←jx]
   exact qB hi (by simp) hf fun k r' hk hr' _=>by simp;omega
 have hstep:∀i,((p≤i∧i<j)∨(j≤i∧i<p))→iy (find (a_ rs (i+1) st).mem id) (find (a_ rs i st).mem id):=by
  intro i hi
  by_cases hw:∃f,rs[i]?=some f∧find f.d.ag id≠none
  ·obtain⟨f,k1,k2⟩:=hw
   rcases hW i f k1 k2 with h1|h1
   ·rw[hpw i f k1 k2] at h1
    have:(i<p)↔(i<j):=by simpa using h1
    omega
   ·rw[qs i f k1 k2]
    obtain⟨e1,e2⟩:=h.kv k1 h1 k2
    exact .inr ⟨e2,e1⟩
  ·rw[sG i fun f hf=>by
    cases hx:find f.d.ag id with
    |none=>rfl
    |some b=>exact absurd ⟨f,hf,by rw[hx];simp⟩ hw]
   exact .inl rfl
 have hchain:∀d i,((p≤i∧i+d≤j)∨(j≤i∧i+d≤p))→iy (find (a_ rs (i+d) st).mem id) (find (a_ rs i st).mem id):=by
  intro d
  induction d with
  |zero=>intro i _;exact .inl rfl
  |succ d ih=>
   intro i hi
   exact(show iy (find (a_ rs (i+d+1) st).mem id) _ from hstep (i+d) (by omega)).trans (ih i (by omega))
 rw[hmem]
 rcases Nat.le_total p j with hij|hij
 ·have:=hchain (j-p) p (by omega)
  rw[show p+(j-p)=j by omega] at this
  exact this.symm
 ·have:=hchain (p-j) j (by omega)
  rw[show j+(p-j)=p by omega] at this
  exact this
def bT.xu (h:bT C n ops st st' rs ah){j:Nat}{r:Rec}(hr:rs[j]?=some r)(hL:L j=false)(bK:jO ah L)(fH:∀i,ah i j→L i=true){s:Nat}(hs:s∈lQ ops r.o) :
  dP L rs (find st.env) s=find (a_ rs j st).env s:=by
 rw[←oq]
 refine nj (fun k f hk hw=>?_) rfl
 by_cases gA:k=j
 ·grind
 ·rcases h.edgeS hk hr gA hw hs with h1|h1
  ·have:=h.lt _ _ h1
   simp[fH k h1,this]
  ·have hlt:=h.lt _ _ h1
   have:¬k<j:=by omega
   simp[this]
   cases fm:L k with
   |false=>rfl
   |true=>have:=bK _ _ h1 fm;rw[hL] at this;cases this
def bT.slot (h:bT C n ops st st' rs ah){k:Nat}{r:Rec}(hr:rs[k]?=some r)(hL:L k=true){s:Nat}(hs:r.o.dst=some s)(e:EF):dP L rs e s=some (jK r.T r.d.av):=
 uz hr hL hs fun k' r' hk hr' hs'=>by have:=h.qa _ _ _ _ _ hr hr' hs hs';omega
def bT.tags (h:bT C n ops st st' rs ah):∀(j:Nat) {r:Rec},rs[j]?=some r→∀t∈r.T,∃k r',k<j∧rs[k]?=some r'∧r'.o.dst=some t.1 ∧
  ∀L,jO ah L→(∀i,ah i j→L i=true)→L k=true:=by
 intro j
 induction j using Nat.strongRecOn with
 |_ j ih=>
 intro r hr t ht
 obtain⟨hg,_⟩:=h.did hr
 unfold guardOf at hg
 cases hgd:r.o.guard with
 |none=>grind
 |some gw=>
  obtain⟨g,b⟩:=gw
  rw[hgd] at hg
  simp only[cq] at hg
  obtain⟨s,hs,hT⟩:=hg
  have hgj:=h.back j r g b hr hgd
  have sC:=vi hgd hs
  rw[jB,←h.vJ] at hs
  simp[List.getElem?_map,Option.bind_map] at hs
  obtain⟨rg,hrg,hsg⟩:=l9.1 hs
  have hLg:∀L,jO ah L→(∀i,ah i j→L i=true)→L g=true:=by
   rcases h.edgeS hrg hr (by omega) hsg sC with h1|h1
   ·grind
   ·have:=h.lt _ _ h1;omega
  have jk:find (a_ rs j st).env s=some (jK rg.T rg.d.av):=by
   rw[←oq]
   exact h.slot hrg (by grind) hsg _
  rw[←hT] at ht
  have first:t=(s,b)→∃k r',k<j∧rs[k]?=some r'∧r'.o.dst=some t.1∧∀L,jO ah L→(∀i,ah i j→L i=true)→L k=true:=
   fun e=>⟨g,rg,hgj,hrg,by grind,hLg⟩
  unfold l6 at ht
  split at ht
  ·rename_i A e hf
   rcases bN.1 ht with e1|ht
   ·exact first e1
   ·rw[jk] at hf
    have:A=rg.T:=by
     unfold jK at hf
     split at hf
     ·split at hf<;>simp at hf
      rename_i hn
      exact absurd hf (hn _ _)
     ·simp[AT.bS.injEq] at hf;exact hf.1.symm
    subst this
    obtain⟨k,r',h1,h2,h3,h4⟩:=ih g hgj hrg t ht
    exact⟨k,r',by omega,h2,h3,fun L bK fH=>h4 L bK fun i hi=>bK i g hi (hLg L bK fH)⟩
  ·rcases bN.1 ht with e1|ht
   ·exact first e1
   ·simp at ht
end
end
section
variable {P:Program} {F:Fix} {C:Cx} {o:Oper} {a:Act} {w w':World} {m:MF} {I I':Nat→Prop} {ρ:Pl} {d:aD}
variable {n:Nat} {K:eO} {ops:List Oper} {st st':St} {rs:List Rec} {ah:Nat→Nat→Prop} {L:Nat→Bool}
def vS (a:Act)(s:Option Nat)(v:Value):(a.put s v).tmps.size=a.tmps.size:=by cases s<;>simp[Act.put]
def put_defers (a:Act)(s:Option Nat)(v:Value):(a.put s v).defers=a.defers:=by cases s<;>simp[Act.put]
def vR (a:Act)(s:Nat)(v:Value)(h:s<a.tmps.size):(a.put (some s) v).tmps.getD s Go.undef=v:=by simp[Act.put,h]
def qL (a:Act)(s:Option Nat)(t:Nat)(v:Value)(h:s≠some t):(a.put s v).tmps.getD t Go.undef=a.tmps.getD t Go.undef:=by
 cases s with
 |none=>rfl
 |some s=>
  have:s≠t:=fun e=>h (e▸rfl)
  simp[Act.put,Array.getElem?_setIfInBounds_ne this]
def iC.tmps {tmps tmps':Array Value}{av:AT}{v:Value}(h:iC w I m ρ tmps av v)(ht:∀T b,av = .bS T b→∀t∈T,tmps'.getD t.1 Go.undef=tmps.getD t.1 Go.undef) :
  iC w I m ρ tmps' av v:=by
 cases av with
 |bS T b=>
  have:fh tmps' T↔fh tmps T:=by
   constructor
   ·intro h1 t jq;rw[←ht T b rfl t jq];exact h1 t jq
   ·intro h1 t jq;rw[ht T b rfl t jq];exact h1 t jq
  exact⟨fun h1=>h.1 (this.1 h1),fun h1=>h.2 fun h2=>h1 (this.2 h2)⟩
 |_=>exact h
def wI (b:Bool):Go.undef ≠ .bool b:=by intro h;cases h
def An {ops:Array Oper}{tmps:Array Value}{g s:Nat}{b:Bool}(hs:(ops[g]?).bind (·.dst)=some s):yielded ops tmps g=some b↔tmps.getD s Go.undef = .bool b:=by
 unfold yielded
 rw[hs]
 simp only[zl24]
 rw[Array.getD_eq_getD_getElem?]
 cases hv:tmps[s]? with
 |none=>constructor<;>intro h<;>cases h
 |some v=>
  grind
def bT.slots (h:bT C n ops st st' rs ah){j:Nat}{r:Rec}(hr:rs[j]?=some r)(hL:L j=false)(bK:jO ah L){tmps tmps':Array Value}
  (hold:∀t,r.o.dst≠some t→tmps'.getD t Go.undef=tmps.getD t Go.undef)
  (henv:∀s av,dP L rs (find st.env) s=some av→iC w I m ρ tmps av (tmps.getD s Go.undef))
  (hnew:∀s,r.o.dst=some s→iC w I m ρ tmps' (jK r.T r.d.av) (tmps'.getD s Go.undef)) :
  ∀s av,dP (iB L j) rs (find st.env) s=some av→iC w I m ρ tmps' av (tmps'.getD s Go.undef):=by
 intro s av bC
 by_cases hs:r.o.dst=some s
 ·rw[h.slot hr (by simp[iB]) hs] at bC
  cases bC
  exact hnew s hs
 ·have hsame:dP (iB L j) rs (find st.env) s=dP L rs (find st.env) s:=by
   refine nj (fun k f hk hw=>?_) rfl
   unfold iB
   by_cases gA:k=j
   ·subst gA;rw[hr] at hk;cases hk;exact absurd hw hs
   ·simp[gA]
  rw[hsame] at bC
  have h1:=henv s av bC
  rw[hold s hs]
  refine h1.tmps fun T b e t ht=>hold t.1 fun hd=>?_
  subst e
  by_cases hex:∃k f,rs[k]?=some f∧L k=true∧f.o.dst=some s
  ·obtain⟨k,f,hk,fm,hf⟩:=hex
   rw[h.slot hk fm hf] at bC
   have hT:f.T=T:=by
    simp[] at bC
    unfold jK at bC
    split at bC
    ·split at bC
     ·cases bC
     ·rename_i hn
      exact absurd bC (hn _ _)
    ·simp[AT.bS.injEq] at bC;exact bC.1
   subst hT
   obtain⟨k2,f2,_,hk2,hf2,hin⟩:=h.tags k hk t ht
   have:=hin L bK fun i hi=>bK i k hi fm
   have e:=h.qa _ _ _ _ _ hk2 hr hf2 hd
   subst e
   rw[hL] at this
   cases this
  ·have:dP L rs (find st.env) s=find st.env s:=by
    have h2:dP L rs (find st.env) s=dP (fun _=>false) rs (find st.env) s:=by
     refine nj (fun k f hk hw=>?_) rfl
     cases fm:L k with
     |false=>rfl
     |true=>exact absurd ⟨k,f,hk,fm,hw⟩ hex
    rw[h2,ot]
   rw[this] at bC
   exact absurd bC (h.e0 s T b)
def bT.mems (h:bT C n ops st st' rs ah){j:Nat}{r:Rec}(hr:rs[j]?=some r)(hL:L j=false)(bK:jO ah L) :
  bL (iB L j) rs (find st.mem)=MF.ag (bL L rs (find st.mem)) r.d.ag:=by
 funext id
 cases hf:find r.d.ag id with
 |none=>
  have:MF.ag (bL L rs (find st.mem)) r.d.ag id=bL L rs (find st.mem) id:=by simp[MF.ag,hf]
  rw[this]
  refine kA (fun k f hk hw=>?_) rfl
  unfold iB
  by_cases gA:k=j<;>grind
 |some b=>
  have:MF.ag (bL L rs (find st.mem)) r.d.ag id=some b:=by simp[MF.ag,hf]
  rw[this]
  refine qB hr (by simp[iB]) hf fun k f hjk hk hw=>?_
  have gA:k≠j:=by omega
  simp[iB,gA]
  have nq:=(h.did hr).2.2.2.1 _ (eS hf)
  have hrs:eG r.o=false:=by
   cases hs:eG r.o with
   |false=>rfl
   |true=>rw[(h.pG hr hs).2] at hf;trivial
  have hrv:eU r=false:=by
   cases hs:eU r with
   |false=>rfl
   |true=>rw[(h.pN hr hs).2] at hf;trivial
  rcases h.ni hk hr gA hw nq (by grind) (qt hrv) with h1|h1
  ·have:=h.lt _ _ h1;omega
  ·cases fm:L k with
   |false=>rfl
   |true=>have:=bK _ _ h1 fm;grind
def wz {env:List (Nat×AT)}{tmps:Array Value}:∀{T:eP},fh tmps T→(∀t∈T,Reads w I m ρ tmps env t.1)→jG env T=true:=by
 have one:∀{T:eP},fh tmps T→(∀t∈T,Reads w I m ρ tmps env t.1)→∀t∈T,l5 env t.1 t.2=true:=by
  intro T hT hr t ht
  have hv:=hT t ht
  have h1:=hr t ht
  unfold l5
  split
  ·rename_i b hf
   have h2:=h1 _ hf
   rw[hv] at h2
   have:=f_.1 (show aj w I m ρ (.leaf .bool b) (.bool t.2) from h2)
   cases this
   cases t.2<;>rfl
  ·rename_i A b hf
   have h2:=h1 _ hf
   rw[hv] at h2
   by_cases hA:fh tmps A
   ·have:=f_.1 (h2.1 hA)
    cases this
    cases t.2<;>rfl
   ·exact absurd (h2.2 hA).symm (wI _)
  ·rfl
 intro T hT hr
 have h1:=one hT hr
 induction T with
 |nil=>rfl
 |cons t T ih=>
  have h2:=h1 t (by simp)
  cases T with
  |nil=>exact h2
  |cons u T=>
   obtain⟨s,b⟩:=t
   show(l5 env s b&&jG env (u::T))=true
   rw[show l5 env s b=true from h2,ih (fun t ht=>hT t (by simp[ht])) (fun t ht=>hr t (by simp[ht])) (fun t ht=>h1 t (by simp[ht]))]
   rfl
def uW {env:List (Nat×AT)}{tmps:Array Value}:∀{T:eP},oN env T=true→(∀t∈T,Reads w I m ρ tmps env t.1)→jG env T=true→fh tmps T
 | [],_,_,_=>fun t ht=>by grind
 | (s,b)::T,hk,hr,hb=>by
  simp[oN] at hk
  obtain⟨hk1,hk2⟩:=hk
  have hb':l5 env s b=true∧jG env T=true:=by
   cases T<;>simp_all [jG]
  have ih:=uW hk2 (fun t ht=>hr t (gZ _ ht)) hb'.2
  have h1:=hr (s,b) me
  intro t ht
  rcases bN.1 ht with e|ht
  ·subst e
   have h3:=hb'.1
   unfold l5 at h3
   split at hk1
   ·rename_i c hf
    have h2:=h1 _ hf
    have:=f_.1 (show aj w I m ρ (.leaf .bool c) _ from h2)
    rw[hf] at h3
    rw[this]
    cases b<;>cases c<;>simp at h3 ⊢
   ·rename_i A c hf
    have h2:=h1 _ hf
    have hA:=tB hk1 ih
    have:=f_.1 (h2.1 hA)
    rw[hf] at h3
    rw[this]
    cases b<;>cases c<;>simp at h3 ⊢
   ·cases hk1
  ·exact ih t ht
end
section
variable {P:Program} {F:Fix} {C:Cx} {o:Oper} {a:Act} {w w':World} {m:MF} {I I':Nat→Prop} {ρ:Pl} {d:aD}
variable {n:Nat} {K:eO} {ops:List Oper} {st st':St} {rs:List Rec} {ah:Nat→Nat→Prop} {L:Nat→Bool}
def iO (F:Fix)(n:Nat)(K:eO)(rs:List Rec)(st:St)(L:Nat→Bool)(a:Act)(w:World):Prop:=∃I ρ,RInv F n K rs st L a w I ρ
def zd {l:List Bool}(h:∀b∈qE true l,b=true):∀b∈l,b=true:=by
 intro b hb
 have:(!true || b)∈qE true l:=by unfold qE;rw[jw];grind
 grind
def rU {av:AT}{tmps:Array Value}{v:Value}(h:aj w I m ρ av v)(hn:∀A b,av = .bS A b→False):iC w I m ρ tmps av v:=by
 cases av with
 |bS A b=>grind
 |_=>exact h
def sg {β:Type}:∀{l:List (Nat×β)} {x:Nat×β},(l.map (·.1)).Nodup→x∈l→find l x.1=some x.2
 | [],x,_,h=>by grind
 | (i,b)::l,x,hn,h=>by
  simp only[mT,dN] at hn
  rw[aF]
  rcases bN.1 h with e|h
  ·grind
  ·have:i≠x.1:=fun e=>hn.1 (e▸gG.2 ⟨x,h,rfl⟩)
   rw[cT this]
   exact sg hn.2 h
def bT.step (h:bT C n ops st st' rs ah)(hC:bR P C)(hF:eN P F.G C){j:Nat}{r:Rec}(hr:rs[j]?=some r)(hL:L j=false)(bK:jO ah L)(fH:∀i,ah i j→L i=true)
  (hok:∀b∈okT (a_ rs j st).env r.T r.d.ok,b=true) {Q:Exit→Act→World→Prop} {Kt:Act→World→Prop} (hinv:iO F n K rs st L a w)
  (hK:∀a' w',iO F n K rs st (iB L j) a' w'→Kt a' w'):wpOp P ops.toArray Q j Kt a w:=by
 obtain⟨I,ρ,hi⟩:=hinv
 obtain⟨hg,hD,hd,d_,hclo,hrd⟩:=h.did hr
 obtain⟨bC,hokE,hmg⟩:=vV hrd
 rw[hokE] at hok
 have hup0:∀x∈r.d0.ag,dK r.D x.1=true:=by
  intro x hx
  have:x.1∈r.d.ag.map (·.1):=by rw[qM hrd];grind
  grind
 have hop:=h.op hr
 have sE:∀s,s∈lQ ops r.o→Reads w I (bL L rs (find st.mem)) ρ a.tmps (a_ rs j st).env s:=by
  intro s hs av bC
  exact hi.env s av (by rw[h.xu hr hL bK fH hs];grind)
 have sH:∀t∈r.T,Reads w I (bL L rs (find st.mem)) ρ a.tmps (a_ rs j st).env t.1:=by
  intro t ht av bC
  obtain⟨k,f,gA,hk,hf,hin⟩:=h.tags j hr t ht
  have fm:=hin L bK fH
  refine hi.env t.1 av ?_
  rw[h.slot hk fm hf]
  rw[←oq,h.slot hk (by grind) hf] at bC
  omega
 have gO:jV r.o=false→jQ C (a_ rs j st).env r.T ((bL L rs (find st.mem)).on (dK r.D)) r.o=some r.d0:=by
  intro fA
  cases hsh:eG r.o with
  |false=>
   cases hvs:eU r with
   |false=>
    have hview:view (a_ rs j st).mem r.D=(bL L rs (find st.mem)).on (dK r.D):=by
     funext id
     unfold view MF.on
     cases hid:dK r.D id with
     |false=>rfl
     |true=>simp only[dW];exact(h.sP hr hL bK fH hid hsh hvs).symm
    grind
   |true=>
    have hall:∀id,iy ((bL L rs (find st.mem)).on (dK r.D) id) (view (a_ rs j st).mem r.D id):=by
     intro id
     unfold view MF.on
     cases hid:dK r.D id with
     |false=>exact .inl rfl
     |true=>simp only[dW];exact h.vp hr hvs fA hL bK fH hid
    unfold eU at hvs
    unfold jQ at hd ⊢
    split at hd
    ·grind
    ·cases ho:r.o.op with
     |move x=>
      unfold dF at hd ⊢
      rw[ho] at hd ⊢
      exact hd
     |nilCheck x=>
      unfold dF at hd ⊢
      rw[ho] at hd ⊢
      rw[ho] at hvs
      cases ha:r.d0.av with
      |aR i s p=>exact yY hall hd ha
      |_=>rw[ha] at hvs;cases hvs
     |fieldAddr T x f=>
      unfold dF at hd ⊢
      rw[ho] at hd ⊢
      rw[ho] at hvs
      cases ha:r.d0.av with
      |aR i s p=>exact xz hall hd ha
      |_=>rw[ha] at hvs;cases hvs
     |_=>rw[ho] at hvs;cases hvs
  |true=>
   have hall:∀id,dh (view (a_ rs j st).mem r.D id)=dh ((bL L rs (find st.mem)).on (dK r.D) id):=by
    intro id
    unfold view MF.on
    cases hid:dK r.D id with
    |false=>rfl
    |true=>simp only[dW];exact(h.vn hr hsh hL bK fH hid).1.symm
   unfold eG at hsh
   unfold jQ at hd ⊢
   split at hd
   ·rename_i ho;rw[ho] at hsh;cases hsh
   ·cases ho:r.o.op with
    |indexAddr T x i=>
     unfold dF at hd ⊢
     rw[ho] at hd ⊢
     simp only at hd ⊢
     split at hd
     ·rename_i k hk
      exact yw (fun id _=>hall id) hd
     ·cases hd
    |_=>rw[ho] at hsh;cases hsh
 have hclo':jV r.o=false→mW (bL L rs (find st.mem)) (dK r.D):=by
  intro fA id b t x hid hb hc
  cases hsh:eG r.o with
  |false=>
   cases hvs:eU r with
   |false=>
    rw[h.sP hr hL bK fH hid hsh hvs] at hb
    exact hclo id b t x hid hb hc
   |true=>
    rcases h.vp hr hvs fA hL bK fH hid with e|⟨e,_⟩
    ·rw[e] at hb
     exact hclo id b t x hid hb hc
    ·rw[hb] at e
     obtain⟨s,fz,c⟩:=b
     simp only at hc
     subst hc
     cases e
  |true=>
   obtain⟨k1,k2⟩:=h.vn hr hsh hL bK fH hid
   have hv:∃s fz a,find (a_ rs j st).mem id=some ⟨s,fz,.var t a⟩:=by
    rw[hb] at k1
    obtain⟨s,fz,c⟩:=b
    simp only at hc
    subst hc
    unfold dh at k1
    cases hm:find (a_ rs j st).mem id with
    |none=>rw[hm] at k1;cases k1
    |some b'=>
     rw[hm] at k1
     obtain⟨s',fz',c'⟩:=b'
     simp only[zl23,aX,jX] at k1
     obtain⟨_,e2⟩:=k1
     cases c'<;>simp[BC.kind] at e2
     subst e2
     exact⟨_,_,_,rfl⟩
   obtain⟨s,fz,a,hv⟩:=hv
   rw[k2 s fz t a hv] at hb
   exact hclo id b t x hid hb hc
 have hwant:Region.wanted r.o (yielded ops.toArray a.tmps)=true↔fh a.tmps r.T:=by
  unfold guardOf at hg
  unfold Region.wanted
  cases hgd:r.o.guard with
  |none=>
   rw[hgd] at hg
   simp only[aX] at hg
   rw[←hg]
   simp[fh]
  |some gw=>
   obtain⟨g,b⟩:=gw
   rw[hgd] at hg
   simp only[cq] at hg
   obtain⟨s,hs,hT⟩:=hg
   have sC:=vi hgd hs
   have hs':(ops.toArray[g]?).bind (·.dst)=some s:=by rw[jB] at hs;simpa using hs
   have hin:(s,b)∈r.T:=by
    rw[←hT];unfold l6;split<;>simp
   simp only[zl78]
   rw[An hs']
   constructor
   ·intro hv t ht
    rw[←hT] at ht
    unfold l6 at ht
    split at ht
    ·rename_i A e hf
     rcases bN.1 ht with e1|ht
     ·subst e1;exact hv
     ·have h1:=sE s sC _ hf
      by_cases hA:fh a.tmps A
      ·exact hA t ht
      ·have:=h1.2 hA
       rw[hv] at this
       exact absurd this.symm (wI _)
    ·rcases bN.1 ht with e1|ht
     ·subst e1;exact hv
     ·simp at ht
   ·intro hT';exact hT' _ hin
 unfold wpOp
 simp only[List.getElem?_toArray,hop]
 by_cases hw:fh a.tmps r.T
 ·rw[bQ (hwant.2 hw)]
  refine .inl ?_
  have ql:∀b∈r.d0.ok,b=true:=by
   intro b hb
   unfold okT at hok
   split at hok
   ·exact hok b hb
   ·rw[wz hw sH] at hok
    exact zd hok b hb
  have hgives:az P F r.o a w (bL L rs (find st.mem)) I ρ r.d0:=by
   cases fA:jV r.o with
   |true=>
    refine uw (p:=fun _=>true) hC hF hi.mem (fun _ _ _ _ _ _ _ _ _=>rfl) (fun _ _=>rfl) (fun s hs=>sE s (vj hs)) hw (fun _ _ _ _=>rfl) ?_ ql
    unfold jV at fA
    unfold jQ at hd ⊢
    cases ho:r.o.op<;>simp only[ho,reduceCtorEq] at fA
    rw[ho] at hd
    unfold dF at hd ⊢
    rw[ho] at hd ⊢
    exact hd
   |false=>
   refine uw (p:=dK r.D) hC hF hi.mem (hclo' fA) hup0 (fun s hs=>sE s (vj hs)) hw ?_ (gO fA) ql
   intro x hx id hid
   rw[hD]
   exact yu (yR (x:=iz C (a_ rs j st).env r.T x) (by rw[jw];exact gG.2 ⟨x,mU.2 hx,rfl⟩) hid)
  refine hgives _ _ fun v w' I' ρ0 hdn0 hs0=>?_
  have hmrg:∃ρ',aB F (bL L rs (find st.mem)) (MF.ag (bL L rs (find st.mem)) r.d.ag) w w' I I' ρ ρ'∧aj w' I' (MF.ag (bL L rs (find st.mem)) r.d.ag) ρ' r.d.av v:=by
   rw[bC]
   rcases hmg with⟨e,_⟩|⟨_,hU⟩
   ·rw[e];exact⟨ρ0,hdn0,hs0⟩
   ·have jq:jG (a_ rs j st).env r.T=true:=wz hw sH
    rw[jq] at hU
    obtain⟨hid,aE⟩:=oT hU
    obtain⟨ρ',kf⟩:=sV hU hdn0.mem fun x hx=>⟨fun e=>(by cases e),fun _=>(by simp[MF.ag,sg aE hx])⟩
    have hup2:MF.ag (MF.ag (bL L rs (find st.mem)) r.d0.ag) r.d.ag=MF.ag (bL L rs (find st.mem)) r.d.ag:=by
     funext id
     simp only[MF.ag]
     cases hf:find r.d.ag id with
     |some b=>rfl
     |none=>
      have:find r.d0.ag id=none:=by
       cases hf0:find r.d0.ag id with
       |none=>rfl
       |some b0=>
        have h1:id∈r.d.ag.map (·.1):=by rw[hid];exact gG.2 ⟨_,eS hf0,rfl⟩
        obtain⟨y,hy,he⟩:=gG.1 h1
        have:=sg (l:=r.d.ag) (by rw[hid];exact aE) hy
        rw[he,hf] at this
        cases this
      simp[this]
    rw[hup2] at kf
    exact⟨ρ',hdn0.trans kf,hs0.mono kf.j7 kf.keep⟩
  obtain⟨ρ',hdn,hs⟩:=hmrg
  refine hK _ _ ⟨I',ρ',?_⟩
  have hmm:=h.mems hr hL bK
  rw[←hmm] at hdn hs
  refine⟨hdn.mem,?_,by rw[vS];exact hi.size,by rw[put_defers];exact hi.defers,hi.kept.mono hdn.keep⟩
  refine h.slots hr hL bK (tmps:=a.tmps) (fun t ht=>qL _ _ _ _ ht) (fun s av bC=>(hi.env s av bC).mono hdn.j7 hdn.keep) ?_
  intro s hs'
  have hput:(a.put r.o.dst v).tmps.getD s Go.undef=v:=by
   rw[hs'];exact vR _ _ _ (by rw[hi.size];exact h.tmps r s (List.mem_of_getElem? hr) hs')
  rw[hput]
  have htag:fh (a.put r.o.dst v).tmps r.T:=by
   intro t ht
   obtain⟨k,f,gA,hk,hf,_⟩:=h.tags j hr t ht
   rw[qL]
   ·exact hw t ht
   ·intro e
    have:=h.qa _ _ _ _ _ hk hr hf e
    omega
  unfold jK
  split
  ·split
   ·trivial
   ·rename_i hn
    exact rU hs hn
  ·exact⟨fun _=>hs,fun hn=>absurd htag hn⟩
 ·rw[cT (fun h=>hw (hwant.1 h))]
  have hTne:r.T ≠ []:=by intro e;rw[e] at hw;exact hw (by simp[fh])
  have hmrg:∃ρ',aB F (bL L rs (find st.mem)) (MF.ag (bL L rs (find st.mem)) r.d.ag) w w I I ρ ρ':=by
   rcases hmg with⟨e,hTu⟩|⟨hkn,hU⟩
   ·have hu:r.d.ag = []:=by rw[e];exact hTu.resolve_left hTne
    rw[hu,MF.Ai]
    exact⟨ρ,aB.refl hi.mem⟩
   ·have jq:jG (a_ rs j st).env r.T=false:=by
     cases hb:jG (a_ rs j st).env r.T with
     |false=>rfl
     |true=>exact absurd (uW hkn sH hb) hw
    rw[jq] at hU
    exact sV hU hi.mem fun x hx=>⟨fun _=>h.sP hr hL bK fH (hup0 x hx) (by
     cases hs:eG r.o with
     |false=>rfl
     |true=>rw[(h.pG hr hs).1] at hx;cases hx) (by
     cases hs:eU r with
     |false=>rfl
     |true=>rw[(h.pN hr hs).1] at hx;cases hx),fun e=>(by cases e)⟩
  obtain⟨ρ',hdn⟩:=hmrg
  refine hK _ _ ⟨I,ρ',?_⟩
  have hmm:=h.mems hr hL bK
  rw[←hmm] at hdn
  refine⟨hdn.mem,?_,by rw[vS];exact hi.size,by rw[put_defers];exact hi.defers,hi.kept.mono hdn.keep⟩
  refine h.slots hr hL bK (tmps:=a.tmps) (fun t ht=>qL _ _ _ _ ht) (fun s av bC=>(hi.env s av bC).mono hdn.j7 hdn.keep) ?_
  intro s hs'
  have hput:(a.put r.o.dst Go.undef).tmps.getD s Go.undef=Go.undef:=by
   rw[hs'];exact vR _ _ _ (by rw[hi.size];exact h.tmps r s (List.mem_of_getElem? hr) hs')
  rw[hput]
  have htag:¬fh (a.put r.o.dst Go.undef).tmps r.T:=by
   intro hh
   refine hw fun t ht=>?_
   obtain⟨k,f,gA,hk,hf,_⟩:=h.tags j hr t ht
   have:=hh t ht
   rw[qL] at this
   ·exact this
   ·intro e
    have:=h.qa _ _ _ _ _ hk hr hf e
    omega
  unfold jK
  split
  ·rename_i e;exact absurd e hTne
  ·exact⟨fun hh=>absurd hh htag,fun _=>rfl⟩
end
section
variable {P:Program} {F:Fix} {C:Cx} {o:Oper} {a:Act} {w w':World} {m:MF} {I I':Nat→Prop} {ρ:Pl} {d:aD}
variable {n:Nat} {K:eO} {ops:List Oper} {st st':St} {rs:List Rec} {ah:Nat→Nat→Prop} {L:Nat→Bool}
def tU:∀{l:List Bool},kL l=true↔∀b∈l,b=true
 | []=>by trivial
 | [a]=>by simp[kL]
 |a::b::l=>by
  have ih:=tU (l:=b::l)
  simp_all [kL]
def hY.oks {ops:List Oper}:∀{st st':St} {rs:List Rec},hY C ops st rs st'→(∀b∈st'.ok,b=true)→(∀b∈st.ok,b=true)∧∀j r,rs[j]?=some r→∀b∈okT (a_ rs j st).env r.T r.d.ok,b=true
 |_,_,_,.nil _,h=>⟨h,fun j r hr=>by grind⟩
 |_,_,_,.cons (r:=r) h1 h2,h=>by
  obtain⟨e1,e2⟩:=h2.oks h
  refine⟨fun b hb=>e1 b (by unfold Rec.go;rw[bw];grind),fun j r' hr=>?_⟩
  cases j with
  |zero=>
   simp at hr
   subst hr
   intro b hb
   exact e1 b (by unfold Rec.go;rw[bw];exact .inl hb)
  |succ j=>exact e2 j r' (by grind)
def tT:∀(l:List Oper) (acc:List Nat),∃t,gr l acc=acc++t
 | [],acc=>⟨[],by simp[gr]⟩
 |o::l,acc=>by
  obtain⟨t,ht⟩:=tT l (app acc [gk acc o.after.toList])
  simp[gr]
  rw[ht,bY]
  simp
def tS:∀(l:List Oper) (acc:List Nat) (k:Nat) (o:Oper),l[k]?=some o →
  ∃pre,pre.length=acc.length+k∧(∃t,gr l acc=pre++t)∧(gr l acc)[acc.length+k]?=some (gk pre o.after.toList)
 | [],acc,k,o,h=>by grind
 |x::l,acc,0,o,h=>by
  simp at h
  subst h
  obtain⟨t,ht⟩:=tT l (app acc [gk acc x.after.toList])
  refine⟨acc,rfl,⟨[gk acc x.after.toList]++t,?_⟩,?_⟩
  ·simp[gr];rw[ht,bY];simp
  ·simp[gr];rw[ht,bY];simp
 |x::l,acc,k+1,o,h=>by
  obtain⟨pre,h1,h2,h3⟩:=tS l (app acc [gk acc x.after.toList]) k o (by grind)
  have hl:(app acc [gk acc x.after.toList]).length=acc.length+1:=by rw[bY];simp
  rw[hl] at h1 h3
  refine⟨pre,by omega,h2,?_⟩
  rw[show acc.length+(k+1)=acc.length+1+k by omega]
  trivial
def kM (ops:List Oper)(i j:Nat):Prop:=Nat.testBit ((cY (gr ops []) j).getD 0) i=true
def tQ {acc:List Nat}{i:Nat}:∀{es:List Edge},Nat.testBit (gk acc es) i=true→∃e∈es,Region.binds .any e=true∧(i=e.on∨Nat.testBit ((cY acc e.on).getD 0) i=true)
 | [],h=>by simp[gk] at h
 |e::es,h=>by
  have rest:Nat.testBit (gk acc es) i=true→∃x∈e::es,Region.binds .any x=true∧(i=x.on∨Nat.testBit ((cY acc x.on).getD 0) i=true):=fun h=>by
   obtain⟨x,h1,h2⟩:=tQ h
   grind
  simp[gk] at h
  have main:Nat.testBit (Nat.lor (Nat.lor (2 ^ e.on) ((cY acc e.on).getD 0)) (gk acc es)) i=true→Region.binds .any e=true→∃x∈e::es,Region.binds .any x=true∧(i=x.on∨Nat.testBit ((cY acc x.on).getD 0) i=true):=by
   grind
  split at h
  ·grind
  ·grind
  ·refine main h ?_
   unfold Region.binds
   split<;>simp_all
def tR {acc:List Nat}:∀{es:List Edge} {e:Edge},e∈es→Region.binds .any e=true→Nat.testBit (gk acc es) e.on=true
 |x::es,e,h,hb=>by
  simp[gk]
  rcases bN.1 h with he|h
  ·grind [Region.binds]
  ·have:=tR (acc:=acc) h hb
   split
   ·exact this
   ·exact this
   ·rw[Nat.testBit_or,this]
    simp
def n6 (ops:List Oper)(L:Nat→Bool)(j:Nat):Prop:=∀o,ops[j]?=some o→∀e∈o.after,Region.binds .any e=true→L e.on=true
def uf {j:Nat}{o:Oper}(ho:ops[j]?=some o):∃pre,pre.length=j∧(∃t,gr ops []=pre++t)∧(cY (gr ops []) j).getD 0=gk pre o.after.toList:=by
 obtain⟨pre,h1,h2,h3⟩:=tS ops [] j o ho
 rw[jB]
 grind
def rG:∀(l:List Oper) (acc:List Nat),(gr l acc).length=acc.length+l.length
 | [],acc=>rfl
 |o::l,acc=>by simp[gr];rw[rG,bY];grind
def ue (hL:∀j,L j=true→n6 ops L j):∀(j:Nat) {i:Nat},kM ops i j→n6 ops L j→L i=true:=by
 intro j
 induction j using Nat.strongRecOn with
 |_ j ih=>
 intro i h hj
 unfold kM at h
 cases ho:ops[j]? with
 |none=>
  have:cY (gr ops []) j=none:=by
   rw[jB]
   have h1:=rG ops []
   grind
  grind
 |some o=>
  obtain⟨pre,h1,⟨t,h2⟩,h3⟩:=uf ho
  rw[h3] at h
  obtain⟨e,he,hb,h4⟩:=tQ h
  have hLe:=hj o ho e (mU.1 he) hb
  rcases h4 with h4|h4
  ·grind
  ·have hlt:e.on<j:=by
    rcases Nat.lt_or_ge e.on pre.length with hh|hh
    ·omega
    ·rw[jB,zl8 hh] at h4
     simp at h4
   refine ih e.on hlt ?_ (hL _ hLe)
   unfold kM
   rw[h2,jB,eM (by omega),←jB]
   exact h4
def wY (hL:∀j,L j=true→n6 ops L j):jO (kM ops) L:=fun _ j h hj=>ue hL j h (hL j hj)
def sA {bits:List Nat}{fs:List pT}:∀{n j:Nat},free bits fs n=true→j<n→Nat.ble ((cY bits j).getD 0+1) (2 ^ j)=true ∧
  cH (fun i=>Nat.testBit ((cY bits j).getD 0) i || (match cY fs i,cY fs j with | some f,some g=>jP f g|_,_=>false)) (upto j)=true
 |0,j,_,h=>by omega
 |n+1,j,h,hj=>by
  simp only[free,bB] at h
  by_cases e:j=n
  ·grind
  ·exact sA h.1.1 (by omega)
def vr:∀{n i:Nat},i<n→i∈upto n
 |0,i,h=>by omega
 |n+1,i,h=>by
  unfold upto
  rw[bw]
  by_cases e:i=n
  ·grind
  ·exact .inl (vr (by omega))
def uG:∀{l:List Oper} {n i:Nat} {o:Oper} {g:Nat} {b:Bool},ox n l=true→l[i]?=some o→o.guard=some (g,b)→g<n+i
 | [],_,_,_,_,_,_,h,_=>by grind
 |x::l,n,0,o,g,b,hg,h,hh=>by
  simp at h
  subst h
  simp only[ox,hh,bB] at hg
  have:=fc hg.1
  omega
 |x::l,n,i+1,o,g,b,hg,h,hh=>by
  simp[ox] at hg
  have:=uG hg.2 (by trivial) hh
  omega
def uD {α β:Type}(f:α→Option β)(x:α)(l:List α):dY f (x::l)=match f x with | some y=>y::dY f l|none=>dY f l:=rfl
def ux:∀{l:List Oper},(dY (fun o=>o.dst) l).Nodup→∀{i j:Nat} {x y:Oper} {s:Nat},l[i]?=some x→l[j]?=some y→x.dst=some s→y.dst=some s→i=j
 | [],_,_,_,_,_,_,h,_,_,_=>by grind
 |z::l,aE,i,j,x,y,s,hx,hy,hsx,hsy=>by
  have dc:(dY (fun o=>o.dst) l).Nodup:=by
   rw[uD] at aE
   grind
  have head:∀{k:Nat} {u:Oper},z.dst=some s→l[k]?=some u→u.dst=some s→False:=by
   intro k u hz hu hs
   rw[uD,hz] at aE
   exact(dN.1 aE).1 (sQ.2 ⟨u,List.mem_of_getElem? hu,hs⟩)
  cases i with
  |zero=>
   grind
  |succ i=>
   cases j with
   |zero=>
    grind
   |succ j=>
    have hx':l[i]?=some x:=by grind
    have hy':l[j]?=some y:=by grind
    rw[ux dc hx' hy' hsx hsy]
def bT.of (hok:oZ n ops=true)(hr:hY C ops st rs st')(ho:rs.map (·.o)=ops)(he:∀s A b,find st.env s≠some (.bS A b))(hlt:∀i j,ah i j→i<j)
  (hsep:∀(i j:Nat) (f g:Rec),i<j→rs[i]?=some f→rs[j]?=some g→ah i j∨jP (f.gM ops) (g.gM ops)=true):bT C n ops st st' rs ah:=by
 simp[oZ,lU] at hok
 obtain⟨⟨h1,h2⟩,h3⟩:=hok
 have at_:∀{i:Nat} {r:Rec},rs[i]?=some r→ops[i]?=some r.o:=fun {i r} h=>by
  grind
 refine⟨hr,ho,fun i j ri rj s hi hj hsi hsj=>ux h1 (at_ hi) (at_ hj) hsi hsj,fun i r g b hi hg=>by simpa using uG h2 (at_ hi) hg,hlt,hsep,he,fun r s hr hs=>?_⟩
 have hm:=ho▸gG.2 ⟨r,hr,rfl⟩
 have:=fR h3 r.o hm
 rw[hs] at this
 have:=fc this
 omega
end
section
variable {P:Program} {F:Fix} {C:Cx} {o:Oper} {a:Act} {w w':World} {m:MF} {I I':Nat→Prop} {ρ:Pl} {d:aD}
variable {n:Nat} {K:eO} {ops:List Oper} {st st':St} {rs:List Rec} {ah:Nat→Nat→Prop} {L:Nat→Bool}
structure pU (F:Fix) (n:Nat) (K:eO) (st:St) (a:Act) (w:World) (I:Nat→Prop) (ρ:Pl):Prop where
 mem:aC F (find st.mem) w I ρ
 env:∀s av,find st.env s=some av→aj w I (find st.mem) ρ av (a.tmps.getD s Go.undef)
 size:a.tmps.size=n
 defers:a.defers = []
 kept:Kept K (find st.mem) ρ w
structure Inv (F:Fix) (n:Nat) (K:eO) (st:St) (a:Act) (w:World):Prop where
 any:∃I ρ,pU F n K st a w I ρ
 nw:∀s A b,find st.env s≠some (.bS A b)
def Inv.start (h:Inv F n K st a w)(rs:List Rec):iO F n K rs st (fun _=>false) a w:=by
 obtain⟨⟨I,ρ,h1⟩,hn⟩:=h
 refine⟨I,ρ,by rw[nD];exact h1.mem,fun s av bC=>?_,h1.size,h1.defers,by rw[nD];exact h1.kept⟩
 rw[ot] at bC
 rw[nD]
 exact rU (h1.env s av bC) fun A b e=>hn s A b (e▸bC)
def iO.congr {L':Nat→Bool}(h:iO F n K rs st L a w)(hl:∀k,k<rs.length→L k=L' k):iO F n K rs st L' a w:=by
 obtain⟨I,ρ,h⟩:=h
 have hm:bL L rs (find st.mem)=bL L' rs (find st.mem):=by
  funext id
  exact kA (fun k r hk _=>hl k (nX.1 hk).1) rfl
 have he:dP L rs (find st.env)=dP L' rs (find st.env):=by
  funext s
  exact nj (fun k r hk _=>hl k (nX.1 hk).1) rfl
 exact⟨I,ρ,hm▸h.mem,fun s av bC=>hm▸h.env s av (he▸bC),h.size,h.defers,hm▸h.kept⟩
def Inv.drew (h:Inv F n K st a w):Inv F n K st a { w with drawn:=w.drawn+1 }:=by
 obtain⟨⟨I,ρ,h1⟩,hn⟩:=h
 have hd:=aB.drew h1.mem
 exact⟨⟨I,ρ,hd.mem,fun s av bC=>(h1.env s av bC).mono hd.j7 hd.keep,h1.size,h1.defers,h1.kept.mono hd.keep⟩,hn⟩
def r9:∀(l:List (Nat×AT)) (s:Nat),find (kB l) s=(find l s).map fun a=>match a with | .bS _ _=>.any|a=>a
 | [],s=>rfl
 | (t,a)::l,s=>by
  have ih:=r9 l s
  cases a<;>simp[kB,aF]<;>by_cases h:t=s<;>simp[h,ih]
def iO.finish (h:iO F n K rs st (fun k=>decide (k<rs.length)) a w)(hr:hY C ops st rs st') :
  ∃I ρ,pU F n K st' a w I ρ:=by
 obtain⟨I,ρ,h⟩:=h
 have h1:=h.mem
 have h2:=h.env
 have h3:=h.kept
 rw[jx,hr.last] at h1 h2 h3
 rw[oq,hr.last] at h2
 refine⟨I,ρ,h1,fun s av bC=>?_,h.size,h.defers,h3⟩
 have:=h2 s av bC
 cases av with
 |bS A b=>trivial
 |_=>trivial
def hY.kB:∀{st st':St} {rs:List Rec},hY C ops st rs st'→(∀r∈rs,r.T = [])→(∀s A b,find st.env s≠some (.bS A b))→∀s A b,find st'.env s≠some (.bS A b)
 |_,_,_,.nil _,_,h=>h
 |_,_,_,.cons (r:=r) h1 h2,hT,h=>by
  refine h2.kB (fun r hr=>hT r (by grind)) fun s A b hf=>?_
  rw[uA] at hf
  unfold EF.put at hf
  have hTr:=hT r (by simp)
  cases hd:r.o.dst with
  |none=>simp_all
  |some t=>
   rw[hd] at hf
   simp at hf
   split at hf
   ·rw[hTr,aX] at hf
    exact Ak _ _ _ hf
   ·exact h s A b hf
def vW {draw:Bool}{r:St}(hd:pq C ops draw st=some r):∃st' rs,nK C ops ops st=some (st',rs) ∧
  (r=if bW (fun o=>o.guard.isSome) ops=true then { st' with env:=kB st'.env } else st')∧(draw=true→free (gr ops []) (bu (Rec.gM ops) rs) ops.length=true):=by
 unfold pq at hd
 grind
def vX {r:St}(hinv:Inv F n K st a w){a':Act}{w':World}(mH:nK C ops ops st=some (st',rs))(hr:r=if bW (fun o=>o.guard.isSome) ops=true then { st' with env:=kB st'.env } else st')
  (h:iO F n K rs st (fun k=>decide (k<rs.length)) a' w'):Inv F n K r a' w':=by
 obtain⟨hrun,hmap⟩:=qG mH
 obtain⟨I,ρ,h1⟩:=h.finish hrun
 cases hg:bW (fun o=>o.guard.isSome) ops with
 |true=>
  rw[hg,bQ rfl] at hr
  subst hr
  refine⟨⟨I,ρ,h1.mem,fun s av bC=>?_,h1.size,h1.defers,h1.kept⟩,fun s A b hf=>?_⟩
  ·simp[r9] at bC
   obtain⟨b,hb,e⟩:=bC
   have:=h1.env s b hb
   subst e
   cases b<;>first|exact this|trivial
  ·simp[r9] at hf
   obtain⟨b',hb,e⟩:=hf
   cases b'<;>simp at e
 |false=>
  rw[hg] at hr
  subst hr
  refine⟨⟨I,ρ,h1⟩,hrun.kB (fun x hx=>?_) hinv.nw⟩
  obtain⟨k,hk⟩:=List.getElem?_of_mem hx
  have h2:=hrun.at hk
  have hxo:=hmap▸gG.2 ⟨x,hx,rfl⟩
  have hng:x.o.guard=none:=by
   cases hgg:x.o.guard with
   |none=>rfl
   |some g=>
    have:=pX (p:=fun o=>o.guard.isSome) hxo (by simp[hgg])
    rw[hg] at this
    cases this
  unfold lW guardOf at h2
  rw[hng] at h2
  simp at h2
  split at h2
  ·cases h2
  ·obtain⟨_,h2⟩:=aU h2
   split at h2
   ·simp[] at h2;rw[←h2]
   ·cases h2
def Al (k:Nat):iB (fun i=>decide (i<k)) k=fun i=>decide (i<k+1):=by
 unfold iB
 grind
def zu {r:St}(hC:bR P C)(hF:eN P F.G C){ops:Array Oper}{id:Nat}(hok:oZ n ops.toList=true)(hd:pq C ops.toList false st=some r)(hro:∀b∈r.ok,b=true)(hinv:Inv F n K st a w)
  {Q:Exit→Act→World→Prop} (hQ:∀a' w',Inv F n K r a' w'→Q .normal a' w'):(Code.region id ops false).wp P Q a w:=by
 obtain⟨st',rs,mH,hr,_⟩:=vW hd
 obtain⟨hrun,hmap⟩:=qG mH
 have hlen:rs.length=ops.size:=by have:=congrArg List.length hmap;grind
 have oE:=bT.of hok hrun hmap hinv.nw (fun _ _ h=>h) (fun i j f g h _ _=>.inl h)
 have hst:∀b∈st'.ok,b=true:=by
  grind
 obtain⟨_,oD⟩:=hrun.oks hst
 refine wp_region ?_
 have main:∀(d k:Nat) (a:Act) (w:World),k+d=ops.size→iO F n K rs st (fun i=>decide (i<k)) a w→wpOps P ops Q (List.range' k d) a w:=by
  intro d
  induction d with
  |zero=>
   intro k a w hk h
   have:k=rs.length:=by omega
   subst this
   exact hQ _ _ (vX hinv mH hr h)
  |succ d ih=>
   intro k a w hk h
   rw[List.range'_succ,wpOps_cons]
   have hrk:rs[k]?=some rs[k]:=by simp
   have:=oE.step hC hF hrk (L:=fun i=>decide (i<k)) (by simp) (by intro i j hij hj;simp at hj ⊢;omega) (by simp) (oD k _ hrk) (Q:=Q) (Kt:=wpOps P ops Q (List.range' (k+1) d)) h
    (fun a' w' h'=>ih (k+1) a' w' (by omega) (by rw[Al] at h';exact h'))
   simpa using this
 have:=main ops.size 0 a w (by omega) ((hinv.start rs).congr (fun k _=>by simp))
 rwa[List.range_eq_range']
end
section
variable {P:Program} {F:Fix} {C:Cx} {o:Oper} {a:Act} {w w':World} {m:MF} {I I':Nat→Prop} {ρ:Pl} {d:aD}
variable {n:Nat} {K:eO} {ops:List Oper} {st st':St} {rs:List Rec} {ah:Nat→Nat→Prop} {L:Nat→Bool}
def jJ:List Bool→Nat
 | []=>0
 |b::l=>(if b then 0 else 1)+jJ l
def wM:∀{l:List Bool} {i:Nat},l[i]?=some false→jJ (l.set i true)+1=jJ l
 | [],i,h=>by grind
 |b::l,0,h=>by simp at h;subst h;simp[jJ];omega
 |b::l,i+1,h=>by
  have:=wM (l:=l) (i:=i) (by grind)
  simp[jJ]
  omega
def wL:∀n,jJ (List.replicate n false)=n
 |0=>rfl
 |n+1=>by simp[zl29,jJ,wL n];omega
def wK:∀{l:List Bool} {k:Nat},l[k]?=some false→0<jJ l
 | [],k,h=>by grind
 |b::l,0,h=>by simp at h;subst h;simp[jJ];omega
 |b::l,k+1,h=>by
  have:=wK (l:=l) (k:=k) (by grind)
  simp[jJ]
  omega
def xC {listed:Array Bool}{k:Nat}(h:k<listed.size):listed.getD k true=listed.getD k false:=by grind
def zp {ops:Array Oper}{listed:Array Bool}(hs:listed.size=ops.size)(jR:∀j o,ops[j]?=some o→∀e∈o.after,Region.binds .any e=true→e.on<j) :
  ∀(j:Nat),j<ops.size→listed.getD j false=false→Region.ready .any ops listed ≠ []:=by
 intro j
 induction j using Nat.strongRecOn with
 |_ j ih=>
 intro hj hl hr
 by_cases hex:∃k,k<j∧listed.getD k false=false
 ·grind
 ·have hmem:j∈Region.ready .any ops listed:=by
   rw[mem_ready]
   refine⟨by rw[xC (by omega)];exact hl,ops[j],by simp,fun e he hb=>?_⟩
   have:=jR j ops[j] (by simp) e he hb
   cases hv:listed.getD e.on false with
   |true=>rfl
   |false=>exact absurd ⟨e.on,this,hv⟩ hex
  rw[hr] at hmem
  simp at hmem
def any_ok (hC:bR P C)(hF:eN P F.G C){ops:Array Oper}(oE:bT C n ops.toList st st' rs (kM ops.toList))(hlen:rs.length=ops.size)
  (oD:∀j r,rs[j]?=some r→∀b∈okT (a_ rs j st).env r.T r.d.ok,b=true) (jR:∀j o,ops[j]?=some o→∀e∈o.after,Region.binds .any e=true→e.on<j)
  {Q:Exit→Act→World→Prop} (hQ:∀a' w',iO F n K rs st (fun k=>decide (k<rs.length)) a' w'→Q .normal a' w') :
  ∀(fuel:Nat) (listed:Array Bool) (a:Act) (w:World),listed.size=ops.size→jJ listed.toList≤fuel→(∀j,listed.getD j false=true→n6 ops.toList (fun k=>listed.getD k false) j) →
   iO F n K rs st (fun k=>listed.getD k false) a w→wpAny P .any ops Q fuel listed a w:=by
 have done:∀(listed:Array Bool) (a:Act) (w:World),listed.size=ops.size→iO F n K rs st (fun k=>listed.getD k false) a w→Region.ready .any ops listed = []→Q .normal a w:=by
  intro listed a w hs h hr
  refine hQ a w (h.congr fun k hk=>?_)
  have hk':k<ops.size:=by omega
  cases hv:listed.getD k false with
  |true=>grind
  |false=>exact absurd hr (zp hs jR k hk' hv)
 intro fuel
 induction fuel with
 |zero=>
  intro listed a w hs hu _ h
  have hr:Region.ready .any ops listed = []:=by
   refine Classical.byContradiction fun hne=>?_
   obtain⟨j,hj⟩:=List.exists_mem_of_ne_nil _ hne
   obtain⟨h1,o,h2,_⟩:=mem_ready.1 hj
   have hjs:j<listed.size:=by grind
   have:0<jJ listed.toList:=wK (k:=j) (by simp_all)
   omega
  exact⟨hr,done listed a w hs h hr⟩
 |succ fuel ih=>
  intro listed a w hs hu hE h
  refine⟨done listed a w hs h,fun j hj=>?_⟩
  obtain⟨h1,o,h2,h3⟩:=mem_ready.1 hj
  have hjs:j<listed.size:=by grind
  have hjf:listed.getD j false=false:=by grind
  have hrj:rs[j]?=some rs[j]:=by simp
  have hlj:n6 ops.toList (fun k=>listed.getD k false) j:=by
   intro o' ho' e he hb
   grind
  have hstep:=oE.step hC hF hrj (L:=fun k=>listed.getD k false) hjf (wY hE) (fun i hi=>ue hE j hi hlj) (oD j _ hrj) (Q:=Q)
   (Kt:=wpAny P .any ops Q fuel (listed.setIfInBounds j true)) h (fun a' w' h'=>?_)
  ·simpa using hstep
  ·have hset:∀k,(listed.setIfInBounds j true).getD k false=iB (fun k=>listed.getD k false) j k:=by
    intro k
    unfold iB
    by_cases e:k=j
    ·subst e;simp[hjs]
    ·simp[Array.getElem?_setIfInBounds_ne (Ne.symm e),e]
   refine ih _ a' w' (by simpa using hs) ?_ ?_ ?_
   ·have hset':(listed.setIfInBounds j true).toList=listed.toList.set j true:=by simp
    have:=wM (l:=listed.toList) (i:=j) (by simp[hjs] at hjf ⊢;exact hjf)
    rw[hset']
    omega
   ·intro k hk o' ho' e he hb
    rw[hset] at hk
    show(listed.setIfInBounds j true).getD e.on false=true
    rw[hset]
    unfold iB at hk ⊢
    simp only[rz,mS] at hk ⊢
    rcases hk with hk|hk
    ·exact .inl (hE k hk o' ho' e he hb)
    ·subst hk
     exact .inl (hlj o' ho' e he hb)
   ·have:(fun k=>(listed.setIfInBounds j true).getD k false)=iB (fun k=>listed.getD k false) j:=funext hset
    rw[this];exact h'
def zq (hm:P.follows .mixedOrders=true){r:St}(hC:bR P C)(hF:eN P F.G C){ops:Array Oper}{id:Nat}(hok:oZ n ops.toList=true)(hd:pq C ops.toList true st=some r)(hro:∀b∈r.ok,b=true)(hinv:Inv F n K st a w)
  {Q:Exit→Act→World→Prop} (hQ:∀a' w',Inv F n K r a' w'→Q .normal a' w'):(Code.region id ops true).wp P Q a w:=by
 obtain⟨st',rs,mH,hr,qm⟩:=vW hd
 have qm:=qm rfl
 obtain⟨hrun,hmap⟩:=qG mH
 have hlen:rs.length=ops.size:=by grind
 have hbit:∀i j,kM ops.toList i j→i<j:=by
  intro i j h
  unfold kM at h
  by_cases hj:j<ops.toList.length
  ·have h1:=fc (sA qm hj).1
   have h2:=Nat.ge_two_pow_of_testBit h
   exact(Nat.pow_lt_pow_iff_right (by omega:1<2)).1 (by omega)
  ·have:cY (gr ops.toList []) j=none:=by
    rw[jB]
    have h1:=rG ops.toList []
    simp only[rA] at h1
    exact zl8 (by omega)
   rw[this] at h
   simp at h
 have hsep:∀(i j:Nat) (f g:Rec),i<j→rs[i]?=some f→rs[j]?=some g→kM ops.toList i j∨jP (f.gM ops.toList) (g.gM ops.toList)=true:=by
  intro i j f g hij hf hg
  have hj:j<ops.toList.length:=by
   have:=(nX.1 hg).1
   simp;omega
  have h1:=fR (sA qm hj).2 i (vr hij)
  rw[rz] at h1
  rcases h1 with h1|h1
  ·exact .inl h1
  ·refine .inr ?_
   simp[jB,jw,hf,hg] at h1
   exact h1
 have oE:=bT.of hok hrun hmap hinv.nw hbit hsep
 have hst:∀b∈st'.ok,b=true:=by
  intro b hb
  refine hro b ?_
  rw[hr]
  split<;>exact hb
 obtain⟨_,oD⟩:=hrun.oks hst
 have jR:∀j o,ops[j]?=some o→∀e∈o.after,Region.binds .any e=true→e.on<j:=by
  intro j o ho e he hb
  refine hbit e.on j ?_
  have ho':ops.toList[j]?=some o:=by simpa using ho
  obtain⟨pre,h1,h2,h3⟩:=uf ho'
  unfold kM
  rw[h3]
  exact tR (mU.2 he) hb
 refine wp_region_any hm ?_
 have hz:∀k,(Array.replicate ops.size false).getD k false=false:=by intro k;by_cases h:k<ops.size<;>simp[h]
 refine any_ok hC hF oE hlen oD jR (fun a' w' h=>hQ a' w' (vX hinv mH hr h)) ops.size _ a _ (by simp) ?_ ?_ ?_
 ·simp[wL]
 ·intro j hj;rw[hz] at hj;cases hj
 ·exact(hinv.drew.start rs).congr fun k _=>(hz k).symm
end
end Go.Ab
