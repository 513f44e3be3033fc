import Derived.Test.YtfeoanopdlpabaaGreatDoorX2
set_option linter.defProp false
namespace Go.Ab
section
variable {P:Program} {F:Fix} {C:Cx} {o:Oper} {a:Act} {w w':World} {m:MF} {I I':Nat→Prop} {ρ:Pl} {d:aE}
def kq {l:List (Nat×ag)}{p q:Pl}{i:Nat}{b:ag}(h:find l i=some b):bK l p q i=p i∧(bK l p q).d i=p.d i:=by simp[bK,h]
def ko {l:List (Nat×ag)}{p q:Pl}{i:Nat}(h:find l i=none):bK l p q i=q i∧(bK l p q).d i=q.d i:=by simp[bK,h]
def lC {i:Nat}{l:List Nat}:bT (Nat.beq i) l=true↔i∈l:=by
 induction l with
 |nil=>simp[bT]
 |cons x l ih=>
  simp only[bT,kE,ih,aX]
  constructor
  ·rintro(h|h)
   ·exact .inl (cU h)
   ·exact .inr h
  ·rintro(h|h)
   ·subst h;exact .inl (Nat.beq_refl i)
   ·exact .inr h
def lQ {l:List Nat}:nodup l=true↔l.Nodup:=by
 induction l with
 |nil=>simp[nodup]
 |cons x l ih=>
  simp only[nodup,aF,ih,cX,i_]
  rw[←lC (i:=x) (l:=l)]
  simp
def p7 {l:List (Nat×ag)}{i:Nat}{b:ag}(h:find l i=some b):i∈l.map (·.1):=eV.2 ⟨(i,b),fh h,rfl⟩
def qf {l1 l2:List (Nat×ag)}(h:((app l1 l2).map (·.1)).Nodup):(l1.map (·.1)).Nodup∧(l2.map (·.1)).Nodup∧∀i b c,find l1 i=some b→find l2 i=some c→False:=by
 rw[bZ,zl54,cM] at h
 exact⟨h.1,h.2.1,fun i b c hb hc=>h.2.2 i (p7 hb) i (p7 hc) rfl⟩
def iy (m:MF)(ρ:Pl)(w w':World)(pl:Pl)(i:Nat)(b:ag):Prop:=
 ∃b0,m i=some b0∧b0.live∧b0.st=b.st∧bJ b0.c b.c∧pl i=ρ i∧(∀B o cs,ρ i=some (B,o)→Cells w B cs→∃cs',Cells w' B cs'∧cs.length≤cs'.length) ∧
  ∀rs t u xs ys,b0.c = .deep rs t xs→b.c = .deep rs u ys→∀B o,ρ i=some (B,o)→w'.heap[B]?=w.heap[B]?
def iy.to {pl eS:Pl}{i:Nat}{b:ag}(h:iy m ρ w w' pl i b)(e:eS i=pl i):iy m ρ w w' eS i b:=by
 obtain⟨b0,h1,h2,h3,h4,h5,h6⟩:=h
 exact⟨b0,h1,h2,h3,h4,e.trans h5,h6⟩
def br.single {n:Nat}{b:ag}{Bs:List Nat}{p:Option (Nat×Nat)}(h1:b.fz=false)(h2:b.live)(h3:∀m' ρ',ρ' n=p→aS w I m' ρ' n b)(h4:∀B o,p=some (B,o)→B∈Bs)(hnd:¬b.bH:=by simp[ag.bH]):br w I [(n,b)] Bs ⟨fun _=>p,fun _=>[]⟩:=by
 have hf:∀i c,find [(n,b)] i=some c→n=i∧b=c:=by
  intro i c h
  rw[aI] at h
  split at h
  ·rename_i e;exact⟨e,by simpa using h⟩
  ·simp[find] at h
 refine⟨fun i c h=>?_,fun i c B h hp=>?_,fun i j c c' B h h' _ _=>(hf i c h).1.symm.trans (hf j c' h').1,fun i c h hd=>?_⟩
 ·obtain⟨rfl,rfl⟩:=hf i c h
  exact⟨h1,h2,fun m' ρ' kQ=>h3 m' ρ' (kQ n b h).2.1⟩
 ·obtain⟨rfl,rfl⟩:=hf i c h
  obtain⟨o,hp⟩:=hp.plain hnd
  exact h4 B o hp
 ·obtain⟨rfl,rfl⟩:=hf i c h
  exact absurd hd hnd
def eC:Mode→AT→List Nat
 |.p,.aV id _ _=>[id]
 |.m,.whole id _ _=>[id]
 |.d,a=>a.ids
 |_,_=>[]
def hY (m:MF):Mode→AT→List Nat
 |.p,.aV id _ _=>sZ m id
 |.k,a=>a.ids
 |_,_=>[]
def rX (m:MF):Mode→AT→List Nat
 |.v,a=>dU m a.ids
 |.f,a=>dU m a.ids
 |_,_=>[]
def Mode.lY:Mode→Bool
 |.p | .m | .d=>true
 |_=>false
def Arg.lY:Arg→Bool
 |.p _ | .m _ _ | .d _=>true
 |_=>false
def kz (m:MF):Mode→AT→DV→Option (List (Nat×ag))
 |.p,.aV id st [],y=>match cur m id st with
  |some ⟨_,_,.var t _⟩=>bif t.is y.t.aY then
   let n:=aZ m y.t y.x ((id+1)*1000)
   some ((id,⟨st,false,.var t n.1⟩)::n.2.1)
   else none
  |_=>none
 |.m,.whole id st t,y=>match y.as (.own t) with
  |some ys=>some [(id,⟨st,false,.rows t ys⟩)]
  |none=>none
 |.m,.nil _,_=>some []
 |.d,a,y=>ku m a y
 |_,_,_=>none
def td (w w':World)(I:Nat→Prop):Arg→Value→DV→List Nat→Prop
 |.p y,v,u,Bs=>∃B cs B1,v = .pointer (some ⟨B,0,none⟩)∧Cells w' B cs∧¬I B∧u.t=y.t∧cF w' I u.t u.x cs B1∧Bs=B::B1
 |.m t xs,v,u,Bs=>∃ys,u=⟨.own t,ys⟩∧ys.length=xs.length∧cF w' I (.own t) ys [v] Bs∧∀B∈Bs,∀cs,Cells w B cs→∃cs',Cells w' B cs'∧cs.length≤cs'.length
 |.d y,v,u,Bs=>∃cs,v=aQ y.t cs∧u.t=y.t∧aq w' I u.t u.x cs Bs∧Grown w w' cs
 |_,_,_,_=>False
def ux (mo:Mode)(os:List Mode)(x:AT)(as:List AT):eO (mo::os) (x::as)=eC mo x++eO os as:=by
 cases mo<;>cases x<;>simp[eO,eC,bZ]
def uy (mo:Mode)(os:List Mode)(x:AT)(as:List AT):f_ m (mo::os) (x::as)=hY m mo x++f_ m os as:=by
 cases mo<;>cases x<;>simp[f_,hY,bZ]
def xX (mo:Mode)(os:List Mode)(x:AT)(as:List AT):gx m (mo::os) (x::as)=rX m mo x++gx m os as:=by
 cases mo<;>simp[gx,rX,bZ]
def zm {mo:Mode}{os:List Mode}{x:AT}{as:List AT}{ds:List DV}{u:List (Nat×ag)}(h:dW m (mo::os) (x::as) ds=some u) :
  (mo.lY=false∧dW m os as ds=some u)∨(mo.lY=true∧∃y ds' u1 u2,ds=y::ds'∧kz m mo x y=some u1∧dW m os as ds'=some u2∧u=app u1 u2):=by
 cases mo with
 |v=>exact .inl ⟨rfl,by simpa[dW] using h⟩
 |k=>exact .inl ⟨rfl,by simpa[dW] using h⟩
 |f=>exact .inl ⟨rfl,by simpa[dW] using h⟩
 |d=>
  cases ds with
  |nil=>simp[dW] at h
  |cons y ds=>
   simp only[dW] at h
   split at h
   ·rename_i u1 u2 h1 h2
    cases h
    exact .inr ⟨rfl,y,ds,u1,u2,rfl,h1,h2,rfl⟩
   ·cases h
 |m=>
  cases ds with
  |nil=>cases x<;>simp[dW] at h
  |cons y ds=>
   cases x<;>simp only[dW,reduceCtorEq] at h
   case nil t=>exact .inr ⟨rfl,y,ds,[],u,rfl,rfl,h,rfl⟩
   case whole id st t=>
    split at h
    ·rename_i ys u' h1 h2
     cases h
     exact .inr ⟨rfl,y,ds,[(id,⟨st,false,.rows t ys⟩)],u',rfl,by simp[kz,h1],h2,rfl⟩
    ·cases h
 |p=>
  cases ds with
  |nil=>cases x<;>simp[dW] at h
  |cons y ds=>
   cases x<;>try (simp only[dW,reduceCtorEq] at h;done)
   rename_i id st p
   cases p with
   |cons s p=>simp[dW] at h
   |nil=>
    simp only[dW] at h
    split at h
    ·rename_i st' fz t a u' h1 h2
     obtain⟨h3,h⟩:=aH h
     cases h
     exact .inr ⟨rfl,y,ds,(id,⟨st,false,.var t (aZ m y.t y.x ((id+1)*1000)).1⟩)::(aZ m y.t y.x ((id+1)*1000)).2.1,u',rfl,by simp only[kz,h1,h3,aG],h2,rfl⟩
    ·cases h
def vQ {y:Arg}{l:List Arg}{v:Value}{vs:List Value}{us:List DV}{Bs:List Nat}(h:cy w w' I' (y::l) (v::vs) us Bs) :
  (y.lY=false∧cy w w' I' l vs us Bs)∨(y.lY=true∧∃u us' B1 B2,us=u::us'∧Bs=B1++B2∧td w w' I' y v u B1∧cy w w' I' l vs us' B2):=by
 cases y with
 |v y=>exact .inl ⟨rfl,by simpa only[cy] using h⟩
 |f g y=>exact .inl ⟨rfl,by simpa only[cy] using h⟩
 |d y=>
  cases us with
  |nil=>simp only[cy] at h
  |cons u us=>
   simp only[cy] at h
   obtain⟨cs,B1,B2,h1,h2,h3,h4,h5,h6⟩:=h
   exact .inr ⟨rfl,u,us,B1,B2,rfl,h4,⟨cs,h1,h2,h3,h5⟩,h6⟩
 |p y=>
  cases us with
  |nil=>simp only[cy] at h
  |cons u us=>
   simp only[cy] at h
   obtain⟨B,cs,B1,B2,h1,h2,h3,h4,h5,h6,h7⟩:=h
   exact .inr ⟨rfl,u,us,B::B1,B2,rfl,by simpa using h6,⟨B,cs,B1,h1,h2,h3,h4,h5,rfl⟩,h7⟩
 |m t xs=>
  cases us with
  |nil=>simp only[cy] at h
  |cons u us=>
   simp only[cy] at h
   obtain⟨ys,B1,B2,h1,h2,h3,h4,h5,h6⟩:=h
   exact .inr ⟨rfl,u,us,B1,B2,rfl,h4,⟨ys,h1,h2,h3,h5⟩,h6⟩
def yd {mo:Mode}{x:AT}{y:Arg}(h:mkArg m mo x=some y):y.lY=mo.lY:=by
 cases mo with
 |v=>simp only[mkArg,bE] at h;obtain⟨_,_,rfl⟩:=h;rfl
 |d=>simp only[mkArg,bE] at h;obtain⟨_,_,rfl⟩:=h;rfl
 |k=>simp only[mkArg,bE] at h;obtain⟨_,_,rfl⟩:=h;rfl
 |f=>cases x<;>simp only[mkArg,reduceCtorEq,bE] at h;obtain⟨_,_,rfl⟩:=h;rfl
 |m=>cases x<;>simp only[mkArg,reduceCtorEq] at h
     ·split at h
      ·cases h;rfl
      ·cases h
     ·cases h;rfl
 |p=>cases x<;>simp only[mkArg,reduceCtorEq] at h
     rename_i id st p
     cases p with
     |cons s p=>simp[] at h
     |nil=>
      simp only[] at h
      split at h
      ·simp only[bE] at h;obtain⟨_,_,rfl⟩:=h;rfl
      ·cases h
def qO (m:MF)(ρ:Pl)(w:World)(I:Nat→Prop)(upf:DV→Option (List (Nat×ag)))(updf:World→(Nat→Prop)→DV→List Nat→Prop)(Ks ids:List Nat):Prop:=
 ∀(w':World) (b_:Nat→Prop) (y:DV) (u:List (Nat×ag)) (Z:List Nat),bN I b_ w w'→upf y=some u→updf w' b_ y Z→(Z++Ks).Nodup→(u.map (·.1)).Nodup→(∀B∈Z++Ks,¬b_ B)→(∀B∈Ks,w'.heap[B]?=w.heap[B]?) →
  ∃pl Ws,br w' b_ u Ws pl∧(∀B∈Ws,B∈Z++Ks)∧(∀i b,find u i=some b→b.st=aW m i∨(i∈ids∧iy m ρ w w' pl i b))∧(∀i∈ids,∃b,find u i=some b∧iy m ρ w w' pl i b)
end
section
variable {P:Program} {F:Fix} {C:Cx} {o:Oper} {a:Act} {w w':World} {m:MF} {I I':Nat→Prop} {ρ:Pl} {d:aE}
def Grown.left {w w':World}{a b:List Value}(h:Grown w w' (a++b)):Grown w w' a:=fun B o n cap hm=>h B o n cap (dX _ hm)
def Grown.right {w w':World}{a b:List Value}(h:Grown w w' (a++b)):Grown w w' b:=fun B o n cap hm=>h B o n cap (dH _ hm)
def mT {upf:DV→Option (List (Nat×ag))}{updf:World→(Nat→Prop)→DV→List Nat→Prop}(h:∀y u,upf y=some u→u = []):qO m ρ w I upf updf [] []:=by
 intro w' b_ y u Z _ hu _ _ _ _ _
 rw[h y u hu]
 exact⟨ρ,[],br.nil _,by simp,fun i b h=>by simp[find] at h,by simp⟩
def gf {n i:Nat}{b c:ag}(h:find [(n,b)] i=some c):n=i∧b=c:=by
 rw[aI] at h
 split at h
 ·rename_i e;exact⟨e,by simpa using h⟩
 ·simp[find] at h
def qF {I':Nat→Prop}(hm:aD F m w I ρ)(hI:∀B,I B→I' B):∀{x:AT} {y:DV} {vs:List Value},eT m x=some y→aa w I m ρ x vs→(∀id∈x.ids,∀B,aN m ρ id B→¬I' B)→x.ids.Nodup →
  ∃Bs Ks,aq w I' y.t y.x vs Bs∧(Bs++Ks).Nodup∧(∀B∈Bs++Ks,∃id∈x.ids,aN m ρ id B) ∧
   qO m ρ w I (ku m x) (fun w' b_ z Z=>z.t=y.t∧aq w' b_ z.t z.x vs Z∧Grown w w' vs) Ks x.ids:=by
 intro x
 induction x with
 |leaf t x=>
  intro d vs h hr _ _
  simp only[eT] at h
  cases hl:t.aO with
  |true=>simp[hl] at h
  |false=>
   rw[hl] at h
   cases h
   exact⟨[],[],aq.ga hl (af.mono ⟨hI,fun _ _=>rfl⟩ hr),by simp,by simp,mT fun y u h=>by simp only[ku,au] at h;exact h.symm⟩
 |nil t=>
  intro d vs h hr _ _
  simp only[eT,au] at h
  subst h
  simp only[aa] at hr
  subst hr
  exact⟨[],[],by simp only[aq];exact⟨none,0,by simp,by simp,.inl (by simp)⟩,by simp,by simp,mT fun y u h=>by simp only[ku,au] at h;exact h.symm⟩
 |whole id st t=>
  intro d vs h hr hn _
  simp only[eT,bE] at h
  obtain⟨xs,hro,rfl⟩:=h
  obtain⟨Bs,h1,h2,h3⟩:=vf hm hr hro hI (hn id (by simp[AT.ids]))
  refine⟨Bs,[],h1,by simpa using h2,fun B hB=>⟨id,by simp[AT.ids],h3 B (by simpa using hB)⟩,?_⟩
  intro w' b_ y u Z ha hu dR hZ hk cY _
  obtain⟨hty,gY,hgr⟩:=dR
  have hcase:∃b0 c ys,m id=some b0∧b0.live∧b0.st=st∧b0.c.arr=some (t,xs.length)∧qQ c t ys∧y=⟨.lst t,ys⟩∧u = [(id,⟨st,false,c⟩)]∧(ys.length=xs.length→bJ b0.c c) ∧
    ∀rs t' u' xs' ys',b0.c = .deep rs t' xs'→c = .deep rs u' ys'→False:=by
   simp only[ku] at hu
   split at hu
   ·rename_i ys hys
    have:=cz hys
    subst this
    rcases qs hro with⟨hb,hl⟩|⟨fz,rs,hb⟩
    ·have hc:cur m id st=some ⟨st,false,.rows t xs⟩:=by simp[cur,hb]
     rw[hc] at hu
     cases hu
     exact⟨_,_,ys,hb,fF rfl,rfl,rfl,.inl ⟨rfl,hl⟩,rfl,rfl,fun h=>⟨rfl,h.symm⟩,fun rs t' u' xs' ys' h=>by cases h⟩
    ·have hc:cur m id st=some ⟨st,fz,.deep rs t xs⟩:=by simp[cur,hb]
     rw[hc] at hu
     cases hu
     exact⟨_,_,ys,hb,trivial,rfl,rfl,.inr ⟨_,rfl⟩,rfl,rfl,fun h=>⟨Nat.le_succ _,rfl,h.symm⟩,fun rs' t' u' xs' ys' h h'=>by cases h;simp only[BC.deep.injEq] at h';omega⟩
   ·cases hu
  obtain⟨b0,c,ys,hb,dJ,hst,cA,hc,rfl,rfl,hsh,hnn⟩:=hcase
  simp only[jV] at hZ cY
  obtain⟨pl,n1,n2,n3⟩:=br.list (n:=id) (st:=st) hc gY hZ
  simp only[aa] at hr
  obtain⟨_,_,q3⟩:=hr
  obtain⟨ad,cap,e1,e2,e3⟩:=q3 _ hb hst t xs.length cA
  have hlen:ys.length=xs.length:=by
   simp only[aq] at gY
   obtain⟨ad',cap',f1,_⟩:=gY
   rw[e1] at f1
   simp only[eG,Value.slice.injEq,dY] at f1
   exact f1.2.1.symm
  have hpl:pl id=ρ id:=by
   rw[n2,e1]
   rcases e3 with⟨g1,g2,g3⟩|⟨B,o',cs,g1,g2,g3,g4⟩
   ·rw[g1,g3];rfl
   ·rw[g1,g2];rfl
  have iQ:iy m ρ w w' pl id ⟨st,false,c⟩:=by
   refine⟨b0,hb,dJ,hst,hsh hlen,hpl,fun B o cs hp hcs=>?_,fun rs t' u' xs' ys' h h'=>(hnn rs t' u' xs' ys' h h').elim⟩
   rcases e3 with⟨g1,g2,g3⟩|⟨B',o',cs',g1,g2,g3,g4⟩
   ·rw[g3] at hp;cases hp
   ·rw[g1] at hp
    cases hp
    subst g2
    exact hgr _ _ _ _ (by rw[e1];exact eH.2 rfl) cs hcs
  refine⟨pl,Z,n1,by simp,fun i b hf=>?_,fun i hi=>?_⟩
  ·obtain⟨rfl,rfl⟩:=gf hf
   exact .inr ⟨by simp[AT.ids],iQ⟩
  ·simp only[AT.ids,eH] at hi
   subst hi
   exact⟨_,by rw[aI,bf rfl],iQ⟩
 |pair l r ihl ihr=>
  intro d vs h hr hn hnd
  simp only[eT] at h
  split at h
  ·rename_i x y hx hy
   cases h
   simp only[aa] at hr
   obtain⟨v1,v2,rfl,h1,h2⟩:=hr
   simp only[AT.ids,bZ] at hnd hn
   have dw:=cM.1 hnd
   obtain⟨B1,K1,k1,k2,k3,k4⟩:=ihl hx h1 (fun id hi=>hn id (by simp[hi])) dw.1
   obtain⟨B2,K2,q1,q2,q3,q4⟩:=ihr hy h2 (fun id hi=>hn id (by simp[hi])) dw.2.1
   have hall:((B1++K1)++(B2++K2)).Nodup:=jr hm hnd k2 q2 k3 q3
   have iP:((B1++K1)++(B2++K2)).Perm ((B1++B2)++(K1++K2)):=by
    simp only[bX]
    refine List.Perm.append_left _ ?_
    rw[←bX,←bX]
    exact l5 _ l6
   refine⟨B1++B2,K1++K2,by simp only[aq];exact⟨v1,v2,B1,B2,rfl,rfl,k1,q1⟩,iP.nodup_iff.1 hall,fun B hB=>?_,?_⟩
   ·simp only[AT.ids,bZ]
    rcases bB.1 (iP.mem_iff.2 hB) with hB|hB
    ·obtain⟨i,j,k⟩:=k3 B hB;exact⟨i,by simp[j],k⟩
    ·obtain⟨i,j,k⟩:=q3 B hB;exact⟨i,by simp[j],k⟩
   ·intro w' b_ z u Z ha hu dR hZ hk cY iO
    obtain⟨hty,gY,hgr⟩:=dR
    obtain⟨zt,zx⟩:=z
    simp only at hty
    subst hty
    simp only[ku] at hu
    split at hu
    ·rename_i u1 u2 hu1 hu2
     cases hu
     simp only[aq] at gY
     obtain⟨w1,w2,Z1,Z2,e,eZ,r1,r2⟩:=gY
     subst eZ
     have hl1:v1.length=w1.length:=by rw[aq.length k1,aq.length r1]
     obtain⟨rfl,rfl⟩:=List.append_inj e hl1
     have hpz:((Z1++Z2)++(K1++K2)).Perm ((Z1++K1)++(Z2++K2)):=by
      simp only[bX]
      refine List.Perm.append_left _ ?_
      rw[←bX,←bX]
      exact l5 _ l6
     have hZ':=hpz.nodup_iff.1 hZ
     have hZn:=cM.1 hZ'
     obtain⟨ka1,ka2,ka3⟩:=qf hk
     obtain⟨p1,W1,n1,s1,t1,t2⟩:=k4 w' b_ ⟨x.t,zx.1⟩ u1 Z1 ha hu1 ⟨rfl,r1,hgr.left⟩ hZn.1 ka1 (fun B hB=>cY B (hpz.mem_iff.2 (dX _ hB))) (fun B hB=>iO B (dX _ hB))
     obtain⟨p2,W2,n2,s2,t3,t4⟩:=q4 w' b_ ⟨y.t,zx.2⟩ u2 Z2 ha hu2 ⟨rfl,r2,hgr.right⟩ hZn.2.1 ka2 (fun B hB=>cY B (hpz.mem_iff.2 (dH _ hB))) (fun B hB=>iO B (dH _ hB))
     refine⟨bK u1 p1 p2,W1++W2,br.app n1 n2 (fun B hB B' bg=>hZn.2.2 B (s1 B hB) B' (s2 B' bg)) ka3,fun B hB=>?_,fun i b hf=>?_,fun i hi=>?_⟩
     ·refine hpz.mem_iff.2 ?_
      rcases bB.1 hB with hB|hB
      ·exact dX _ (s1 B hB)
      ·exact dH _ (s2 B hB)
     ·rw[cS] at hf
      simp only[AT.ids,bZ,bB]
      split at hf
      ·rename_i c hc
       cases hf
       exact(t1 i _ hc).imp id fun h=>⟨.inl h.1,h.2.to (kq hc).1⟩
      ·rename_i hno
       exact(t3 i _ hf).imp id fun h=>⟨.inr h.1,h.2.to (ko hno).1⟩
     ·simp only[AT.ids,bZ,bB] at hi
      rcases hi with hi|hi
      ·obtain⟨b,hb,hs⟩:=t2 i hi
       exact⟨b,by rw[cS,hb],hs.to (kq hb).1⟩
      ·obtain⟨b,hb,hs⟩:=t4 i hi
       have hno:find u1 i=none:=by
        cases hf:find u1 i with
        |none=>rfl
        |some c=>exact(ka3 i c b hf hb).elim
       exact⟨b,by rw[cS,hno];exact hb,hs.to (ko hno).1⟩
    ·cases hu
  ·simp at h
 |nest id st rs row p u=>
  intro d vs h hr hn _
  simp only[eT] at h
  split at h
  ·rename_i st' fz rs' t xs hc
   obtain⟨hb,hst⟩:=cR hc
   simp only at hst
   subst hst
   obtain⟨h1,h2⟩:=aH h
   simp only[aF] at h1
   have hrs:rs=rs':=cU h1.1.1
   subst hrs
   have dh:=g_ h1.2
   obtain⟨y,rfl,mu⟩:=sr dh h1.1.2 h2
   simp only[aa] at hr
   obtain⟨l1,l2,_,l3⟩:=hr
   obtain⟨_,l4⟩:=l3 _ hb rfl rs t xs rfl
   obtain⟨_,_,hrow,B,o',hρ,hcell⟩:=l4 rfl
   obtain⟨B',dA,cs,rcs,pre,mid,post,D1,D2,B1,Bm,B2,y',f1,f2,f3,f4,f5,f6,f7,f8,f9,f10,f11,f12,f13⟩:=ry hm hb hrow h1.1.2 dh
   rw[hρ] at f1
   cases f1
   subst f5
   rw[mu] at f9
   cases f9
   have hml:=aq.length f12
   have hrl:rcs.length=t.off p+u.size+post.length:=by rw[f10,cK,cK,f11,hml]
   have hmid:vs=mid:=by
    apply List.ext_getElem?
    intro j
    by_cases hj:j<u.size
    ·rw[←hcell j hj]
     have:=f8 (t.off p+j) (by omega)
     rw[←iq] at this
     rw[this,f10,bX,c_ (by omega),cL (by omega)]
     congr 1
     omega
    ·rw[zl8 (by omega),zl8 (by omega)]
   subst hmid
   have ha:bN I I' w w:=⟨hI,fun _ _=>rfl⟩
   have kT:aN m ρ id B:=⟨_,hb,trivial,rfl,.inl ⟨o',hρ⟩⟩
   have hmD:∀b∈ρ.d id,aN m ρ id b:=fun b hb'=>⟨_,hb,trivial,rfl,.inr ⟨trivial,hb'⟩⟩
   obtain⟨dq1,dq2⟩:=hm.dp id _ hb trivial
   have hBd:¬B∈ρ.d id:=fun hin=>(dq2 B hin).2.1 id _ _ hb trivial hρ
   have iP:(ρ.d id).Perm (Bm++(D1++(B1++B2)++D2)):=by
    rw[f6]
    have:(D1++(B1++Bm++B2)++D2).Perm (Bm++(D1++(B1++B2)++D2)):=by
     have e1:D1++(B1++Bm++B2)++D2=((D1++B1)++Bm)++(B2++D2):=by simp
     have e2:Bm++(D1++(B1++B2)++D2)=(Bm++(D1++B1))++(B2++D2):=by simp
     rw[e1,e2]
     exact l5 _ l6
    exact this
   have hnd0:(Bm++(D1++(B1++B2)++D2)).Nodup:=iP.nodup_iff.1 dq1
   refine⟨Bm,B::(D1++(B1++B2)++D2),aq.mono ha (fun b hb'=>⟨rfl,fun kO=>absurd kO (hn id (by simp[AT.ids]) b (hmD b (iP.mem_iff.2 (dX _ hb'))))⟩) f12,?_,?_,?_⟩
   ·have:(Bm++B::(D1++(B1++B2)++D2)).Perm (B::(Bm++(D1++(B1++B2)++D2))):=List.perm_middle
    rw[this.nodup_iff,cX]
    exact⟨fun h=>hBd (iP.mem_iff.2 h),hnd0⟩
   ·intro b hb'
    refine⟨id,by simp[AT.ids],?_⟩
    have:b=B∨b∈ρ.d id:=by
     rw[iP.mem_iff]
     simp only[bB,aX] at hb' ⊢
     rcases hb' with h|h|h
     ·exact .inr (.inl h)
     ·exact .inl h
     ·exact .inr (.inr h)
    rcases this with e|h
    ·subst e;exact kT
    ·exact hmD b h
   ·intro w' b_ z uu Z hag hu dR hZ hk cY iO
    obtain⟨hty,gY,hgr⟩:=dR
    obtain⟨zt,zx⟩:=z
    simp only at hty
    subst hty
    simp only[ku,hc] at hu
    obtain⟨_,hu⟩:=aH hu
    have hKB:w'.heap[B]?=w.heap[B]? :=iO B (by simp)
    have hsameD:∀b∈D1++(B1++B2)++D2,w'.heap[b]?=w.heap[b]?∧(b_ b→I b):=fun b hb'=>⟨iO b (gP _ hb'),fun h=>absurd h (cY b (dH _ (gP _ hb')))⟩
    obtain⟨x',g1,g2⟩:=f13 w' b_ zx vs Z hag hsameD (fun k _=>World.cell?_of_block (w:=w) hKB) (fun j hj=>by rw[World.cell?_of_block (w:=w) hKB,f8 j hj,f10]) gY
    rw[g1] at hu
    simp only[DV.as,dif_pos,au] at hu
    subst hu
    have hWs:∀b∈B::(D1++(B1++Z++B2)++D2),b∈Z++B::(D1++(B1++B2)++D2):=by
     intro b hb'
     simp only[aX,bB] at hb' ⊢
     rcases hb' with h|(h|(h|h)|h)|h<;>simp[h]
    have hZ':(B::(D1++(B1++Z++B2)++D2)).Nodup:=by
     have:(Z++B::(D1++(B1++B2)++D2)).Perm (B::(D1++(B1++Z++B2)++D2)):=by
      refine List.perm_middle.trans (List.Perm.cons _ ?_)
      have e1:D1++(B1++Z++B2)++D2=((D1++B1)++Z)++(B2++D2):=by simp
      have e2:Z++(D1++(B1++B2)++D2)=(Z++(D1++B1))++(B2++D2):=by simp
      rw[e1,e2]
      exact l5 _ l6
     exact this.nodup_iff.1 hZ
    have hZc:=cX.1 hZ'
    let pl:Pl:=⟨fun _=>some (B,o'),fun _=>D1++(B1++Z++B2)++D2⟩
    have ow:(xs.set row x').length=xs.length:=zl66
    have iQ:iy m ρ w w' pl id ⟨st',false,.deep rs t (xs.set row x')⟩:=by
     refine⟨_,hb,trivial,rfl,⟨bw _,rfl,ow.symm⟩,hρ.symm,fun C o2 cs' hp hcs=>?_,fun _ _ _ _ _ _ _ C o2 hp=>?_⟩
     ·rw[hρ] at hp
      cases hp
      exact⟨cs',hcs.of_same hKB,bw _⟩
     ·rw[hρ] at hp
      cases hp
      exact hKB
    refine⟨pl,B::(D1++(B1++Z++B2)++D2),⟨fun i b hf=>?_,fun i b C hf hO=>?_,fun i j b c C hf hf' _ _=>(gf hf).1.symm.trans (gf hf').1,fun i b hf _=>⟨hZc.2,fun C hC o2 he=>?_⟩⟩,hWs,fun i b hf=>?_,fun i hi=>?_⟩
    ·obtain⟨rfl,rfl⟩:=gf hf
     refine⟨rfl,trivial,fun m' ρ' hfit=>?_⟩
     obtain⟨_,k2,k3⟩:=hfit id _ (by rw[aI,bf rfl])
     simp only[aS]
     refine⟨trivial,.inr ⟨B,o',cs,k2,f2.of_same hKB,by rw[ow];exact f3,by rw[k3];exact g2,cY B (dH _ lu)⟩⟩
    ·obtain⟨rfl,rfl⟩:=gf hf
     rcases hO with⟨o2,hO⟩|⟨_,hO⟩
     ·cases hO;exact lu
     ·exact gP _ hO
    ·cases he
     exact hZc.1 hC
    ·obtain⟨rfl,rfl⟩:=gf hf
     exact .inr ⟨by simp[AT.ids],iQ⟩
    ·simp only[AT.ids,eH] at hi
     subst hi
     exact⟨_,by rw[aI,bf rfl],iQ⟩
  ·simp at h
 |_=>intro d vs h hr _ _;simp[eT] at h
end
section
variable {P:Program} {F:Fix} {C:Cx} {o:Oper} {a:Act} {w w':World} {m:MF} {I I':Nat→Prop} {ρ:Pl} {d:aE}
def vZ {I':Nat→Prop}(hm:aD F m w I ρ)(hI:∀B,I B→I' B){mo:Mode}{x:AT}{y:Arg}{v:Value}(hy:mkArg m mo x=some y)(hx:az w I m ρ x v)
  (hle:∀id∈rX m mo x,∀b B,m id=some b→b.live→bR ρ id b B→I' B) (hown:∀id∈eC mo x++hY m mo x,∀B,aN m ρ id B→¬I' B) (hnd:(eC mo x++hY m mo x).Nodup) :
  ∃Bs Ks,ArgO w I' y v Bs∧(Bs++Ks).Nodup∧(∀B∈Bs++Ks,∃id∈eC mo x++hY m mo x,aN m ρ id B) ∧
   qO m ρ w I (kz m mo x) (fun w' b_ z Z=>td w w' b_ y v z Z) Ks (eC mo x):=by
 cases mo with
 |v=>
  simp only[mkArg,bE] at hy
  obtain⟨dv,gH,rfl⟩:=hy
  obtain⟨hs1,jK⟩:=vF gH
  obtain⟨cs,k1,k2,_⟩:=vE hm hI (fun id hi=>hle id hi) gH hs1 hx
  exact⟨[],[],⟨cs,k1,cF.ga k2⟩,by simp,by simp,mT fun y u h=>by simp[kz] at h⟩
 |f=>
  cases x<;>simp only[mkArg,reduceCtorEq] at hy
  rename_i g c
  simp only[bE] at hy
  obtain⟨dv,gH,rfl⟩:=hy
  have hx':=cn (a:=.fn g c) rfl hx (by simp) (by simp) (by simp) (by simp)
  simp only[aa,eG,dY] at hx'
  obtain⟨caps,e,hc⟩:=hx'
  exact⟨[],[],⟨rfl,caps,e,toC_ok (x:=c) hm hI (fun id hi=>hle id hi) gH hc⟩,by simp,by simp,mT fun y u h=>by simp[kz] at h⟩
 |k=>
  simp only[mkArg,bE] at hy
  obtain⟨dv,gH,rfl⟩:=hy
  obtain⟨hs1,jK⟩:=zd gH
  obtain⟨cs,k1,k2⟩:=qE hs1 jK hx
  obtain⟨B1,q1,q2,q3⟩:=vD (I':=I') hm hI gH k2 (fun id hi=>hown id (by simp[hY,eC,hi])) (by simpa[hY,eC] using hnd)
  exact⟨B1,[],⟨cs,k1,q1⟩,by simpa using q2,fun B hB=>by obtain⟨i,j,k⟩:=q3 B (by simpa using hB);exact⟨i,by simp[hY,eC,j],k⟩,mT fun y u h=>by simp[kz] at h⟩
 |d=>
  simp only[mkArg,bE] at hy
  obtain⟨dv,gH,rfl⟩:=hy
  obtain⟨hs1,jK⟩:=vB gH
  obtain⟨cs,k1,k2⟩:=qE hs1 jK hx
  obtain⟨B1,K1,q1,q2,q3,q4⟩:=qF (I':=I') hm hI gH k2 (fun id hi=>hown id (by simp[hY,eC,hi])) (by simpa[hY,eC] using hnd)
  refine⟨B1,K1,⟨cs,k1,q1⟩,q2,fun B hB=>by obtain⟨i,j,k⟩:=q3 B hB;exact⟨i,by simp[hY,eC,j],k⟩,?_⟩
  intro w' b_ z u Z ha hu dR hZ hk cY iO
  obtain⟨cs',e1,e2,e3,e4⟩:=dR
  have hcs:cs'=cs:=by
   have hl1:=aq.length q1
   have hl2:=aq.length e3
   rw[e2] at hl2
   rw[k1] at e1
   unfold aQ at e1
   cases ha:dv.t.isAgg with
   |true=>rw[ha,bf rfl,bf rfl] at e1;simpa using e1.symm
   |false=>
    simp only[ha,dI,bI] at e1
    have hone:dv.t.size=1:=by cases hdt:dv.t<;>simp[hdt,Ty.isAgg] at ha<;>rfl
    rw[hone] at hl1 hl2
    obtain⟨u1,rfl⟩:=List.length_eq_one_iff.1 hl1
    obtain⟨u2,rfl⟩:=List.length_eq_one_iff.1 hl2
    simpa using e1.symm
  subst hcs
  exact q4 w' b_ z u Z ha hu ⟨e2,e3,e4⟩ hZ hk cY iO
 |m=>
  cases x<;>simp only[mkArg,reduceCtorEq] at hy
  case nil t=>
   simp only[au] at hy
   subst hy
   have e:=o8 (.inl rfl) hx
   exact⟨[],[],⟨none,0,by simp[e],by simp,.inl ⟨rfl,rfl,rfl⟩⟩,by simp,by simp,mT fun y u h=>by simp only[kz,au] at h;exact h.symm⟩
  case whole id st t=>
   split at hy
   ·rename_i xs hro
    simp only[au] at hy
    subst hy
    have hx':=cn (a:=.whole id st t) rfl hx (by simp) (by simp) (by simp) (by simp)
    obtain⟨B1,q1,q2⟩:=sC hm hx' hro hI (hown id (by simp[eC]))
    refine⟨B1,[],q1,?_,?_,?_⟩
    ·rcases q2 with rfl|⟨B,rfl,_⟩<;>simp
    ·rcases q2 with rfl|⟨B,rfl,q2⟩
     ·simp
     ·intro B' bg
      simp only[jV,eH] at bg
      subst bg
      exact⟨id,by simp[eC],q2⟩
    ·intro w' b_ z u Z ha hu dR hZ hk cY _
     obtain⟨ys',rfl,hl,hr,hcs⟩:=dR
     simp only[jV] at hZ cY
     simp only[kz] at hu
     split at hu
     ·rename_i zs hzs
      have e0:=cz hzs
      cases e0
      cases hu
      have hb:=gA hro
      obtain⟨ad,cap,e1,e2,e3⟩:=ue hx hro
      obtain⟨ad',cap',f1,f2,f3⟩:=hr
      rw[e1] at f1
      simp only[eG,Value.slice.injEq,dY] at f1
      obtain⟨rfl,f1l,rfl⟩:=f1
      have uk:br w' b_ [(id,⟨st,false,.rows t ys'⟩)] Z ⟨fun _=>ρ id,fun _=>[]⟩:=by
       refine br.single rfl (fF rfl) (fun m' ρ' hρ=>?_) (fun B o' hp=>?_)
       ·simp only[aS]
        refine⟨trivial,?_⟩
        rcases f3 with⟨g1,g2,g3⟩|⟨B,o',cs,g1,g2,g3,g4,g5,g6⟩
        ·rcases e3 with e3|⟨B,o',cs,_,e4,_⟩
         ·exact .inl ⟨by rw[←dM];omega,hρ.trans e3.2.2⟩
         ·rw[g1] at e4;cases e4
        ·rcases e3 with e3|⟨B',dA,cs',e4,e5,_⟩
         ·rw[g1] at e3;cases e3.1
         ·rw[g1] at e5
          cases e5
          have:=gD t.size f2
          exact .inr ⟨B,o',cs,hρ.trans e4,g2,by omega,g4,by simpa using g5⟩
       ·rcases e3 with e3|⟨B',dA,cs',e4,e5,_⟩
        ·rw[e3.2.2] at hp;cases hp
        ·rw[e4] at hp
         cases hp
         rcases f3 with⟨g1,_⟩|⟨B2,o2,cs2,g1,_,_,_,_,g6⟩
         ·rw[g1] at e5;cases e5
         ·rw[g1] at e5;cases e5;rw[g6];exact eH.2 rfl
      have iQ:iy m ρ w w' ⟨fun _=>ρ id,fun _=>[]⟩ id ⟨st,false,.rows t ys'⟩:=by
       refine⟨_,hb,fF rfl,rfl,⟨rfl,hl.symm⟩,rfl,fun B o' cs hp hc=>?_,fun _ _ _ _ _ h=>by cases h⟩
       exact hcs B (uk.src id _ B (by rw[aI,bf rfl]) (.inl ⟨_,hp⟩)) cs hc
      refine⟨_,Z,uk,by simp,fun i b hf=>?_,fun i hi=>?_⟩
      ·obtain⟨rfl,rfl⟩:=gf hf
       exact .inr ⟨by simp[eC],iQ⟩
      ·simp only[eC,eH] at hi
       subst hi
       exact⟨_,by rw[aI,bf rfl],iQ⟩
     ·cases hu
   ·simp at hy
 |p=>
  cases x<;>simp only[mkArg,reduceCtorEq] at hy
  rename_i id st p
  cases p with
  |cons s p=>simp[] at hy
  |nil=>
   simp only[] at hy
   split at hy
   ·rename_i st' t b hc
    simp only[bE] at hy
    obtain⟨dv,gH,rfl⟩:=hy
    obtain⟨hb,hst⟩:=cR hc
    simp only at hst
    subst hst
    have e2:eC .p (AT.aV id st' [])++hY m .p (AT.aV id st' [])=id::b.ids:=by simp[eC,hY,sZ,hb]
    rw[e2] at hown hnd ⊢
    have hx':=cn (a:=.aV id st' []) rfl hx (by simp) (by simp) (by simp) (by simp)
    simp only[aa] at hx'
    obtain⟨_,_,h3⟩:=hx'
    obtain⟨e0,B,f1,f2⟩:=h3 _ hb rfl t b rfl
    simp only[eG,dY,Ty.off] at f2
    have hblk:=hm.blk id _ hb
    simp only[aS] at hblk
    obtain⟨ht,B',cs,k1,k2,k3,k4⟩:=hblk
    rw[f1] at k1
    cases k1
    have bU:aN m ρ id B:=⟨_,hb,kf rfl,rfl,.inl ⟨0,f1⟩⟩
    have hnid:=cX.1 hnd
    obtain⟨B1,q1,q2,q3⟩:=vD (I':=I') hm hI gH k3 (fun j hj=>hown j (by simp[hj])) hnid.2
    refine⟨B::B1,[],⟨B,cs,B1,f2,k2,hown id (by simp) B bU,q1,rfl⟩,?_,?_,?_⟩
    ·rw[jV,cX]
     refine⟨fun hB=>?_,q2⟩
     obtain⟨i2,j2,r⟩:=q3 B hB
     have:=bU.inj hm r
     subst this
     exact hnid.1 j2
    ·intro B' bg
     rw[jV] at bg
     rcases aX.1 bg with h|h
     ·subst h;exact⟨id,by simp,bU⟩
     ·obtain⟨i2,j2,r⟩:=q3 B' h
      exact⟨i2,by simp[j2],r⟩
    ·intro w' b_ z u Z ha hu dR hZ hk cY _
     obtain⟨B0,cs0,B2,e1,hcells,hIB,hty,hr,rfl⟩:=dR
     simp only[jV] at hZ cY
     simp only[kz,hc] at hu
     obtain⟨hti,hu⟩:=aH hu
     cases hu
     have ji:=Ty.cZ hti
     rw[e1] at f2
     simp only[Value.pointer.injEq,au,Addr.mk.injEq,dY] at f2
     have hBB:B0=B:=f2
     subst hBB
     have hl0:=ht.length k3
     have hl1:=hr.length
     have hnc:=cX.1 hZ
     simp only[kD] at hk
     have ka4:=cX.1 hk
     obtain⟨p1,n1,n2⟩:=oC m ((id+1)*1000) hr hnc.2
     have hnone:find (aZ m z.t z.x ((id+1)*1000)).2.1 id=none:=by
      cases hf:find (aZ m z.t z.x ((id+1)*1000)).2.1 id with
      |none=>rfl
      |some c=>exact(ka4.1 (p7 hf)).elim
     have htyp:Typed (aZ m z.t z.x ((id+1)*1000)).1 t:=by rw[ji];exact oD m z.t z.x _
     have hv:=br.var (st:=st') n1.new hcells hIB hnc.1 hnone htyp fun m' ρ' hf=>n2 m' ρ' fun i b h=>⟨(hf i b h).1,(hf i b h).2.1⟩
     have iQ:iy m ρ w w' (p1.put id (some (B0,0))) id ⟨st',false,.var t (aZ m z.t z.x ((id+1)*1000)).1⟩:=by
      refine⟨_,hb,kf rfl,rfl,rfl,by simp[Pl.put,f1],fun C o' cs' hp aM=>?_,fun _ _ _ _ _ h=>by cases h⟩
      rw[f1] at hp
      cases hp
      have:=k2.unique aM
      subst this
      exact⟨cs0,hcells,by rw[hl0,hl1,ji,xJ];exact bw _⟩
     refine⟨_,_,hv,by simp,fun i c hf=>?_,fun i hi=>?_⟩
     ·rw[aI] at hf
      split at hf
      ·rename_i e
       subst e
       cases hf
       exact .inr ⟨by simp[eC],iQ⟩
      ·exact .inl (n1.blk i c hf).2.2.1
     ·simp only[eC,eH] at hi
      subst hi
      exact⟨_,by rw[aI,bf rfl],iQ⟩
   ·simp at hy
def v_ {I':Nat→Prop}(hm:aD F m w I ρ)(hI:∀B,I B→I' B):∀{os:List Mode} {as:List AT} {args:List Arg} {vals:List Value},mC m os as=some args→dN (az w I m ρ) as vals →
  (∀id∈gx m os as,∀b B,m id=some b→b.live→bR ρ id b B→I' B)→(∀id∈eO os as++f_ m os as,∀B,aN m ρ id B→¬I' B)→(eO os as++f_ m os as).Nodup →
  ∃Bs Ks,mO w I' args vals Bs∧(Bs++Ks).Nodup∧(∀B∈Bs++Ks,∃id∈eO os as++f_ m os as,aN m ρ id B) ∧
   ∀(w':World) (b_:Nat→Prop) (ds:List DV) (u:List (Nat×ag)) (Z:List Nat),bN I b_ w w'→dW m os as ds=some u→cy w w' b_ args vals ds Z→(Z++Ks).Nodup→(u.map (·.1)).Nodup→(∀B∈Z++Ks,¬b_ B)→(∀B∈Ks,w'.heap[B]?=w.heap[B]?) →
    ∃pl Ws,br w' b_ u Ws pl∧(∀B∈Ws,B∈Z++Ks)∧(∀i b,find u i=some b→b.st=aW m i∨(i∈eO os as∧iy m ρ w w' pl i b))∧(∀i∈eO os as,∃b,find u i=some b∧iy m ρ w w' pl i b):=by
 intro os
 induction os with
 |nil=>
  intro as args vals h hs _ _ _
  cases as with
  |cons x as=>simp[mC] at h
  |nil=>
   simp only[mC,au] at h
   subst h
   cases hs
   refine⟨[],[],rfl,by simp,by simp,fun w' b_ ds u Z _ hu _ _ _ _ _=>?_⟩
   cases ds with
   |cons d ds=>simp[dW] at hu
   |nil=>
    simp only[dW,au] at hu
    subst hu
    exact⟨ρ,[],br.nil _,by simp,fun i b h=>by simp[find] at h,fun i h=>by simp[eO] at h⟩
 |cons mo os ih=>
  intro as args vals h hs hle hown hnd
  cases as with
  |nil=>simp[mC] at h
  |cons x as=>
  simp only[mC] at h
  split at h
  ·rename_i y ys hy hys
   simp only[au] at h
   subst h
   cases hs with
   |cons hx hs=>
   rename_i v vals
   rw[xX] at hle
   rw[ux,uy] at hown hnd
   rw[ux,uy]
   have iP:((eC mo x++eO os as)++(hY m mo x++f_ m os as)).Perm ((eC mo x++hY m mo x)++(eO os as++f_ m os as)):=by
    simp only[bX]
    refine List.Perm.append_left _ ?_
    rw[←bX,←bX]
    exact l5 _ l6
   have hnd2:=iP.nodup_iff.1 hnd
   have hnd2':=cM.1 hnd2
   obtain⟨B1,K1,a1,a2,a3,a4⟩:=vZ hm hI hy hx (fun id hi=>hle id (dX _ hi)) (fun id hi=>hown id (iP.mem_iff.2 (dX _ hi))) hnd2'.1
   obtain⟨B2,K2,b1,b2,b3,b4⟩:=ih hys hs (fun id hi=>hle id (dH _ hi)) (fun id hi=>hown id (iP.mem_iff.2 (dH _ hi))) hnd2'.2.1
   have hall:((B1++K1)++(B2++K2)).Nodup:=jr hm hnd2 a2 b2 a3 b3
   have hp2:∀(Z1 Z2:List Nat),((Z1++Z2)++(K1++K2)).Perm ((Z1++K1)++(Z2++K2)):=by
    intro Z1 Z2
    simp only[bX]
    refine List.Perm.append_left _ ?_
    rw[←bX,←bX]
    exact l5 _ l6
   refine⟨B1++B2,K1++K2,⟨B1,B2,rfl,a1,b1⟩,(hp2 B1 B2).nodup_iff.2 hall,fun B hB=>?_,?_⟩
   ·rcases bB.1 ((hp2 B1 B2).mem_iff.1 hB) with hB|hB
    ·obtain⟨i,j,k⟩:=a3 B hB;exact⟨i,iP.mem_iff.2 (dX _ j),k⟩
    ·obtain⟨i,j,k⟩:=b3 B hB;exact⟨i,iP.mem_iff.2 (dH _ j),k⟩
   ·intro w' b_ ds u Z ha hu dR hZ hk cY iO
    have htk:=yd hy
    rcases zm hu with⟨t1,hu⟩|⟨t1,z,ds',u1,u2,rfl,hu1,hu2,rfl⟩
    ·rcases vQ dR with⟨t2,dR⟩|⟨t2,_⟩
     ·have hke:eC mo x = []:=by cases mo<;>cases x<;>first|rfl|(simp[Mode.lY] at t1)
      have hZ':(Z++K2).Nodup:=by
       refine hZ.sublist ?_
       exact List.Sublist.append_left (List.sublist_append_right _ _) _
      have hsub:∀B∈Z++K2,B∈Z++(K1++K2):=fun B hB=>by simp only[bB] at hB ⊢;rcases hB with h|h<;>simp[h]
      obtain⟨pl,Ws,c1,c2,c3,c4⟩:=b4 w' b_ ds u Z ha hu dR hZ' hk (fun B hB=>cY B (hsub B hB)) (fun B hB=>iO B (dH _ hB))
      refine⟨pl,Ws,c1,fun B hB=>hsub B (c2 B hB),fun i b hf=>?_,fun i hi=>?_⟩
      ·rw[hke];exact c3 i b hf
      ·rw[hke] at hi;exact c4 i hi
     ·rw[t2] at htk;rw[t1] at htk;cases htk
    ·rcases vQ dR with⟨t2,_⟩|⟨t2,z',ds'',Z1,Z2,e,rfl,hup1,hup2⟩
     ·rw[t2] at htk;rw[t1] at htk;cases htk
     ·cases e
      have hZ':=(hp2 Z1 Z2).nodup_iff.1 hZ
      have hZn:=cM.1 hZ'
      obtain⟨ka1,ka2,ka3⟩:=qf hk
      obtain⟨p1,W1,n1,s1,t1,t2⟩:=a4 w' b_ z u1 Z1 ha hu1 hup1 hZn.1 ka1 (fun B hB=>cY B ((hp2 Z1 Z2).mem_iff.2 (dX _ hB))) (fun B hB=>iO B (dX _ hB))
      obtain⟨p2,W2,n2,s2,t3,t4⟩:=b4 w' b_ ds' u2 Z2 ha hu2 hup2 hZn.2.1 ka2 (fun B hB=>cY B ((hp2 Z1 Z2).mem_iff.2 (dH _ hB))) (fun B hB=>iO B (dH _ hB))
      refine⟨bK u1 p1 p2,W1++W2,br.app n1 n2 (fun B hB B' bg=>hZn.2.2 B (s1 B hB) B' (s2 B' bg)) ka3,fun B hB=>?_,fun i b hf=>?_,fun i hi=>?_⟩
      ·refine(hp2 Z1 Z2).mem_iff.2 ?_
       rcases bB.1 hB with hB|hB
       ·exact dX _ (s1 B hB)
       ·exact dH _ (s2 B hB)
      ·rw[cS] at hf
       simp only[bB]
       split at hf
       ·rename_i c hc
        cases hf
        exact(t1 i _ hc).imp id fun h=>⟨.inl h.1,h.2.to (kq hc).1⟩
       ·rename_i hno
        exact(t3 i _ hf).imp id fun h=>⟨.inr h.1,h.2.to (ko hno).1⟩
      ·simp only[bB] at hi
       rcases hi with hi|hi
       ·obtain⟨b,hb,hs⟩:=t2 i hi
        exact⟨b,by rw[cS,hb],hs.to (kq hb).1⟩
       ·obtain⟨b,hb,hs⟩:=t4 i hi
        have hno:find u1 i=none:=by
         cases hf:find u1 i with
         |none=>rfl
         |some c=>exact(ka3 i c b hf hb).elim
        exact⟨b,by rw[cS,hno];exact hb,hs.to (ko hno).1⟩
  ·simp at h
end
section
variable {P:Program} {F:Fix} {C:Cx} {o:Oper} {a:Act} {w w':World} {m:MF} {I I':Nat→Prop} {ρ:Pl} {d:aE}
def p8 (m:MF)(i:Nat):∀ids:List Nat,find (cP m ids) i=if i∈ids then(m i).map (fun b=>⟨b.st+1,false,.dead⟩) else none
 | []=>by simp[cP,eg,find]
 |j::l=>by
  have ih:=p8 m i l
  unfold cP at ih ⊢
  simp only[eg]
  cases hm:m j with
  |none=>
   simp only[Option.map_none,ih]
   by_cases hij:i=j
   ·subst hij;simp[hm]
   ·simp[hij]
  |some b=>
   simp only[iZ,aI,ih]
   by_cases hij:i=j
   ·subst hij;simp[hm]
   ·have:¬j=i:=fun e=>hij e.symm
    simp[hij,this]
def aC.called {ke ki le Bs Ws:List Nat}{L:List (Nat×ag)}{pl:Pl}(hm:aD F m w I ρ)(_hle:∀i∈le,¬i∈ke++ki)
  (hBs:∀B∈Bs,∃id∈ke++ki,aN m ρ id B) (hnew:br w' I' L Ws pl)
  (hst:∀i b,find L i=some b→b.st=aW m i∨(i∈ke∧iy m ρ w w' pl i b)) (hke:∀i∈ke,∃b,find L i=some b)
  (hW:∀B∈Ws,((∃id∈ke++ki,aN m ρ id B)∨w.heap.size≤B)∧¬I' B) (hIa:∀B,dP m ρ I le B→I' B) (hIs:∀B,I B→w'.heap[B]?=w.heap[B]?)
  (hIb:∀B,I' B→B<w'.heap.size∧(dP m ρ I le B∨w.heap.size≤B∨∃id∈ke++ki,aN m ρ id B)) (hframe:∀B,B<w.heap.size→¬B∈Bs→w'.heap[B]?=w.heap[B]?)
  (hsize:w.heap.size≤w'.heap.size) (hos:w'.os=w.os) (gj:w'.tape=w.tape) (hout:w'.output=w.output) :
  aC F m (m.aj (app L (app (cP m ki) (bG m le)))) w w' I I' ρ (bK L pl ρ)∧Fits L pl (m.aj (app L (app (cP m ki) (bG m le)))) (bK L pl ρ):=by
 have hval:∀i,m.aj (app L (app (cP m ki) (bG m le))) i=match find L i with
   |some b=>some b
   |none=>if i∈ki then(m i).map (fun b=>⟨b.st+1,false,.dead⟩) else if i∈le then(m i).map ag.bG else m i:=by
  intro i
  unfold MF.aj
  rw[cS,cS,p8,rF]
  cases find L i with
  |some b=>rfl
  |none=>
   by_cases h1:i∈ki
   ·simp only[h1,cj]
    cases m i with
    |none=>by_cases h2:i∈le<;>simp[h2]
    |some b=>rfl
   ·by_cases h2:i∈le
    ·simp only[h1,h2,cj,bI]
     cases m i<;>rfl
    ·simp[h1,h2]
 have hfit:Fits L pl (m.aj (app L (app (cP m ki) (bG m le)))) (bK L pl ρ):=by
  intro j c hc
  exact⟨by rw[hval,hc],(kq hc).1,(kq hc).2⟩
 refine⟨?_,hfit⟩
 have ha:bN I I' w w':=⟨fun B h=>hIa B (.inl h),hIs⟩
 have hold:∀i b B,find L i=none→¬i∈ki→m i=some b→b.live→bR ρ i b B→w'.heap[B]?=w.heap[B]?∧B<w.heap.size∧¬∃id∈ke++ki,aN m ρ id B:=by
  intro i b B h1 h2 h3 h4 h5
  have hlt:B<w.heap.size:=by
   rcases h5 with⟨o,h5⟩|⟨h5,h6⟩
   ·exact hm.lt h3 h4 h5
   ·exact(hm.dlt h3 h5 h6).1
  have hno:¬∃id∈ke++ki,aN m ρ id B:=by
   rintro⟨j,hj,b',k1,k2,_,k3⟩
   have:=hm.js h3 h4 h5 k1 k2 k3
   subst this
   rcases bB.1 hj with hj|hj
   ·obtain⟨c,hc⟩:=hke i hj
    rw[h1] at hc;cases hc
   ·exact h2 hj
  exact⟨hframe B hlt fun hB=>hno (hBs B hB),hlt,hno⟩
 have hk:dc m (m.aj (app L (app (cP m ki) (bG m le)))) ρ (bK L pl ρ) w w':=by
  refine⟨fun i b hb=>?_,fun i b b' rs t u xs ys hb hb' hs hc aM B o' hr=>?_⟩
  ·rw[hval]
   cases hf:find L i with
   |some c=>
    refine⟨c,rfl,?_⟩
    rcases hst i c hf with h|⟨_,b0,h1,h2,h3,h4,h5,h6,_⟩
    ·left
     rw[h]
     exact lN hb
    ·rw[hb] at h1
     cases h1
     exact .inr ⟨h3,h4,(kq hf).1.trans h5,fun _ B o' hr cs hc=>h6 B o' cs hr hc⟩
   |none=>
    simp only
    by_cases h1:i∈ki
    ·exact⟨_,by simp only[h1,cj,hb];rfl,.inl (Nat.lt_succ_self _)⟩
    ·have hpl:bK L pl ρ i=ρ i:=(ko hf).1
     have hcells:b.live→∀B o',ρ i=some (B,o')→∀cs,Cells w B cs→∃cs',Cells w' B cs'∧cs.length≤cs'.length:=
      fun hl B o' hr cs hc=>⟨cs,hc.of_same (hold i b B hf h1 hb hl (.inl ⟨o',hr⟩)).1,bw _⟩
     by_cases h2:i∈le
     ·rcases b.p9 with⟨_,hz⟩|⟨_,hz⟩
      ·exact⟨b.bG,by simp only[h1,h2,cj,bI,hb];rfl,.inl (by rw[hz];exact Nat.lt_succ_self _)⟩
      ·exact⟨b.bG,by simp only[h1,h2,cj,bI,hb];rfl,.inr ⟨by rw[hz],by rw[hz];exact bJ.refl _,hpl,hcells⟩⟩
     ·exact⟨b,by simp only[h1,h2,bI,hb],.inr ⟨rfl,bJ.refl _,hpl,hcells⟩⟩
  ·rw[hval] at hb'
   cases hf:find L i with
   |some c=>
    rw[hf] at hb'
    cases hb'
    rcases hst i _ hf with h|⟨_,b0,h1,h2,h3,h4,h5,h6,h7⟩
    ·have:=lN hb
     omega
    ·rw[hb] at h1
     cases h1
     exact h7 rs t u xs ys hc aM B o' hr
   |none=>
    rw[hf] at hb'
    simp only at hb'
    by_cases h1:i∈ki
    ·simp only[h1,cj,hb,iZ,au] at hb'
     subst hb'
     cases aM
    ·exact(hold i b B hf h1 hb (fA (by unfold ag.bH;rw[hc];trivial)) (.inl ⟨o',hr⟩)).1
 have dJ:∀i b,m.aj (app L (app (cP m ki) (bG m le))) i=some b→b.live→(find L i=some b∧bK L pl ρ i=pl i∧(bK L pl ρ).d i=pl.d i) ∨
   (find L i=none∧¬i∈ki∧bK L pl ρ i=ρ i∧(bK L pl ρ).d i=ρ.d i∧∃b0,m i=some b0∧b0.live∧b0.c=b.c∧(i∈le∧b.fz=true∧¬b0.bH∨¬i∈le∧b0=b)):=by
  intro i b hb hl
  rw[hval] at hb
  cases hf:find L i with
  |some c=>
   rw[hf] at hb
   cases hb
   exact .inl ⟨rfl,kq hf⟩
  |none=>
   rw[hf] at hb
   simp only at hb
   by_cases h1:i∈ki
   ·simp only[h1,cj,bE] at hb
    obtain⟨b0,_,rfl⟩:=hb
    simp[ag.live] at hl
   ·refine .inr ⟨rfl,h1,(ko hf).1,(ko hf).2,?_⟩
    by_cases h2:i∈le
    ·simp only[h1,h2,cj,bI,bE] at hb
     obtain⟨b0,h3,rfl⟩:=hb
     rcases b0.p9 with⟨_,hz⟩|⟨hd,hz⟩
     ·rw[hz] at hl;simp[ag.live] at hl
     ·rw[hz] at hl
      exact⟨b0,h3,hl,by rw[hz],.inl ⟨h2,by rw[hz],hd⟩⟩
    ·simp only[h1,h2,bI] at hb
     exact⟨b,hb,hl,rfl,.inr ⟨h2,rfl⟩⟩
 have oS:∀{i:Nat} {b:ag} {B:Nat},bK L pl ρ i=pl i∧(bK L pl ρ).d i=pl.d i→bR (bK L pl ρ) i b B→bR pl i b B:=by
  intro i b B e h
  exact h.imp (fun⟨o,h⟩=>⟨o,e.1▸h⟩) (fun⟨h1,h2⟩=>⟨h1,e.2▸h2⟩)
 have oT:∀{i:Nat} {b b0:ag} {B:Nat},bK L pl ρ i=ρ i→(bK L pl ρ).d i=ρ.d i→b0.c=b.c→bR (bK L pl ρ) i b B→bR ρ i b0 B:=by
  intro i b b0 B e1 e2 hc h
  exact h.imp (fun⟨o,h⟩=>⟨o,e1▸h⟩) (fun⟨h1,h2⟩=>⟨by unfold ag.bH at *;rw[hc];exact h1,e2▸h2⟩)
 have cross:∀{i j:Nat} {b c:ag} {B:Nat},find L i=some b→bR pl i b B→find L j=none→¬j∈ki→m j=some c→c.live→bR ρ j c B→False:=by
  intro i j b c B e1 e2 e4 e5 e7 e8 e9
  obtain⟨_,k2,k3⟩:=hold j c B e4 e5 e7 e8 e9
  rcases(hW B (hnew.src i b B e1 e2)).1 with h|h
  ·exact k3 h
  ·omega
 have hone:∀i j b c B,m.aj (app L (app (cP m ki) (bG m le))) i=some b→m.aj (app L (app (cP m ki) (bG m le))) j=some c→b.live→c.live→bR (bK L pl ρ) i b B→bR (bK L pl ρ) j c B→i=j:=by
  intro i j b c B h1 h2 h3 h4 h5 h6
  rcases dJ i b h1 h3 with⟨e1,e2⟩|⟨e1,e2,e3,e3',b0,e4,e5,e6,_⟩
  ·rcases dJ j c h2 h4 with⟨g1,g2⟩|⟨g1,g2,g3,g3',c0,g4,g5,g6,_⟩
   ·exact hnew.one i j b c B e1 g1 (oS e2 h5) (oS g2 h6)
   ·exact(cross e1 (oS e2 h5) g1 g2 g4 g5 (oT g3 g3' g6 h6)).elim
  ·rcases dJ j c h2 h4 with⟨g1,g2⟩|⟨g1,g2,g3,g3',c0,g4,g5,g6,_⟩
   ·exact(cross g1 (oS g2 h6) e1 e2 e4 e5 (oT e3 e3' e6 h5)).elim
   ·exact hm.js e4 e5 (oT e3 e3' e6 h5) g4 g5 (oT g3 g3' g6 h6)
 have hfzI:∀B,dP m ρ I le B→F.I0 B∨F.w0.heap.size≤B∨F.X0 B:=by
  rintro B (h|⟨id,_,b,o',h1,h2,h3⟩|⟨id,_,b,h1,h2,h3⟩)
  ·exact hm.gZ B h
  ·exact .inr (hm.mine id b B o' h1 h2 h3)
  ·exact .inr ((hm.dp id b h1 h2).2 B h3).1
 have dR:∀i b B,m.aj (app L (app (cP m ki) (bG m le))) i=some b→b.live→bR (bK L pl ρ) i b B→F.w0.heap.size≤B∨F.X0 B:=by
  intro i b B h1 h2 h3
  rcases dJ i b h1 h2 with⟨e1,e2⟩|⟨e1,e2,e3,e3',b0,e4,e5,e6,_⟩
  ·rcases(hW B (hnew.src i b B e1 (oS e2 h3))).1 with⟨id,_,h⟩|h
   ·exact h.up hm
   ·exact .inl (mL hm.size h)
  ·rcases oT e3 e3' e6 h3 with⟨o,h⟩|⟨h,h'⟩
   ·exact hm.mine i b0 B o e4 e5 h
   ·exact((hm.dp i b0 e4 h).2 B h').1
 refine⟨ha,hk,⟨fun i b hb=>?_,fun i i' b b' B o1 o2 h1 h2 h3 h4 h5 h6=>hone i i' b b' B h1 h2 h3 h4 (.inl ⟨_,h5⟩) (.inl ⟨_,h6⟩),fun B h=>(hIb B h).1,fun B h=>hIa B (.inl (hm.iE B h)),fun B h=>?_,fun i b B o1 h1 h2 h3=>dR i b B h1 h2 (.inl ⟨_,h3⟩),fun i b hb hd=>?_,fun B h1 h2=>?_,mL hm.size hsize,hos.trans hm.os,gj.trans hm.tape,hout.trans hm.output,F.G.mono ha hm.fY⟩⟩
 ·by_cases hl:b.live
  ·rcases dJ i b hb hl with⟨h1,_⟩|⟨h1,h2,h3,h3',b0,h4,h5,h6,h7⟩
   ·exact(hnew.blk i b h1).2.2 _ _ hfit
   ·have hblk:=hm.blk i b0 h4
    rcases h7 with⟨hle',hfz,hnd⟩|⟨hle',rfl⟩
    ·unfold aS at hblk ⊢
     cases hc:b.c with
     |dead=>trivial
     |deep rs t xs=>exact absurd (by unfold ag.bH;rw[h6,hc];trivial) hnd
     |var t x=>
      rw[h6,hc] at hblk
      simp only at hblk ⊢
      obtain⟨q1,B,cs,q2,q3,q4,_⟩:=hblk
      obtain⟨k1,_,_⟩:=hold i b0 B h1 h2 h4 h5 (.inl ⟨_,q2⟩)
      refine⟨q1,B,cs,h3.trans q2,q3.of_same k1,q4.mono ha hk,?_⟩
      simp only[hfz,true_iff]
      exact hIa B (.inr (.inl ⟨i,hle',b0,0,h4,h5,q2⟩))
     |rows t xs=>
      rw[h6,hc] at hblk
      simp only at hblk ⊢
      obtain⟨_,q⟩:=hblk
      refine⟨trivial,?_⟩
      rcases q with⟨q1,q2⟩|⟨B,o',cs,q1,q2,q3,q4,_⟩
      ·exact .inl ⟨q1,h3.trans q2⟩
      ·obtain⟨k1,_,_⟩:=hold i b0 B h1 h2 h4 h5 (.inl ⟨_,q1⟩)
       refine .inr ⟨B,o',cs,h3.trans q1,q2.of_same k1,q3,q4.mono (fun o=>World.cell?_of_block (w:=w) k1) (fun x vs h=>af.mono ha h),?_⟩
       simp only[hfz,true_iff]
       exact hIa B (.inr (.inl ⟨i,hle',b0,o',h4,h5,q1⟩))
    ·have jL:∀B,bR ρ i b0 B→w'.heap[B]?=w.heap[B]?∧(I' B→I B):=by
      intro B hO
      obtain⟨k1,k2,k3⟩:=hold i b0 B h1 h2 h4 h5 hO
      refine⟨k1,fun kO=>?_⟩
      rcases(hIb B kO).2 with h|h|h
      ·rcases h with h|⟨id,hid,c,dA,e1,e2,e3⟩|⟨id,hid,c,e1,e2,e3⟩
       ·exact h
       ·have:=hm.js h4 h5 hO e1 e2 (.inl ⟨_,e3⟩)
        subst this
        exact absurd hid hle'
       ·have:=hm.js h4 h5 hO e1 (fA e2) (.inr ⟨e2,e3⟩)
        subst this
        exact absurd hid hle'
      ·omega
      ·exact absurd h k3
     exact hblk.mono ha hk h3 h3' (fun B o' hr _=>jL B (.inl ⟨o',hr⟩)) (fun hd B hB=>jL B (.inr ⟨hd,hB⟩))
  ·unfold aS
   unfold ag.live at hl
   cases hc:b.c with
   |dead=>trivial
   |var t x=>simp[hc] at hl
   |rows t xs=>simp[hc] at hl
   |deep rs t xs=>simp[hc] at hl
 ·rcases(hIb B h).2 with h|h|⟨id,_,h⟩
  ·exact hfzI B h
  ·exact .inr (.inl (mL hm.size h))
  ·exact .inr (h.up hm)
 ·have hl:=fA hd
  have hnm:((bK L pl ρ).d i).Nodup∧∀B∈(bK L pl ρ).d i,∀o,bK L pl ρ i≠some (B,o):=by
   rcases dJ i b hb hl with⟨e1,e2,e3⟩|⟨e1,e2,e3,e3',b0,e4,e5,e6,_⟩
   ·rw[e2,e3];exact hnew.dn i b e1 hd
   ·rw[e3,e3']
    obtain⟨q1,q2⟩:=hm.dp i b0 e4 (by unfold ag.bH at *;rw[e6];exact hd)
    exact⟨q1,fun B hB o=>(q2 B hB).2.1 i b0 o e4 e5⟩
  refine⟨hnm.1,fun B hB=>⟨dR i b B hb hl (.inr ⟨hd,hB⟩),fun i' b' o h1 h2 h3=>?_,fun i' b' h1 h2 h3=>?_⟩⟩
  ·have:=hone i i' b b' B hb h1 hl h2 (.inr ⟨hd,hB⟩) (.inl ⟨o,h3⟩)
   subst this
   exact hnm.2 B hB o h3
  ·exact(hone i i' b b' B hb h1 hl (fA h2) (.inr ⟨hd,hB⟩) (.inr ⟨h2,h3⟩)).symm
 ·have hnB:¬B∈Bs:=by
   intro h
   obtain⟨id,_,iC⟩:=hBs B h
   rcases iC.up hm with h|h
   ·omega
   ·exact h2 h
  rw[hframe B (Nat.lt_of_lt_of_le h1 hm.size) hnB]
  exact hm.frame B h1 h2
end
section
variable {P:Program} {F:Fix} {C:Cx} {o:Oper} {a:Act} {w w':World} {m:MF} {I I':Nat→Prop} {ρ:Pl} {d:aE}
def af.fG:∀{t:Ty} {x:t.den} {vs:List Value},t.aO=false→af w I t x vs→af w I' t x vs:=by
 intro t
 induction t with
 |lst t _=>intro x vs h;simp[Ty.aO] at h
 |ref t _=>intro x vs h;simp[Ty.aO] at h
 |own t _=>intro x vs _ h;simp only[af] at h
 |pair a b aL aK=>
  intro x vs h hr
  simp only[Ty.aO,jD] at h
  simp only[af] at hr ⊢
  obtain⟨v1,v2,e,h1,h2⟩:=hr
  exact⟨v1,v2,e,aL h.1 h1,aK h.2 h2⟩
 |arr n t ih=>
  intro x vs h hr
  simp only[af] at hr ⊢
  exact⟨hr.1,aR.mono (fun x vs hh=>ih h hh) hr.2⟩
 |_=>intro x vs _ h;exact h
def cF.fG (hI:∀B,I' B→I B):∀{t:Ty} {x:t.den} {vs:List Value} {Bs:List Nat},t.aO=false→cF w I t x vs Bs→cF w I' t x vs Bs:=by
 intro t
 induction t with
 |own t _=>
  intro x vs Bs h hr
  obtain⟨ad,cap,e,hl,hr⟩:=hr
  refine⟨ad,cap,e,hl,hr.imp (fun h=>h) ?_⟩
  rintro⟨B,o',cs,h1,h2,h3,h4,h5,h6⟩
  exact⟨B,o',cs,h1,h2,h3,h4.mono (fun _=>rfl) (fun x vs hh=>af.fG h hh),fun h=>h5 (hI B h),h6⟩
 |pair a b aL aK=>
  intro x vs Bs h hr
  simp only[Ty.aO,jD] at h
  obtain⟨v1,v2,B1,B2,e,eb,h1,h2⟩:=hr
  exact⟨v1,v2,B1,B2,e,eb,aL h.1 h1,aK h.2 h2⟩
 |_=>intro x vs Bs h hr;exact⟨hr.1,af.fG h hr.2⟩
def bF.anti {α:Type}{B sz:Nat}{R R':α→List Value→List Nat→Prop}(hR:∀x vs D,R x vs D→R' x vs D):∀{xs:List α} {off:Nat} {Ds:List Nat},bF w B sz R off xs Ds→bF w B sz R' off xs Ds
 | [],_,_,h=>h
 |_::_,_,_,⟨cs,D1,D2,e,h1,h2,h3,h4⟩=>⟨cs,D1,D2,e,h1,h2,hR _ _ _ h3,bF.anti hR h4⟩
def aq.fG (hI:∀B,I' B→I B):∀{t:Ty} {x:t.den} {vs:List Value} {Bs:List Nat},aq w I t x vs Bs→aq w I' t x vs Bs:=by
 intro t
 induction t with
 |lst t ih=>
  intro x vs Bs hr
  simp only[aq] at hr ⊢
  obtain⟨ad,cap,e,hl,hr⟩:=hr
  refine⟨ad,cap,e,hl,hr.imp (fun h=>h) ?_⟩
  rintro⟨B,o',cs,Ds,h1,h2,h3,h4,h5,h6⟩
  exact⟨B,o',cs,Ds,h1,h2,h3,h4.anti fun x vs D h=>ih h,fun h=>h5 (hI B h),h6⟩
 |pair a b aL aK=>
  intro x vs Bs hr
  simp only[aq] at hr ⊢
  obtain⟨v1,v2,B1,B2,e,eb,h1,h2⟩:=hr
  exact⟨v1,v2,B1,B2,e,eb,aL h1,aK h2⟩
 |own t _=>intro x vs Bs hr;simp only[aq] at hr
 |ref t _=>intro x vs Bs hr;simp only[aq] at hr
 |arr n t _=>intro x vs Bs hr;simp only[aq] at hr ⊢;exact⟨hr.1,hr.2.1,af.fG (by simpa[Ty.aO] using hr.2.1) hr.2.2⟩
 |_=>intro x vs Bs hr;simp only[aq] at hr ⊢;exact⟨hr.1,af.fG rfl hr.2⟩
def mS.fG (hI:∀B,I' B→I B){r:RV}{v:Value}{Bs:List Nat}(h:r.qk=false)(hr:mS w I r v Bs):mS w I' r v Bs:=by
 cases r with
 |v d=>obtain⟨cs,e,hr⟩:=hr;exact⟨cs,e,hr.fG hI h⟩
 |d y=>obtain⟨cs,e,hr⟩:=hr;exact⟨cs,e,hr.fG hI⟩
 |p d=>obtain⟨B,cs,B1,e,hc,hB,hr,e2⟩:=hr;exact⟨B,cs,B1,e,hc,fun h=>hB (hI B h),hr.fG hI h,e2⟩
def gV.fG (hI:∀B,I' B→I B):∀{outs:List RV} {vs:List Value} {Bs:List Nat},bT RV.qk outs=false→gV w I outs vs Bs→gV w I' outs vs Bs
 | [],[],_,_,h=>h
 | [],_::_,_,_,h=>h
 |_::_,[],_,_,h=>h
 |r::outs,v::vs,Bs,h,hr=>by
  simp only[bT,jD] at h
  obtain⟨B1,B2,e,h1,h2⟩:=hr
  exact⟨B1,B2,e,h1.fG hI h.1,gV.fG hI h.2 h2⟩
def cy.fG (hI:∀B,I' B→I B):∀{args:List Arg} {vs:List Value} {ds:List DV} {Bs:List Nat},jT args ds=false→cy w w' I args vs ds Bs→cy w w' I' args vs ds Bs:=by
 intro args
 induction args with
 |nil=>intro vs ds Bs h hr;cases ds<;>first|exact hr|(simp only[cy] at hr;done)
 |cons a args ih=>
  intro vs ds Bs h hr
  cases vs with
  |nil=>cases a<;>cases ds<;>simp only[cy] at hr
  |cons v vs=>
  cases a with
  |v d=>simp only[cy] at hr ⊢;exact ih (by simpa only[jT] using h) hr
  |f g d=>simp only[cy] at hr ⊢;exact ih (by simpa only[jT] using h) hr
  |d y=>
   cases ds with
   |nil=>simp only[cy] at hr
   |cons u ds=>
   simp only[jT] at h
   simp only[cy] at hr ⊢
   obtain⟨cs,B1,B2,e1,e2,e3,e4,e5,e6⟩:=hr
   exact⟨cs,B1,B2,e1,e2,e3.fG hI,e4,e5,ih h e6⟩
  |p d=>
   cases ds with
   |nil=>simp only[cy] at hr
   |cons u ds=>
   simp only[jT,jD] at h
   simp only[cy] at hr ⊢
   obtain⟨B,cs,B1,B2,e1,e2,e3,e4,e5,e6,e7⟩:=hr
   exact⟨B,cs,B1,B2,e1,e2,fun h=>e3 (hI B h),e4,e5.fG hI h.1,e6,ih h.2 e7⟩
  |m t xs=>
   cases ds with
   |nil=>simp only[cy] at hr
   |cons u ds=>
   simp only[jT,jD] at h
   simp only[cy] at hr ⊢
   obtain⟨ys,B1,B2,e1,e2,e3,e4,e5,e6⟩:=hr
   subst e1
   exact⟨ys,B1,B2,rfl,e2,e3.fG hI h.1,e4,e5,ih h.2 e6⟩
end
section
variable {P:Program} {F:Fix} {C:Cx} {o:Oper} {a:Act} {w w':World} {m:MF} {I I':Nat→Prop} {ρ:Pl} {d:aE}
def dN.app {α β:Type}{R:α→β→Prop}:∀{l1 l2:List α} {k1 k2:List β},dN R l1 k1→dN R l2 k2→dN R (Ab.app l1 l2) (k1++k2)
 | [],_,_,_,h,h'=>by cases h;exact h'
 |_::_,_,_,_,h,h'=>by cases h with | cons h1 h2=>exact .cons h1 (h2.app h')
def wg:∀{c:AT} {vs:List Value},l_ c=true→aa w I m ρ c vs→dN (az w I m ρ) (jS c) vs:=by
 intro c
 induction c with
 |bL l r _ ihr=>
  intro vs h hr
  simp only[l_,aF] at h
  simp only[aa] at hr
  obtain⟨v,vs',rfl,h1,h2⟩:=hr
  refine .cons ?_ (ihr h.2 h2)
  have hsl:l.slot=true:=by cases l<;>first|rfl|exact h.1
  refine(lV hsl).2 ?_
  unfold aB
  have:l.isAgg=false:=by
   cases l<;>simp[AT.one] at h<;>first|rfl|(simp[AT.isAgg];exact h.1)
  simpa[this] using h1
 |cJ=>intro vs _ hr;simp only[aa] at hr;subst hr;exact .nil
 |_=>intro vs h hr;simp[l_] at h
def vw:∀{l:List AT} {vs:List Value},dN (fun x v=>x.slot=true∧az w I m ρ x v) l vs→de w I m ρ (nM l) vs
 | [],_,h=>by cases h;rfl
 |_::_,_,h=>by
  cases h with
  |cons h1 h2=>exact⟨_,_,rfl,(lV h1.1).1 h1.2,vw h2⟩
structure eW (P:Program) (G:jG) (C:Cx):Prop where
 fns:∀f cI den,find C.fns f=some (cI,den)→(∀(args:Array Value) (w:World),(callFunc f args).run P w = .ok (.enter f args) w) ∧
  ∀args r,den args=some r→(∀b∈r.ok,b=true)→Holds P G f args r
 gl:∀g d,find C.gl g=some d→∀w I,G.ok w I→af w I (.ref d.t) d.x [.pointer (some ⟨g,0,none⟩)]
end
section
variable {P:Program} {F:Fix} {C:Cx} {o:Oper} {a:Act} {w w':World} {m:MF} {I I':Nat→Prop} {ρ:Pl} {d:aE}
def yy {outs:List RV}{v:Value}{Ys:List Nat}{n:Nat}(h:l7 w I outs v Ys)(hnd:Ys.Nodup) :
  ∃pl:Pl,br w I (cD m outs n).2 Ys pl∧(∀i b,find (cD m outs n).2 i=some b→n≤i∧b.st=aW m i) ∧
   ∀m' ρ',Fits (cD m outs n).2 pl m' ρ'→az w I m' ρ' (oneOf (cD m outs n).1) v:=by
 have hlen:∀{outs:List RV} {n:Nat},(cD m outs n).1.length=outs.length:=by
  intro outs
  induction outs with
  |nil=>intro n;rfl
  |cons r outs ih=>intro n;cases r<;>simp[cD,ih]
 match outs,h with
 | [r],h=>
  have h':gV w I [r] [v] Ys:=⟨Ys,[],by simp,h,rfl⟩
  obtain⟨pl,h1,h2,h3⟩:=sB m n h' hnd
  refine⟨pl,h1,h2,fun m' ρ' hf=>?_⟩
  have h4:=h3 m' ρ' hf
  generalize (cD m [r] n).1=l at h4
  cases h4 with
  |cons h5 h6=>cases h6;exact h5.2
 | [],h=>
  obtain⟨arr,rfl,h'⟩:=h
  obtain⟨pl,h1,h2,h3⟩:=sB m n h' hnd
  refine⟨pl,h1,h2,fun m' ρ' hf=>?_⟩
  have h4:=h3 m' ρ' hf
  have h5:arr.toList = []:=by
   cases ha:arr.toList with
   |nil=>rfl
   |cons x l=>rw[ha] at h';simp[gV] at h'
  have:arr = #[]:=by apply eU;simpa using h5
  subst this
  rfl
 |r::r2::outs,h=>
  obtain⟨arr,rfl,h'⟩:=h
  obtain⟨pl,h1,h2,h3⟩:=sB m n h' hnd
  refine⟨pl,h1,h2,fun m' ρ' hf=>?_⟩
  have h4:=vw (h3 m' ρ' hf)
  have hl:=hlen (outs:=r::r2::outs) (n:=n)
  generalize (cD m (r::r2::outs) n).1=l at h4 hl
  match l,hl with
  |x::y::l,_=>exact⟨arr,rfl,h4⟩
end
section
variable {P:Program} {F:Fix} {C:Cx} {o:Oper} {a:Act} {w w':World} {m:MF} {I I':Nat→Prop} {ρ:Pl} {d:aE}
def vW {l l':List Nat}(h:pR l l'=true):∀i∈l,¬i∈l':=by
 induction l with
 |nil=>simp
 |cons x l ih=>
  simp only[pR,cN,aF,i_] at h
  intro i hi
  rcases aX.1 hi with e|hi
  ·subst e
   intro hin
   rw[lC.2 hin] at h
   simp at h
  ·exact ih h.2 i hi
def wR {g:Operand}{f:FuncId}{caps:AT}{args:Array Operand}{ts:Array Nat}{as:List AT}{dst:Nat}(hC:eW P F.G C)(ho:o.op = .call ⟨.value g,args,ts⟩)(hm:aD F m w I ρ)
  (hg:az w I m ρ (.fn f caps) (a.eval g)) (hs:dN (az w I m ρ) as (args.toList.map a.eval)) (hcaps:l_ caps=true)
  (hd:q8 C m dst f (app as (jS caps))=some d) (hok:∀b∈d.ok,b=true):aA P F o a w m I ρ d:=by
 have hg':=cn (a:=.fn f caps) rfl hg (by simp) (by simp) (by simp) (by simp)
 simp only[aa,eG,dY] at hg'
 obtain⟨cv,hgv,hcv⟩:=hg'
 have hall:=dN.app hs (wg hcaps hcv)
 unfold q8 at hd
 split at hd
 ·simp at hd
 ·rename_i cI den hfn
  obtain⟨hent,hden⟩:=hC.fns f cI den hfn
  generalize app as (jS caps)=xs at hd hall
  cases hch:nodup (app (eO cI xs) (f_ m cI xs))&&pR (gx m cI xs) (app (eO cI xs) (f_ m cI xs)) with
  |false=>simp[hch] at hd
  |true=>
  simp only[hch,aG] at hd
  simp only[aF,lQ,bZ] at hch
  have hap:=vW hch.2
  split at hd
  ·simp at hd
  ·rename_i ar har
   split at hd
   ·simp at hd
   ·rename_i r hdr
    split at hd
    ·simp at hd
    ·rename_i u hu
     obtain⟨hk,hd⟩:=aH hd
     cases hd
     rw[lQ,jm] at hk
     obtain⟨kd1,kd2,kd3⟩:=qf hk
     have hown:∀id∈eO cI xs++f_ m cI xs,∀B,aN m ρ id B→¬dP m ρ I (gx m cI xs) B:=by
      rintro id hid B bU (hI|⟨j,hj,bj,oj,k1,k2,k3⟩|⟨j,hj,bj,k1,k2,k3⟩)
      ·exact bU.iU hm hI
      ·obtain⟨b,h1,h2,h3,h4⟩:=bU
       have:=hm.js h1 h2 h4 k1 k2 (.inl ⟨_,k3⟩)
       subst this
       exact hap id hj hid
      ·obtain⟨b,h1,h2,h3,h4⟩:=bU
       have:=hm.js h1 h2 h4 k1 (fA k2) (.inr ⟨k2,k3⟩)
       subst this
       exact hap id hj hid
     have hlent:∀id∈gx m cI xs,∀b B,m id=some b→b.live→bR ρ id b B→dP m ρ I (gx m cI xs) B:=by
      rintro id hi b B h1 h2 (⟨o',h3⟩|⟨h3,h4⟩)
      ·exact .inr (.inl ⟨id,hi,b,o',h1,h2,h3⟩)
      ·exact .inr (.inr ⟨id,hi,b,h1,h3,h4⟩)
     obtain⟨Bs,Ks,hargs,hBK,p_,hcont⟩:=v_ (I':=dP m ρ I (gx m cI xs)) hm (fun _ h=>.inl h) har hall hlent hown hch.1
     have ot:=cM.1 hBK
     have hBnd:=ot.1
     have hBnot:∀B∈Bs++Ks,¬dP m ρ I (gx m cI xs) B:=by
      intro B hB
      obtain⟨id,hid,bU⟩:=p_ B hB
      exact hown id hid B bU
     have hBlt:∀B∈Bs++Ks,B<w.heap.size:=by
      intro B hB
      obtain⟨id,hid,bU⟩:=p_ B hB
      exact bU.lt hm
     have qa:=hden ar r hdr hok w (dP m ρ I (gx m cI xs)) _ Bs (aC.freeze hm _).mem.aY (aC.freeze hm _).mem.fY hargs hBnd (fun B hB=>hBnot B (dX _ hB))
     intro K Q hK
     have fO:(execOp a.eval o).run P w = .ok (.enter f (args.toList.map a.eval++cv.toList).toArray) w:=by
      have:args.map a.eval++cv=(args.toList.map a.eval++cv.toList).toArray:=by apply eU;simp
      simp[execOp,ho,resolve,hgv,Deferred.ofValue,invoke,hent]
     unfold Oper.wp
     rw[fO,Oper.upon_enter]
     refine Calls.mono qa fun e w' he=>?_
     obtain⟨v,I',Ys,Zs,rfl,hO,hU,hYZ,hW,hag,kO,hfr,hsz,hos,htp,hout⟩:=he
     simp only
     have hYn:=cM.1 hYZ
     have iO:∀B∈Ks,w'.heap[B]?=w.heap[B]? :=fun B hB=>hfr B (hBlt B (dH _ hB)) fun h=>ot.2.2 B h B hB rfl
     have hKn:∀B∈Ks,¬I' B:=by
      intro B hB hIB
      rcases(kO B hIB).2 with h|h|h
      ·exact hBnot B (dH _ hB) h
      ·have:=hBlt B (dH _ hB);omega
      ·exact ot.2.2 B h B hB rfl
     have hYK:∀B∈Ys++Zs,∀B'∈Ks,B≠B':=by
      rintro B hB B' bg rfl
      rcases(hW B hB).1 with h|h
      ·exact ot.2.2 B h B bg rfl
      ·have:=hBlt B (dH _ bg);omega
     have hZK:(Zs++Ks).Nodup:=cM.2 ⟨hYn.2.1,ot.2.1,fun B hB B' bg=>hYK B (dH _ hB) B' bg⟩
     have fin:∀(I2:Nat→Prop) (le2:List Nat),(∀i∈le2,i∈gx m cI xs)→l7 w' I2 r.outs v Ys→cy w w' I2 ar (args.toList.map a.eval++cv.toList) r.kB Zs→(∀B,I2 B→I' B)→(∀B,dP m ρ I le2 B→I2 B) →
       (∀B,I2 B→dP m ρ I le2 B∨w.heap.size≤B∨B∈Bs) →
       ∃ρ',aC F m (m.aj (app (app (cD m r.outs ((dst+1)*1000)).2 u) (app (cP m (f_ m cI xs)) (bG m le2)))) w w' I I2 ρ ρ' ∧
        az w' I2 (m.aj (app (app (cD m r.outs ((dst+1)*1000)).2 u) (app (cP m (f_ m cI xs)) (bG m le2)))) ρ' (oneOf (cD m r.outs ((dst+1)*1000)).1) v:=by
      intro I2 le2 hle2 hO2 hU2 hsub hIa hIb
      have hag0:∀B,I B→w'.heap[B]?=w.heap[B]? :=fun B h=>hag.same B (.inl h)
      have hagr:bN I I2 w w':=⟨fun B h=>hIa B (.inl h),hag0⟩
      obtain⟨p1,n1,n2,n3⟩:=yy (m:=m) (n:=(dst+1)*1000) hO2 hYn.1
      obtain⟨p2,Ws,u1,us,u2,u3⟩:=hcont w' I2 r.kB u Zs hagr hu hU2 hZK kd2 (fun B hB hI=>by
       rcases bB.1 hB with h|h
       ·exact(hW B (dH _ h)).2 (hsub B hI)
       ·exact hKn B h (hsub B hI)) iO
      have hnew:=br.app n1 u1 (fun B hB B' bg=>by
       rcases bB.1 (us B' bg) with h|h
       ·exact hYn.2.2 B hB B' h
       ·exact hYK B (dX _ hB) B' h) kd3
      have hA:∀i b,find (app (cD m r.outs ((dst+1)*1000)).2 u) i=some b→b.st=aW m i∨(i∈eO cI xs∧iy m ρ w w' (bK (cD m r.outs ((dst+1)*1000)).2 p1 p2) i b):=by
       intro i b hb
       rw[cS] at hb
       split at hb
       ·rename_i b' hb'
        cases hb
        exact .inl (n2 i b hb').2
       ·rename_i hno
        exact(u2 i b hb).imp id fun h=>⟨h.1,h.2.to (ko hno).1⟩
      have hB:∀i∈eO cI xs,∃b,find (app (cD m r.outs ((dst+1)*1000)).2 u) i=some b:=by
       intro i hi
       obtain⟨b,hb,_⟩:=u3 i hi
       have hno:find (cD m r.outs ((dst+1)*1000)).2 i=none:=by
        cases hf:find (cD m r.outs ((dst+1)*1000)).2 i with
        |none=>rfl
        |some c=>exact(kd3 i c b hf hb).elim
       exact⟨b,by rw[cS,hno];exact hb⟩
      have hBs':∀B∈Bs,∃id∈eO cI xs++f_ m cI xs,aN m ρ id B:=fun B hB=>p_ B (dX _ hB)
      obtain⟨c1,c2⟩:=aC.called (le:=le2) hm (fun i hi=>hap i (hle2 i hi)) hBs' hnew hA hB (fun B hB=>by
        have fZ:B∈Ys++Zs∨B∈Ks:=by
         rcases bB.1 hB with h|h
         ·exact .inl (dX _ h)
         ·rcases bB.1 (us B h) with h|h
          ·exact .inl (dH _ h)
          ·exact .inr h
        rcases fZ with h|h
        ·exact⟨(hW B h).1.imp (hBs' B) id,fun hI=>(hW B h).2 (hsub B hI)⟩
        ·exact⟨.inl (p_ B (dH _ h)),fun hI=>hKn B h (hsub B hI)⟩) hIa hag0
       (fun B hB=>⟨(kO B (hsub B hB)).1,(hIb B hB).imp id (Or.imp id (hBs' B))⟩) hfr hsz hos htp hout
      exact⟨_,c1,n3 _ _ (Fits.left c2)⟩
     have hass:∀{x y z:List (Nat×ag)},app (app x y) z=app x (app y z):=by intro x y z;simp[bZ]
     cases hkp:bT RV.qk r.outs || jT ar r.kB with
     |true=>
      obtain⟨ρ',f1,f2⟩:=fin I' (gx m cI xs) (fun _ h=>h) hO hU (fun _ h=>h) (fun B h=>hag.sub B h) (fun B h=>(kO B h).2)
      rw[hass] at f1 f2
      exact hK v w' I' ρ' (by simpa only[hkp,aG] using f1) (by simpa only[hkp,aG] using f2)
     |false=>
      simp only[jD] at hkp
      have hsub:∀B,I B→I' B:=fun B h=>hag.sub B (.inl h)
      have hO2:l7 w' I r.outs v Ys:=by
       have hO':=hO
       unfold l7 at hO' ⊢
       split
       ·rename_i x hx
        rw[hx] at hO' hkp
        simp only[bT,Bool.or_false] at hkp
        exact hO'.fG hsub hkp.1
       ·rename_i hx
        split at hO'
        ·rename_i x hx2;exact absurd hx2 (hx x)
        ·obtain⟨arr,e,h⟩:=hO'
         exact⟨arr,e,h.fG hsub hkp.1⟩
      obtain⟨ρ',f1,f2⟩:=fin I [] (fun _ h=>by simp at h) hO2 (hU.fG hsub hkp.2) hsub (fun B h=>by
       rcases h with h|⟨_,h,_⟩|⟨_,h,_⟩
       ·exact h
       ·simp at h
       ·simp at h) (fun B h=>.inl (.inl h))
      rw[hass] at f1 f2
      exact hK v w' I ρ' (by simpa only[hkp,Bool.or_false,eF,bG,eg] using f1) (by simpa only[hkp,Bool.or_false,eF,bG,eg] using f2)
end
section
variable {P:Program} {F:Fix} {C:Cx} {o:Oper} {a:Act} {w w':World} {m:MF} {I I':Nat→Prop} {ρ:Pl} {d:aE}
def br.deep {id st rs B o:Nat}{t:Ty}{zs:List t.den}{Ds:List Nat}{cs:List Value}(hc:Cells w B cs)(hl:o+zs.length*t.size≤cs.length)(hr:bF w B t.size (aq w I t) o zs Ds)(hI:¬I B)(hnd:(B::Ds).Nodup) :
  br w I [(id,⟨st,false,.deep rs t zs⟩)] (B::Ds) ⟨fun _=>some (B,o),fun _=>Ds⟩:=by
 have hnc:=cX.1 hnd
 refine⟨fun i b hf=>?_,fun i b C hf hO=>?_,fun i j b c C hf hf' _ _=>(gf hf).1.symm.trans (gf hf').1,fun i b hf _=>⟨hnc.2,fun C hC o2 he=>?_⟩⟩
 ·obtain⟨rfl,rfl⟩:=gf hf
  refine⟨rfl,trivial,fun m' ρ' hfit=>?_⟩
  obtain⟨_,k2,k3⟩:=hfit id _ (by rw[aI,bf rfl])
  simp only[aS]
  exact⟨trivial,.inr ⟨B,o,cs,k2,hc,hl,by rw[k3];exact hr,hI⟩⟩
 ·obtain⟨rfl,rfl⟩:=gf hf
  rcases hO with⟨o2,hO⟩|⟨_,hO⟩
  ·cases hO;exact lu
  ·exact gP _ hO
 ·cases he
  exact hnc.1 hC
def br.deep0 {id st rs:Nat}{t:Ty}:br w I [(id,⟨st,false,.deep rs t []⟩)] [] ⟨fun _=>none,fun _=>[]⟩:=by
 refine⟨fun i b hf=>?_,fun i b C hf hO=>?_,fun i j b c C hf hf' _ _=>(gf hf).1.symm.trans (gf hf').1,fun i b hf _=>⟨by simp,by simp⟩⟩
 ·obtain⟨rfl,rfl⟩:=gf hf
  refine⟨rfl,trivial,fun m' ρ' hfit=>?_⟩
  obtain⟨_,k2,k3⟩:=hfit id _ (by rw[aI,bf rfl])
  simp only[aS]
  exact⟨trivial,.inl ⟨trivial,k2,k3⟩⟩
 ·rcases hO with⟨o2,hO⟩|⟨_,hO⟩
  ·cases hO
  ·simp at hO
def o7 {m':MF}{ρ':Pl}{id st rs B o cap:Nat}{t:Ty}{zs:List t.den}{cs:List Value}{n:Nat}(hm':m' id=some ⟨st,false,.deep rs t zs⟩)(kX:ρ' id=some (B,o))(hn:n=zs.length)(hl:n≤cap)(hc:Cells w B cs)(hcap:o+cap*t.size≤cs.length) :
  az w I m' ρ' (.whole id st t) (.slice (some ⟨B,o,none⟩) n cap):=by
 subst hn
 show aB _ _ _ _ _ _
 unfold aB
 simp only[AT.isAgg,dI,bI,aa]
 refine⟨⟨_,rfl,rfl⟩,cq.of hm' rfl,fun b hb' hs' t' k aM=>?_⟩
 rw[hm'] at hb'
 cases hb'
 cases aM
 exact⟨_,cap,rfl,hl,.inr ⟨B,o,cs,kX,rfl,hc,hcap⟩⟩
def vu {m':MF}{ρ':Pl}{id st rs:Nat}{t:Ty}(hm':m' id=some ⟨st,false,.deep rs t []⟩)(kX:ρ' id=none):az w I m' ρ' (.whole id st t) (.slice none 0 0):=by
 show aB _ _ _ _ _ _
 unfold aB
 simp only[AT.isAgg,dI,bI,aa]
 refine⟨⟨_,rfl,rfl⟩,cq.of hm' rfl,fun b hb' hs' t' k aM=>?_⟩
 rw[hm'] at hb'
 cases hb'
 cases aM
 exact⟨none,0,rfl,bw _,.inl ⟨rfl,rfl,kX⟩⟩
def bF.cells {α:Type}{B sz:Nat}{R:α→List Value→List Nat→Prop}:∀{xs:List α} {off:Nat} {Ds:List Nat},bF w B sz R off xs Ds →
  ∃cs:List Value,cs.length=xs.length*sz∧(∀j,j<cs.length→w.cell? ⟨B,off+j,none⟩=cs[j]?)∧((∀x vs D,R x vs D→∀v∈vs,v.oneCell'=true)→∀v∈cs,v.oneCell'=true) ∧
   ∀(w':World) (B' off':Nat) (R':α→List Value→List Nat→Prop),(∀j,j<cs.length→w'.cell? ⟨B',off'+j,none⟩=cs[j]?)→(∀x vs D,(∀b∈D,b∈Ds)→R x vs D→R' x vs D)→bF w' B' sz R' off' xs Ds
 | [],off,Ds,h=>⟨[],by simp,fun j hj=>by simp at hj,fun _=>by simp,fun _ _ _ _ _ _=>h⟩
 |x::xs,off,Ds,h=>by
  obtain⟨cs,D1,D2,e,h1,h2,h3,h4⟩:=h
  subst e
  obtain⟨ds,k1,k2,k3,k4⟩:=bF.cells h4
  refine⟨cs++ds,by simp[h1,k1,bP];omega,fun j hj=>?_,fun hR v hv=>?_,fun w' B' off' R' hc hR=>?_⟩
  ·by_cases kR:j<sz
   ·rw[cL (by omega),←h2 j kR]
   ·simp only[cK] at hj
    have:=k2 (j-sz) (by omega)
    rw[c_ (by omega),h1,←this]
    congr 2
    omega
  ·rcases bB.1 hv with h|h
   ·exact hR _ _ _ h3 v h
   ·exact k3 hR v h
  ·refine⟨cs,D1,D2,rfl,h1,fun j hj=>?_,hR _ _ _ (fun b hb=>dX _ hb) h3,k4 w' B' (off'+sz) R' (fun j hj=>?_) (fun x vs D hD=>hR x vs D fun b hb=>dH _ (hD b hb))⟩
   ·rw[hc j (by simp;omega),cL (by omega)]
   ·have:=hc (sz+j) (by simp;omega)
    rw[←iq] at this
    rw[this,c_ (by omega),h1]
    congr 1
    omega
def zA:∀{t:Ty},t.kK=true→(∀{T:Nat},aJ P t T→aq w I t t.dflt (bh t) [])∧(∀{fs off},ck P t fs off→aq w I t t.dflt (bh t) []):=by
 intro t
 induction t with
 |unit=>intro _;exact⟨fun _=>aq.ga rfl rfl,fun _=>aq.ga rfl rfl⟩
 |bool=>intro _;exact⟨fun _=>aq.ga rfl rfl,fun _=>aq.ga rfl rfl⟩
 |int k=>intro _;exact⟨fun _=>aq.ga rfl rfl,fun _=>aq.ga rfl rfl⟩
 |str=>intro _;exact⟨fun _=>aq.ga rfl rfl,fun _=>aq.ga rfl rfl⟩
 |lst u _=>
  intro _
  have:aq w I (.lst u) (Ty.dflt (.lst u)) (bh (.lst u)) []:=by
   simp only[aq]
   exact⟨none,0,rfl,bw _,.inl ⟨rfl,rfl,trivial⟩⟩
  exact⟨fun _=>this,fun _=>this⟩
 |own u _=>intro h;simp[Ty.kK] at h
 |pair x y iD jj=>
  intro h
  simp only[Ty.kK,aF] at h
  refine⟨fun {T} hT=>?_,fun {fs off} hF=>?_⟩
  ·unfold aJ at hT
   simp only[TO] at hT
   obtain⟨_,fs,_,f,l,_,_,h1,h2⟩:=hT
   simp only[aq]
   exact⟨_,_,[],[],rfl,rfl,(iD h.1).1 h1,(jj h.2).2 h2⟩
  ·unfold ck at hF
   simp only[TO] at hF
   obtain⟨f,l,_,_,h1,h2⟩:=hF
   simp only[aq]
   exact⟨_,_,[],[],rfl,rfl,(iD h.1).1 h1,(jj h.2).2 h2⟩
 |arr n u ih=>
  intro h
  simp only[Ty.kK,aF,i_] at h
  refine⟨fun {T} hT=>?_,fun {fs off} hF=>by unfold ck at hF;simp only[TO] at hF⟩
  exact aq.ga (by simpa[Ty.aO] using h.2) ((qM (P:=P) (t:=.arr n u) (by simp[Ty.jF])).1 hT)
 |ref u _=>intro h;simp[Ty.kK] at h
def vV {t:Ty}{x:t.den}{z:List Value}{B:Nat}(hz:aq w I t x z []):∀(n off:Nat),(∀j,j<n*z.length→w.cell? ⟨B,off+j,none⟩=((List.replicate n z).flatten)[j]?) →
  bF w B t.size (aq w I t) off (List.replicate n x) []
 |0,_,_=>rfl
 |n+1,off,h=>by
  have hl:=aq.length hz
  have hfl:((List.replicate n z).flatten).length=n*z.length:=by simp
  rw[mK]
  refine⟨z,[],[],rfl,hl,fun j hj=>?_,hz,vV hz n (off+t.size) fun j hj=>?_⟩
  ·rw[h j (by rw[bP];omega),mK,List.flatten_cons,cL (by omega)]
  ·have:=h (t.size+j) (by rw[bP];omega)
   rw[←iq] at this
   rw[this,mK,List.flatten_cons,c_ (by omega),hl]
   congr 1
   omega
def qP {B:Nat}:dP m ρ I [] B→I B:=by
 rintro(h|⟨_,h,_⟩|⟨_,h,_⟩)
 ·exact h
 ·simp at h
 ·simp at h
def aC.nZ {id st rs B o:Nat}{t:Ty}{zs:List t.den}{Ds ki Bs:List Nat}{cs:List Value}(hm:aD F m w I ρ)(hst:st=aW m id)
  (hc:Cells w' B cs) (hl:o+zs.length*t.size≤cs.length) (hr:bF w' B t.size (aq w' I t) o zs Ds) (hnd:(B::Ds).Nodup)
  (hW:∀b∈B::Ds,((∃i∈ki,aN m ρ i b)∨w.heap.size≤b)∧¬I b) (hBs:∀b∈Bs,∃i∈ki,aN m ρ i b)
  (hframe:∀b,b<w.heap.size→¬b∈Bs→w'.heap[b]?=w.heap[b]?) (hsize:w.heap.size≤w'.heap.size) (hos:w'.os=w.os) (gj:w'.tape=w.tape) (hout:w'.output=w.output) :
  ∃ρ',aC F m (m.aj (app [(id,⟨st,false,.deep rs t zs⟩)] (app (cP m ki) (bG m [])))) w w' I I ρ ρ'∧ρ' id=some (B,o)∧(m.aj (app [(id,⟨st,false,.deep rs t zs⟩)] (app (cP m ki) (bG m [])))) id=some ⟨st,false,.deep rs t zs⟩:=by
 have hnew:=br.deep (id:=id) (st:=st) (rs:=rs) hc hl hr (hW B lu).2 hnd
 obtain⟨h1,h2⟩:=aC.called (ke:=[]) (ki:=ki) (le:=[]) (Bs:=Bs) hm (by simp) (by simpa using hBs) hnew (fun i b hf=>by
   obtain⟨rfl,rfl⟩:=gf hf
   exact .inl hst) (by simp) (by simpa using hW) (fun _ h=>qP h) (fun b hI=>hframe b (hm.aY b hI) fun hb=>by
   obtain⟨i,_,h⟩:=hBs b hb
   exact h.iU hm hI) (fun b hI=>⟨Nat.lt_of_lt_of_le (hm.aY b hI) hsize,.inl (.inl hI)⟩) hframe hsize hos gj hout
 obtain⟨h3,h4,_⟩:=h2 id _ (by rw[aI,bf rfl])
 exact⟨_,h1,h4,h3⟩
def xk {T:Nat}{xl xc:Operand}{al ac:AT}{l c:Int}{dst:Nat}(hC:bW P C)(ho:o.op = .makeSlice T xl xc)(hm:aD F m w I ρ)(hl:az w I m ρ al (a.eval xl))(hc:az w I m ρ ac (a.eval xc))
  (hil:gK al=some l) (hic:gK ac=some c) (hd:nr C m dst T l c=some d) (hok:∀b∈d.ok,b=true):aA P F o a w m I ρ d:=by
 cases hel:C.el T with
 |none=>simp[nr,hel] at hd
 |some t=>
 cases hdp:C.dp&&t.aO with
 |false=>exact xm hC ho hm hl hc hil hic (fun t' ht'=>by rw[hel] at ht';cases ht';exact hdp) hd hok
 |true=>
  obtain⟨kl,jO⟩:=jk hil hl
  obtain⟨kc,hkc⟩:=jk hic hc
  unfold nr at hd
  rw[hel] at hd
  obtain⟨hz,hd⟩:=aH hd
  rw[hdp,aG] at hd
  cases hd
  simp only[aF,kE,i_] at hz hdp
  have hdok:t.kK=true:=by rcases hz.2 with h|h;exact h;rw[h] at hdp;cases hdp.1
  simp only[aX,iG,or_false,iH,forall_eq,gQ] at hok
  obtain⟨h0,hlc,hmax⟩:=hok
  obtain⟨E,h1,h2,h3⟩:=hC.el hel
  obtain⟨i0,g1,g2,g3,g4⟩:=h3.info.info
  obtain⟨z1,z2⟩:=lq (w:=w) (I:=I) (m:=m) (ρ:=ρ) h3
  have gr:=gG h3 (z1.length z2) (aa.cC z1 z2)
  have hzl:=z1.length z2
  have hmx:c≤34359738368:=by unfold eD at hmax;omega
  have hb:(i0.bytes:Int)*c≤281474976710656:=by
   have h5:(i0.bytes:Int)≤4096:=by omega
   have:=Int.mul_le_mul h5 hmx (by omega) (by omega)
   omega
  have hrun:=run_make (P:=P) w T E i0 _ h1 g1 g3 kl kc l c h0 hlc hb (by omega)
  have hcells:madeCells (aQ t (bh t)).cells (c.toNat*i0.size)=((List.replicate l.toNat (bh t)).flatten++(List.replicate (c.toNat-l.toNat) (bh t)).flatten).toArray:=by
   apply eU
   rw[gr,g2,←hzl,oJ,←List.flatten_append,List.replicate_append_replicate,show l.toNat+(c.toNat-l.toNat)=c.toNat by omega]
  rw[hcells] at hrun
  generalize hcs:(List.replicate l.toNat (bh t)).flatten++(List.replicate (c.toNat-l.toNat) (bh t)).flatten=cs at hrun
  have bO:cs.length=c.toNat*t.size:=by
   rw[←hcs]
   simp only[cK,List.length_flatten,List.map_replicate,List.sum_replicate_nat,hzl]
   rw[←bP]
   congr 1
   omega
  have gI:Cells (w.alloc (.cells cs.toArray E)) w.heap.size cs:=by simpa using Cells.alloc w cs.toArray E
  have hrows:bF (w.alloc (.cells cs.toArray E)) w.heap.size t.size (aq (w.alloc (.cells cs.toArray E)) I t) 0 (List.replicate l.toNat t.dflt) []:=by
   refine vV ((zA (P:=P) hdok).1 h3) l.toNat 0 fun j hj=>?_
   rw[jE,gI.cell,←hcs,cL (by simpa using hj)]
  obtain⟨ρ',hd1,j7,hd3⟩:=aC.nZ (id:=dst) (rs:=0) (o:=0) (ki:=[]) (Bs:=[]) hm rfl gI (by
    simp only[zl67,bO,jE]
    exact gD _ (by omega)) hrows (by simp) (fun b hb=>by
    simp only[eH] at hb
    subst hb
    exact⟨.inr (bw _),fun hI=>absurd (hm.aY _ hI) (kC _)⟩) (by simp) (fun b hb _=>heap_alloc_old w _ b hb) (by simp) rfl rfl rfl
  refine aA.world (v:=.slice (some ⟨w.heap.size,0,none⟩) l.toNat c.toNat) (w':=w.alloc (.cells cs.toArray E)) (by simp only[execOp,ho,jO,hkc,Sem.run_bind,hrun,Result.andThen_ok];rfl) hd1 ?_
  exact o7 hd3 j7 (by simp) (by omega) gI (by rw[bO];omega)
def zb:∀{v:AT} {u:Ty} {y:DV},Typed v u→eT m v=some y→y.t=u:=by
 intro v
 induction v with
 |leaf t x=>intro u y h hv;simp only[eT] at hv;cases hl:t.aO<;>rw[hl] at hv<;>simp at hv;subst hv;exact h
 |nil t=>intro u y h hv;simp only[eT,au] at hv;subst hv;exact h.symm
 |whole id st t=>intro u y h hv;simp only[eT,bE] at hv;obtain⟨r,_,rfl⟩:=hv;exact h.symm
 |pair l r ihl ihr=>
  intro u y h hv
  simp only[Typed] at h
  obtain⟨a,b,rfl,h1,h2⟩:=h
  simp only[eT] at hv
  split at hv
  ·rename_i x y hx hy
   simp only[au] at hv
   subst hv
   simp[ihl h1 hx,ihr h2 hy]
  ·simp at hv
 |nest id st rs row p t=>
  intro u y h hv
  simp only[eT] at hv
  split at hv
  ·obtain⟨h1,h2⟩:=aH hv
   simp only[aF] at h1
   obtain⟨z,rfl,_⟩:=sr (g_ h1.2) h1.1.2 h2
   exact h
  ·cases hv
 |_=>intro u y h hv;simp[eT] at hv
def xA {T:Nat}{xo vo:Operand}{ax av:AT}(hC:bW P C)(ho:o.op = .store T xo vo)(hm:aD F m w I ρ)(hx:az w I m ρ ax (a.eval xo))(hv:az w I m ρ av (a.eval vo))
  (hd:mI C m T ax av=some d):aA P F o a w m I ρ d:=by
 by_cases j8:∃id st row p s fz rs t xs,ax = .ptr id st row p∧cur m id st=some ⟨s,fz,.deep rs t xs⟩
 case neg=>
  exact xB hC ho hm hx hv (fun id st row p e s fz rs t xs h=>j8 ⟨id,st,row,p,s,fz,rs,t,xs,e,h⟩) hd
 case pos=>
  obtain⟨id,st,row,p,s,fz,rs,t,xs,rfl,hc⟩:=j8
  unfold mI at hd
  simp only at hd
  cases hu:C.ty T with
  |none=>simp[hu] at hd
  |some u=>
  have hT:=hC.ty hu
  rw[hu] at hd
  simp only[hc] at hd
  obtain⟨hb,hst⟩:=cR hc
  simp only at hst
  subst hst
  cases fz with
  |true=>simp at hd
  |false=>
  obtain⟨hi,hd⟩:=aH hd
  simp only[aF,i_] at hi
  obtain⟨⟨⟨⟨hi1,hi2⟩,hi3⟩,hi5⟩,hi6⟩:=hi
  have dh:=g_ hi1
  have hty:=j5 hi2
  have hnot:¬id∈av.ids:=fun h=>by rw[lC.2 h] at hi5;cases hi5
  have hnd:=lQ.1 hi6
  split at hd
  ·rename_i s' y hvv
   split at hd
   ·rename_i r hr0
    split at hd
    ·rename_i z hz
     cases hd
     have hsu:=zb hty hvv
     simp only at hsu
     subst hsu
     have hx':=cn (a:=.ptr id s row p) rfl hx (by simp) (by simp) (by simp) (by simp)
     simp only[aa] at hx'
     obtain⟨_,_,h3⟩:=hx'
     obtain⟨e0,hrow,B,o',e1,e2⟩:=h3 _ hb rfl t xs.length rfl
     simp only[eG,dY] at e2
     obtain⟨aP,fP,hmid⟩:=aB.pack hty ((gN hty).1 hv)
     have hlen:=hty.length hmid
     have hone:=aa.cC hty hmid
     have hcells:(a.eval vo).cells=aP.toArray:=by rw[fP];exact gG hT hlen hone
     obtain⟨Bv,Kv,r1,r2,r3,_⟩:=qF (I':=I) hm (fun _ h=>h) hvv hmid (fun i _ B hB=>hB.iU hm) hnd
     have r2':=(cM.1 r2).1
     have r3':∀b∈Bv,∃i∈av.ids,aN m ρ i b:=fun b hb'=>r3 b (dX _ hb')
     obtain⟨B',dA,cs,rcs,pre,mid,post,D1,D2,B1,Bm,B2,y',f1,f2,f3,f4,f5,f6,f7,f8,f9,f10,f11,f12,f13⟩:=ry hm hb hrow hi3 dh
     rw[e1] at f1
     cases f1
     have hml:=aq.length f12
     have hrl:rcs.length=t.off p+s'.size+post.length:=by rw[f10,cK,cK,f11,hml]
     have hrowle:(row+1)*t.size≤xs.length*t.size:=gD _ hrow
     rw[bP] at hrowle
     have hfit:o'+row*t.size+t.off p+aP.length≤cs.length:=by omega
     obtain⟨w',hr,aM,hsame,hsize,hos,gj,hout⟩:=sJ hT hcells hlen hone f2 hfit
     have hlen':=oY hfit
     have kT:aN m ρ id B:=⟨_,hb,trivial,rfl,.inl ⟨o',e1⟩⟩
     have hmD:∀b∈ρ.d id,aN m ρ id b:=fun b hb'=>⟨_,hb,trivial,rfl,.inr ⟨trivial,hb'⟩⟩
     obtain⟨dq1,dq2⟩:=hm.dp id _ hb trivial
     have hBd:¬B∈ρ.d id:=fun hin=>(dq2 B hin).2.1 id _ _ hb trivial e1
     have hBv:∀b∈Bv,b≠B∧¬b∈ρ.d id:=by
      intro b hb'
      obtain⟨i,hi,iC⟩:=r3' b hb'
      refine⟨fun e=>?_,fun e=>?_⟩
      ·subst e
       have:=iC.inj hm kT
       subst this
       exact hnot hi
      ·have:=iC.inj hm (hmD b e)
       subst this
       exact hnot hi
     have ha:bN I I w w':=⟨fun _ h=>h,fun k hk=>hsame k (fun e=>f4 (e▸hk))⟩
     have hsub:∀b∈D1++(B1++B2)++D2,b∈ρ.d id:=by
      intro b hb'
      rw[f6]
      simp only[bB] at hb' ⊢
      rcases hb' with(h|h|h)|h<;>simp[h]
     obtain⟨x',g1,g2⟩:=f13 w' I y aP Bv ha (fun b hb'=>⟨hsame b (fun e=>hBd (e▸hsub b hb')),fun h=>h⟩) (fun k hk=>by
       rw[aM.cell,f2.cell,jt hfit,bY (by omega)]) (fun j hj=>by
       rw[aM.cell,jt hfit]
       by_cases hin:t.off p≤j∧j<t.off p+aP.length
       ·rw[bf (by omega),bX,c_ (by omega),cL (by omega)]
        congr 1
        omega
       ·rw[bY (by omega),←f2.cell,f8 j hj,f10]
        by_cases hlo:j<pre.length
        ·rw[bX,bX,cL hlo,cL hlo]
        ·rw[c_ (by simp;omega),c_ (by simp;omega)]
         simp only[cK]
         congr 1
         omega) (aq.mono ha (fun b hb'=>⟨hsame b (hBv b hb').1,fun h=>h⟩) r1)
     rw[g1] at hr0
     cases hr0
     have:z=x':=by simpa[DV.as] using hz.symm
     subst this
     have hmem:∀b∈D1++(B1++Bv++B2)++D2,b∈Bv∨b∈D1++(B1++B2)++D2:=by
      intro b hb'
      simp only[bB] at hb' ⊢
      rcases hb' with(h|(h|h)|h)|h<;>simp[h]
     have hndD:(B::(D1++(B1++Bv++B2)++D2)).Nodup:=by
      rw[cX]
      refine⟨fun h=>?_,?_⟩
      ·rcases hmem B h with h|h
       ·exact(hBv B h).1 rfl
       ·exact hBd (hsub B h)
      ·have e1:(D1++(B1++Bv++B2)++D2).Perm (Bv++(D1++(B1++B2)++D2)):=by
        have e1:D1++(B1++Bv++B2)++D2=((D1++B1)++Bv)++(B2++D2):=by simp
        have e2:Bv++(D1++(B1++B2)++D2)=(Bv++(D1++B1))++(B2++D2):=by simp
        rw[e1,e2]
        exact l5 _ l6
       have e2:(ρ.d id).Perm (Bm++(D1++(B1++B2)++D2)):=by
        rw[f6]
        have e1:D1++(B1++Bm++B2)++D2=((D1++B1)++Bm)++(B2++D2):=by simp
        have e2:Bm++(D1++(B1++B2)++D2)=(Bm++(D1++B1))++(B2++D2):=by simp
        rw[e1,e2]
        exact l5 _ l6
       refine e1.nodup_iff.2 (cM.2 ⟨r2',(cM.1 (e2.nodup_iff.1 dq1)).2.1,?_⟩)
       rintro b cV b' cH rfl
       exact(hBv b cV).2 (hsub b cH)
     have ow:(xs.set row z).length=xs.length:=zl66
     have hnew:=br.deep (id:=id) (st:=s) (rs:=rs+1) aM (by rw[hlen',ow];exact f3) g2 f4 hndD
     have iQ:iy m ρ w w' ⟨fun _=>some (B,o'),fun _=>D1++(B1++Bv++B2)++D2⟩ id ⟨s,false,.deep (rs+1) t (xs.set row z)⟩:=by
      refine⟨_,hb,trivial,rfl,⟨Nat.le_succ _,rfl,ow.symm⟩,e1.symm,fun C o2 cs' hp hcs=>?_,fun r' _ _ _ _ h h'=>?_⟩
      ·rw[e1] at hp
       cases hp
       have:=f2.unique hcs
       subst this
       exact⟨_,aM,by omega⟩
      ·cases h
       simp only[BC.deep.injEq] at h'
       omega
     obtain⟨c1,c2⟩:=aC.called (ke:=[id]) (ki:=av.ids) (le:=[]) (Bs:=[B]) hm (by simp) (fun b hb'=>by
       simp only[eH] at hb'
       subst hb'
       exact⟨id,by simp,kT⟩) hnew (fun i b hf=>by
       obtain⟨rfl,rfl⟩:=gf hf
       exact .inr ⟨by simp,iQ⟩) (fun i hi=>by
       simp only[eH] at hi
       subst hi
       exact⟨_,by rw[aI,bf rfl]⟩) (fun b hb'=>by
       rcases aX.1 hb' with e|h
       ·subst e;exact⟨.inl ⟨id,by simp,kT⟩,f4⟩
       ·rcases hmem b h with h|h
        ·obtain⟨i,hi,iC⟩:=r3' b h
         exact⟨.inl ⟨i,by simp[hi],iC⟩,iC.iU hm⟩
        ·exact⟨.inl ⟨id,by simp,hmD b (hsub b h)⟩,(hmD b (hsub b h)).iU hm⟩) (fun _ h=>qP h) (fun b hI=>ha.same b hI)
      (fun b hI=>⟨by rw[hsize];exact hm.aY b hI,.inl (.inl hI)⟩) (fun b _ hb'=>hsame b (by simpa using hb')) (by rw[hsize];exact bw _) hos gj hout
     have hmm:m.aj (app [(id,(⟨s,false,.deep (rs+1) t (xs.set row z)⟩:ag))] (app (cP m av.ids) (bG m [])))=m.aj ((id,⟨s,false,.deep (rs+1) t (xs.set row z)⟩)::cP m av.ids):=by
      simp[bZ,bG,eg]
     rw[hmm] at c1
     exact aA.skip (w':=w') (by simp[execOp,ho,e2,hr]) c1 rfl
    ·cases hd
   ·cases hd
  ·cases hd
end
section
variable {P:Program} {F:Fix} {C:Cx} {o:Oper} {a:Act} {w w':World} {m:MF} {I I':Nat→Prop} {ρ:Pl} {d:aE}
def qS (w:World)(I:Nat→Prop)(t:Ty)(xs:List t.den)(Ds:List Nat)(news:List Value):Prop:=
 ∀(w':World) (B' off':Nat),bN I I w w'→(∀j,j<news.length→w'.cell? ⟨B',off'+j,none⟩=news[j]?)→(∀b∈Ds,w'.heap[b]?=w.heap[b]?)→bF w' B' t.size (aq w' I t) off' xs Ds
def tR {jd sj rs:Nat}{fz:Bool}{t u:Ty}{ys:List t.den}{v:Value}(hm:aD F m w I ρ)(hs:az w I m ρ (.whole jd sj u) v)(hb:m jd=some ⟨sj,fz,.deep rs t ys⟩) :
  ∃news,nY P w t.size v ys.length news∧news.length=ys.length*t.size∧(∀v∈news,v.oneCell'=true)∧qS w I t ys (ρ.d jd) news:=by
 obtain⟨ad,cap,e1,e2,e3⟩:=nh hs hb rfl rfl
 subst e1
 have hblk:=hm.blk jd _ hb
 simp only[aS] at hblk
 obtain⟨_,hblk⟩:=hblk
 have hempty:ys = []→ρ.d jd = []→∃news,nY P w t.size (.slice ad ys.length cap) ys.length news∧news.length=ys.length*t.size∧(∀v∈news,v.oneCell'=true)∧qS w I t ys (ρ.d jd) news:=by
  intro h1 h2
  subst h1
  refine⟨[],⟨by simp[Builtin.lenOf],fun w' _=>?_⟩,by simp,by simp,fun w' B' off' _ _ _=>?_⟩
  ·cases ad<;>simp[Builtin.firstCells,loadCells,loadCellsFrom]
  ·rw[h2];rfl
 rcases hblk with⟨f1,_,f3⟩|⟨B,o',cs,f1,f2,f3,f4,f5⟩
 ·exact hempty f1 f3
 ·rcases e3 with⟨g1,g2,g3⟩|⟨B',dA,cs',g1,g2,g3,g4⟩
  ·rw[g3] at f1;cases f1
  ·rw[f1] at g1
   cases g1
   subst g2
   obtain⟨news,k1,k2,k3,k4⟩:=f4.cells
   refine⟨news,⟨by simp[Builtin.lenOf],fun w' hw=>?_⟩,k1,k3 fun x vs D h=>aq.cC h,fun w' B' off' ha hc hD=>k4 w' B' off' _ hc fun x vs D hsub h=>aq.mono ha (fun b hb=>⟨hD b (hsub b hb),fun h=>h⟩) h⟩
   have:(loadCells ⟨B,o',none⟩ news.length).run P w' = .ok news.toArray w':=qA fun j hj=>by
    rw[←k2 j hj]
    simp[World.cell?,hw]
   simp[Builtin.firstCells,←k1,this]
def sX (m:MF)(id:Nat)(b:ag)(l:List Nat):m.aj (app [(id,b)] (app (cP m (id::l)) (bG m [])))=m.aj ((id,b)::cP m l):=by
 funext i
 have e:app [(id,b)] (app (cP m (id::l)) (bG m []))=(id,b)::cP m (id::l):=by simp[bZ,bG,eg]
 unfold MF.aj
 rw[e,aI,aI,p8,p8]
 by_cases h:id=i
 ·rw[bf h,bf h]
 ·have:¬i=id:=fun e=>h e.symm
  rw[bY h,bY h]
  simp only[aX,this,false_or]
def sV (m:MF)(id:Nat)(b:ag)(l:List Nat):m.aj (app [(id,b)] (app (cP m l) (bG m [])))=m.aj ((id,b)::cP m l):=by
 simp[bZ,bG,eg]
def aC.tf {id st rs:Nat}{t:Ty}{ki:List Nat}(hm:aD F m w I ρ)(hst:st=aW m id) :
  ∃ρ',aC F m (m.aj (app [(id,⟨st,false,.deep rs t []⟩)] (app (cP m ki) (bG m [])))) w w I I ρ ρ'∧ρ' id=none∧(m.aj (app [(id,⟨st,false,.deep rs t []⟩)] (app (cP m ki) (bG m [])))) id=some ⟨st,false,.deep rs t []⟩:=by
 have hnew:=br.deep0 (w:=w) (I:=I) (id:=id) (st:=st) (rs:=rs) (t:=t)
 obtain⟨h1,h2⟩:=aC.called (ke:=[]) (ki:=ki) (le:=[]) (Bs:=[]) hm (by simp) (by simp) hnew (fun i b hf=>by
   obtain⟨rfl,rfl⟩:=gf hf
   exact .inl hst) (by simp) (by simp) (fun _ h=>qP h) (fun b hI=>rfl) (fun b hI=>⟨hm.aY b hI,.inl (.inl hI)⟩) (fun _ _ _=>rfl) (bw _) rfl rfl rfl
 obtain⟨h3,h4,_⟩:=h2 id _ (by rw[aI,bf rfl])
 exact⟨_,h1,h4,h3⟩
def uR {id:Nat}{b:ag}(hb:m id=some b)(hf:b.fz=false)(hd:b.bH):∀B∈ρ.d id,aN m ρ id B:=fun _B hB=>⟨b,hb,fA hd,hf,.inr ⟨hd,hB⟩⟩
def t_ {T T2:Nat}{xo yo:Operand}{ax ay:AT}{dst:Nat}{t:Ty}{iz:TypeDesc}(hC:bW P C)(ho:o.op = .call ⟨.builtin .append,#[xo,yo],#[T,T2]⟩)(hm:aD F m w I ρ)
  (hx:az w I m ρ ax (a.eval xo)) (hy:az w I m ρ ay (a.eval yo)) (ht:C.el T=some t) (fC:P.underlying T2=some iz) (hk:∀k,iz ≠ .int k)
  (hd:n6 C m dst t ax ay=some d) (hok:∀b∈d.ok,b=true):aA P F o a w m I ρ d:=by
 cases hdp:rV m ay with
 |false=>exact wL hC ho hm hx hy ht fC hk hdp hd hok
 |true=>
 obtain⟨E,h1,h2,h3⟩:=hC.el ht
 obtain⟨i0,g1,g2,g3,g4⟩:=h3.info.info
 obtain⟨z1,z2⟩:=lq (w:=w) (I:=I) (m:=m) (ρ:=ρ) h3
 have gr:=gG h3 (z1.length z2) (aa.cC z1 z2)
 have hzl:=z1.length z2
 have hzs:(aQ t (bh t)).cells.size=t.size:=by rw[gr];simpa using hzl
 have fO:∀{v:Value} {w':World},(Builtin.append_ #[T,T2] o.type #[a.eval xo,a.eval yo]).run P w = .ok v w'→(execOp a.eval o).run P w = .ok (.value v) w':=by
  intro v w' h
  simp[execOp,ho,resolve,invoke,builtin,h]
 unfold n6 at hd
 rw[hdp,aG] at hd
 unfold tC at hd
 split at hd
 case h_2=>cases hd
 rename_i jd sj u'
 split at hd
 case h_2=>cases hd
 rename_i sj' rs' v zs hcj
 obtain⟨hbj,hsj⟩:=cR hcj
 simp only at hsj
 subst hsj
 split at hd
 case h_1=>cases hd
 rename_i ys hys
 have:=cz hys
 cases this
 obtain⟨news,ht1,hnl,hn1,hmv⟩:=tR (P:=P) hm hy hbj
 rw[←g2] at ht1
 have dO:∀b∈ρ.d jd,aN m ρ jd b:=uR hbj rfl trivial
 obtain⟨dj1,dj2⟩:=hm.dp jd _ hbj trivial
 have mZ:∀{i b:Nat},aN m ρ i b→b<w.heap.size:=fun h=>h.lt hm
 have fresh:∀{y:AT},y=ax→(y = .nil t∨y = .cW)→ys.length≤eD →
   aA P F o a w m I ρ ⟨.whole dst (aW m dst) t,(dst,⟨aW m dst,false,.deep 0 t ys⟩)::cP m [jd],[decide (ys.length≤eD)]⟩:=by
  intro y hya hyn hmax
  subst hya
  have hv:=o8 hyn hx
  cases kW:ys with
  |nil=>
   subst kW
   have hn0:news = []:=by rw[←dM,hnl];simp
   subst hn0
   obtain⟨ρ',q1,q2,q3⟩:=aC.tf (id:=dst) (rs:=0) (t:=t) (ki:=[jd]) hm rfl
   rw[sV] at q1 q3
   refine aA.world (v:=.slice none 0 0) (w':=w) (fO ?_) q1 (vu q3 q2)
   rw[hv]
   exact k_ h1 fC hk g1 ht1 (bw _) rfl
  |cons y0 ys0=>
   have hpos:0<ys.length:=by rw[kW];simp
   rw[←kW]
   have hrun:=qx (ty:=o.type) (base:=none) (sLen:=0) (sCap:=0) (olds:=[]) h1 fC hk g1 g3 ht1 (by omega) (fun w' _=>by simp[Builtin.firstCells]) (by simpa[eD] using hmax) g4
   have hge:=grownCap_ge w (0+ys.length) 0 E
   generalize eN:(Builtin.zeroCells (aQ t (bh t)).cells (grownCap w (0+ys.length) 0 E-(0+ys.length))).toList=rest at hrun
   have hrl:rest.length=(grownCap w (0+ys.length) 0 E-(0+ys.length))*t.size:=by rw[←eN,qC,hzs]
   generalize grownCap w (0+ys.length) 0 E=cap at hrun hge hrl
   have gI:Cells (w.drew.alloc (.cells ([]++news++rest).toArray E)) w.heap.size (news++rest):=by
    exact Cells.alloc w.drew ([]++news++rest).toArray E
   have hag:bN I I w (w.drew.alloc (.cells ([]++news++rest).toArray E)):=⟨fun _ h=>h,fun b hb=>heap_alloc_old w.drew _ b (hm.aY b hb)⟩
   have hrows:=hmv (w.drew.alloc (.cells ([]++news++rest).toArray E)) w.heap.size 0 hag (fun j hj=>by rw[jE,gI.cell,cL hj]) (fun b hb=>heap_alloc_old w.drew _ b (mZ (dO b hb)))
   have hmul:ys.length*t.size+(cap-(0+ys.length))*t.size=cap*t.size:=by rw[←bP];congr 1;omega
   obtain⟨ρ',q1,q2,q3⟩:=aC.nZ (id:=dst) (rs:=0) (o:=0) (ki:=[jd]) (Bs:=[]) hm rfl gI (by simp only[cK];omega) hrows (by
     rw[cX]
     exact⟨fun h=>absurd (mZ (dO _ h)) (kC _),dj1⟩) (fun b hb=>by
     rcases aX.1 hb with e|h
     ·subst e;exact⟨.inr (bw _),fun hI=>absurd (hm.aY _ hI) (kC _)⟩
     ·exact⟨.inl ⟨jd,by simp,dO b h⟩,(dO b h).iU hm⟩) (by simp) (fun b hb _=>heap_alloc_old w.drew _ b hb) (by simp) rfl rfl rfl
   rw[sV] at q1 q3
   rw[←hv] at hrun
   refine aA.world (fO hrun) q1 (o7 q3 q2 (by omega) hge gI (by simp only[cK];omega))
 simp only at hd
 split at hd
 ·
  rename_i u
  obtain⟨hu,hd1⟩:=aH hd
  obtain⟨_,j7⟩:=aH hd1
  have:=Ty.cZ hu
  subst this
  cases j7
  exact fresh rfl (.inl rfl) (by simpa using hok)
 ·obtain⟨_,hd⟩:=aH hd
  cases hd
  exact fresh rfl (.inr rfl) (by simpa using hok)
 ·rename_i id st u
  split at hd
  case h_2=>cases hd
  rename_i st' rs v' ws hci
  obtain⟨jM,hsi⟩:=cR hci
  simp only at hsi
  subst hsi
  split at hd
  case h_2=>cases hd
  rename_i xs hxs
  have:=cz hxs
  cases this
  obtain⟨hu,hd1⟩:=aH hd
  cases hd1
  simp only[aF,i_] at hu
  have kV:=Ty.cZ hu.1
  subst kV
  have hne:id≠jd:=fun e=>by rw[e,Nat.beq_refl] at hu;cases hu.2
  have hmax:xs.length+ys.length≤eD:=by simpa using hok
  obtain⟨olds,ot1,onl,on1,omv⟩:=tR (P:=P) hm hx jM
  obtain⟨ad,cap,e1,e2,e3⟩:=nh hx jM rfl rfl
  have iC:∀b∈ρ.d id,aN m ρ id b:=uR jM rfl trivial
  obtain⟨di1,di2⟩:=hm.dp id _ jM trivial
  have hdd:(ρ.d id++ρ.d jd).Nodup:=cM.2 ⟨di1,dj1,fun b hb b' hb' e=>by
   subst e
   exact hne ((iC b hb).inj hm (dO b hb'))⟩
  have hst1:st'+1=aW m id:=by simp[aW,jM]
  by_cases hroom:xs.length+ys.length≤cap
  ·rcases e3 with⟨k1,k2,k3⟩|⟨B,o',cs,k1,k2,k3,k4⟩
   ·subst k1 k2
    have hx0:xs = []:=by rw[←dM];omega
    have hy0:ys = []:=by rw[←dM];omega
    subst hx0 hy0
    have hn0:news = []:=by rw[←dM,hnl];simp
    subst hn0
    obtain⟨ρ',q1,q2,q3⟩:=aC.tf (id:=id) (rs:=rs+1) (t:=u) (ki:=[id,jd]) hm hst1
    rw[sX] at q1 q3
    refine aA.world (v:=.slice none 0 0) (w':=w) (fO ?_) q1 (vu q3 q2)
    rw[e1]
    exact k_ h1 fC hk g1 ht1 (bw _) rfl
   ·subst k2
    have hblk:=hm.blk id _ jM
    simp only[aS] at hblk
    rcases hblk.2 with⟨_,hno,_⟩|⟨B',dA,cs',f1,f2,f3,f4,f5⟩
    ·rw[k1] at hno;cases hno
    ·rw[k1] at f1
     cases f1
     have:=k3.unique f2
     subst this
     have kT:aN m ρ id B:=⟨_,jM,trivial,rfl,.inl ⟨o',k1⟩⟩
     have hmul:xs.length*u.size+ys.length*u.size≤cap*u.size:=by rw[←bP];exact gD _ hroom
     have hle:o'+xs.length*u.size+news.length≤cs.length:=by omega
     obtain⟨w',hr,aM,hsame,hsize,hos,gj,hout⟩:=run_storeCells_cells P B (o'+xs.length*u.size) news 0 cs w k3 (by simpa using hle) hn1
     simp only[qN] at aM
     have hlen':=oY hle
     have hag:bN I I w w':=⟨fun _ h=>h,fun k hk=>hsame k (fun e=>f5 (e▸hk))⟩
     have hBi:∀b∈ρ.d id,b≠B:=fun b hb e=>(di2 b hb).2.1 id _ _ jM trivial (e▸k1)
     have hBj:∀b∈ρ.d jd,b≠B:=fun b hb e=>by
      subst e
      exact hne (kT.inj hm (dO b hb))
     have hr1:bF w' B u.size (aq w' I u) o' xs (ρ.d id):=by
      obtain⟨os',p1,p2,_,p4⟩:=f4.cells
      refine p4 w' B o' _ (fun j hj=>?_) fun x vs D hsub h=>aq.mono hag (fun b hb=>⟨hsame b (hBi b (hsub b hb)),fun h=>h⟩) h
      rw[←p2 j hj,aM.cell,k3.cell,jt hle,bY (by omega)]
     have hr2:bF w' B u.size (aq w' I u) (o'+xs.length*u.size) ys (ρ.d jd):=hmv w' B _ hag (fun j hj=>by
      rw[aM.cell,jt hle,bf (by omega)]
      congr 1
      omega) (fun b hb=>hsame b (hBj b hb))
     obtain⟨ρ',q1,q2,q3⟩:=aC.nZ (id:=id) (st:=st'+1) (rs:=rs+1) (ki:=[id,jd]) (Bs:=[B]) hm hst1 aM (by rw[hlen',cK,bP];omega) (hr1.app hr2) (by
       rw[cX]
       refine⟨fun h=>?_,hdd⟩
       rcases bB.1 h with h|h
       ·exact hBi B h rfl
       ·exact hBj B h rfl) (fun b hb=>by
       have fZ:aN m ρ id b∨aN m ρ jd b:=by
        rcases aX.1 hb with e|h
        ·subst e;exact .inl kT
        ·rcases bB.1 h with h|h
         ·exact .inl (iC b h)
         ·exact .inr (dO b h)
       rcases fZ with h|h
       ·exact⟨.inl ⟨id,by simp,h⟩,h.iU hm⟩
       ·exact⟨.inl ⟨jd,by simp,h⟩,h.iU hm⟩) (fun b hb=>by
       simp only[eH] at hb
       subst hb
       exact⟨id,by simp,kT⟩) (fun b _ hb=>hsame b (by simpa using hb)) (by rw[hsize];exact bw _) hos gj hout
     rw[sX] at q1 q3
     refine aA.world (v:=.slice (some ⟨B,o',none⟩) (xs.length+ys.length) cap) (w':=w') (fO ?_) q1 (o7 q3 q2 (by simp) hroom aM (by rw[hlen'];omega))
     rw[e1]
     exact k_ h1 fC hk g1 ht1 hroom (by simp only[Addr.jY,g2];exact hr)
  ·have ho2:∀w':World,w'.heap=w.heap→(Builtin.firstCells i0.size xs.length (.slice ad xs.length cap)).run P w' = .ok olds.toArray w':=by
    intro w' hw
    have:=ot1.2 w' hw
    rw[e1] at this
    rw[g2]
    exact this
   have hrun:=qx (ty:=o.type) h1 fC hk g1 g3 ht1 (by omega) ho2 (by simpa[eD] using hmax) g4
   have hge:=grownCap_ge w (xs.length+ys.length) cap E
   generalize eN:(Builtin.zeroCells (aQ u (bh u)).cells (grownCap w (xs.length+ys.length) cap E-(xs.length+ys.length))).toList=rest at hrun
   have hrl:rest.length=(grownCap w (xs.length+ys.length) cap E-(xs.length+ys.length))*u.size:=by rw[←eN,qC,hzs]
   generalize grownCap w (xs.length+ys.length) cap E=cap' at hrun hge hrl
   have gI:Cells (w.drew.alloc (.cells (olds++news++rest).toArray E)) w.heap.size (olds++news++rest):=Cells.alloc w.drew (olds++news++rest).toArray E
   have hag:bN I I w (w.drew.alloc (.cells (olds++news++rest).toArray E)):=⟨fun _ h=>h,fun b hb=>heap_alloc_old w.drew _ b (hm.aY b hb)⟩
   have hr1:=omv (w.drew.alloc (.cells (olds++news++rest).toArray E)) w.heap.size 0 hag (fun j hj=>by rw[jE,gI.cell,bX,cL hj]) (fun b hb=>heap_alloc_old w.drew _ b (mZ (iC b hb)))
   have hr2:=hmv (w.drew.alloc (.cells (olds++news++rest).toArray E)) w.heap.size (0+xs.length*u.size) hag (fun j hj=>by
    rw[gI.cell,bX,c_ (by omega),cL (by omega)]
    congr 1
    omega) (fun b hb=>heap_alloc_old w.drew _ b (mZ (dO b hb)))
   have hmul:xs.length*u.size+ys.length*u.size+(cap'-(xs.length+ys.length))*u.size=cap'*u.size:=by rw[←bP,←bP];congr 1;omega
   obtain⟨ρ',q1,q2,q3⟩:=aC.nZ (id:=id) (st:=st'+1) (rs:=rs+1) (o:=0) (ki:=[id,jd]) (Bs:=[]) hm hst1 gI (by simp only[cK,bP];omega) (hr1.app hr2) (by
     rw[cX]
     refine⟨fun h=>?_,hdd⟩
     rcases bB.1 h with h|h
     ·exact absurd (mZ (iC _ h)) (kC _)
     ·exact absurd (mZ (dO _ h)) (kC _)) (fun b hb=>by
     rcases aX.1 hb with e|h
     ·subst e;exact⟨.inr (bw _),fun hI=>absurd (hm.aY _ hI) (kC _)⟩
     ·rcases bB.1 h with h|h
      ·exact⟨.inl ⟨id,by simp,iC b h⟩,(iC b h).iU hm⟩
      ·exact⟨.inl ⟨jd,by simp,dO b h⟩,(dO b h).iU hm⟩) (by simp) (fun b hb _=>heap_alloc_old w.drew _ b hb) (by simp) rfl rfl rfl
   rw[sX] at q1 q3
   rw[←e1] at hrun
   exact aA.world (fO hrun) q1 (o7 q3 q2 (by simp) hge gI (by simp only[cK];omega))
 ·cases hd
end
section
variable {P:Program} {F:Fix} {C:Cx} {o:Oper} {a:Act} {w w':World} {m:MF} {I I':Nat→Prop} {ρ:Pl} {d:aE}
def uG {t:Ty}{T':Nat}{ρf:Operand→AT}(hT:aJ P t T')(hm:aD F m w I ρ) :
  ∀(ps:List (Nat×Operand)) {n:Nat} {ys:List t.den} {pre post:List Value},(∀p∈ps,az w I m ρ (ρf p.2) (a.eval p.2)) →
   (fM (fun p:Nat×AT=>p.2.ids) (bu (fun p=>(p.1,ρf p.2)) ps)).Nodup→oH m t n (bu (fun p=>(p.1,ρf p.2)) ps)=some ys→pre.length=n*t.size→post.length=ps.length*t.size →
   ∃news Ds,Instr.fill (fun i=>some (i*t.size,t.size)) (pre++post).toArray (ps.map fun p=>(p.1,a.eval p.2))=some (pre++news).toArray∧news.length=ps.length*t.size∧ys.length=ps.length ∧
    Ds.Nodup∧(∀b∈Ds,∃i∈fM (fun p:Nat×AT=>p.2.ids) (bu (fun p=>(p.1,ρf p.2)) ps),aN m ρ i b)∧qS w I t ys Ds news
 | [],n,ys,pre,post,_,_,h,hpre,hpost=>by
  simp only[bu,oH,au] at h
  subst h
  have:post = []:=by rw[←dM,hpost];simp
  subst this
  exact⟨[],[],by simp[Instr.fill],by simp,rfl,by simp,by simp,fun w' B' off' _ _ _=>rfl⟩
 | (i,x)::ps,n,ys,pre,post,hs,hnd,h,hpre,hpost=>by
  simp only[bu,oH] at h
  obtain⟨hb,h1⟩:=aH h
  simp only[aF] at hb
  have hi:=cU hb.1
  subst hi
  split at h1
  ·rename_i d0 hd0
   split at h1
   ·rename_i y ys' hy hys
    cases h1
    have e0:=cz hy
    subst e0
    have hty:=j5 hb.2
    have hx:=n9 (u:=some t) (hs (i,x) (by simp))
    obtain⟨aP,hv,hmid⟩:=aB.pack hty ((gN hty).1 hx)
    have hlen:=hty.length hmid
    have hcells:(a.eval x).cells=aP.toArray:=by rw[hv];exact gG hT hlen (aa.cC hty hmid)
    have hidsub:∀j∈(cG (some t) (ρf x)).ids,j∈(ρf x).ids:=by
     intro j hj
     unfold cG at hj
     split at hj
     ·simp[AT.ids] at hj
     ·exact hj
    simp only[bu,fM,bZ] at hnd
    have dw:=cM.1 hnd
    have hidn:(cG (some t) (ρf x)).ids.Nodup:=by
     unfold cG
     split
     ·simp[AT.ids]
     ·exact dw.1
    obtain⟨Bv,Kv,r1,r2,r3,_⟩:=qF (I':=I) hm (fun _ h=>h) hd0 hmid (fun i _ B hB=>hB.iU hm) hidn
    have hpl:post.length=t.size+ps.length*t.size:=by rw[hpost,kF,bP];omega
    obtain⟨mid,post',rfl,hml⟩:∃mid post',post=mid++post'∧mid.length=t.size:=⟨post.take t.size,post.drop t.size,(zl68 _ _).symm,by rw[zl3];omega⟩
    obtain⟨news,Ds,k1,k2,k3,k4,k5,k6⟩:=uG hT hm ps (n:=i+1) (pre:=pre++aP) (post:=post') (fun p hp=>hs p (by simp[hp])) dw.2.1 hys (by rw[cK,hpre,hlen,bP];omega) (by simp only[cK] at hpl;omega)
    have hr3:∀b∈Bv,∃j∈(ρf x).ids,aN m ρ j b:=fun b hb=>by
     obtain⟨j,hj,h⟩:=r3 b (dX _ hb)
     exact⟨j,hidsub j hj,h⟩
    refine⟨aP++news,Bv++Ds,?_,by rw[cK,k2,hlen,kF,bP];omega,by simp[k3],jr hm hnd (cM.1 r2).1 k4 hr3 k5,fun b hb=>?_,fun w' B' off' ha hc hD=>?_⟩
    ·simp only[kD]
     rw[←bX,rE (n:=t.size) (by rw[hpre]) hcells hml hlen]
     simpa[bX] using k1
    ·simp only[bu,fM,bZ]
     rcases bB.1 hb with h|h
     ·obtain⟨j,hj,h⟩:=hr3 b h;exact⟨j,by simp[hj],h⟩
     ·obtain⟨j,hj,h⟩:=k5 b h;exact⟨j,by simp[hj],h⟩
    ·refine⟨aP,Bv,Ds,rfl,hlen,fun j hj=>?_,aq.mono ha (fun b hb=>⟨hD b (dX _ hb),fun h=>h⟩) r1,k6 w' B' (off'+t.size) ha (fun j hj=>?_) (fun b hb=>hD b (dH _ hb))⟩
     ·rw[hc j (by simp;omega),cL (by omega)]
     ·have:=hc (t.size+j) (by simp;omega)
      rw[←iq] at this
      rw[this,c_ (by omega),hlen]
      congr 1
      omega
   ·cases h1
  ·cases h1
def wP {T len:Nat}{parts:Array (Nat×Operand)}{ρf:Operand→AT}{dst:Nat}(hC:bW P C)(ho:o.op = .buildSlice T len parts)(hm:aD F m w I ρ)
  (hs:∀p∈parts.toList,az w I m ρ (ρf p.2) (a.eval p.2)) (hd:mU C m dst T len (bu (fun p=>(p.1,ρf p.2)) parts.toList)=some d):aA P F o a w m I ρ d:=by
 cases hel:C.el T with
 |none=>simp[mU,hel] at hd
 |some t=>
 cases hdp:C.dp&&t.aO with
 |false=>exact wQ hC ho hm hs (fun t' ht'=>by rw[hel] at ht';cases ht';exact hdp) hd
 |true=>
  unfold mU at hd
  rw[hel] at hd
  simp only at hd
  rw[hdp,aG] at hd
  obtain⟨hz,hd1⟩:=aH hd
  simp only[aF] at hz
  obtain⟨⟨hz1,hz2⟩,hz3⟩:=hz
  have hlen:parts.toList.length=len:=by
   have:=cU hz1
   rw[jm,List.length_map] at this
   exact this
  have hsm:=fu hz2
  have hndc:=cX.1 (lQ.1 hz3)
  obtain⟨ys,hys,rfl⟩:=bE.1 hd1
  obtain⟨E,h1,h2,h3⟩:=hC.el hel
  obtain⟨i0,g1,g2,g3,g4⟩:=h3.info.info
  obtain⟨z1,z2⟩:=lq (w:=w) (I:=I) (m:=m) (ρ:=ρ) h3
  have gr:=gG h3 (z1.length z2) (aa.cC z1 z2)
  have hzl:=z1.length z2
  obtain⟨news,Ds,q1,q2,q3,q4,q5,q6⟩:=uG (P:=P) (pre:=[]) (post:=(List.replicate len (bh t)).flatten) (n:=0) h3 hm parts.toList hs hndc.2 hys (by simp) (by simp[hzl,hlen])
  simp only[zl17] at q1
  have hrun:(Instr.buildSlice T len (parts.map fun(i,x)=>(i,a.eval x))).run P w = .ok (.slice (some ⟨w.heap.size,0,none⟩) len len) (w.alloc (.cells news.toArray E)):=by
   by_cases hl0:len=0
   ·subst hl0
    have hps:parts.toList = []:=by rw[←dM];exact hlen
    rw[hps] at q1 q2
    simp only[List.map_nil,nQ,Nat.zero_mul] at q1 q2
    have hn0:news = []:=by rw[←dM];exact q2
    subst hn0
    have:parts = #[]:=by apply eU;simpa using hps
    subst this
    simp[Instr.buildSlice,run_underlying h1,h3.info.run_sizeOf,Instr.fill,newRow,Array.range_zero']
   ·have hne:¬len*i0.size=0:=by
     rw[g2]
     exact Nat.ne_of_gt (Nat.mul_pos (by omega) h2)
    refine run_buildSlice w T E len _ _ i0 _ h1 g1 g3 (by rw[g2];omega) hne ?_
    have hcells:((Array.range (len*i0.size)).map ((aQ t (bh t)).cells[· % (aQ t (bh t)).cells.size]!))=(List.replicate len (bh t)).flatten.toArray:=by
     apply eU
     have:=oJ (bh t) len
     unfold madeCells at this
     rw[gr,g2,←hzl,this]
    rw[hcells,g2,←q1]
    simp
  have gI:Cells (w.alloc (.cells news.toArray E)) w.heap.size news:=Cells.alloc w news.toArray E
  have hag:bN I I w (w.alloc (.cells news.toArray E)):=⟨fun _ h=>h,fun b hb=>heap_alloc_old w _ b (hm.aY b hb)⟩
  have hlt:∀b∈Ds,b<w.heap.size:=fun b hb=>by obtain⟨j,_,h⟩:=q5 b hb;exact h.lt hm
  have hrows:=q6 (w.alloc (.cells news.toArray E)) w.heap.size 0 hag (fun j _=>by rw[jE,gI.cell]) (fun b hb=>heap_alloc_old w _ b (hlt b hb))
  rw[hlen] at q2 q3
  obtain⟨ρ',p1,p2,p3⟩:=aC.nZ (id:=dst) (rs:=0) (o:=0) (ki:=fM (fun p:Nat×AT=>p.2.ids) (bu (fun p=>(p.1,ρf p.2)) parts.toList)) (Bs:=[]) hm rfl gI (by rw[q2,q3];omega) hrows (by
    rw[cX]
    exact⟨fun h=>absurd (hlt _ h) (kC _),q4⟩) (fun b hb=>by
    rcases aX.1 hb with e|h
    ·subst e;exact⟨.inr (bw _),fun hI=>absurd (hm.aY _ hI) (kC _)⟩
    ·obtain⟨j,hj,dO⟩:=q5 b h
     exact⟨.inl ⟨j,hj,dO⟩,dO.iU hm⟩) (by simp) (fun b hb _=>heap_alloc_old w _ b hb) (by simp) rfl rfl rfl
  rw[sV] at p1 p3
  exact aA.world (v:=.slice (some ⟨w.heap.size,0,none⟩) len len) (w':=w.alloc (.cells news.toArray E)) (by simp only[execOp,ho,Sem.run_bind,hrun,Result.andThen_ok];rfl) p1 (o7 p3 p2 q3.symm (bw _) gI (by rw[q2];omega))
end
section
variable {P:Program} {F:Fix} {C:Cx} {o:Oper} {a:Act} {w w':World} {m:MF} {I I':Nat→Prop} {ρ:Pl} {d:aE}
def rf:∀{ts:List Nat} {as:List AT} {vs:List Value},dN (az w I m ρ) as vs→dN (az w I m ρ) (pW C ts as) vs
 | [],_,_,h=>h
 |_::_,[],_,h=>h
 |_::_,_::_,_,.cons h1 h2=>.cons (pX h1) (rf h2)
def pP {ρf:Operand→AT}:∀{l:List Operand},(∀x∈l,az w I m ρ (ρf x) (a.eval x))→dN (az w I m ρ) (bu ρf l) (l.map a.eval)
 | [],_=>.nil
 |x::l,h=>.cons (h x (by simp)) (pP fun y hy=>h y (by simp[hy]))
def xz {ρf:Operand→AT}{dst:Nat}(hC:bW P C)(hF:eW P F.G C)(hm:aD F m w I ρ)(hx:∀x∈o.op.operands,az w I m ρ (ρf x) (a.eval x))
  (hd:dF C m dst ρf o=some d) (hok:∀b∈d.ok,b=true):aA P F o a w m I ρ d:=by
 obtain⟨odst,op,oty,pos,after,guard⟩:=o
 cases op with
 |move x=>simp only[dF,au] at hd;subst hd;exact ua (.inl rfl) hm (hx x (by simp[Op.operands]))
 |assign x=>simp only[dF,au] at hd;subst hd;exact ua (.inr rfl) hm (hx x (by simp[Op.operands]))
 |alloc T=>
  simp only[dF] at hd
  split at hd
  ·rename_i t ht;cases hd;exact wK hC rfl hm ht
  ·cases hd
 |box T x=>
  simp only[dF] at hd
  split at hd
  ·rename_i t ht
   cases hb:(C.co T (ρf x)).fits t with
   |false=>simp[hb] at hd
   |true=>
    simp only[hb,aG,au] at hd
    subst hd
    exact wN hC rfl hm (pX (hx x (by simp[Op.operands]))) ht hb
  ·cases hd
 |build T parts=>
  simp only[dF] at hd
  exact wO hC rfl hm (fun p hp=>hx p.2 (by simp only[Op.operands,List.mem_toArray,eV];exact⟨p,hp,rfl⟩)) hd
 |buildSlice T len parts=>
  simp only[dF] at hd
  exact wP hC rfl hm (fun p hp=>hx p.2 (by simp only[Op.operands,List.mem_toArray,eV];exact⟨p,hp,rfl⟩)) hd
 |load T x=>exact xh hC rfl hm (hx x (by simp[Op.operands])) hd
 |store T x v=>exact xA hC rfl hm (hx x (by simp[Op.operands])) (pX (hx v (by simp[Op.operands]))) hd
 |binOp op T x y T2=>exact wM hC rfl hm (hx x (by simp[Op.operands])) (hx y (by simp[Op.operands])) hd hok
 |unOp op T x=>exact xC rfl hm (hx x (by simp[Op.operands])) hd
 |convert S T x=>exact wT hC rfl hm (hx x (by simp[Op.operands])) hd hok
 |makeSlice T l c=>
  simp only[dF] at hd
  split at hd
  ·rename_i x y h1 h2
   exact xk hC rfl hm (hx l (by simp[Op.operands])) (hx c (by simp[Op.operands])) h1 h2 hd hok
  ·cases hd
 |slice T x lo hi mx=>
  cases mx with
  |some k=>
   cases lo with
   |none=>simp[dF] at hd
   |some l=>
    cases hi with
    |none=>simp[dF] at hd
    |some h=>
     exact xy hC rfl hm (hx x (by simp[Op.operands])) (hx l (by simp[Op.operands])) (hx h (by simp[Op.operands])) (hx k (by simp[Op.operands])) hd hok
  |none=>
   exact xx hC rfl hm (hx x (by simp[Op.operands])) (fun y hy=>hx y (by subst hy;simp[Op.operands])) (fun y hy=>hx y (by subst hy;simp[Op.operands])) hd hok
 |fieldAddr T x f=>exact wY hC rfl hm (hx x (by simp[Op.operands])) hd
 |field T x f=>exact wW hC rfl hm (hx x (by simp[Op.operands])) hd
 |indexAddr T x i=>
  simp only[dF] at hd
  split at hd
  ·rename_i n hn
   exact w_ hC rfl hm (hx x (by simp[Op.operands])) (hx i (by simp[Op.operands])) hn hd hok
  ·cases hd
 |index T x i=>
  simp only[dF] at hd
  split at hd
  ·rename_i n hn
   exact wZ hC rfl hm (hx x (by simp[Op.operands])) (hx i (by simp[Op.operands])) hn hd hok
  ·cases hd
 |extract x i=>exact wV rfl hm (hx x (by simp[Op.operands])) hd
 |makeFunc fn first caps=>
  cases fn with
  |func g=>
   simp only[dF] at hd
   cases hb:first.toList.isEmpty&&cN AT.one (bu ρf caps.toList) with
   |false=>simp only[hb] at hd;simp at hd
   |true=>
    simp only[hb,aG,au] at hd
    simp only[aF] at hb
    subst hd
    exact xj rfl hm hb.1 (pP fun y hy=>hx y (by simp[Op.operands,mM.1 hy])) hb.2
  |_=>simp[dF] at hd
 |nilCheck x=>exact xu rfl hm (hx x (by simp[Op.operands])) hd
 |call c=>
  obtain⟨callee,args,ts⟩:=c
  cases callee with
  |builtin b=>
   simp only[dF] at hd
   have hall:=rf (C:=C) (ts:=ts.toList) (pP (a:=a) (ρf:=ρf) (l:=args.toList) fun y hy=>hx y (by simp[Op.operands,Call.operands,mM.1 hy]))
   unfold tL at hd
   split at hd
   ·rename_i T x h1 h2
    have ets:ts = #[T]:=by apply eU;simpa using h1
    rw[h2] at hall
    cases hlt:qh C T x with
    |false=>simp[hlt] at hd
    |true=>
     simp only[hlt,aG] at hd
     split at hd
     ·rename_i n hn
      cases hd
      generalize hal:args.toList=al at hall
      cases al with
      |nil=>cases hall
      |cons y al=>
       cases hall with
       |cons e1 e2=>
        cases al with
        |cons _ _=>cases e2
        |nil=>
         have ea:args = #[y]:=by apply eU;simpa using hal
         subst ea ets
         exact xg hC rfl hm e1 hlt hn
     ·cases hd
   ·rename_i t t2 x y h1 h2
    have ets:ts = #[t,t2]:=by apply eU;simpa using h1
    rw[h2] at hall
    generalize hal:args.toList=al at hall
    rcases al with _|⟨p,_|⟨q,_|⟨r,al⟩⟩⟩
    ·cases hall
    ·cases hall with | cons _ e=>cases e
    ·cases hall with
     |cons e1 e2=>
     cases e2 with
     |cons e2 _=>
     have ea:args = #[p,q]:=by apply eU;simpa using hal
     subst ea ets
     split at hd
     ·rename_i u v hu hv
      obtain⟨E,hE,_⟩:=jy (hC.ty hv)
      exact t_ hC rfl hm e1 e2 hu hE (by intro k hk;cases hk) hd hok
     ·rename_i u hu hv
      exact t_ hC rfl hm e1 e2 hu (pn (hC.ty hv)) (by intro k hk;cases hk) hd hok
     ·cases hd
    ·cases hall with | cons _ e=>cases e with | cons _ e=>cases e
   ·exact xq rfl hm hall hd
   ·exact xp rfl hm hall hd
   ·rename_i T x h1 h2
    have ets:ts = #[T]:=by apply eU;simpa using h1
    rw[h2] at hall
    generalize hal:args.toList=al at hall
    rcases al with _|⟨y,_|⟨z,al⟩⟩
    ·cases hall
    ·cases hall with
     |cons e1 e2=>
     have ea:args = #[y]:=by apply eU;simpa using hal
     subst ea ets
     exact wS hC rfl hm e1 hd
    ·cases hall with | cons _ e=>cases e
   ·cases hd
  |value g=>
   simp only[dF] at hd
   split at hd
   ·rename_i f caps hg
    cases hc:l_ caps with
    |false=>simp[hc] at hd
    |true=>
     simp only[hc,aG] at hd
     exact wR hF rfl hm (hg▸hx g (by simp[Op.operands,Call.operands]))
      (rf (pP fun y hy=>hx y (by simp[Op.operands,Call.operands,mM.1 hy]))) hc hd hok
   ·cases hd
  |invoke r mm=>simp[dF] at hd
 |_=>simp[dF] at hd
end
section
variable {P:Program} {F:Fix} {C:Cx} {o:Oper} {a:Act} {w w':World} {m:MF} {I I':Nat→Prop} {ρ:Pl} {d:aE}
def wz (v:Value):az w I m ρ (pZ v) v:=by
 unfold pZ
 split
 ·exact fS.2 rfl
 ·exact dD.2 rfl
 ·refine iX.2 ?_
  rename_i s
  simp
 ·simp[az,aB,AT.isAgg,aa]
 ·trivial
def qX {x y:Bool}(h:n8 x y=true):x=y:=by cases x<;>cases y<;>simp_all [n8]
def tA {α:Type}{p:α→Bool}:∀{l:List α},bT p l=true→∃x∈l,p x=true
 | [],h=>by simp[bT] at h
 |x::l,h=>by
  simp only[bT,kE] at h
  rcases h with h|h
  ·exact⟨x,by simp,h⟩
  ·obtain⟨y,h1,h2⟩:=tA h
   exact⟨y,by simp[h1],h2⟩
def pQ {α:Type}{p:α→Bool}:∀{l:List α} {x:α},x∈l→p x=true→bT p l=true
 | [],x,h,_=>by simp at h
 |y::l,x,h,hp=>by
  simp only[bT,kE]
  rcases aX.1 h with e|h
  ·subst e;exact .inl hp
  ·exact .inr (pQ h hp)
def fW {α:Type}{p:α→Bool}:∀{l:List α},cN p l=true→∀x∈l,p x=true
 | [],_,x,h=>by simp at h
 |y::l,h,x,hx=>by
  simp only[cN,aF] at h
  rcases aX.1 hx with e|hx
  ·subst e;exact h.1
  ·exact fW h.2 x hx
def sO {A T:eY}{tmps:Array Value}(h:o9 A T=true)(hT:fc tmps T):fc tmps A:=by
 intro t ht
 have:=fW h t ht
 unfold hasTag at this
 obtain⟨u,hu,h2⟩:=tA this
 simp only[aF] at h2
 have h3:=cU h2.1
 have h4:=qX h2.2
 have:=hT u hu
 rw[h3,h4] at this
 exact this
def Reads (w:World)(I:Nat→Prop)(m:MF)(ρ:Pl)(tmps:Array Value)(env:List (Nat×AT))(s:Nat):Prop:=
 ∀av,find env s=some av→ir w I m ρ tmps av (tmps.getD s Go.undef)
def qo {env:List (Nat×AT)}{T:eY}{x:Operand}{G:jG}(hF:eW P G C)(hG:G.ok w I)(h:∀s,x = .tmp s→Reads w I m ρ a.tmps env s)(hT:fc a.tmps T):az w I m ρ (gL C env T x) (a.eval x):=by
 unfold gL
 cases x with
 |tmp s=>
  simp only[operand,Act.eval]
  cases hf:find env s with
  |none=>exact trivial
  |some av=>
   have:=h s rfl av hf
   simp only[Option.getD_some]
   split
   ·rename_i A b
    cases hs:o9 A T with
    |true=>exact this.1 (sO hs hT)
    |false=>trivial
   ·rename_i hn
    unfold ir at this
    split at this
    ·rename_i A b;exact absurd rfl (hn A b)
    ·exact this
 |const v=>
  simp only[operand,Act.eval]
  split
  ·rename_i A b h;unfold pZ at h;split at h<;>cases h
  ·exact wz v
 |global g=>
  simp only[operand,Act.eval]
  cases hf:find C.gl g with
  |none=>trivial
  |some d=>exact hF.gl g d hf w I hG
 |func f=>
  simp only[operand,Act.eval,az,aB,AT.isAgg]
  exact⟨#[],rfl,rfl⟩
def yE {ac ax ay:AT}(h:oW ac ax ay=some d):(∃g,ac = .leaf .bool g)∧(∃t x,ax = .leaf t x)∧(∃t x,ay = .leaf t x)∧d.aj = []∧d.ok = []:=by
 unfold oW at h
 split at h
 ·split at h
  ·cases h;exact⟨⟨_,rfl⟩,⟨_,_,rfl⟩,⟨_,_,rfl⟩,rfl,rfl⟩
  ·cases h
 ·cases h
def doS_ok {env:List (Nat×AT)}{T:eY}{p:Nat→Bool}(hC:bW P C)(hF:eW P F.G C)(hm:aD F m w I ρ)(bO:mQ m p)(dR:∀x∈d.aj,p x.1=true)
  (hr:∀s,Operand.tmp s∈o.op.operands→Reads w I m ρ a.tmps env s) (hT:fc a.tmps T) (hp:∀x∈o.op.operands,∀id∈(gL C env T x).ids,p id=true)
  (hd:j4 C env T (m.on p) o=some d) (hok:∀b∈d.ok,b=true):aA P F o a w m I ρ d:=by
 refine aA.lift hm bO dR fun F' hG hm'=>?_
 rw[←hG] at hF
 have hx:∀x∈o.op.operands,az w I (m.on p) ρ (gL C env T x) (a.eval x):=fun x hx=>
  az.cut (hp x hx) (qo hF hm'.fY (fun s hs=>hr s (hs▸hx)) hT)
 unfold j4 at hd
 split at hd
 ·rename_i c x y ho
  split at hd
  ·rename_i s hs
   have hc:c = .tmp s:=by cases c<;>simp[sP] at hs;subst hs;rfl
   subst hc
   obtain⟨⟨g,hg⟩,⟨tx,vx,hlx⟩,⟨ty,vy,hly⟩,_,_⟩:=yE hd
   have mc:Operand.tmp s∈o.op.operands:=by rw[ho];simp[Op.operands]
   have mx:x∈o.op.operands:=by rw[ho];simp[Op.operands]
   have my:y∈o.op.operands:=by rw[ho];simp[Op.operands]
   have tags:∀b,a.eval (.tmp s) = .bool b→fc a.tmps (app (lX env s b) T):=by
    intro b hb t ht
    rw[bD] at ht
    rcases ht with ht|ht
    ·unfold lX at ht
     split at ht
     ·rename_i A e hf
      rcases aX.1 ht with e|ht
      ·subst e;exact hb
      ·unfold gL at hg
       simp only[operand,hf,Option.getD_some] at hg
       cases hsub:o9 A T with
       |true=>exact sO hsub hT t ht
       |false=>rw[hsub] at hg;cases hg
     ·rcases aX.1 ht with e|ht
      ·subst e;exact hb
      ·simp at ht
    ·exact hT t ht
   refine xw ho hm' (hx _ mc) (fun h=>?_) (fun h=>?_) hd
   ·refine az.cut (by rw[hlx];simp[AT.ids]) (qo hF hm'.fY (fun s hs=>hr s (hs▸mx)) (tags true h))
   ·refine az.cut (by rw[hly];simp[AT.ids]) (qo hF hm'.fY (fun s hs=>hr s (hs▸my)) (tags false h))
  ·cases hd
 ·exact xz hC hF hm' hx hd hok
def wk {mem:Mem}{D:List Nat}(h:tO mem D=true):mQ (find mem) (dy D):=by
 intro id b t x hid hb hc j hj
 have:=fW h _ (fh hb)
 simp only[hid,zl70,pH,hb] at this
 obtain⟨st,fz,c⟩:=b
 simp only at hc
 subst hc
 exact fW this j hj
def xK {D:List Nat}{i:Nat}(h:i∈D):dy D i=true:=pQ h (by simp)
def r9 {mf:Nat→Option ag}:∀{l:List Nat} {i:Nat},i∈l→i∈dU mf l
 | [],i,h=>by simp at h
 |x::l,i,h=>by
  simp only[dU,aX,bD]
  rcases aX.1 h with e|h
  ·exact .inl e
  ·exact .inr (.inr (r9 h))
def yc {mem:Mem}{dst:Nat}{as:List AT}{x:AT}{i:Nat}(h:x∈as)(hi:i∈x.ids):i∈dom mem dst as:=
 gP _ (r9 (uP.2 ⟨x,h,hi⟩))
end
section
variable {P:Program} {F:Fix} {C:Cx} {w:World} {I:Nat→Prop} {ρ:Pl} {m:MF}
def aC.same (h:aD F m w I ρ){n st:Nat}{t:Ty}{a:AT}{d:DV}{x:t.den}(hm:m n=some ⟨st,false,.var t a⟩)(hp:a.pure=some d)(hx:d.as t=some x) :
  aC F m (m.put n ⟨st,false,.var t (.leaf t x)⟩) w w I I ρ ρ:=by
 have hb:=h.blk n _ hm
 unfold aS at hb
 simp only at hb
 obtain⟨_,B,cs,r1,r2,r3,r4⟩:=hb
 have hI:¬I B:=fun hI=>by have:=r4.2 hI;cases this
 have e:=cz hx
 subst e
 have hr:=oX hp r3
 refine aC.write h n _ _ B 0 cs cs hm (by simp[ag.live]) (.inr ⟨rfl,rfl⟩) r1 hI r2 r2 (bw _) (fun _ _=>rfl) rfl rfl rfl rfl ?_
 intro _ _
 unfold aS
 exact⟨rfl,B,cs,r1,r2,by simp only[aa];exact hr,by simp[hI]⟩
def pq (m:MF)(i:Nat)(b:ag)(l:List (Nat×ag)):m.aj ((i,b)::l)=(m.aj l).put i b:=by
 funext j
 simp only[MF.aj,MF.put,aI]
 by_cases h:i=j
 ·subst h;simp
 ·simp[h]
def oM {c:Bool}{m0:MF}:∀{l u:List (Nat×ag)},kY c m0 l=some u→u.map (·.1)=l.map (·.1)∧(l.map (·.1)).Nodup
 | [],u,h=>by simp only[kY,au] at h;subst h;simp
 | (i,b)::l,u,h=>by
  simp only[kY] at h
  split at h
  ·rename_i b' l' h1 h2
   cases ha:bT (fun x=>Nat.beq x.1 i) l with
   |true=>simp[ha] at h
   |false=>
    simp only[ha,eF,au] at h
    subst h
    obtain⟨e1,e2⟩:=oM h2
    refine⟨by simp[e1],?_⟩
    simp only[kD,cX]
    refine⟨fun hin=>?_,e2⟩
    obtain⟨y,hy,he⟩:=eV.1 hin
    have:=pQ (p:=fun x:Nat×ag=>Nat.beq x.1 i) hy (by rw[he];exact Nat.beq_refl i)
    rw[ha] at this
    cases this
  ·cases h
def si {c:Bool}{m0:MF}:∀{l u:List (Nat×ag)} {ρ:Pl},kY c m0 l=some u→aD F m w I ρ→(∀x∈l,(c=false→m x.1=m0 x.1)∧(c=true→m x.1=some x.2)) →
  ∃ρ',aC F m (m.aj u) w w I I ρ ρ'
 | [],u,ρ,h,hm,_=>by
  simp only[kY,au] at h
  subst h
  exact⟨ρ,aC.refl hm⟩
 | (i,b)::l,u,ρ,h,hm,hx=>by
  have lF:=oM h
  simp only[kY] at h
  split at h
  ·rename_i b' l' h1 h2
   cases ha:bT (fun x=>Nat.beq x.1 i) l with
   |true=>simp[ha] at h
   |false=>
    simp only[ha,eF,au] at h
    subst h
    obtain⟨lB,hd⟩:=si h2 hm fun x hin=>hx x (gP _ hin)
    have hni:¬i∈l'.map (·.1):=by
     have:=lF.2
     have e:=(oM h2).1
     rw[e]
     exact(cX.1 this).1
    have hsame:(m.aj l') i=m i:=by
     have:find l' i=none:=by
      cases hf:find l' i with
      |none=>rfl
      |some b1=>exact absurd (eV.2 ⟨_,fh hf,rfl⟩) hni
     simp[MF.aj,this]
    obtain⟨q1,q2⟩:=hx (i,b) lu
    simp only at q1 q2
    rw[pq]
    have dead:∀st,(∀b1,(m.aj l') i=some b1→b1.st<st)→∃ρ',aC F m ((m.aj l').put i ⟨st,false,.dead⟩) w w I I ρ ρ':=fun st hst=>
     ⟨_,hd.trans (aC.stale hd.mem i _ hst (.inl (by simp[ag.live])))⟩
    cases hc:c with
    |false=>
     subst hc
     have q:=q1 rfl
     unfold sg at h1
     split at h1
     ·rename_i st t xs e0
      obtain⟨g1,g2⟩:=aH h1
      cases g2
      have hn:(m.aj l') i=none:=by rw[hsame,q,e0]
      obtain⟨j7,_⟩:=aC.empty (t:=t) hd.mem i st (fun b0 hb0=>by rw[hn] at hb0;cases hb0) (fu g1)
      exact⟨_,hd.trans j7⟩
     ·rename_i e0 hneq
      cases h1
      exact dead _ fun b1 cV=>by rw[hsame,q,e0] at cV;cases cV
     ·rename_i st fz e0
      obtain⟨g1,g2⟩:=aH h1
      cases g2
      exact dead _ fun b1 cV=>by
       rw[hsame,q,e0] at cV
       cases cV
       have:=fu g1
       simp only
       omega
     ·rename_i st t a st' t' a' e0
      obtain⟨g1,g2⟩:=aH h1
      split at g2
      ·rename_i d e hd1 he1
       split at g2
       ·rename_i x y hx1 hy1
        cases g2
        exact⟨_,hd.trans (aC.same hd.mem (by rw[hsame,q,e0]) hd1 hx1)⟩
       ·cases g2
      ·cases g2
     ·cases h1
    |true=>
     subst hc
     have q:=q2 rfl
     unfold sg at h1
     split at h1
     ·rename_i st t xs e0
      obtain⟨g1,g2⟩:=aH h1
      cases g2
      have e:(m.aj l').put i ⟨st,false,.rows t (bif true then xs else [])⟩=m.aj l':=by
       funext j
       simp only[MF.put,aG]
       by_cases hj:i=j
       ·subst hj;rw[bf rfl,hsame,q]
       ·rw[bY hj]
      rw[e]
      exact⟨_,hd⟩
     ·cases h1
      exact dead _ fun b1 cV=>by rw[hsame,q] at cV;cases cV;exact Nat.lt_succ_self _
     ·obtain⟨g1,g2⟩:=aH h1
      cases g2
      exact dead _ fun b1 cV=>by rw[hsame,q] at cV;cases cV;exact Nat.lt_succ_self _
     ·rename_i st t a st' t' a' e0
      obtain⟨g1,g2⟩:=aH h1
      simp only[aF] at g1
      split at g2
      ·rename_i d e hd1 he1
       split at g2
       ·rename_i x y hx1 hy1
        cases g2
        have e1:=cU g1.1
        have e2:=Ty.cZ g1.2
        subst e1
        subst e2
        exact⟨_,hd.trans (aC.same hd.mem (by rw[hsame,q]) he1 hy1)⟩
       ·cases g2
      ·cases g2
     ·cases h1
  ·cases h
def vj {env:List (Nat×AT)}{m0:MF}{T:eY}{d d':aE}(h:nH env m0 T d=some d'):d'.av=d.av∧d'.ok=d.ok ∧
  (d'=d∧(T = []∨d.aj = [])∨oG env T=true∧kY (jw env T) m0 d.aj=some d'.aj):=by
 unfold nH at h
 cases hb:T.isEmpty || d.aj.isEmpty with
 |true=>
  rw[hb,aG] at h
  cases h
  exact⟨rfl,rfl,.inl ⟨rfl,by simpa using hb⟩⟩
 |false=>
  rw[hb,eF] at h
  obtain⟨h1,h2⟩:=aH h
  split at h2
  ·rename_i u hu
   cases h2
   exact⟨rfl,rfl,.inr ⟨h1,hu⟩⟩
  ·cases h2
def qv {env:List (Nat×AT)}{m0:MF}{T:eY}{d d':aE}(h:nH env m0 T d=some d'):d'.aj.map (·.1)=d.aj.map (·.1):=by
 obtain⟨_,_,h1|h1⟩:=vj h
 ·rw[h1.1]
 ·exact(oM h1.2).1
end
section
variable {P:Program} {F:Fix} {C:Cx} {o:Oper} {a:Act} {w w':World} {m:MF} {I I':Nat→Prop} {ρ:Pl} {d:aE}
inductive gW (C:Cx) (ops:List Oper):St→List Rec→St→Prop where
 |nil (st:St):gW C ops st [] st
 |cons {st st':St} {r:Rec} {rs:List Rec}:lS C ops r.o st=some r→gW C ops (r.go st) rs st'→gW C ops st (r::rs) st'
def recS_o {ops:List Oper}{st:St}{r:Rec}(h:lS C ops o st=some r):r.o=o:=by
 unfold lS at h
 split at h
 ·cases h
 ·dsimp only at h
  split at h
  ·cases h
  ·rename_i d _
   obtain⟨_,h⟩:=aH h
   split at h
   ·cases h;rfl
   ·cases h
def qp {ops:List Oper}:∀{l:List Oper} {st st':St} {rs:List Rec},mD C ops l st=some (st',rs)→gW C ops st rs st'∧rs.map (·.o)=l
 | [],st,st',rs,h=>by simp only[mD,au,eE] at h;obtain⟨rfl,rfl⟩:=h;exact⟨.nil _,rfl⟩
 |o::l,st,st',rs,h=>by
  simp only[mD] at h
  split at h
  ·rename_i r hr
   split at h
   ·rename_i st2 rs2 h2
    simp only[au,eE] at h
    obtain⟨rfl,rfl⟩:=h
    obtain⟨e1,e2⟩:=qp h2
    have ho:=recS_o hr
    exact⟨.cons (ho▸hr) e1,by simp[ho,e2]⟩
   ·cases h
  ·cases h
def a_:List Rec→Nat→St→St
 | [],_,st=>st
 |_::_,0,st=>st
 |r::rs,k+1,st=>a_ rs k (r.go st)
def gW.at {ops:List Oper}:∀{st st':St} {rs:List Rec},gW C ops st rs st'→∀{k:Nat} {r:Rec},rs[k]?=some r→lS C ops r.o (a_ rs k st)=some r
 |_,_,_,.nil _,k,r,h=>by simp at h
 |_,_,_,.cons h1 h2,k,r,h=>by
  cases k with
  |zero=>simp only[ja,au] at h;subst h;exact h1
  |succ k=>exact h2.at (by simpa using h)
def bQ (L:Nat→Bool):List Rec→MF→MF
 | [],m=>m
 |r::rs,m=>bQ (fun k=>L (k+1)) rs (bif L 0 then m.aj r.d.aj else m)
abbrev EF:=Nat→Option AT
def EF.put (e:EF)(r:Rec):EF:=match r.o.dst with
 |some s=>fun i=>if s=i then some (jB r.T r.d.av) else e i
 |none=>e
def dQ (L:Nat→Bool):List Rec→EF→EF
 | [],e=>e
 |r::rs,e=>dQ (fun k=>L (k+1)) rs (bif L 0 then e.put r else e)
def mem_go (r:Rec)(st:St):find (r.go st).mem=MF.aj (find st.mem) r.d.aj:=wI _ _
def tV (r:Rec)(st:St):find (r.go st).env=EF.put (find st.env) r:=by
 funext i
 unfold Rec.go EF.put
 cases r.o.dst with
 |some s=>simp only[aI]
 |none=>rfl
def nt:∀(rs:List Rec) (m:MF),bQ (fun _=>false) rs m=m
 | [],_=>rfl
 |r::rs,m=>by simp only[bQ,eF];exact nt rs m
def oh:∀(rs:List Rec) (e:EF),dQ (fun _=>false) rs e=e
 | [],_=>rfl
 |r::rs,m=>by simp only[dQ,eF];exact oh rs m
def jq:∀(rs:List Rec) (k:Nat) (st:St),bQ (fun i=>decide (i<k)) rs (find st.mem)=find (a_ rs k st).mem
 | [],k,st=>by cases k<;>rfl
 |r::rs,0,st=>by
  have:(fun i=>decide (i<0))=fun _=>false:=by funext i;simp
  rw[this,nt];rfl
 |r::rs,k+1,st=>by
  have:(fun i=>decide (i+1<k+1))=fun i=>decide (i<k):=by funext i;simp
  simp only[bQ,a_,Nat.zero_lt_succ,zl73,aG]
  rw[this,←mem_go]
  exact jq rs k _
def og:∀(rs:List Rec) (k:Nat) (st:St),dQ (fun i=>decide (i<k)) rs (find st.env)=find (a_ rs k st).env
 | [],k,st=>by cases k<;>rfl
 |r::rs,0,st=>by
  have:(fun i=>decide (i<0))=fun _=>false:=by funext i;simp
  rw[this,oh];rfl
 |r::rs,k+1,st=>by
  have:(fun i=>decide (i+1<k+1))=fun i=>decide (i<k):=by funext i;simp
  simp only[dQ,a_,Nat.zero_lt_succ,zl73,aG]
  rw[this,←tV]
  exact og rs k _
def gW.last {ops:List Oper}:∀{st st':St} {rs:List Rec},gW C ops st rs st'→a_ rs rs.length st=st'
 |_,_,_,.nil _=>rfl
 |_,_,_,.cons _ h2=>h2.last
def kg {id:Nat}:∀{rs:List Rec} {L L':Nat→Bool} {m m':MF},(∀k r,rs[k]?=some r→find r.d.aj id≠none→L k=L' k)→m id=m' id→bQ L rs m id=bQ L' rs m' id
 | [],_,_,_,_,_,h=>h
 |r::rs,L,L',m,m',hl,h=>by
  simp only[bQ]
  refine kg (fun k r' hk hw=>hl (k+1) r' (by simpa using hk) hw) ?_
  by_cases hw:find r.d.aj id=none
  ·have:∀(b:Bool) (m:MF),(bif b then m.aj r.d.aj else m) id=m id:=by
    intro b m;cases b
    ·rfl
    ·simp[MF.aj,hw]
   rw[this,this,h]
  ·rw[hl 0 r rfl hw]
   cases L' 0 with
   |false=>exact h
   |true=>simp only[aG,MF.aj];split<;>first|rfl|exact h
def ql {id:Nat}{b:ag}:∀{rs:List Rec} {L:Nat→Bool} {m:MF} {j:Nat} {r:Rec},rs[j]?=some r→L j=true→find r.d.aj id=some b →
  (∀k r',j<k→rs[k]?=some r'→find r'.d.aj id≠none→L k=false)→bQ L rs m id=some b
 | [],_,_,j,r,h,_,_,_=>by simp at h
 |x::rs,L,m,0,r,h,hL,hf,hk=>by
  simp only[ja,au] at h
  subst h
  simp only[bQ,hL,aG]
  have:bQ (fun k=>L (k+1)) rs (m.aj x.d.aj) id=bQ (fun _=>false) rs (m.aj x.d.aj) id:=
   kg (fun k r' hr hw=>hk (k+1) r' (by omega) (by simpa using hr) hw) rfl
  rw[this,nt]
  simp[MF.aj,hf]
 |x::rs,L,m,j+1,r,h,hL,hf,hk=>by
  simp only[bQ]
  exact ql (j:=j) (by simpa using h) hL hf (fun k r' hjk hr hw=>hk (k+1) r' (by omega) (by simpa using hr) hw)
def mX {s:Nat}:∀{rs:List Rec} {L L':Nat→Bool} {e e':EF},(∀k r,rs[k]?=some r→r.o.dst=some s→L k=L' k)→e s=e' s→dQ L rs e s=dQ L' rs e' s
 | [],_,_,_,_,_,h=>h
 |r::rs,L,L',e,e',hl,h=>by
  simp only[dQ]
  refine mX (fun k r' hk hw=>hl (k+1) r' (by simpa using hk) hw) ?_
  by_cases hw:r.o.dst=some s
  ·rw[hl 0 r rfl hw]
   cases L' 0 with
   |false=>exact h
   |true=>simp[EF.put,hw]
  ·have:∀(b:Bool) (e:EF),(bif b then e.put r else e) s=e s:=by
    intro b e;cases b
    ·rfl
    ·simp only[aG,EF.put]
     cases hd:r.o.dst with
     |some s'=>
      have:¬s'=s:=fun h=>hw (h▸hd)
      simp[this]
     |none=>rfl
   rw[this,this,h]
def tU {s:Nat}:∀{rs:List Rec} {L:Nat→Bool} {e:EF} {j:Nat} {r:Rec},rs[j]?=some r→L j=true→r.o.dst=some s →
  (∀k r',j<k→rs[k]?=some r'→r'.o.dst≠some s)→dQ L rs e s=some (jB r.T r.d.av)
 | [],_,_,j,r,h,_,_,_=>by simp at h
 |x::rs,L,e,0,r,h,hL,hf,hk=>by
  simp only[ja,au] at h
  subst h
  simp only[dQ,hL,aG]
  have:dQ (fun k=>L (k+1)) rs (e.put x) s=dQ (fun _=>false) rs (e.put x) s:=
   mX (fun k r' hr hw=>absurd hw (hk (k+1) r' (by omega) (by simpa using hr))) rfl
  rw[this,oh]
  simp[EF.put,hf]
 |x::rs,L,e,j+1,r,h,hL,hf,hk=>by
  simp only[dQ]
  exact tU (j:=j) (by simpa using h) hL hf (fun k r' hjk hr=>hk (k+1) r' (by omega) (by simpa using hr))
def ij (L:Nat→Bool)(j:Nat):Nat→Bool:=fun k=>L k || decide (k=j)
end
section
variable {P:Program} {F:Fix} {C:Cx} {o:Oper} {a:Act} {w w':World} {m:MF} {I I':Nat→Prop} {ρ:Pl} {d:aE}
def r8 {α β:Type}{f:α→Option β}{y:β}:∀{l:List α},y∈eg f l↔∃x∈l,f x=some y
 | []=>by simp[eg]
 |x::l=>by
  have ih:=r8 (f:=f) (y:=y) (l:=l)
  simp only[eg]
  cases hf:f x with
  |none=>
   simp only[ih,aX]
   constructor
   ·rintro⟨z,h1,h2⟩;exact⟨z,.inr h1,h2⟩
   ·rintro⟨z,h1|h1,h2⟩
    ·subst h1;rw[hf] at h2;cases h2
    ·exact⟨z,h1,h2⟩
  |some z=>
   simp only[ih,aX]
   constructor
   ·rintro(h|⟨z,h1,h2⟩)
    ·subst h;exact⟨x,.inl rfl,hf⟩
    ·exact⟨z,.inr h1,h2⟩
   ·rintro⟨z,h1|h1,h2⟩
    ·subst h1;rw[hf] at h2;cases h2;exact .inl rfl
    ·exact .inr ⟨z,h1,h2⟩
def jR {α:Type}:∀(l:List α) (i:Nat),cB l i=l[i]?
 | [],_=>by simp[cB]
 |_::_,0=>by simp[cB]
 |_::l,n+1=>by simp[cB,jR l n]
def fy:BC→BC→Prop
 |.var t _,.var u _=>t=u
 |.rows t xs,.rows u ys=>t=u∧xs.length=ys.length
 |.deep _ t xs,.deep _ u ys=>t=u∧xs.length=ys.length
 |.dead,.dead=>True
 |_,_=>False
def bJ.gC {a b:BC}(h:bJ a b):fy a b:=by
 cases a<;>cases b<;>simp only[bJ] at h<;>simp only[fy]
 ·exact h
 ·exact h
 ·exact h.2
def fy.refl:∀c:BC,fy c c
 |.var _ _=>rfl
 |.rows _ _=>⟨rfl,rfl⟩
 |.deep _ _ _=>⟨rfl,rfl⟩
 |.dead=>trivial
def x4 {b b':ag}(h:fy b.c b'.c)(hl:b.live):b'.live:=by
 unfold ag.live at *
 cases hb:b.c<;>cases hb':b'.c<;>simp_all [fy]
def fy.trans {a b c:BC}(h:fy a b)(k:fy b c):fy a c:=by
 cases a<;>cases b<;>simp only[fy] at h<;>cases c<;>simp only[fy] at k ⊢
 ·exact h.trans k
 ·exact⟨h.1.trans k.1,h.2.trans k.2⟩
 ·exact⟨h.1.trans k.1,h.2.trans k.2⟩
structure eX where
 m:MF
 ρ:Pl
 w:World
 pid:∀id b,m id=some b→gu id=true
def Kept (K:eX)(m:MF)(ρ:Pl)(w:World):Prop:=∀id b0,K.m id=some b0→∃b,m id=some b∧(0<b.st∨(b.st=0∧fy b0.c b.c∧ρ id=K.ρ id ∧
 (b0.live→∀B o,K.ρ id=some (B,o)→∀cs,Cells K.w B cs→∃cs',Cells w B cs'∧cs.length≤cs'.length)))
def Kept.mono {K:eX}{m':MF}{ρ':Pl}(h:Kept K m ρ w)(hk:dc m m' ρ ρ' w w'):Kept K m' ρ' w':=by
 intro id b0 hb0
 obtain⟨b,hb,h1⟩:=h id b0 hb0
 obtain⟨b',hb',h2⟩:=hk.keep id b hb
 refine⟨b',hb',?_⟩
 rcases h2 with h2|⟨e1,e2,e3,e4⟩
 ·exact .inl (by omega)
 ·rcases h1 with h1|⟨k1,k2,k3,k4⟩
  ·exact .inl (by omega)
  ·refine .inr ⟨by omega,k2.trans e2.gC,e3.trans k3,fun hl B o hB cs hc=>?_⟩
   obtain⟨cs1,c1,c2⟩:=k4 hl B o hB cs hc
   obtain⟨cs2,c3,c4⟩:=e4 (x4 k2 hl) B o (k3.trans hB) cs1 c1
   exact⟨cs2,c3,by omega⟩
structure RInv (F:Fix) (n:Nat) (K:eX) (rs:List Rec) (st:St) (L:Nat→Bool) (a:Act) (w:World) (I:Nat→Prop) (ρ:Pl):Prop where
 mem:aD F (bQ L rs (find st.mem)) w I ρ
 env:∀s av,dQ L rs (find st.env) s=some av→ir w I (bQ L rs (find st.mem)) ρ a.tmps av (a.tmps.getD s Go.undef)
 size:a.tmps.size=n
 defers:a.defers = []
 kept:Kept K (bQ L rs (find st.mem)) ρ w
structure bS (C:Cx) (n:Nat) (ops:List Oper) (st st':St) (rs:List Rec) (ah:Nat→Nat→Prop):Prop where
 runs:gW C ops st rs st'
 u9:rs.map (·.o)=ops
 p6:∀(i j:Nat) (ri rj:Rec) (s:Nat),rs[i]?=some ri→rs[j]?=some rj→ri.o.dst=some s→rj.o.dst=some s→i=j
 back:∀(i:Nat) (r:Rec) (g:Nat) (w:Bool),rs[i]?=some r→r.o.guard=some (g,w)→g<i
 lt:∀i j,ah i j→i<j
 sep:∀(i j:Nat) (f g:Rec),i<j→rs[i]?=some f→rs[j]?=some g→ah i j∨jI (f.gi ops) (g.gi ops)=true
 e0:∀s A b,find st.env s≠some (.bM A b)
 tmps:∀(r:Rec) (s:Nat),r∈rs→r.o.dst=some s→s<n
def jH (ah:Nat→Nat→Prop)(L:Nat→Bool):Prop:=∀i j,ah i j→L j=true→L i=true
def vr {s:Nat}{R:List Nat}(h:qD (some s) R=true):¬s∈R:=by
 intro hs
 simp only[qD,i_] at h
 rw[lC.2 hs] at h
 cases h
def zo (a:AT):∀A b,jB [] a ≠ .bM A b:=by
 intro A b h
 unfold jB at h
 cases a<;>simp at h
section
variable {n:Nat} {K:eX} {ops:List Oper} {st st':St} {rs:List Rec} {ah:Nat→Nat→Prop}
def bS.op (h:bS C n ops st st' rs ah){j:Nat}{r:Rec}(hr:rs[j]?=some r):ops[j]?=some r.o:=by
 rw[←h.u9];simp[hr]
def bS.did (h:bS C n ops st st' rs ah){j:Nat}{r:Rec}(hr:rs[j]?=some r) :
  guardOf (a_ rs j st).env ops r.o=some r.T∧r.D=dom (a_ rs j st).mem (p5 r.o) (bu (gL C (a_ rs j st).env r.T) r.o.op.operands.toList) ∧
  j4 C (a_ rs j st).env r.T (view (a_ rs j st).mem r.D) r.o=some r.d0∧(∀x∈r.d.aj,dy r.D x.1=true)∧mQ (find (a_ rs j st).mem) (dy r.D) ∧
  nH (a_ rs j st).env (find (a_ rs j st).mem) r.T r.d0=some r.d:=by
 have h1:=h.runs.at hr
 unfold lS at h1
 split at h1
 ·cases h1
 ·rename_i T hT
  dsimp only at h1
  split at h1
  ·cases h1
  ·rename_i d hd
   obtain⟨hb,h1⟩:=aH h1
   simp only[aF] at hb
   obtain⟨cV,cH⟩:=hb
   split at h1
   ·rename_i d' hd'
    simp only[au] at h1
    have e1:r.T=T:=by rw[←h1]
    have e2:r.d=d':=by rw[←h1]
    have e4:r.d0=d:=by rw[←h1]
    have e3:r.D=dom (a_ rs j st).mem (p5 r.o) (bu (gL C (a_ rs j st).env T) r.o.op.operands.toList):=by rw[←h1]
    rw[←e3] at hd cV cH
    refine⟨by rw[e1];exact hT,by rw[e1];exact e3,by rw[e1,e4];exact hd,fun x hx=>?_,wk cH,by rw[e1,e2,e4];exact hd'⟩
    have:x.1∈d.aj.map (·.1):=by rw[←qv hd',←e2];exact eV.2 ⟨x,hx,rfl⟩
    obtain⟨y,hy,he⟩:=eV.1 this
    rw[←he]
    exact fW cV y hy
   ·cases h1
def bS.sepW (h:bS C n ops st st' rs ah){i j:Nat}{f g:Rec}(hi:rs[i]?=some f)(hj:rs[j]?=some g)(hij:i≠j) :
  ah i j∨ah j i∨jI (f.gi ops) (g.gi ops)=true∨jI (g.gi ops) (f.gi ops)=true:=by
 rcases Nat.lt_or_gt_of_ne hij with hlt|hlt
 ·rcases h.sep i j f g hlt hi hj with h1|h1
  ·exact .inl h1
  ·exact .inr (.inr (.inl h1))
 ·rcases h.sep j i g f hlt hj hi with h1|h1
  ·exact .inr (.inl h1)
  ·exact .inr (.inr (.inr h1))
def bS.mW (h:bS C n ops st st' rs ah){i j:Nat}{f g:Rec}(hi:rs[i]?=some f)(hj:rs[j]?=some g)(hij:i≠j){id:Nat}(hw:find f.d.aj id≠none)(hd:dy g.D id=true)(hsk:((mz f&&fE g.o) || (f.kv&&fQ g))=false):ah i j∨ah j i:=by
 have hin:id∈bu (fun x=>x.1) f.d.aj:=by
  rw[jm]
  cases hf:find f.d.aj id with
  |none=>exact absurd hf hw
  |some b=>exact p7 hf
 rcases h.sepW hi hj hij with h1|h1|h1|h1
 ·exact .inl h1
 ·exact .inr h1
 ·simp only[jI,aF] at h1
  have h2:=h1.1.1.1
  simp only[Rec.gi,hsk,pH] at h2
  have:=fW h2 id hin
  simp only[hd] at this
  cases this
 ·simp only[jI,aF] at h1
  have h2:=h1.1.1.2
  simp only[Rec.gi,hsk,pH] at h2
  have:=fW h2 id hin
  simp only[hd] at this
  cases this
def bS.edgeS (h:bS C n ops st st' rs ah){i j:Nat}{f g:Rec}(hi:rs[i]?=some f)(hj:rs[j]?=some g)(hij:i≠j){s:Nat}(hw:f.o.dst=some s)(hd:s∈looks ops g.o):ah i j∨ah j i:=by
 rcases h.sepW hi hj hij with h1|h1|h1|h1
 ·exact .inl h1
 ·exact .inr h1
 ·simp only[jI,aF,Rec.gi,hw] at h1
  exact absurd hd (vr h1.1.2)
 ·simp only[jI,aF,Rec.gi,hw] at h1
  exact absurd hd (vr h1.2)
def x6 {s:Nat}(h:Operand.tmp s∈o.op.operands):s∈looks ops o:=by
 unfold looks
 rw[bD]
 exact .inl (r8.2 ⟨.tmp s,mM.2 h,rfl⟩)
def uK {g s:Nat}{b:Bool}(h:o.guard=some (g,b))(hs:(cB ops g).bind (·.dst)=some s):s∈looks ops o:=by
 unfold looks
 rw[bD,h]
 refine .inr ?_
 simp only
 rw[hs]
 simp
variable {L:Nat→Bool}
def bS.r7 (h:bS C n ops st st' rs ah){j:Nat}{r:Rec}(hr:rs[j]?=some r)(hL:L j=false)(bO:jH ah L)(fm:∀i,ah i j→L i=true){id:Nat}(hid:dy r.D id=true)(hsh:fE r.o=false)(hvs:fQ r=false) :
  bQ L rs (find st.mem) id=find (a_ rs j st).mem id:=by
 rw[←jq]
 refine kg (fun k f hk hw=>?_) rfl
 by_cases hkj:k=j
 ·subst hkj;simp[hL]
 ·rcases h.mW hk hr hkj hw hid (by rw[hsh,hvs,kG,kG];rfl) with h1|h1
  ·have:=h.lt _ _ h1
   simp[fm k h1,this]
  ·have hlt:=h.lt _ _ h1
   have:¬k<j:=by omega
   simp only[this,pI]
   cases fB:L k with
   |false=>rfl
   |true=>have:=bO _ _ h1 fB;rw[hL] at this;cases this
def BC.kind:BC→Nat×Option (Ty×Nat)×Option Ty
 |.var t _=>(0,none,some t)
 |.rows t xs=>(1,some (t,xs.length),none)
 |.deep _ t xs=>(2,some (t,xs.length),none)
 |.dead=>(3,none,none)
def dB (o:Option ag):Option (Nat×Nat×Option (Ty×Nat)×Option Ty):=o.map fun b=>(b.st,b.c.kind)
def uA {m m':MF}{id st:Nat}{t:Ty}{xs:List t.den}(hs:dB (m id)=dB (m' id))(h:h_ m id st t=some xs):∃ys,h_ m' id st t=some ys∧ys.length=xs.length:=by
 have key:∀{u:Ty} {zs:List u.den},DV.as ⟨.lst u,zs⟩ (.lst t)=some xs→u=t∧zs.length=xs.length:=by
  intro u zs h
  have:=cz h
  cases this
  exact⟨rfl,rfl⟩
 unfold h_ cur at h
 unfold dB at hs
 cases hm:m id with
 |none=>simp[hm] at h
 |some b=>
  rw[hm] at h hs
  cases hm':m' id with
  |none=>rw[hm'] at hs;cases hs
  |some b'=>
   rw[hm'] at hs
   obtain⟨s,fz,c⟩:=b
   obtain⟨s',fz',c'⟩:=b'
   simp only[iZ,au,eE] at hs
   obtain⟨e1,e2⟩:=hs
   subst e1
   simp only at h
   cases hst:Nat.beq s st with
   |false=>rw[hst] at h;simp at h
   |true=>
    rw[hst] at h
    simp only[aG] at h
    unfold h_ cur
    rw[hm']
    simp only[hst,aG]
    cases c with
    |rows u zs=>
     cases c'<;>simp only[BC.kind,eE,au,reduceCtorEq,and_false,dY,Nat.reduceEqDiff,false_and] at e2
     rename_i u' zs'
     simp only at h
     obtain⟨k1,k2⟩:=key h
     subst k1
     obtain⟨k3,k4⟩:=e2.2
     subst k3
     exact⟨zs',by simp[DV.as],by omega⟩
    |deep rs u zs=>
     cases c'<;>simp only[BC.kind,eE,au,reduceCtorEq,and_false,dY,Nat.reduceEqDiff,false_and] at e2
     rename_i rs' u' zs'
     simp only at h
     obtain⟨k1,k2⟩:=key h
     subst k1
     obtain⟨k3,k4⟩:=e2.2
     subst k3
     exact⟨zs',by simp[DV.as],by omega⟩
    |_=>simp at h
def yX {m m':MF}{id st:Nat}{t:Ty}{fz:Bool}{xs:List t.den}(hs:dB (m id)=dB (m' id))(h:rowsOf m id st t=some (fz,xs)):∃f ys,rowsOf m' id st t=some (f,ys)∧ys.length=xs.length:=by
 have hb:=gA h
 have hl:h_ m id st t=some xs:=by
  unfold h_ cur
  rw[hb]
  simp[DV.as]
 obtain⟨ys,h1,h2⟩:=uA hs hl
 rcases rW h1 with⟨fz',hb'⟩|⟨fz',rs,hb'⟩
 ·refine⟨fz',ys,?_,h2⟩
  unfold rowsOf cur
  rw[hb']
  simp[DV.as]
 ·rw[hb,hb'] at hs
  simp[dB,BC.kind] at hs
def wA {m m':MF}{id st:Nat}(hs:dB (m id)=dB (m' id)){fz:Bool}{t:Ty}{a:AT}(h:cur m id st=some ⟨st,fz,.var t a⟩):∃f b,cur m' id st=some ⟨st,f,.var t b⟩:=by
 obtain⟨hm,_⟩:=cR h
 unfold dB at hs
 rw[hm] at hs
 cases hm':m' id with
 |none=>rw[hm'] at hs;cases hs
 |some b'=>
  rw[hm'] at hs
  obtain⟨s',fz',c'⟩:=b'
  simp only[iZ,au,eE] at hs
  obtain⟨e1,e2⟩:=hs
  subst e1
  cases c'<;>simp only[BC.kind,eE,au,reduceCtorEq,and_false] at e2
  rename_i u b
  have e3:=e2.2.2
  subst e3
  exact⟨fz',b,by simp[cur,hm']⟩
def xM {m m':MF}{T:Nat}{x:AT}{i:Int}{d:aE}(hs:∀id∈x.ids,dB (m id)=dB (m' id))(h:lH C m T x i=some d):lH C m' T x i=some d:=by
 unfold lH at h ⊢
 split at h
 ·exact h
 ·rename_i id st t u hu
  cases hii:t.is u with
  |false=>rw[hii] at h;simp at h
  |true=>
   rw[hii] at h
   simp only[aG] at h
   split at h
   ·rename_i xs hr
    obtain⟨ys,h1,h2⟩:=uA (hs id (by simp[AT.ids])) hr
    simp only[aG,h1,h2]
    exact h
   ·cases h
 ·rename_i id st off len t u hu
  cases hii:t.is u with
  |false=>rw[hii] at h;simp at h
  |true=>
   rw[hii] at h
   simp only[aG] at h
   split at h
   ·rename_i r hr
    obtain⟨fz,xs⟩:=r
    obtain⟨f,ys,h1,h2⟩:=yX (hs id (by simp[AT.ids])) hr
    simp only[aG,h1]
    exact h
   ·cases h
 ·exact h
 ·rename_i id st p n u hu
  split at h
  ·rename_i st' fz t a hc
   have hst:st'=st:=(cR hc).2
   subst hst
   obtain⟨f,b,h1⟩:=wA (hs id (by simp[AT.ids])) hc
   simp only[h1]
   exact h
  ·cases h
 ·cases h
def xN {T:Nat}{x:AT}{i:Int}{d:aE}(h:lH C m T x i=some d):d.aj = []:=by
 unfold lH at h
 split at h
 ·obtain⟨_,h⟩:=aH h;cases h;rfl
 ·obtain⟨_,h⟩:=aH h
  split at h
  ·cases h;rfl
  ·cases h
 ·obtain⟨_,h⟩:=aH h
  split at h
  ·cases h;rfl
  ·cases h
 ·obtain⟨_,h⟩:=aH h;cases h;rfl
 ·split at h
  ·obtain⟨_,h⟩:=aH h;cases h;rfl
  ·cases h
 ·cases h
def bS.o6 (h:bS C n ops st st' rs ah){j:Nat}{r:Rec}(hr:rs[j]?=some r)(hs:fE r.o=true):r.d0.aj = []∧r.d.aj = []:=by
 obtain⟨_,_,hd,_,_,hrd⟩:=h.did hr
 have h0:r.d0.aj = []:=by
  unfold fE at hs
  unfold j4 at hd
  split at hd
  ·rename_i c x y ho;rw[ho] at hs;cases hs
  ·rename_i hn
   cases ho:r.o.op with
   |indexAddr T x i=>
    unfold dF at hd
    rw[ho] at hd
    simp only at hd
    split at hd
    ·exact xN hd
    ·cases hd
   |_=>rw[ho] at hs;cases hs
 refine⟨h0,?_⟩
 have:=qv hrd
 rw[h0] at this
 simpa using this
def y8 {m:MF}{T:Nat}{x v:AT}{d:aE}{id s:Nat}{fz:Bool}{t:Ty}{ys:List t.den}(h:mI C m T x v=some d)(hu:d.aj = [(id,⟨s,fz,.rows t ys⟩)]):dB (m id)=dB (some ⟨s,fz,.rows t ys⟩):=by
 unfold mI at h
 split at h
 ·rename_i id' st p u hT
  split at h
  ·obtain⟨_,h⟩:=aH h
   split at h
   ·cases h
    simp at hu
   ·cases h
  ·cases h
 ·rename_i id' st row p u hT
  split at h
  ·rename_i st' t' xs hc
   obtain⟨_,h⟩:=aH h
   split at h
   ·rename_i sx y hv
    split at h
    ·rename_i rr hrr
     split at h
     ·rename_i z hz
      cases h
      simp only[eG,eE] at hu
      obtain⟨⟨e1,e2⟩,_⟩:=hu
      subst e1
      obtain⟨hm,hst⟩:=cR hc
      rw[hm,←e2]
      simp[dB,BC.kind]
      exact hst
     ·cases h
    ·cases h
   ·cases h
  ·rename_i st' rs t' xs hc
   obtain⟨_,h⟩:=aH h
   split at h
   ·split at h
    ·split at h
     ·cases h
      simp only[eG,eE] at hu
      obtain⟨⟨e1,e2⟩,_⟩:=hu
      cases e2
     ·cases h
    ·cases h
   ·cases h
  ·cases h
 ·cases h
def xW {r:Rec}(h:mz r=true):∃T x v id s fz t,∃(ys:List (Ty.den t)),r.o.op = .store T x v∧r.d.aj = [(id,⟨s,fz,.rows t ys⟩)]∧r.T = []:=by
 unfold mz at h
 split at h
 ·rename_i T x v id s fz t ys h1 h2
  exact⟨T,x,v,id,s,fz,t,ys,h1,h2,by simpa using h⟩
 ·cases h
def bS.keeps (h:bS C n ops st st' rs ah){k:Nat}{f:Rec}(hk:rs[k]?=some f)(hks:mz f=true){id:Nat}(hw:find f.d.aj id≠none) :
  dB (find (a_ rs k st).mem id)=dB (find f.d.aj id)∧∃s fz t,∃(ys:List (Ty.den t)),find f.d.aj id=some ⟨s,fz,.rows t ys⟩:=by
 obtain⟨T,x,v,id',s,fz,t,ys,ho,hu,hT⟩:=xW hks
 obtain⟨_,_,hd,dR,_,hrd⟩:=h.did hk
 have e:id'=id:=by
  rw[hu] at hw
  simp only[aI] at hw
  by_cases e:id'=id
  ·exact e
  ·rw[bY e] at hw;exact absurd rfl hw
 subst e
 have hfu:find f.d.aj id'=some ⟨s,fz,.rows t ys⟩:=by rw[hu,aI,bf rfl]
 refine⟨?_,s,fz,t,ys,hfu⟩
 have hd0:f.d=f.d0:=by
  unfold nH at hrd
  rw[hT] at hrd
  simp only[List.isEmpty_nil,zl76,aG,au] at hrd
  exact hrd.symm
 rw[←hd0] at hd
 unfold j4 at hd
 rw[ho] at hd
 simp only at hd
 unfold dF at hd
 rw[ho] at hd
 simp only at hd
 have h1:=y8 hd hu
 rw[hfu,←h1]
 unfold view
 have hin:dy f.D id'=true:=dR (id',_) (by rw[hu];exact lu)
 rw[hin]
 rfl
def uw {r:Rec}(h:fE r.o=true):fQ r=false:=by
 unfold fE at h
 unfold fQ
 cases ho:r.o.op with
 |nilCheck x=>rw[ho] at h;cases h
 |fieldAddr T x f=>rw[ho] at h;cases h
 |move x=>rw[ho] at h;cases h
 |_=>rfl
def xV {r:Rec}(h:fQ r=true):fE r.o=false:=by
 cases hs:fE r.o with
 |false=>rfl
 |true=>rw[uw hs] at h;cases h
def yl {m:MF}{x:AT}{d:aE}(h:lP m x=some d):d.aj = []:=by
 unfold lP at h
 split at h
 ·split at h
  ·cases h;rfl
  ·cases h;rfl
  ·cases h
 ·split at h
  ·cases h;rfl
  ·cases h
 ·cases h;rfl
 ·cases h
def wF {m:MF}{T:Nat}{x:AT}{f:Nat}{d:aE}(h:lD C m T x f=some d):d.aj = []:=by
 unfold lD at h
 split at h
 ·obtain⟨_,h⟩:=aH h
  split at h
  ·obtain⟨_,h⟩:=aH h;cases h;rfl
  ·cases h
 ·split at h
  ·obtain⟨_,h⟩:=aH h;cases h;rfl
  ·cases h
 ·split at h
  ·obtain⟨_,h⟩:=aH h;cases h;rfl
  ·obtain⟨_,h⟩:=aH h;cases h;rfl
  ·cases h
 ·cases h
def bS.pE (h:bS C n ops st st' rs ah){j:Nat}{r:Rec}(hr:rs[j]?=some r)(hs:fQ r=true):r.d0.aj = []∧r.d.aj = []:=by
 obtain⟨_,_,hd,_,_,hrd⟩:=h.did hr
 have h0:r.d0.aj = []:=by
  unfold fQ at hs
  unfold j4 at hd
  split at hd
  ·rename_i c x y ho;rw[ho] at hs;cases hs
  ·cases ho:r.o.op with
   |move x=>
    unfold dF at hd
    rw[ho] at hd
    simp only[au] at hd
    rw[←hd]
   |nilCheck x=>
    unfold dF at hd
    rw[ho] at hd
    exact yl hd
   |fieldAddr T x f=>
    unfold dF at hd
    rw[ho] at hd
    exact wF hd
   |_=>rw[ho] at hs;cases hs
 refine⟨h0,?_⟩
 have:=qv hrd
 rw[h0] at this
 simpa using this
def ig (x y:Option ag):Prop:=x=y∨(nv x=true∧nv y=true)
def ig.trans {x y z:Option ag}(h:ig x y)(k:ig y z):ig x z:=by
 rcases h with rfl|⟨h1,h2⟩
 ·exact k
 ·rcases k with rfl|⟨k1,k2⟩
  ·exact .inr ⟨h1,h2⟩
  ·exact .inr ⟨h1,k2⟩
def ig.symm {x y:Option ag}(h:ig x y):ig y x:=h.imp Eq.symm And.symm
def tQ {m m':MF}{id st:Nat}{s:Nat}{fz:Bool}{t:Ty}{a:AT}(hs:ig (m' id) (m id))(h:cur m id st=some ⟨s,fz,.var t a⟩):cur m' id st=some ⟨s,fz,.var t a⟩:=by
 rcases hs with e|⟨_,e⟩
 ·unfold cur at h ⊢;rw[e];exact h
 ·rw[(cR h).1] at e;cases e
def ym {m m':MF}{x:AT}{d:aE}{i s:Nat}{p:Path}(hs:∀id,ig (m' id) (m id))(h:lP m x=some d)(ha:d.av = .aV i s p):lP m' x=some d:=by
 unfold lP at h ⊢
 split at h
 ·split at h
  ·cases h;cases ha
  ·cases h;cases ha
  ·cases h
 ·split at h
  ·rename_i hc
   simp only[tQ (hs _) hc]
   exact h
  ·cases h
 ·cases h;cases ha
 ·cases h
def wG {m m':MF}{T:Nat}{x:AT}{f:Nat}{d:aE}{i s:Nat}{p:Path}(hs:∀id,ig (m' id) (m id))(h:lD C m T x f=some d)(ha:d.av = .aV i s p):lD C m' T x f=some d:=by
 unfold lD at h ⊢
 split at h
 ·obtain⟨_,h⟩:=aH h
  split at h
  ·obtain⟨_,h⟩:=aH h;cases h;cases ha
  ·cases h
 ·rename_i hu
  split at h
  ·rename_i hc
   simp only[tQ (hs _) hc]
   exact h
  ·cases h
 ·split at h
  ·obtain⟨_,h⟩:=aH h;cases h;cases ha
  ·obtain⟨_,h⟩:=aH h;cases h;cases ha
  ·cases h
 ·cases h
def bS.kv (h:bS C n ops st st' rs ah){k:Nat}{f:Rec}(hk:rs[k]?=some f)(hkv:f.kv=true){id:Nat}(hw:find f.d.aj id≠none):nv (find (a_ rs k st).mem id)=true∧nv (find f.d.aj id)=true:=by
 have h1:=h.runs.at hk
 have e:f.kv=u0 (find (a_ rs k st).mem) f.d.aj:=by
  unfold lS at h1
  split at h1
  ·cases h1
  ·dsimp only at h1
   split at h1
   ·cases h1
   ·obtain⟨_,h1⟩:=aH h1
    split at h1
    ·simp only[au] at h1
     rw[←h1]
    ·cases h1
 rw[e] at hkv
 cases hf:find f.d.aj id with
 |none=>exact absurd hf hw
 |some b=>
  have:=fW hkv _ (fh hf)
  simp only[aF] at this
  exact this
def bS.uN (h:bS C n ops st st' rs ah){j:Nat}{r:Rec}(hr:rs[j]?=some r)(hsh:fE r.o=true)(hL:L j=false)(bO:jH ah L)(fm:∀i,ah i j→L i=true){id:Nat}(hid:dy r.D id=true) :
  dB (bQ L rs (find st.mem) id)=dB (find (a_ rs j st).mem id)∧∀s fz t a,find (a_ rs j st).mem id=some ⟨s,fz,.var t a⟩→bQ L rs (find st.mem) id=find (a_ rs j st).mem id:=by
 have hjw:find r.d.aj id=none:=by rw[(h.o6 hr hsh).2];rfl
 have hB:∀i k f g,i<k→rs[i]?=some f→rs[k]?=some g→find f.d.aj id≠none→find g.d.aj id≠none→L k=true→L i=true:=by
  intro i k f g hik hi hk kQ hgk fB
  have hgs:fE g.o=false:=by
   cases hs:fE g.o with
   |false=>rfl
   |true=>exact absurd (by rw[(h.o6 hk hs).2];rfl) hgk
  have hgd:dy g.D id=true:=by
   cases hf:find g.d.aj id with
   |none=>exact absurd hf hgk
   |some b=>exact(h.did hk).2.2.2.1 _ (fh hf)
  have hgv:fQ g=false:=by
   cases hs:fQ g with
   |false=>rfl
   |true=>exact absurd (by rw[(h.pE hk hs).2];rfl) hgk
  rcases h.mW hi hk (by omega) kQ hgd (by rw[hgs,hgv,kG,kG];rfl) with h1|h1
  ·exact bO _ _ h1 fB
  ·have:=h.lt _ _ h1;omega
 have hW:∀k f,rs[k]?=some f→find f.d.aj id≠none→L k=decide (k<j)∨mz f=true:=by
  intro k f hk hw
  cases hks:mz f with
  |true=>exact .inr rfl
  |false=>
   left
   have hkj:k≠j:=by intro e;subst e;rw[hr] at hk;cases hk;exact hw hjw
   rcases h.mW hk hr hkj hw hid (by rw[hks,uw hsh,kG];rfl) with h1|h1
   ·have:=h.lt _ _ h1
    simp[fm k h1,this]
   ·have hlt:=h.lt _ _ h1
    have:¬k<j:=by omega
    simp only[this,pI]
    cases fB:L k with
    |false=>rfl
    |true=>have:=bO _ _ h1 fB;rw[hL] at this;cases this
 have hp:∀n,∃p,p≤n∧(∀i f,rs[i]?=some f→find f.d.aj id≠none→p≤i→i<n→L i=false)∧(p=0∨∃q f,p=q+1∧rs[q]?=some f∧find f.d.aj id≠none∧L q=true):=by
  intro n
  induction n with
  |zero=>exact⟨0,bw _,fun i f _ _ _ hi=>by omega,.inl rfl⟩
  |succ n ih=>
   obtain⟨p,h1,h2,h3⟩:=ih
   by_cases hq:∃f,rs[n]?=some f∧find f.d.aj id≠none∧L n=true
   ·obtain⟨f,k1,k2,k3⟩:=hq
    exact⟨n+1,bw _,fun i f _ _ hi hi'=>by omega,.inr ⟨n,f,rfl,k1,k2,k3⟩⟩
   ·refine⟨p,by omega,fun i f hi hw hpi hin=>?_,h3⟩
    by_cases e:i=n
    ·subst e
     cases hLi:L i with
     |false=>rfl
     |true=>exact absurd ⟨f,hi,hw,hLi⟩ hq
    ·exact h2 i f hi hw hpi (by omega)
 obtain⟨p,p1,p2,p3⟩:=hp rs.length
 have hpw:∀k f,rs[k]?=some f→find f.d.aj id≠none→L k=decide (k<p):=by
  intro k f hk hw
  have jO:k<rs.length:=(mN.1 hk).1
  by_cases hkp:k<p
  ·rcases p3 with p3|⟨q,g,e,q1,q2,q3⟩
   ·omega
   ·by_cases e':k=q
    ·subst e';simp[q3,hkp]
    ·rw[hB k q f g (by omega) hk q1 hw q2 q3]
     simp[hkp]
  ·rw[p2 k f hk hw (by omega) jO]
   simp[hkp]
 have hmem:bQ L rs (find st.mem) id=find (a_ rs p st).mem id:=by
  rw[←jq]
  exact kg hpw rfl
 have rR:∀i,(∀f,rs[i]?=some f→find f.d.aj id=none)→find (a_ rs (i+1) st).mem id=find (a_ rs i st).mem id:=by
  intro i hn
  rw[←jq,←jq]
  refine kg (fun k f hk hw=>?_) rfl
  by_cases e:k=i
  ·subst e;exact absurd (hn f hk) hw
  ·have:(k<i+1)↔k<i:=by omega
   simp[this]
 have qd:∀i f,rs[i]?=some f→find f.d.aj id≠none→find (a_ rs (i+1) st).mem id=find f.d.aj id:=by
  intro i f hi hw
  cases hf:find f.d.aj id with
  |none=>exact absurd hf hw
  |some b=>
   rw[←jq]
   exact ql hi (by simp) hf fun k r' hk hr' _=>by simp;omega
 have hstep:∀i,((p≤i∧i<j)∨(j≤i∧i<p))→dB (find (a_ rs (i+1) st).mem id)=dB (find (a_ rs i st).mem id):=by
  intro i hi
  by_cases hw:∃f,rs[i]?=some f∧find f.d.aj id≠none
  ·obtain⟨f,k1,k2⟩:=hw
   rcases hW i f k1 k2 with h1|h1
   ·rw[hpw i f k1 k2] at h1
    have:(i<p)↔(i<j):=by simpa using h1
    omega
   ·rw[qd i f k1 k2,←(h.keeps k1 h1 k2).1]
  ·rw[rR i fun f hf=>by
    cases hx:find f.d.aj id with
    |none=>rfl
    |some b=>exact absurd ⟨f,hf,by rw[hx];simp⟩ hw]
 have hchain:∀d i,((p≤i∧i+d≤j)∨(j≤i∧i+d≤p))→dB (find (a_ rs (i+d) st).mem id)=dB (find (a_ rs i st).mem id):=by
  intro d
  induction d with
  |zero=>intro i _;rfl
  |succ d ih=>
   intro i hi
   rw[show i+(d+1)=(i+d)+1 by omega,hstep (i+d) (by omega),ih i (by omega)]
 have j9:∀i,((p≤i∧i≤j)∨(j≤i∧i≤p))→dB (find (a_ rs i st).mem id)=dB (find (a_ rs j st).mem id):=by
  intro i hi
  rcases Nat.le_total i j with hij|hij
  ·have:=hchain (j-i) i (by omega)
   rw[show i+(j-i)=j by omega] at this
   exact this.symm
  ·have:=hchain (i-j) j (by omega)
   rw[show j+(i-j)=i by omega] at this
   exact this
 refine⟨by rw[hmem];exact j9 p (by omega),fun s fz t a hv=>?_⟩
 rw[←jq]
 refine kg (fun k f hk hw=>?_) rfl
 rcases hW k f hk hw with h0|hks
 ·exact h0
 ·by_cases hne:L k=decide (k<j)
  ·exact hne
  ·exfalso
   rw[hpw k f hk hw] at hne
   have hbt:(p≤k∧k<j)∨(j≤k∧k<p):=by
    by_cases h1:k<p<;>by_cases h2:k<j<;>simp[h1,h2] at hne<;>omega
   obtain⟨_,s',fz',t',ys',hrow⟩:=h.keeps hk hks hw
   have h1:=j9 (k+1) (by omega)
   rw[qd k f hk hw,hrow,hv] at h1
   simp[dB,BC.kind] at h1
def bS.uO (h:bS C n ops st st' rs ah){j:Nat}{r:Rec}(hr:rs[j]?=some r)(hv:fQ r=true)(hL:L j=false)(bO:jH ah L)(fm:∀i,ah i j→L i=true){id:Nat}(hid:dy r.D id=true) :
  ig (bQ L rs (find st.mem) id) (find (a_ rs j st).mem id):=by
 have hjw:find r.d.aj id=none:=by rw[(h.pE hr hv).2];rfl
 have hB:∀i k f g,i<k→rs[i]?=some f→rs[k]?=some g→find f.d.aj id≠none→find g.d.aj id≠none→L k=true→L i=true:=by
  intro i k f g hik hi hk kQ hgk fB
  have hgs:fE g.o=false:=by
   cases hs:fE g.o with
   |false=>rfl
   |true=>exact absurd (by rw[(h.o6 hk hs).2];rfl) hgk
  have hgd:dy g.D id=true:=by
   cases hf:find g.d.aj id with
   |none=>exact absurd hf hgk
   |some b=>exact(h.did hk).2.2.2.1 _ (fh hf)
  have hgv:fQ g=false:=by
   cases hs:fQ g with
   |false=>rfl
   |true=>exact absurd (by rw[(h.pE hk hs).2];rfl) hgk
  rcases h.mW hi hk (by omega) kQ hgd (by rw[hgs,hgv,kG,kG];rfl) with h1|h1
  ·exact bO _ _ h1 fB
  ·have:=h.lt _ _ h1;omega
 have hW:∀k f,rs[k]?=some f→find f.d.aj id≠none→L k=decide (k<j)∨f.kv=true:=by
  intro k f hk hw
  cases hks:f.kv with
  |true=>exact .inr rfl
  |false=>
   left
   have hkj:k≠j:=by intro e;subst e;rw[hr] at hk;cases hk;exact hw hjw
   rcases h.mW hk hr hkj hw hid (by rw[hks,xV hv,kG];rfl) with h1|h1
   ·have:=h.lt _ _ h1
    simp[fm k h1,this]
   ·have hlt:=h.lt _ _ h1
    have:¬k<j:=by omega
    simp only[this,pI]
    cases fB:L k with
    |false=>rfl
    |true=>have:=bO _ _ h1 fB;rw[hL] at this;cases this
 have hp:∀n,∃p,p≤n∧(∀i f,rs[i]?=some f→find f.d.aj id≠none→p≤i→i<n→L i=false)∧(p=0∨∃q f,p=q+1∧rs[q]?=some f∧find f.d.aj id≠none∧L q=true):=by
  intro n
  induction n with
  |zero=>exact⟨0,bw _,fun i f _ _ _ hi=>by omega,.inl rfl⟩
  |succ n ih=>
   obtain⟨p,h1,h2,h3⟩:=ih
   by_cases hq:∃f,rs[n]?=some f∧find f.d.aj id≠none∧L n=true
   ·obtain⟨f,k1,k2,k3⟩:=hq
    exact⟨n+1,bw _,fun i f _ _ hi hi'=>by omega,.inr ⟨n,f,rfl,k1,k2,k3⟩⟩
   ·refine⟨p,by omega,fun i f hi hw hpi hin=>?_,h3⟩
    by_cases e:i=n
    ·subst e
     cases hLi:L i with
     |false=>rfl
     |true=>exact absurd ⟨f,hi,hw,hLi⟩ hq
    ·exact h2 i f hi hw hpi (by omega)
 obtain⟨p,p1,p2,p3⟩:=hp rs.length
 have hpw:∀k f,rs[k]?=some f→find f.d.aj id≠none→L k=decide (k<p):=by
  intro k f hk hw
  have jO:k<rs.length:=(mN.1 hk).1
  by_cases hkp:k<p
  ·rcases p3 with p3|⟨q,g,e,q1,q2,q3⟩
   ·omega
   ·by_cases e':k=q
    ·subst e';simp[q3,hkp]
    ·rw[hB k q f g (by omega) hk q1 hw q2 q3]
     simp[hkp]
  ·rw[p2 k f hk hw (by omega) jO]
   simp[hkp]
 have hmem:bQ L rs (find st.mem) id=find (a_ rs p st).mem id:=by
  rw[←jq]
  exact kg hpw rfl
 have rR:∀i,(∀f,rs[i]?=some f→find f.d.aj id=none)→find (a_ rs (i+1) st).mem id=find (a_ rs i st).mem id:=by
  intro i hn
  rw[←jq,←jq]
  refine kg (fun k f hk hw=>?_) rfl
  by_cases e:k=i
  ·subst e;exact absurd (hn f hk) hw
  ·have:(k<i+1)↔k<i:=by omega
   simp[this]
 have qd:∀i f,rs[i]?=some f→find f.d.aj id≠none→find (a_ rs (i+1) st).mem id=find f.d.aj id:=by
  intro i f hi hw
  cases hf:find f.d.aj id with
  |none=>exact absurd hf hw
  |some b=>
   rw[←jq]
   exact ql hi (by simp) hf fun k r' hk hr' _=>by simp;omega
 have hstep:∀i,((p≤i∧i<j)∨(j≤i∧i<p))→ig (find (a_ rs (i+1) st).mem id) (find (a_ rs i st).mem id):=by
  intro i hi
  by_cases hw:∃f,rs[i]?=some f∧find f.d.aj id≠none
  ·obtain⟨f,k1,k2⟩:=hw
   rcases hW i f k1 k2 with h1|h1
   ·rw[hpw i f k1 k2] at h1
    have:(i<p)↔(i<j):=by simpa using h1
    omega
   ·rw[qd i f k1 k2]
    obtain⟨e1,e2⟩:=h.kv k1 h1 k2
    exact .inr ⟨e2,e1⟩
  ·rw[rR i fun f hf=>by
    cases hx:find f.d.aj id with
    |none=>rfl
    |some b=>exact absurd ⟨f,hf,by rw[hx];simp⟩ hw]
   exact .inl rfl
 have hchain:∀d i,((p≤i∧i+d≤j)∨(j≤i∧i+d≤p))→ig (find (a_ rs (i+d) st).mem id) (find (a_ rs i st).mem id):=by
  intro d
  induction d with
  |zero=>intro i _;exact .inl rfl
  |succ d ih=>
   intro i hi
   exact(show ig (find (a_ rs (i+d+1) st).mem id) _ from hstep (i+d) (by omega)).trans (ih i (by omega))
 rw[hmem]
 rcases Nat.le_total p j with hij|hij
 ·have:=hchain (j-p) p (by omega)
  rw[show p+(j-p)=j by omega] at this
  exact this.symm
 ·have:=hchain (p-j) j (by omega)
  rw[show j+(p-j)=p by omega] at this
  exact this
def bS.wB (h:bS C n ops st st' rs ah){j:Nat}{r:Rec}(hr:rs[j]?=some r)(hL:L j=false)(bO:jH ah L)(fm:∀i,ah i j→L i=true){s:Nat}(hs:s∈looks ops r.o) :
  dQ L rs (find st.env) s=find (a_ rs j st).env s:=by
 rw[←og]
 refine mX (fun k f hk hw=>?_) rfl
 by_cases hkj:k=j
 ·subst hkj;simp[hL]
 ·rcases h.edgeS hk hr hkj hw hs with h1|h1
  ·have:=h.lt _ _ h1
   simp[fm k h1,this]
  ·have hlt:=h.lt _ _ h1
   have:¬k<j:=by omega
   simp only[this,pI]
   cases fB:L k with
   |false=>rfl
   |true=>have:=bO _ _ h1 fB;rw[hL] at this;cases this
def bS.slot (h:bS C n ops st st' rs ah){k:Nat}{r:Rec}(hr:rs[k]?=some r)(hL:L k=true){s:Nat}(hs:r.o.dst=some s)(e:EF):dQ L rs e s=some (jB r.T r.d.av):=
 tU hr hL hs fun k' r' hk hr' hs'=>by have:=h.p6 _ _ _ _ _ hr hr' hs hs';omega
def bS.tags (h:bS C n ops st st' rs ah):∀(j:Nat) {r:Rec},rs[j]?=some r→∀t∈r.T,∃k r',k<j∧rs[k]?=some r'∧r'.o.dst=some t.1 ∧
  ∀L,jH ah L→(∀i,ah i j→L i=true)→L k=true:=by
 intro j
 induction j using Nat.strongRecOn with
 |_ j ih=>
 intro r hr t ht
 obtain⟨hg,_⟩:=h.did hr
 unfold guardOf at hg
 cases hgd:r.o.guard with
 |none=>rw[hgd] at hg;simp only[au] at hg;rw[←hg] at ht;simp at ht
 |some gw=>
  obtain⟨g,b⟩:=gw
  rw[hgd] at hg
  simp only[bE] at hg
  obtain⟨s,hs,hT⟩:=hg
  have hgj:=h.back j r g b hr hgd
  have rO:=uK hgd hs
  rw[jR,←h.u9] at hs
  simp only[List.getElem?_map,Option.bind_map] at hs
  obtain⟨rg,hrg,hsg⟩:=lZ.1 hs
  simp only[Function.comp_apply] at hsg
  have hLg:∀L,jH ah L→(∀i,ah i j→L i=true)→L g=true:=by
   intro L bO fm
   rcases h.edgeS hrg hr (by omega) hsg rO with h1|h1
   ·exact fm g h1
   ·have:=h.lt _ _ h1;omega
  have hev:find (a_ rs j st).env s=some (jB rg.T rg.d.av):=by
   rw[←og]
   exact h.slot hrg (by simp[hgj]) hsg _
  rw[←hT] at ht
  have first:t=(s,b)→∃k r',k<j∧rs[k]?=some r'∧r'.o.dst=some t.1∧∀L,jH ah L→(∀i,ah i j→L i=true)→L k=true:=
   fun e=>⟨g,rg,hgj,hrg,by rw[e];exact hsg,hLg⟩
  unfold lX at ht
  split at ht
  ·rename_i A e hf
   rcases aX.1 ht with e1|ht
   ·exact first e1
   ·rw[hev] at hf
    have:A=rg.T:=by
     unfold jB at hf
     split at hf
     ·split at hf<;>simp at hf
      rename_i hn
      exact absurd hf (hn _ _)
     ·simp only[au,AT.bM.injEq] at hf;exact hf.1.symm
    subst this
    obtain⟨k,r',h1,h2,h3,h4⟩:=ih g hgj hrg t ht
    exact⟨k,r',by omega,h2,h3,fun L bO fm=>h4 L bO fun i hi=>bO i g hi (hLg L bO fm)⟩
  ·rcases aX.1 ht with e1|ht
   ·exact first e1
   ·simp at ht
end
end
section
variable {P:Program} {F:Fix} {C:Cx} {o:Oper} {a:Act} {w w':World} {m:MF} {I I':Nat→Prop} {ρ:Pl} {d:aE}
variable {n:Nat} {K:eX} {ops:List Oper} {st st':St} {rs:List Rec} {ah:Nat→Nat→Prop} {L:Nat→Bool}
def vh (a:Act)(s:Option Nat)(v:Value):(a.put s v).tmps.size=a.tmps.size:=by cases s<;>simp[Act.put]
def put_defers (a:Act)(s:Option Nat)(v:Value):(a.put s v).defers=a.defers:=by cases s<;>simp[Act.put]
def vg (a:Act)(s:Nat)(v:Value)(h:s<a.tmps.size):(a.put (some s) v).tmps.getD s Go.undef=v:=by simp[Act.put,h]
def qu (a:Act)(s:Option Nat)(t:Nat)(v:Value)(h:s≠some t):(a.put s v).tmps.getD t Go.undef=a.tmps.getD t Go.undef:=by
 cases s with
 |none=>rfl
 |some s=>
  have:s≠t:=fun e=>h (e▸rfl)
  simp[Act.put,Array.getElem?_setIfInBounds_ne this]
def ir.tmps {tmps tmps':Array Value}{av:AT}{v:Value}(h:ir w I m ρ tmps av v)(ht:∀T b,av = .bM T b→∀t∈T,tmps'.getD t.1 Go.undef=tmps.getD t.1 Go.undef) :
  ir w I m ρ tmps' av v:=by
 cases av with
 |bM T b=>
  have:fc tmps' T↔fc tmps T:=by
   constructor
   ·intro h1 t ji;rw[←ht T b rfl t ji];exact h1 t ji
   ·intro h1 t ji;rw[ht T b rfl t ji];exact h1 t ji
  exact⟨fun h1=>h.1 (this.1 h1),fun h1=>h.2 fun h2=>h1 (this.2 h2)⟩
 |_=>exact h
def vK (b:Bool):Go.undef ≠ .bool b:=by intro h;cases h
def zu {ops:Array Oper}{tmps:Array Value}{g s:Nat}{b:Bool}(hs:(ops[g]?).bind (·.dst)=some s):yielded ops tmps g=some b↔tmps.getD s Go.undef = .bool b:=by
 unfold yielded
 rw[hs]
 simp only[pF]
 rw[Array.getD_eq_getD_getElem?]
 cases hv:tmps[s]? with
 |none=>simp only[Option.getD_none];constructor<;>intro h<;>cases h
 |some v=>
  simp only[Option.getD_some]
  constructor
  ·intro h
   split at h
   ·rename_i b' hb;cases h;cases hb;rfl
   ·cases h
  ·intro h;subst h;rfl
def bS.slots (h:bS C n ops st st' rs ah){j:Nat}{r:Rec}(hr:rs[j]?=some r)(hL:L j=false)(bO:jH ah L){tmps tmps':Array Value}
  (hold:∀t,r.o.dst≠some t→tmps'.getD t Go.undef=tmps.getD t Go.undef)
  (henv:∀s av,dQ L rs (find st.env) s=some av→ir w I m ρ tmps av (tmps.getD s Go.undef))
  (hnew:∀s,r.o.dst=some s→ir w I m ρ tmps' (jB r.T r.d.av) (tmps'.getD s Go.undef)) :
  ∀s av,dQ (ij L j) rs (find st.env) s=some av→ir w I m ρ tmps' av (tmps'.getD s Go.undef):=by
 intro s av bC
 by_cases hs:r.o.dst=some s
 ·rw[h.slot hr (by simp[ij]) hs] at bC
  cases bC
  exact hnew s hs
 ·have hsame:dQ (ij L j) rs (find st.env) s=dQ L rs (find st.env) s:=by
   refine mX (fun k f hk hw=>?_) rfl
   unfold ij
   by_cases hkj:k=j
   ·subst hkj;rw[hr] at hk;cases hk;exact absurd hw hs
   ·simp[hkj]
  rw[hsame] at bC
  have h1:=henv s av bC
  rw[hold s hs]
  refine h1.tmps fun T b e t ht=>hold t.1 fun hd=>?_
  subst e
  by_cases hex:∃k f,rs[k]?=some f∧L k=true∧f.o.dst=some s
  ·obtain⟨k,f,hk,fB,hf⟩:=hex
   rw[h.slot hk fB hf] at bC
   have hT:f.T=T:=by
    simp only[au] at bC
    unfold jB at bC
    split at bC
    ·split at bC
     ·cases bC
     ·rename_i hn
      exact absurd bC (hn _ _)
    ·simp only[AT.bM.injEq] at bC;exact bC.1
   subst hT
   obtain⟨k2,f2,_,hk2,hf2,hin⟩:=h.tags k hk t ht
   have:=hin L bO fun i hi=>bO i k hi fB
   have e:=h.p6 _ _ _ _ _ hk2 hr hf2 hd
   subst e
   rw[hL] at this
   cases this
  ·have:dQ L rs (find st.env) s=find st.env s:=by
    have h2:dQ L rs (find st.env) s=dQ (fun _=>false) rs (find st.env) s:=by
     refine mX (fun k f hk hw=>?_) rfl
     cases fB:L k with
     |false=>rfl
     |true=>exact absurd ⟨k,f,hk,fB,hw⟩ hex
    rw[h2,oh]
   rw[this] at bC
   exact absurd bC (h.e0 s T b)
def bS.mems (h:bS C n ops st st' rs ah){j:Nat}{r:Rec}(hr:rs[j]?=some r)(hL:L j=false)(bO:jH ah L) :
  bQ (ij L j) rs (find st.mem)=MF.aj (bQ L rs (find st.mem)) r.d.aj:=by
 funext id
 cases hf:find r.d.aj id with
 |none=>
  have:MF.aj (bQ L rs (find st.mem)) r.d.aj id=bQ L rs (find st.mem) id:=by simp[MF.aj,hf]
  rw[this]
  refine kg (fun k f hk hw=>?_) rfl
  unfold ij
  by_cases hkj:k=j
  ·subst hkj;rw[hr] at hk;cases hk;exact absurd hf hw
  ·simp[hkj]
 |some b=>
  have:MF.aj (bQ L rs (find st.mem)) r.d.aj id=some b:=by simp[MF.aj,hf]
  rw[this]
  refine ql hr (by simp[ij]) hf fun k f hjk hk hw=>?_
  have hkj:k≠j:=by omega
  simp only[ij,hkj,pI,Bool.or_false]
  have hdom:dy r.D id=true:=(h.did hr).2.2.2.1 _ (fh hf)
  have hrs:fE r.o=false:=by
   cases hs:fE r.o with
   |false=>rfl
   |true=>rw[(h.o6 hr hs).2] at hf;cases hf
  have hrv:fQ r=false:=by
   cases hs:fQ r with
   |false=>rfl
   |true=>rw[(h.pE hr hs).2] at hf;cases hf
  rcases h.mW hk hr hkj hw hdom (by rw[hrs,hrv,kG,kG];rfl) with h1|h1
  ·have:=h.lt _ _ h1;omega
  ·cases fB:L k with
   |false=>rfl
   |true=>have:=bO _ _ h1 fB;rw[hL] at this;cases this
def vA {env:List (Nat×AT)}{tmps:Array Value}:∀{T:eY},fc tmps T→(∀t∈T,Reads w I m ρ tmps env t.1)→jw env T=true:=by
 have one:∀{T:eY},fc tmps T→(∀t∈T,Reads w I m ρ tmps env t.1)→∀t∈T,lW env t.1 t.2=true:=by
  intro T hT hr t ht
  have hv:=hT t ht
  have h1:=hr t ht
  unfold lW
  split
  ·rename_i b hf
   have h2:=h1 _ hf
   rw[hv] at h2
   have:=fS.1 (show az w I m ρ (.leaf .bool b) (.bool t.2) from h2)
   cases this
   cases t.2<;>rfl
  ·rename_i A b hf
   have h2:=h1 _ hf
   rw[hv] at h2
   by_cases hA:fc tmps A
   ·have:=fS.1 (h2.1 hA)
    cases this
    cases t.2<;>rfl
   ·exact absurd (h2.2 hA).symm (vK _)
  ·rfl
 intro T hT hr
 have h1:=one hT hr
 induction T with
 |nil=>rfl
 |cons t T ih=>
  have h2:=h1 t (by simp)
  cases T with
  |nil=>exact h2
  |cons u T=>
   obtain⟨s,b⟩:=t
   show(lW env s b&&jw env (u::T))=true
   rw[show lW env s b=true from h2,ih (fun t ht=>hT t (by simp[ht])) (fun t ht=>hr t (by simp[ht])) (fun t ht=>h1 t (by simp[ht]))]
   rfl
def uz {env:List (Nat×AT)}{tmps:Array Value}:∀{T:eY},oG env T=true→(∀t∈T,Reads w I m ρ tmps env t.1)→jw env T=true→fc tmps T
 | [],_,_,_=>fun t ht=>by cases ht
 | (s,b)::T,hk,hr,hb=>by
  simp only[oG,aF] at hk
  obtain⟨hk1,hk2⟩:=hk
  have hb':lW env s b=true∧jw env T=true:=by
   cases T with
   |nil=>exact⟨hb,rfl⟩
   |cons u T=>simp only[jw,aF] at hb;exact hb
  have ih:=uz hk2 (fun t ht=>hr t (gP _ ht)) hb'.2
  have h1:=hr (s,b) lu
  simp only at h1
  intro t ht
  rcases aX.1 ht with e|ht
  ·subst e
   have h3:=hb'.1
   unfold lW at h3
   split at hk1
   ·rename_i c hf
    have h2:=h1 _ hf
    have:=fS.1 (show az w I m ρ (.leaf .bool c) _ from h2)
    rw[hf] at h3
    simp only at h3 ⊢
    rw[this]
    cases b<;>cases c<;>simp at h3 ⊢
   ·rename_i A c hf
    have h2:=h1 _ hf
    have hA:fc tmps A:=sO hk1 ih
    have:=fS.1 (h2.1 hA)
    rw[hf] at h3
    simp only at h3 ⊢
    rw[this]
    cases b<;>cases c<;>simp at h3 ⊢
   ·cases hk1
  ·exact ih t ht
end
section
variable {P:Program} {F:Fix} {C:Cx} {o:Oper} {a:Act} {w w':World} {m:MF} {I I':Nat→Prop} {ρ:Pl} {d:aE}
variable {n:Nat} {K:eX} {ops:List Oper} {st st':St} {rs:List Rec} {ah:Nat→Nat→Prop} {L:Nat→Bool}
def iJ (F:Fix)(n:Nat)(K:eX)(rs:List Rec)(st:St)(L:Nat→Bool)(a:Act)(w:World):Prop:=∃I ρ,RInv F n K rs st L a w I ρ
def yB {l:List Bool}(h:∀b∈qn true l,b=true):∀b∈l,b=true:=by
 intro b hb
 have:(!true || b)∈qn true l:=by unfold qn;rw[jm];exact eV.2 ⟨b,hb,rfl⟩
 simpa using h _ this
def rz {av:AT}{tmps:Array Value}{v:Value}(h:az w I m ρ av v)(hn:∀A b,av = .bM A b→False):ir w I m ρ tmps av v:=by
 cases av with
 |bM A b=>exact(hn A b rfl).elim
 |_=>exact h
def rJ {β:Type}:∀{l:List (Nat×β)} {x:Nat×β},(l.map (·.1)).Nodup→x∈l→find l x.1=some x.2
 | [],x,_,h=>by cases h
 | (i,b)::l,x,hn,h=>by
  simp only[kD,cX] at hn
  rw[aI]
  rcases aX.1 h with e|h
  ·subst e;simp
  ·have:i≠x.1:=fun e=>hn.1 (e▸eV.2 ⟨x,h,rfl⟩)
   rw[bY this]
   exact rJ hn.2 h
def bS.step (h:bS C n ops st st' rs ah)(hC:bW P C)(hF:eW P F.G C){j:Nat}{r:Rec}(hr:rs[j]?=some r)(hL:L j=false)(bO:jH ah L)(fm:∀i,ah i j→L i=true)
  (hok:∀b∈okT (a_ rs j st).env r.T r.d.ok,b=true) {Q:Exit→Act→World→Prop} {Kt:Act→World→Prop} (hinv:iJ F n K rs st L a w)
  (hK:∀a' w',iJ F n K rs st (ij L j) a' w'→Kt a' w'):wpOp P ops.toArray Q j Kt a w:=by
 obtain⟨I,ρ,hi⟩:=hinv
 obtain⟨hg,hD,hd,dR,hclo,hrd⟩:=h.did hr
 obtain⟨bC,hokE,hmg⟩:=vj hrd
 rw[hokE] at hok
 have hup0:∀x∈r.d0.aj,dy r.D x.1=true:=by
  intro x hx
  have:x.1∈r.d.aj.map (·.1):=by rw[qv hrd];exact eV.2 ⟨x,hx,rfl⟩
  obtain⟨y,hy,he⟩:=eV.1 this
  rw[←he]
  exact dR y hy
 have hop:=h.op hr
 have uj:∀s,s∈looks ops r.o→Reads w I (bQ L rs (find st.mem)) ρ a.tmps (a_ rs j st).env s:=by
  intro s hs av bC
  exact hi.env s av (by rw[h.wB hr hL bO fm hs];exact bC)
 have rS:∀t∈r.T,Reads w I (bQ L rs (find st.mem)) ρ a.tmps (a_ rs j st).env t.1:=by
  intro t ht av bC
  obtain⟨k,f,hkj,hk,hf,hin⟩:=h.tags j hr t ht
  have fB:=hin L bO fm
  refine hi.env t.1 av ?_
  rw[h.slot hk fB hf]
  rw[←og,h.slot hk (by simp[hkj]) hf] at bC
  exact bC
 have gH:j4 C (a_ rs j st).env r.T ((bQ L rs (find st.mem)).on (dy r.D)) r.o=some r.d0:=by
  cases hsh:fE r.o with
  |false=>
   cases hvs:fQ r with
   |false=>
    have hview:view (a_ rs j st).mem r.D=(bQ L rs (find st.mem)).on (dy r.D):=by
     funext id
     unfold view MF.on
     cases hid:dy r.D id with
     |false=>rfl
     |true=>simp only[aG];exact(h.r7 hr hL bO fm hid hsh hvs).symm
    exact hview▸hd
   |true=>
    have hall:∀id,ig ((bQ L rs (find st.mem)).on (dy r.D) id) (view (a_ rs j st).mem r.D id):=by
     intro id
     unfold view MF.on
     cases hid:dy r.D id with
     |false=>exact .inl rfl
     |true=>simp only[aG];exact h.uO hr hvs hL bO fm hid
    unfold fQ at hvs
    unfold j4 at hd ⊢
    split at hd
    ·rename_i ho;rw[ho] at hvs;cases hvs
    ·cases ho:r.o.op with
     |move x=>
      unfold dF at hd ⊢
      rw[ho] at hd ⊢
      exact hd
     |nilCheck x=>
      unfold dF at hd ⊢
      rw[ho] at hd ⊢
      rw[ho] at hvs
      cases ha:r.d0.av with
      |aV i s p=>exact ym hall hd ha
      |_=>rw[ha] at hvs;cases hvs
     |fieldAddr T x f=>
      unfold dF at hd ⊢
      rw[ho] at hd ⊢
      rw[ho] at hvs
      cases ha:r.d0.av with
      |aV i s p=>exact wG hall hd ha
      |_=>rw[ha] at hvs;cases hvs
     |_=>rw[ho] at hvs;cases hvs
  |true=>
   have hall:∀id,dB (view (a_ rs j st).mem r.D id)=dB ((bQ L rs (find st.mem)).on (dy r.D) id):=by
    intro id
    unfold view MF.on
    cases hid:dy r.D id with
    |false=>rfl
    |true=>simp only[aG];exact(h.uN hr hsh hL bO fm hid).1.symm
   unfold fE at hsh
   unfold j4 at hd ⊢
   split at hd
   ·rename_i ho;rw[ho] at hsh;cases hsh
   ·cases ho:r.o.op with
    |indexAddr T x i=>
     unfold dF at hd ⊢
     rw[ho] at hd ⊢
     simp only at hd ⊢
     split at hd
     ·rename_i k hk
      exact xM (fun id _=>hall id) hd
     ·cases hd
    |_=>rw[ho] at hsh;cases hsh
 have hclo':mQ (bQ L rs (find st.mem)) (dy r.D):=by
  intro id b t x hid hb hc
  cases hsh:fE r.o with
  |false=>
   cases hvs:fQ r with
   |false=>
    rw[h.r7 hr hL bO fm hid hsh hvs] at hb
    exact hclo id b t x hid hb hc
   |true=>
    rcases h.uO hr hvs hL bO fm hid with e|⟨e,_⟩
    ·rw[e] at hb
     exact hclo id b t x hid hb hc
    ·rw[hb] at e
     obtain⟨s,fz,c⟩:=b
     simp only at hc
     subst hc
     cases e
  |true=>
   obtain⟨k1,k2⟩:=h.uN hr hsh hL bO fm hid
   have hv:∃s fz a,find (a_ rs j st).mem id=some ⟨s,fz,.var t a⟩:=by
    rw[hb] at k1
    obtain⟨s,fz,c⟩:=b
    simp only at hc
    subst hc
    unfold dB at k1
    cases hm:find (a_ rs j st).mem id with
    |none=>rw[hm] at k1;cases k1
    |some b'=>
     rw[hm] at k1
     obtain⟨s',fz',c'⟩:=b'
     simp only[iZ,au,eE] at k1
     obtain⟨_,e2⟩:=k1
     cases c'<;>simp[BC.kind] at e2
     subst e2
     exact⟨_,_,_,rfl⟩
   obtain⟨s,fz,a,hv⟩:=hv
   rw[k2 s fz t a hv] at hb
   exact hclo id b t x hid hb hc
 have hwant:Region.wanted r.o (yielded ops.toArray a.tmps)=true↔fc a.tmps r.T:=by
  unfold guardOf at hg
  unfold Region.wanted
  cases hgd:r.o.guard with
  |none=>
   rw[hgd] at hg
   simp only[au] at hg
   rw[←hg]
   simp[fc]
  |some gw=>
   obtain⟨g,b⟩:=gw
   rw[hgd] at hg
   simp only[bE] at hg
   obtain⟨s,hs,hT⟩:=hg
   have rO:=uK hgd hs
   have hs':(ops.toArray[g]?).bind (·.dst)=some s:=by rw[jR] at hs;simpa using hs
   have hin:(s,b)∈r.T:=by
    rw[←hT];unfold lX;split<;>simp
   simp only[zl78]
   rw[zu hs']
   constructor
   ·intro hv t ht
    rw[←hT] at ht
    unfold lX at ht
    split at ht
    ·rename_i A e hf
     rcases aX.1 ht with e1|ht
     ·subst e1;exact hv
     ·have h1:=uj s rO _ hf
      by_cases hA:fc a.tmps A
      ·exact hA t ht
      ·have:=h1.2 hA
       rw[hv] at this
       exact absurd this.symm (vK _)
    ·rcases aX.1 ht with e1|ht
     ·subst e1;exact hv
     ·simp at ht
   ·intro hT';exact hT' _ hin
 unfold wpOp
 simp only[List.getElem?_toArray,hop]
 by_cases hw:fc a.tmps r.T
 ·rw[bf (hwant.2 hw)]
  refine .inl ?_
  have hdok:∀b∈r.d0.ok,b=true:=by
   intro b hb
   unfold okT at hok
   split at hok
   ·exact hok b hb
   ·rw[vA hw rS] at hok
    exact yB hok b hb
  have hgives:aA P F r.o a w (bQ L rs (find st.mem)) I ρ r.d0:=by
   refine doS_ok (p:=dy r.D) hC hF hi.mem hclo' hup0 (fun s hs=>uj s (x6 hs)) hw ?_ gH hdok
   intro x hx id hid
   rw[hD]
   exact xK (yc (x:=gL C (a_ rs j st).env r.T x) (by rw[jm];exact eV.2 ⟨x,mM.2 hx,rfl⟩) hid)
  refine hgives _ _ fun v w' I' ρ0 hdn0 hs0=>?_
  have hmrg:∃ρ',aC F (bQ L rs (find st.mem)) (MF.aj (bQ L rs (find st.mem)) r.d.aj) w w' I I' ρ ρ'∧az w' I' (MF.aj (bQ L rs (find st.mem)) r.d.aj) ρ' r.d.av v:=by
   rw[bC]
   rcases hmg with⟨e,_⟩|⟨_,hU⟩
   ·rw[e];exact⟨ρ0,hdn0,hs0⟩
   ·have ji:jw (a_ rs j st).env r.T=true:=vA hw rS
    rw[ji] at hU
    obtain⟨hid,hnd⟩:=oM hU
    obtain⟨ρ',j7⟩:=si hU hdn0.mem fun x hx=>⟨fun e=>(by cases e),fun _=>(by simp[MF.aj,rJ hnd hx])⟩
    have hup2:MF.aj (MF.aj (bQ L rs (find st.mem)) r.d0.aj) r.d.aj=MF.aj (bQ L rs (find st.mem)) r.d.aj:=by
     funext id
     simp only[MF.aj]
     cases hf:find r.d.aj id with
     |some b=>rfl
     |none=>
      have:find r.d0.aj id=none:=by
       cases hf0:find r.d0.aj id with
       |none=>rfl
       |some b0=>
        have h1:id∈r.d.aj.map (·.1):=by rw[hid];exact eV.2 ⟨_,fh hf0,rfl⟩
        obtain⟨y,hy,he⟩:=eV.1 h1
        have:=rJ (l:=r.d.aj) (by rw[hid];exact hnd) hy
        rw[he,hf] at this
        cases this
      simp[this]
    rw[hup2] at j7
    exact⟨ρ',hdn0.trans j7,hs0.mono j7.agree j7.keep⟩
  obtain⟨ρ',hdn,hs⟩:=hmrg
  refine hK _ _ ⟨I',ρ',?_⟩
  have hmm:=h.mems hr hL bO
  rw[←hmm] at hdn hs
  refine⟨hdn.mem,?_,by rw[vh];exact hi.size,by rw[put_defers];exact hi.defers,hi.kept.mono hdn.keep⟩
  refine h.slots hr hL bO (tmps:=a.tmps) (fun t ht=>qu _ _ _ _ ht) (fun s av bC=>(hi.env s av bC).mono hdn.agree hdn.keep) ?_
  intro s hs'
  have hput:(a.put r.o.dst v).tmps.getD s Go.undef=v:=by
   rw[hs'];exact vg _ _ _ (by rw[hi.size];exact h.tmps r s (List.mem_of_getElem? hr) hs')
  rw[hput]
  have htag:fc (a.put r.o.dst v).tmps r.T:=by
   intro t ht
   obtain⟨k,f,hkj,hk,hf,_⟩:=h.tags j hr t ht
   rw[qu]
   ·exact hw t ht
   ·intro e
    have:=h.p6 _ _ _ _ _ hk hr hf e
    omega
  unfold jB
  split
  ·split
   ·trivial
   ·rename_i hn
    exact rz hs hn
  ·exact⟨fun _=>hs,fun hn=>absurd htag hn⟩
 ·rw[bY (fun h=>hw (hwant.1 h))]
  have hTne:r.T ≠ []:=by intro e;rw[e] at hw;exact hw (by simp[fc])
  have hmrg:∃ρ',aC F (bQ L rs (find st.mem)) (MF.aj (bQ L rs (find st.mem)) r.d.aj) w w I I ρ ρ':=by
   rcases hmg with⟨e,hTu⟩|⟨hkn,hU⟩
   ·have hu:r.d.aj = []:=by rw[e];exact hTu.resolve_left hTne
    rw[hu,MF.zl]
    exact⟨ρ,aC.refl hi.mem⟩
   ·have ji:jw (a_ rs j st).env r.T=false:=by
     cases hb:jw (a_ rs j st).env r.T with
     |false=>rfl
     |true=>exact absurd (uz hkn rS hb) hw
    rw[ji] at hU
    exact si hU hi.mem fun x hx=>⟨fun _=>h.r7 hr hL bO fm (hup0 x hx) (by
     cases hs:fE r.o with
     |false=>rfl
     |true=>rw[(h.o6 hr hs).1] at hx;cases hx) (by
     cases hs:fQ r with
     |false=>rfl
     |true=>rw[(h.pE hr hs).1] at hx;cases hx),fun e=>(by cases e)⟩
  obtain⟨ρ',hdn⟩:=hmrg
  refine hK _ _ ⟨I,ρ',?_⟩
  have hmm:=h.mems hr hL bO
  rw[←hmm] at hdn
  refine⟨hdn.mem,?_,by rw[vh];exact hi.size,by rw[put_defers];exact hi.defers,hi.kept.mono hdn.keep⟩
  refine h.slots hr hL bO (tmps:=a.tmps) (fun t ht=>qu _ _ _ _ ht) (fun s av bC=>(hi.env s av bC).mono hdn.agree hdn.keep) ?_
  intro s hs'
  have hput:(a.put r.o.dst Go.undef).tmps.getD s Go.undef=Go.undef:=by
   rw[hs'];exact vg _ _ _ (by rw[hi.size];exact h.tmps r s (List.mem_of_getElem? hr) hs')
  rw[hput]
  have htag:¬fc (a.put r.o.dst Go.undef).tmps r.T:=by
   intro hh
   refine hw fun t ht=>?_
   obtain⟨k,f,hkj,hk,hf,_⟩:=h.tags j hr t ht
   have:=hh t ht
   rw[qu] at this
   ·exact this
   ·intro e
    have:=h.p6 _ _ _ _ _ hk hr hf e
    omega
  unfold jB
  split
  ·rename_i e;exact absurd e hTne
  ·exact⟨fun hh=>absurd hh htag,fun _=>rfl⟩
end
end Go.Ab
