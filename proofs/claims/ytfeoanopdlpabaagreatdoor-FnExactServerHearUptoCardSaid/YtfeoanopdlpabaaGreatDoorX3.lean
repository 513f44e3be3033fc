import Derived.Test.YtfeoanopdlpabaaGreatDoorX2
namespace Go.Ab
section
variable {P:Program} {F:Fix} {C:Cx} {o:Oper} {a:Act} {w:World} {m:MF} {I:Nat→Prop} {ρ:Pl} {d:aE}
def Fits (l:List (Nat×ag))(pl:Pl)(m':MF)(ρ':Pl):Prop:=∀j c,find l j=some c→m' j=some c∧ρ' j=pl j∧ρ'.d j=pl.d j
structure a_ (w:World) (I:Nat→Prop) (l:List (Nat×ag)) (Bs:List Nat) (pl:Pl):Prop where
 blk:∀i b,find l i=some b→b.fz=false∧b.live∧∀m' ρ',Fits l pl m' ρ'→aS w I m' ρ' i b
 src:∀i b B,find l i=some b→bE pl i b B→B∈Bs
 one:∀i j b c B,find l i=some b→find l j=some c→bE pl i b B→bE pl j c B→i=j
 dn:∀i b,find l i=some b→b.bq→(pl.d i).Nodup∧∀B∈pl.d i,∀o,pl i≠some (B,o)
theorem bE.plain {ρ:Pl}{i B:Nat}{b:ag}(h:bE ρ i b B)(hd:¬b.bq):∃o,ρ i=some (B,o):=h.resolve_right fun h=>hd h.1
theorem fB.new {l:List (Nat×ag)}{n e:Nat}{Bs:List Nat}{pl:Pl}(h:fB w I m l n e Bs pl):a_ w I l Bs pl:=by
 have hnd:∀i b,find l i=some b→¬b.bq:=by
  intro i b hb
  obtain⟨k1,⟨u,ys,k2⟩,k3,k4⟩:=h.blk i b hb
  unfold ag.bq;rw[k2];exact fun h=>h
 refine⟨fun i b hb=>?_,fun i b B hb hp=>?_,fun i j b c B hb hc hp hq=>?_,fun i b hb hd=>absurd hd (hnd i b hb)⟩
 ·obtain⟨k1,⟨u,ys,k2⟩,k3,k4⟩:=h.blk i b hb
  exact⟨k1,dP k2,fun m' ρ' hf=>k4 m' ρ' (hf i b hb).2.1⟩
 ·obtain⟨o,hp⟩:=hp.plain (hnd i b hb)
  obtain⟨r1,r2⟩:=h.fm i b hb
  exact h.src i B o r1 r2 hp
 ·obtain⟨o,hp⟩:=hp.plain (hnd i b hb)
  obtain⟨o',hq⟩:=hq.plain (hnd j c hc)
  obtain⟨r1,r2⟩:=h.fm i b hb
  obtain⟨r3,r4⟩:=h.fm j c hc
  exact h.one i j B o o' r1 r2 r3 r4 hp hq
theorem a_.nil (pl:Pl):a_ w I [] [] pl:=⟨fun i b h=>by simp[find] at h,fun i b B h=>by simp[find] at h,fun i j b c B h=>by simp[find] at h,fun i b h=>by simp[find] at h⟩
def bA (l:List (Nat×ag))(p q:Pl):Pl:=⟨fun i=>match find l i with | some _=>p i|none=>q i,fun i=>match find l i with | some _=>p.d i|none=>q.d i⟩
theorem Fits.left {l1 l2:List (Nat×ag)}{p q:Pl}{m':MF}{ρ':Pl}(h:Fits (app l1 l2) (bA l1 p q) m' ρ'):Fits l1 p m' ρ':=by
 intro j c hc
 have:=h j c (by rw[b9,hc])
 simpa[bA,hc] using this
theorem Fits.right {l1 l2:List (Nat×ag)}{p q:Pl}{m':MF}{ρ':Pl}(hd:∀i b c,find l1 i=some b→find l2 i=some c→False)(h:Fits (app l1 l2) (bA l1 p q) m' ρ'):Fits l2 q m' ρ':=by
 intro j c hc
 have hn:find l1 j=none:=by
  cases hf:find l1 j with
  |none=>rfl
  |some b=>exact(hd j b c hf hc).elim
 have:=h j c (by rw[b9,hn];exact hc)
 simpa[bA,hn] using this
theorem a_.app {l1 l2:List (Nat×ag)}{B1 B2:List Nat}{p q:Pl}(h1:a_ w I l1 B1 p)(h2:a_ w I l2 B2 q)(hnd:∀B∈B1,∀B'∈B2,B≠B')(hd:∀i b c,find l1 i=some b→find l2 i=some c→False) :
  a_ w I (app l1 l2) (B1++B2) (bA l1 p q):=by
 have hf:∀i b,find (Ab.app l1 l2) i=some b→(find l1 i=some b∧bA l1 p q i=p i∧(bA l1 p q).d i=p.d i)∨(find l2 i=some b∧bA l1 p q i=q i∧(bA l1 p q).d i=q.d i):=by
  intro i b h
  rw[b9] at h
  split at h
  ·rename_i b' hb';exact .inl ⟨by rw[hb',h],by simp[bA,hb'],by simp[bA,hb']⟩
  ·rename_i hb';exact .inr ⟨h,by simp[bA,hb'],by simp[bA,hb']⟩
 have tr:∀{ρ ρ':Pl} {i B:Nat} {b:ag},ρ i=ρ' i∧ρ.d i=ρ'.d i→bE ρ i b B→bE ρ' i b B:=by
  intro ρ ρ' i B b e h
  exact h.imp (fun⟨o,h⟩=>⟨o,e.1▸h⟩) (fun⟨h1,h2⟩=>⟨h1,e.2▸h2⟩)
 refine⟨fun i b h=>?_,fun i b B h hp=>?_,fun i j b c B hb hc hp hq=>?_,fun i b hb bL=>?_⟩
 ·rcases hf i b h with⟨h,_⟩|⟨h,_⟩
  ·obtain⟨k1,k2,k3⟩:=h1.blk i b h
   exact⟨k1,k2,fun m' ρ' hfi=>k3 m' ρ' hfi.left⟩
  ·obtain⟨k1,k2,k3⟩:=h2.blk i b h
   exact⟨k1,k2,fun m' ρ' hfi=>k3 m' ρ' (hfi.right hd)⟩
 ·rw[List.mem_append]
  rcases hf i b h with⟨h,e⟩|⟨h,e⟩
  ·exact .inl (h1.src i b B h (tr e hp))
  ·exact .inr (h2.src i b B h (tr e hp))
 ·rcases hf i b hb with⟨h,e⟩|⟨h,e⟩<;>rcases hf j c hc with⟨h',e'⟩|⟨h',e'⟩
  ·exact h1.one i j b c B h h' (tr e hp) (tr e' hq)
  ·exact(hnd B (h1.src i b B h (tr e hp)) B (h2.src j c B h' (tr e' hq)) rfl).elim
  ·exact(hnd B (h1.src j c B h' (tr e' hq)) B (h2.src i b B h (tr e hp)) rfl).elim
  ·exact h2.one i j b c B h h' (tr e hp) (tr e' hq)
 ·rcases hf i b hb with⟨h,e⟩|⟨h,e⟩
  ·rw[e.1,e.2];exact h1.dn i b h bL
  ·rw[e.1,e.2];exact h2.dn i b h bL
def oH (c:BC)(t:Ty)(xs:List t.den):Prop:=(c = .rows t xs∧t.aK=false)∨∃rs,c = .deep rs t xs
theorem sO (t:Ty)(xs:List t.den):oH (jG t xs) t xs:=by
 unfold jG
 cases h:t.aK with
 |true=>exact .inr ⟨0,rfl⟩
 |false=>exact .inl ⟨rfl,h⟩
def hdrPl:List Value→Option (Nat×Nat)
 | [.slice (some a) _ _]=>some (a.block,a.off)
 |_=>none
theorem a_.list {n st:Nat}{c:BC}{t:Ty}{xs:List t.den}{vs:List Value}{Bs:List Nat}(hc:oH c t xs)(h:aq w I (.lst t) xs vs Bs)(hnd:Bs.Nodup) :
  ∃pl:Pl,a_ w I [(n,⟨st,false,c⟩)] Bs pl∧pl n=hdrPl vs∧∀m' ρ',Fits [(n,⟨st,false,c⟩)] pl m' ρ'→af w I m' ρ' (.whole n st t) vs:=by
 have bU:c.arr=some (t,xs.length):=by rcases hc with⟨rfl,_⟩|⟨rs,rfl⟩<;>rfl
 have cL:(⟨st,false,c⟩:ag).live:=by rcases hc with⟨rfl,_⟩|⟨rs,rfl⟩<;>trivial
 have one:∀i b,find [(n,(⟨st,false,c⟩:ag))] i=some b→n=i∧(⟨st,false,c⟩:ag)=b:=by
  intro i b h
  rw[aG] at h
  split at h
  ·rename_i e;exact⟨e,by simpa using h⟩
  ·simp[find] at h
 have jz:find [(n,(⟨st,false,c⟩:ag))] n=some ⟨st,false,c⟩:=by rw[aG,if_pos rfl]
 simp only[aq] at h
 obtain⟨ad,cap,e,hl,h⟩:=h
 rcases h with⟨h1,h2,h3⟩|⟨B,o,cs,Ds,h1,h2,h3,h4,h5,h6⟩
 ·subst h3
  have hx0:xs = []:=by rw[←List.length_eq_zero_iff];omega
  refine⟨⟨fun _=>none,fun _=>[]⟩,⟨fun i b hb=>?_,fun i b B hb hO=>?_,fun i j b c B hb hc _ _=>(one i b hb).1.symm.trans (one j c hc).1,fun i b hb hd=>⟨by simp,by simp⟩⟩,by rw[e,h1];rfl,fun m' ρ' hf=>?_⟩
  ·obtain⟨rfl,rfl⟩:=one i b hb
   refine⟨rfl,cL,fun m' ρ' hf=>?_⟩
   obtain⟨_,k2,k3⟩:=hf n _ jz
   unfold aS
   rcases hc with⟨rfl,_⟩|⟨rs,rfl⟩
   ·exact⟨trivial,.inl ⟨hx0,k2⟩⟩
   ·exact⟨rfl,.inl ⟨hx0,k2,k3⟩⟩
  ·rcases hO with⟨o,hO⟩|⟨_,hO⟩
   ·cases hO
   ·simp at hO
  ·obtain⟨k1,k2,k3⟩:=hf n _ jz
   simp only[af]
   refine⟨⟨_,e,rfl⟩,bR.of k1 rfl,fun b hb hs u k hc=>?_⟩
   rw[k1] at hb
   cases hb
   rw[bU] at hc
   cases hc
   exact⟨ad,cap,e,hl,.inl ⟨h1,h2,k2⟩⟩
 ·subst h6
  have hnc:=List.nodup_cons.1 hnd
  have hmul:=Nat.mul_le_mul_right t.size hl
  refine⟨⟨fun _=>some (B,o),fun _=>Ds⟩,⟨fun i b hb=>?_,fun i b B' hb hO=>?_,fun i j b c B hb hc _ _=>(one i b hb).1.symm.trans (one j c hc).1,fun i b hb hd=>⟨hnc.2,fun B' aY o' he=>?_⟩⟩,by rw[e,h1];rfl,fun m' ρ' hf=>?_⟩
  ·obtain⟨rfl,rfl⟩:=one i b hb
   refine⟨rfl,cL,fun m' ρ' hf=>?_⟩
   obtain⟨_,k2,k3⟩:=hf n _ jz
   unfold aS
   rcases hc with⟨rfl,hh⟩|⟨rs,rfl⟩
   ·exact⟨trivial,.inr ⟨B,o,cs,k2,h2,by omega,h4.at fun x vs D _ h=>(aq.rep hh h).1,by simpa using h5⟩⟩
   ·exact⟨rfl,.inr ⟨B,o,cs,k2,h2,by omega,by rw[k3];exact h4,h5⟩⟩
  ·rcases hO with⟨o',hO⟩|⟨_,hO⟩
   ·cases hO;exact List.mem_cons_self
   ·exact List.mem_cons_of_mem _ hO
  ·cases he
   exact hnc.1 aY
  ·obtain⟨k1,k2,k3⟩:=hf n _ jz
   simp only[af]
   refine⟨⟨_,e,rfl⟩,bR.of k1 rfl,fun b hb hs u k hc=>?_⟩
   rw[k1] at hb
   cases hb
   rw[bU] at hc
   cases hc
   exact⟨ad,cap,e,hl,.inr ⟨B,o,cs,k2,h1,h2,h3⟩⟩
theorem lX (m:MF):∀(t:Ty) (x:t.den) (n:Nat),n≤(aP m t x n).2.2:=by
 intro t
 induction t with
 |lst t _=>intro x n;simp[aP]
 |pair a b aI aH=>
  intro x n
  cases ho:(Ty.pair a b).aK with
  |false=>simp[aP,ho]
  |true=>
   simp only[aP,ho,cond_true]
   have:=aI x.1 n
   have:=aH x.2 (aP m a x.1 n).2.2
   omega
 |_=>intro x n;simp[aP]
theorem vz (m:MF):∀{t:Ty} {x:t.den} {vs:List Value} {Bs:List Nat} (n:Nat),aq w I t x vs Bs→Bs.Nodup →
  ∃pl:Pl,a_ w I (aP m t x n).2.1 Bs pl∧(∀i b,find (aP m t x n).2.1 i=some b→n≤i∧i<(aP m t x n).2.2∧b.st=aU m i) ∧
   ∀m' ρ',Fits (aP m t x n).2.1 pl m' ρ'→af w I m' ρ' (aP m t x n).1 vs:=by
 intro t
 have j7:∀{vs:List Value} {Bs:List Nat} {n:Nat} {av:AT},Bs = []→(∀m' ρ',af w I m' ρ' av vs)→∃pl:Pl,a_ w I [] Bs pl∧(∀i b,find ([]:Mem) i=some b→n≤i∧i<n∧b.st=aU m i)∧∀m' ρ',Fits [] pl m' ρ'→af w I m' ρ' av vs:=by
  intro vs Bs n av e h
  subst e
  exact⟨⟨fun _=>none,fun _=>[]⟩,a_.nil _,fun i b h=>by simp[find] at h,fun m' ρ' _=>h m' ρ'⟩
 induction t with
 |lst t _=>
  intro x vs Bs n h hnd
  obtain⟨pl,h1,_,h2⟩:=a_.list (n:=n) (st:=aU m n) (sO t x) h hnd
  refine⟨pl,h1,fun i b hb=>?_,h2⟩
  simp only[aP,aG] at hb
  split at hb
  ·rename_i e
   subst e
   cases hb
   exact⟨Nat.le_refl _,by simp[aP],rfl⟩
  ·simp[find] at hb
 |pair a b aI aH=>
  intro x vs Bs n h hnd
  cases ho:(Ty.pair a b).aK with
  |false=>
   obtain⟨h1,h2⟩:=aq.rep ho h
   simp only[aP,ho,cond_false]
   exact j7 h2 fun _ _=>h1
  |true=>
   simp only[aq] at h
   obtain⟨v1,v2,B1,B2,e,eb,h1,h2⟩:=h
   subst eb
   simp only[aP,ho,cond_true]
   have cF:=List.nodup_append.1 hnd
   obtain⟨p1,k1,k2,k3⟩:=aI n h1 cF.1
   obtain⟨p2,q1,q2,q3⟩:=aH (aP m a x.1 n).2.2 h2 cF.2.1
   have hle:=lX m a x.1 n
   have nN:=lX m b x.2 (aP m a x.1 n).2.2
   have fG:∀i b' c,find (aP m a x.1 n).2.1 i=some b'→find (aP m b x.2 (aP m a x.1 n).2.2).2.1 i=some c→False:=by
    intro i b' c hb hc
    have:=(k2 i b' hb).2.1
    have:=(q2 i c hc).1
    omega
   refine⟨bA (aP m a x.1 n).2.1 p1 p2,a_.app k1 q1 cF.2.2 fG,fun i b' hb=>?_,fun m' ρ' hf=>?_⟩
   ·rw[b9] at hb
    split at hb
    ·rename_i c hc
     cases hb
     obtain⟨r1,r2,r3⟩:=k2 i _ hc
     exact⟨r1,by omega,r3⟩
    ·obtain⟨r1,r2,r3⟩:=q2 i b' hb
     exact⟨by omega,r2,r3⟩
   ·simp only[af]
    exact⟨v1,v2,e,k3 m' ρ' hf.left,q3 m' ρ' (hf.right fG)⟩
 |own t _=>intro x vs Bs n h;simp only[aq] at h
 |ref t _=>intro x vs Bs n h;simp only[aq] at h
 |arr k t _=>intro x vs Bs n h hnd;simp only[aq] at h;simp only[aP];exact j7 h.1 fun _ _=>h.2.2
 |_=>intro x vs Bs n h hnd;simp only[aq] at h;simp only[aP];exact j7 h.1 fun _ _=>h.2
theorem pQ (m:MF):∀(t:Ty) (x:t.den) (n:Nat),Typed (aP m t x n).1 t:=by
 intro t
 induction t with
 |lst t _=>intro x n;rfl
 |pair a b aI aH=>
  intro x n
  cases ho:(Ty.pair a b).aK with
  |false=>simp only[aP,ho,cond_false];rfl
  |true=>
   simp only[aP,ho,cond_true]
   exact⟨_,_,rfl,aI x.1 n,aH x.2 _⟩
 |_=>intro x n;rfl
theorem a_.var {l:List (Nat×ag)}{n st B:Nat}{B1:List Nat}{pl:Pl}{t:Ty}{av:AT}{cs:List Value}(h:a_ w I l B1 pl)(hc:Cells w B cs)(hI:¬I B)(hB:¬B∈B1)(hn:find l n=none)(ht:Typed av t)
  (hr:∀m' ρ',Fits l pl m' ρ'→af w I m' ρ' av cs):a_ w I ((n,⟨st,false,.var t av⟩)::l) (B::B1) (pl.put n (some (B,0))):=by
 have hfit:∀m' ρ',Fits ((n,⟨st,false,.var t av⟩)::l) (pl.put n (some (B,0))) m' ρ'→Fits l pl m' ρ'∧ρ' n=some (B,0):=by
  intro m' ρ' hf
  refine⟨fun j c hc=>?_,?_⟩
  ·have hne:¬n=j:=by rintro rfl;rw[hn] at hc;cases hc
   have:=hf j c (by rw[aG,if_neg hne];exact hc)
   simpa[Pl.put,hne] using this
  ·have:=(hf n _ (by rw[aG,if_pos rfl])).2.1
   simpa[Pl.put] using this
 have hput:∀i b B',¬n=i→bE (pl.put n (some (B,0))) i b B'→bE pl i b B':=by
  intro i b B' hne h
  exact h.imp (fun⟨o,h⟩=>⟨o,by simpa[Pl.put,hne] using h⟩) (fun⟨h1,h2⟩=>⟨h1,by simpa[Pl.put,hne] using h2⟩)
 have jz:∀B',bE (pl.put n (some (B,0))) n ⟨st,false,.var t av⟩ B'→B'=B:=by
  intro B' h
  obtain⟨o,h⟩:=h.plain (by simp[ag.bq])
  simp only[Pl.put,if_true,Option.some.injEq,Prod.mk.injEq] at h
  exact h.1.symm
 refine⟨fun i b hb=>?_,fun i b B' hb hp=>?_,fun i j b c B' hb hc hp hq=>?_,fun i b hb bL=>?_⟩
 ·rw[aG] at hb
  split at hb
  ·rename_i e
   subst e
   cases hb
   refine⟨rfl,iL rfl,fun m' ρ' hf=>?_⟩
   obtain⟨k1,k2⟩:=hfit m' ρ' hf
   simp only[aS]
   exact⟨ht,B,cs,k2,hc,hr m' ρ' k1,by simpa using hI⟩
  ·obtain⟨k1,k2,k3⟩:=h.blk i b hb
   exact⟨k1,k2,fun m' ρ' hf=>k3 m' ρ' (hfit m' ρ' hf).1⟩
 ·rw[aG] at hb
  split at hb
  ·rename_i e
   subst e
   cases hb
   simp[jz B' hp]
  ·rename_i hne
   exact List.mem_cons_of_mem _ (h.src i b B' hb (hput i b B' hne hp))
 ·rw[aG] at hb hc
  split at hb<;>split at hc
  ·omega
  ·rename_i e hne
   subst e
   cases hb
   rw[jz B' hp] at hq
   exact absurd (h.src j c B hc (hput j c B hne hq)) hB
  ·rename_i hne e
   subst e
   cases hc
   rw[jz B' hq] at hp
   exact absurd (h.src i b B hb (hput i b B hne hp)) hB
  ·rename_i hne hne'
   exact h.one i j b c B' hb hc (hput i b B' hne hp) (hput j c B' hne' hq)
 ·rw[aG] at hb
  split at hb
  ·cases hb;simp[ag.bq] at bL
  ·rename_i hne
   have:=h.dn i b hb bL
   simpa[Pl.put,hne] using this
theorem Ty.imm_id:∀{t:Ty},t.di=false→t.aV=t:=by
 intro t
 induction t with
 |pair a b aI aH=>
  intro h
  simp only[Ty.di,Bool.or_eq_false_iff] at h
  simp[Ty.aV,aI h.1,aH h.2]
 |own t _=>intro h;simp[Ty.di] at h
 |_=>intro _;rfl
theorem lZ (m:MF):∀(t:Ty) (x:t.den) (n:Nat),Typed (aW m t x n).1 t.aV:=by
 intro t
 induction t with
 |own t _=>intro x n;rfl
 |pair a b aI aH=>
  intro x n
  cases ho:(Ty.pair a b).di with
  |false=>
   simp only[aW,ho,cond_false]
   rw[Ty.imm_id ho]
   rfl
  |true=>
   simp only[aW,ho,cond_true]
   exact⟨_,_,rfl,aI x.1 n,aH x.2 _⟩
 |_=>intro x n;rfl
theorem vq:∀(t:Ty),t.aV.size=t.size:=by
 intro t
 induction t with
 |pair a b aI aH=>simp[Ty.aV,Ty.size,aI,aH]
 |_=>rfl
theorem vp:∀(t:Ty),t.aV.isAgg=t.isAgg:=by
 intro t
 cases t<;>rfl
theorem oC {x:AT}{t:Ty}(h:Typed x t):x.slot=true:=by
 cases x<;>simp only[Typed] at h<;>first|rfl|exact h.elim
theorem rZ (m:MF):∀(t:Ty) (x:t.den) (n:Nat),n≤(aW m t x n).2.2:=by
 intro t
 induction t with
 |own t _=>intro x n;simp[aW]
 |pair a b aI aH=>
  intro x n
  cases ho:(Ty.pair a b).di with
  |false=>simp[aW,ho]
  |true=>
   simp only[aW,ho,cond_true]
   have:=aI x.1 n
   have:=aH x.2 (aW m a x.1 n).2.2
   omega
 |_=>intro x n;simp[aW]
theorem qB {m':MF}{ρ':Pl}{av:AT}{t:Ty}{cs:List Value}{v:Value}(hty:Typed av t)(cE:af w I m' ρ' av cs)(e:v=aL t cs):aB w I m' ρ' av v:=by
 unfold aB
 rw[hty.isAgg]
 unfold aL at e
 cases ha:t.isAgg with
 |true=>rw[if_pos rfl];rw[ha,if_pos rfl] at e;exact⟨_,e,by simpa using cE⟩
 |false=>
  simp only[ha,Bool.false_eq_true,if_false] at e ⊢
  have hl:=hty.length cE
  have hone:t.size=1:=by cases t<;>simp[Ty.isAgg] at ha<;>rfl
  obtain⟨u,rfl⟩:∃u,cs = [u]:=by
   match cs,hl with
   | [u],_=>exact⟨u,rfl⟩
   | [],hl=>simp[hone] at hl
   |_::_::_,hl=>simp[hone] at hl
  simp only[List.headD_cons] at e
  rw[e]
  exact cE
theorem qb (m:MF):∀{outs:List RV} {vs:List Value} {Bs:List Nat} (n:Nat),fC w I outs vs Bs→Bs.Nodup →
  ∃pl:Pl,a_ w I (bW m outs n).2 Bs pl∧(∀i b,find (bW m outs n).2 i=some b→n≤i∧b.st=aU m i) ∧
   ∀m' ρ',Fits (bW m outs n).2 pl m' ρ'→cB (fun x v=>x.slot=true∧au w I m' ρ' x v) (bW m outs n).1 vs:=by
 intro outs
 induction outs with
 |nil=>
  intro vs Bs n h hnd
  cases vs with
  |nil=>simp only[fC] at h;subst h;exact⟨⟨fun _=>none,fun _=>[]⟩,a_.nil _,fun i b h=>by simp[bW,find] at h,fun m' ρ' _=>.nil⟩
  |cons v vs=>simp[fC] at h
 |cons r outs ih=>
  intro vs Bs n h hnd
  cases vs with
  |nil=>simp[fC] at h
  |cons v vs=>
  obtain⟨B1,B2,rfl,h1,h2⟩:=h
  have cF:=List.nodup_append.1 hnd
  cases r with
  |v d=>
   obtain⟨cs,e,hr⟩:=h1
   obtain⟨p1,k1,k2⟩:=lY m n hr cF.1
   obtain⟨p2,k3,k4,k5⟩:=ih (aW m d.t d.x n).2.2 h2 cF.2.1
   have hle:=rZ m d.t d.x n
   have fG:∀i b c,find (aW m d.t d.x n).2.1 i=some b→find (bW m outs (aW m d.t d.x n).2.2).2 i=some c→False:=by
    intro i b c hb hc
    have:=(k1.fm i b hb).2
    have:=(k4 i c hc).1
    omega
   refine⟨bA (aW m d.t d.x n).2.1 p1 p2,a_.app k1.new k3 cF.2.2 fG,fun i b hb=>?_,fun m' ρ' hf=>?_⟩
   ·simp only[bW,b9] at hb
    split at hb
    ·rename_i b' hb'
     cases hb
     exact⟨(k1.fm i b hb').1,(k1.blk i b hb').2.2.1⟩
    ·have:=k4 i b hb
     exact⟨by omega,this.2⟩
   ·simp only[bW]
    have hty:=lZ m d.t d.x n
    have cE:=k2 m' ρ' fun i b h=>⟨(hf.left i b h).1,(hf.left i b h).2.1⟩
    refine .cons ⟨oC hty,(jM (oC hty)).2 ?_⟩ (k5 m' ρ' (hf.right fG))
    exact qB hty cE (by rw[e];unfold aL;rw[vp])
  |d y=>
   obtain⟨cs,e,hr⟩:=h1
   obtain⟨p1,k1,k2,k6⟩:=vz m n hr cF.1
   obtain⟨p2,k3,k4,k5⟩:=ih (aP m y.t y.x n).2.2 h2 cF.2.1
   have hle:=lX m y.t y.x n
   have fG:∀i b c,find (aP m y.t y.x n).2.1 i=some b→find (bW m outs (aP m y.t y.x n).2.2).2 i=some c→False:=by
    intro i b c hb hc
    have:=(k2 i b hb).2.1
    have:=(k4 i c hc).1
    omega
   refine⟨bA (aP m y.t y.x n).2.1 p1 p2,a_.app k1 k3 cF.2.2 fG,fun i b hb=>?_,fun m' ρ' hf=>?_⟩
   ·simp only[bW,b9] at hb
    split at hb
    ·rename_i b' hb'
     cases hb
     obtain⟨r1,_,r3⟩:=k2 i b hb'
     exact⟨r1,r3⟩
    ·have:=k4 i b hb
     exact⟨by omega,this.2⟩
   ·simp only[bW]
    have hty:=pQ m y.t y.x n
    have cE:=k6 m' ρ' hf.left
    refine .cons ⟨oC hty,(jM (oC hty)).2 ?_⟩ (k5 m' ρ' (hf.right fG))
    exact qB hty cE e
  |p d=>
   obtain⟨B,cs,B0,e,hc,hI,hr,rfl⟩:=h1
   have hnc:=List.nodup_cons.1 cF.1
   obtain⟨p1,k1,k2⟩:=lY m (n+1) hr hnc.2
   obtain⟨p2,k3,k4,k5⟩:=ih (aW m d.t d.x (n+1)).2.2 h2 cF.2.1
   have hle:=rZ m d.t d.x (n+1)
   have hn:find (aW m d.t d.x (n+1)).2.1 n=none:=by
    cases hf:find (aW m d.t d.x (n+1)).2.1 n with
    |none=>rfl
    |some b=>have:=(k1.fm n b hf).1;omega
   have hty:=lZ m d.t d.x (n+1)
   have hv:=a_.var (st:=aU m n) k1.new hc hI hnc.1 hn hty fun m' ρ' hf=>k2 m' ρ' fun i b h=>⟨(hf i b h).1,(hf i b h).2.1⟩
   have fG:∀i b c,find ((n,⟨aU m n,false,.var d.t.aV (aW m d.t d.x (n+1)).1⟩)::(aW m d.t d.x (n+1)).2.1) i=some b→find (bW m outs (aW m d.t d.x (n+1)).2.2).2 i=some c→False:=by
    intro i b c hb hc
    have:=(k4 i c hc).1
    rw[aG] at hb
    split at hb
    ·omega
    ·have:=(k1.fm i b hb).2
     omega
   refine⟨_,a_.app hv k3 cF.2.2 fG,fun i b hb=>?_,fun m' ρ' hf=>?_⟩
   ·simp only[bW,aG,b9] at hb
    split at hb
    ·rename_i e
     subst e
     cases hb
     exact⟨Nat.le_refl _,rfl⟩
    ·split at hb
     ·rename_i b' hb'
      cases hb
      have:=(k1.fm i b hb').1
      exact⟨by omega,(k1.blk i b hb').2.2.1⟩
     ·have:=k4 i b hb
      exact⟨by omega,this.2⟩
   ·simp only[bW]
    refine .cons ⟨rfl,?_⟩ (k5 m' ρ' (hf.right fG))
    obtain⟨q1,q2,_⟩:=Fits.left (l1:=(n,⟨aU m n,false,.var d.t.aV (aW m d.t d.x (n+1)).1⟩)::(aW m d.t d.x (n+1)).2.1) (l2:=(bW m outs (aW m d.t d.x (n+1)).2.2).2) hf n _ (by rw[aG,if_pos rfl])
    show aB _ _ _ _ _ _
    unfold aB
    simp only[AT.isAgg,Bool.false_eq_true,if_false,af]
    refine⟨by rw[e];exact eV.pointer _,bR.of q1 rfl,fun b hb hs t' a' aJ=>?_⟩
    rw[q1] at hb
    cases hb
    cases aJ
    exact⟨trivial,B,by rw[q2];simp[Pl.put],by simp[e,Ty.off]⟩
end
end Go.Ab
namespace Go.Ab
section
variable {P:Program} {F:Fix} {C:Cx} {o:Oper} {a:Act} {w w':World} {m:MF} {I I':Nat→Prop} {ρ:Pl} {d:aE}
theorem iP {l:List (Nat×ag)}{p q:Pl}{i:Nat}{b:ag}(h:find l i=some b):bA l p q i=p i∧(bA l p q).d i=p.d i:=by simp[bA,h]
theorem iO {l:List (Nat×ag)}{p q:Pl}{i:Nat}(h:find l i=none):bA l p q i=q i∧(bA l p q).d i=q.d i:=by simp[bA,h]
theorem jw {i:Nat}{l:List Nat}:bF (Nat.beq i) l=true↔i∈l:=by
 induction l with
 |nil=>simp[bF]
 |cons x l ih=>
  simp only[bF,Bool.or_eq_true,ih,List.mem_cons]
  constructor
  ·rintro(h|h)
   ·exact .inl (Nat.eq_of_beq_eq_true h)
   ·exact .inr h
  ·rintro(h|h)
   ·subst h;exact .inl (Nat.beq_refl i)
   ·exact .inr h
theorem jI {l:List Nat}:nodup l=true↔l.Nodup:=by
 induction l with
 |nil=>simp[nodup]
 |cons x l ih=>
  simp only[nodup,Bool.and_eq_true,ih,List.nodup_cons,Bool.not_eq_true']
  rw[←jw (i:=x) (l:=l)]
  simp
theorem nF {l:List (Nat×ag)}{i:Nat}{b:ag}(h:find l i=some b):i∈l.map (·.1):=List.mem_map.2 ⟨(i,b),d_ h,rfl⟩
theorem nR {l1 l2:List (Nat×ag)}(h:((app l1 l2).map (·.1)).Nodup):(l1.map (·.1)).Nodup∧(l2.map (·.1)).Nodup∧∀i b c,find l1 i=some b→find l2 i=some c→False:=by
 rw[bK,List.map_append,List.nodup_append] at h
 exact⟨h.1,h.2.1,fun i b c hb hc=>h.2.2 i (nF hb) i (nF hc) rfl⟩
def fQ (m:MF)(ρ:Pl)(w w':World)(pl:Pl)(i:Nat)(b:ag):Prop:=
 ∃b0,m i=some b0∧b0.live∧b0.st=b.st∧bt b0.c b.c∧pl i=ρ i∧(∀B o cs,ρ i=some (B,o)→Cells w B cs→∃cs',Cells w' B cs'∧cs.length≤cs'.length) ∧
  ∀rs t u xs ys,b0.c = .deep rs t xs→b.c = .deep rs u ys→∀B o,ρ i=some (B,o)→w'.heap[B]?=w.heap[B]?
theorem fQ.to {pl dz:Pl}{i:Nat}{b:ag}(h:fQ m ρ w w' pl i b)(e:dz i=pl i):fQ m ρ w w' dz i b:=by
 obtain⟨b0,h1,h2,h3,h4,h5,h6⟩:=h
 exact⟨b0,h1,h2,h3,h4,e.trans h5,h6⟩
theorem a_.single {n:Nat}{b:ag}{Bs:List Nat}{p:Option (Nat×Nat)}(h1:b.fz=false)(h2:b.live)(h3:∀m' ρ',ρ' n=p→aS w I m' ρ' n b)(h4:∀B o,p=some (B,o)→B∈Bs)(hnd:¬b.bq:=by simp[ag.bq]):a_ w I [(n,b)] Bs ⟨fun _=>p,fun _=>[]⟩:=by
 have hf:∀i c,find [(n,b)] i=some c→n=i∧b=c:=by
  intro i c h
  rw[aG] at h
  split at h
  ·rename_i e;exact⟨e,by simpa using h⟩
  ·simp[find] at h
 refine⟨fun i c h=>?_,fun i c B h hp=>?_,fun i j c c' B h h' _ _=>(hf i c h).1.symm.trans (hf j c' h').1,fun i c h hd=>?_⟩
 ·obtain⟨rfl,rfl⟩:=hf i c h
  exact⟨h1,h2,fun m' ρ' hfi=>h3 m' ρ' (hfi n b h).2.1⟩
 ·obtain⟨rfl,rfl⟩:=hf i c h
  obtain⟨o,hp⟩:=hp.plain hnd
  exact h4 B o hp
 ·obtain⟨rfl,rfl⟩:=hf i c h
  exact absurd hd hnd
def de:Mode→AT→List Nat
 |.p,.aZ id _ _=>[id]
 |.m,.whole id _ _=>[id]
 |.d,a=>a.ids
 |_,_=>[]
def fK (m:MF):Mode→AT→List Nat
 |.p,.aZ id _ _=>qC m id
 |.k,a=>a.ids
 |_,_=>[]
def pT (m:MF):Mode→AT→List Nat
 |.v,a=>cT m a.ids
 |.f,a=>cT m a.ids
 |_,_=>[]
def Mode.jP:Mode→Bool
 |.p | .m | .d=>true
 |_=>false
def Arg.jP:Arg→Bool
 |.p _ | .m _ _ | .d _=>true
 |_=>false
def iS (m:MF):Mode→AT→DV→Option (List (Nat×ag))
 |.p,.aZ id st [],y=>match cur m id st with
  |some ⟨_,_,.var t _⟩=>bif t.is y.t.aV then
   let n:=aW m y.t y.x ((id+1)*1000)
   some ((id,⟨st,false,.var t n.1⟩)::n.2.1)
   else none
  |_=>none
 |.m,.whole id st t,y=>match y.as (.own t) with
  |some ys=>some [(id,⟨st,false,.rows t ys⟩)]
  |none=>none
 |.m,.nil _,_=>some []
 |.d,a,y=>iR m a y
 |_,_,_=>none
def qG (w w':World)(I:Nat→Prop):Arg→Value→DV→List Nat→Prop
 |.p y,v,u,Bs=>∃B cs B1,v = .pointer (some ⟨B,0,none⟩)∧Cells w' B cs∧¬I B∧u.t=y.t∧bX w' I u.t u.x cs B1∧Bs=B::B1
 |.m t xs,v,u,Bs=>∃ys,u=⟨.own t,ys⟩∧ys.length=xs.length∧bX w' I (.own t) ys [v] Bs∧∀B∈Bs,∀cs,Cells w B cs→∃cs',Cells w' B cs'∧cs.length≤cs'.length
 |.d y,v,u,Bs=>∃cs,v=aL y.t cs∧u.t=y.t∧aq w' I u.t u.x cs Bs∧Grown w w' cs
 |_,_,_,_=>False
theorem r8 (mo:Mode)(os:List Mode)(x:AT)(as:List AT):dm (mo::os) (x::as)=de mo x++dm os as:=by
 cases mo<;>cases x<;>simp[dm,de,bK]
theorem r9 (mo:Mode)(os:List Mode)(x:AT)(as:List AT):eD m (mo::os) (x::as)=fK m mo x++eD m os as:=by
 cases mo<;>cases x<;>simp[eD,fK,bK]
theorem vI (mo:Mode)(os:List Mode)(x:AT)(as:List AT):eO m (mo::os) (x::as)=pT m mo x++eO m os as:=by
 cases mo<;>simp[eO,pT,bK]
theorem xB {mo:Mode}{os:List Mode}{x:AT}{as:List AT}{ds:List DV}{u:List (Nat×ag)}(h:cU m (mo::os) (x::as) ds=some u) :
  (mo.jP=false∧cU m os as ds=some u)∨(mo.jP=true∧∃y ds' u1 u2,ds=y::ds'∧iS m mo x y=some u1∧cU m os as ds'=some u2∧u=app u1 u2):=by
 cases mo with
 |v=>exact .inl ⟨rfl,by simpa[cU] using h⟩
 |k=>exact .inl ⟨rfl,by simpa[cU] using h⟩
 |f=>exact .inl ⟨rfl,by simpa[cU] using h⟩
 |d=>
  cases ds with
  |nil=>simp[cU] at h
  |cons y ds=>
   simp only[cU] at h
   split at h
   ·rename_i u1 u2 h1 h2
    cases h
    exact .inr ⟨rfl,y,ds,u1,u2,rfl,h1,h2,rfl⟩
   ·cases h
 |m=>
  cases ds with
  |nil=>cases x<;>simp[cU] at h
  |cons y ds=>
   cases x<;>simp only[cU,reduceCtorEq] at h
   case nil t=>exact .inr ⟨rfl,y,ds,[],u,rfl,rfl,h,rfl⟩
   case whole id st t=>
    split at h
    ·rename_i ys u' h1 h2
     cases h
     exact .inr ⟨rfl,y,ds,[(id,⟨st,false,.rows t ys⟩)],u',rfl,by simp[iS,h1],h2,rfl⟩
    ·cases h
 |p=>
  cases ds with
  |nil=>cases x<;>simp[cU] at h
  |cons y ds=>
   cases x<;>try (simp only[cU,reduceCtorEq] at h;done)
   rename_i id st p
   cases p with
   |cons s p=>simp[cU] at h
   |nil=>
    simp only[cU] at h
    split at h
    ·rename_i st' fz t a u' h1 h2
     obtain⟨h3,h⟩:=aQ h
     cases h
     exact .inr ⟨rfl,y,ds,(id,⟨st,false,.var t (aW m y.t y.x ((id+1)*1000)).1⟩)::(aW m y.t y.x ((id+1)*1000)).2.1,u',rfl,by simp only[iS,h1,h3,cond_true],h2,rfl⟩
    ·cases h
theorem t_ {y:Arg}{l:List Arg}{v:Value}{vs:List Value}{us:List DV}{Bs:List Nat}(h:bS w w' I' (y::l) (v::vs) us Bs) :
  (y.jP=false∧bS w w' I' l vs us Bs)∨(y.jP=true∧∃u us' B1 B2,us=u::us'∧Bs=B1++B2∧qG w w' I' y v u B1∧bS w w' I' l vs us' B2):=by
 cases y with
 |v y=>exact .inl ⟨rfl,by simpa only[bS] using h⟩
 |f g y=>exact .inl ⟨rfl,by simpa only[bS] using h⟩
 |d y=>
  cases us with
  |nil=>simp only[bS] at h
  |cons u us=>
   simp only[bS] at h
   obtain⟨cs,B1,B2,h1,h2,h3,h4,h5,h6⟩:=h
   exact .inr ⟨rfl,u,us,B1,B2,rfl,h4,⟨cs,h1,h2,h3,h5⟩,h6⟩
 |p y=>
  cases us with
  |nil=>simp only[bS] at h
  |cons u us=>
   simp only[bS] at h
   obtain⟨B,cs,B1,B2,h1,h2,h3,h4,h5,h6,h7⟩:=h
   exact .inr ⟨rfl,u,us,B::B1,B2,rfl,by simpa using h6,⟨B,cs,B1,h1,h2,h3,h4,h5,rfl⟩,h7⟩
 |m t xs=>
  cases us with
  |nil=>simp only[bS] at h
  |cons u us=>
   simp only[bS] at h
   obtain⟨ys,B1,B2,h1,h2,h3,h4,h5,h6⟩:=h
   exact .inr ⟨rfl,u,us,B1,B2,rfl,h4,⟨ys,h1,h2,h3,h5⟩,h6⟩
theorem vW {mo:Mode}{x:AT}{y:Arg}(h:mkArg m mo x=some y):y.jP=mo.jP:=by
 cases mo with
 |v=>simp only[mkArg,Option.map_eq_some_iff] at h;obtain⟨_,_,rfl⟩:=h;rfl
 |d=>simp only[mkArg,Option.map_eq_some_iff] at h;obtain⟨_,_,rfl⟩:=h;rfl
 |k=>simp only[mkArg,Option.map_eq_some_iff] at h;obtain⟨_,_,rfl⟩:=h;rfl
 |f=>cases x<;>simp only[mkArg,reduceCtorEq,Option.map_eq_some_iff] at h;obtain⟨_,_,rfl⟩:=h;rfl
 |m=>cases x<;>simp only[mkArg,reduceCtorEq] at h
     ·split at h
      ·cases h;rfl
      ·cases h
     ·cases h;rfl
 |p=>cases x<;>simp only[mkArg,reduceCtorEq] at h
     rename_i id st p
     cases p with
     |cons s p=>simp[] at h
     |nil=>
      simp only[] at h
      split at h
      ·simp only[Option.map_eq_some_iff] at h;obtain⟨_,_,rfl⟩:=h;rfl
      ·cases h
def oF (m:MF)(ρ:Pl)(w:World)(I:Nat→Prop)(upf:DV→Option (List (Nat×ag)))(updf:World→(Nat→Prop)→DV→List Nat→Prop)(Ks ids:List Nat):Prop:=
 ∀(w':World) (bM:Nat→Prop) (y:DV) (u:List (Nat×ag)) (Z:List Nat),bD I bM w w'→upf y=some u→updf w' bM y Z→(Z++Ks).Nodup→(u.map (·.1)).Nodup→(∀B∈Z++Ks,¬bM B)→(∀B∈Ks,w'.heap[B]?=w.heap[B]?) →
  ∃pl Ws,a_ w' bM u Ws pl∧(∀B∈Ws,B∈Z++Ks)∧(∀i b,find u i=some b→b.st=aU m i∨(i∈ids∧fQ m ρ w w' pl i b))∧(∀i∈ids,∃b,find u i=some b∧fQ m ρ w w' pl i b)
end
end Go.Ab
namespace Go.Ab
section
variable {P:Program} {F:Fix} {C:Cx} {o:Oper} {a:Act} {w w':World} {m:MF} {I I':Nat→Prop} {ρ:Pl} {d:aE}
theorem Grown.left {w w':World}{a b:List Value}(h:Grown w w' (a++b)):Grown w w' a:=fun B o n cap hm=>h B o n cap (List.mem_append_left _ hm)
theorem Grown.right {w w':World}{a b:List Value}(h:Grown w w' (a++b)):Grown w w' b:=fun B o n cap hm=>h B o n cap (List.mem_append_right _ hm)
theorem kD {upf:DV→Option (List (Nat×ag))}{updf:World→(Nat→Prop)→DV→List Nat→Prop}(h:∀y u,upf y=some u→u = []):oF m ρ w I upf updf [] []:=by
 intro w' bM y u Z _ hu _ _ _ _ _
 rw[h y u hu]
 exact⟨ρ,[],a_.nil _,by simp,fun i b h=>by simp[find] at h,by simp⟩
theorem eH {n i:Nat}{b c:ag}(h:find [(n,b)] i=some c):n=i∧b=c:=by
 rw[aG] at h
 split at h
 ·rename_i e;exact⟨e,by simpa using h⟩
 ·simp[find] at h
theorem ox {I':Nat→Prop}(hm:aD F m w I ρ)(hI:∀B,I B→I' B):∀{x:AT} {y:DV} {vs:List Value},dA m x=some y→af w I m ρ x vs→(∀id∈x.ids,∀B,aM m ρ id B→¬I' B)→x.ids.Nodup →
  ∃Bs Ks,aq w I' y.t y.x vs Bs∧(Bs++Ks).Nodup∧(∀B∈Bs++Ks,∃id∈x.ids,aM m ρ id B) ∧
   oF m ρ w I (iR m x) (fun w' bM z Z=>z.t=y.t∧aq w' bM z.t z.x vs Z∧Grown w w' vs) Ks x.ids:=by
 intro x
 induction x with
 |leaf t x=>
  intro d vs h hr _ _
  simp only[dA] at h
  cases hl:t.aK with
  |true=>simp[hl] at h
  |false=>
   rw[hl] at h
   cases h
   exact⟨[],[],aq.eF hl (aa.mono ⟨hI,fun _ _=>rfl⟩ hr),by simp,by simp,kD fun y u h=>by simp only[iR,Option.some.injEq] at h;exact h.symm⟩
 |nil t=>
  intro d vs h hr _ _
  simp only[dA,Option.some.injEq] at h
  subst h
  simp only[af] at hr
  subst hr
  exact⟨[],[],by simp only[aq];exact⟨none,0,by simp,by simp,.inl (by simp)⟩,by simp,by simp,kD fun y u h=>by simp only[iR,Option.some.injEq] at h;exact h.symm⟩
 |whole id st t=>
  intro d vs h hr hn _
  simp only[dA,Option.map_eq_some_iff] at h
  obtain⟨xs,hro,rfl⟩:=h
  obtain⟨Bs,h1,h2,h3⟩:=tf hm hr hro hI (hn id (by simp[AT.ids]))
  refine⟨Bs,[],h1,by simpa using h2,fun B hB=>⟨id,by simp[AT.ids],h3 B (by simpa using hB)⟩,?_⟩
  intro w' bM y u Z ha hu cS hZ hk cz _
  obtain⟨hty,fH,hgr⟩:=cS
  have hcase:∃b0 c ys,m id=some b0∧b0.live∧b0.st=st∧b0.c.arr=some (t,xs.length)∧oH c t ys∧y=⟨.lst t,ys⟩∧u = [(id,⟨st,false,c⟩)]∧(ys.length=xs.length→bt b0.c c) ∧
    ∀rs t' u' xs' ys',b0.c = .deep rs t' xs'→c = .deep rs u' ys'→False:=by
   simp only[iR] at hu
   split at hu
   ·rename_i ys hys
    have:=bT hys
    subst this
    rcases oa hro with⟨hb,hl⟩|⟨fz,rs,hb⟩
    ·have hc:cur m id st=some ⟨st,false,.rows t xs⟩:=by simp[cur,hb]
     rw[hc] at hu
     cases hu
     exact⟨_,_,ys,hb,dP rfl,rfl,rfl,.inl ⟨rfl,hl⟩,rfl,rfl,fun h=>⟨rfl,h.symm⟩,fun rs t' u' xs' ys' h=>by cases h⟩
    ·have hc:cur m id st=some ⟨st,fz,.deep rs t xs⟩:=by simp[cur,hb]
     rw[hc] at hu
     cases hu
     exact⟨_,_,ys,hb,trivial,rfl,rfl,.inr ⟨_,rfl⟩,rfl,rfl,fun h=>⟨Nat.le_succ _,rfl,h.symm⟩,fun rs' t' u' xs' ys' h h'=>by cases h;simp only[BC.deep.injEq] at h';omega⟩
   ·cases hu
  obtain⟨b0,c,ys,hb,cL,hst,bU,hc,rfl,rfl,hsh,hnn⟩:=hcase
  simp only[List.append_nil] at hZ cz
  obtain⟨pl,n1,n2,n3⟩:=a_.list (n:=id) (st:=st) hc fH hZ
  simp only[af] at hr
  obtain⟨_,_,q3⟩:=hr
  obtain⟨ad,cap,e1,e2,e3⟩:=q3 _ hb hst t xs.length bU
  have hlen:ys.length=xs.length:=by
   simp only[aq] at fH
   obtain⟨ad',cap',f1,_⟩:=fH
   rw[e1] at f1
   simp only[List.cons.injEq,Value.slice.injEq,and_true] at f1
   exact f1.2.1.symm
  have hpl:pl id=ρ id:=by
   rw[n2,e1]
   rcases e3 with⟨g1,g2,g3⟩|⟨B,o',cs,g1,g2,g3,g4⟩
   ·rw[g1,g3];rfl
   ·rw[g1,g2];rfl
  have gj:fQ m ρ w w' pl id ⟨st,false,c⟩:=by
   refine⟨b0,hb,cL,hst,hsh hlen,hpl,fun B o cs hp hcs=>?_,fun rs t' u' xs' ys' h h'=>(hnn rs t' u' xs' ys' h h').elim⟩
   rcases e3 with⟨g1,g2,g3⟩|⟨B',o',cs',g1,g2,g3,g4⟩
   ·rw[g3] at hp;cases hp
   ·rw[g1] at hp
    cases hp
    subst g2
    exact hgr _ _ _ _ (by rw[e1];exact List.mem_singleton.2 rfl) cs hcs
  refine⟨pl,Z,n1,by simp,fun i b hf=>?_,fun i hi=>?_⟩
  ·obtain⟨rfl,rfl⟩:=eH hf
   exact .inr ⟨by simp[AT.ids],gj⟩
  ·simp only[AT.ids,List.mem_singleton] at hi
   subst hi
   exact⟨_,by rw[aG,if_pos rfl],gj⟩
 |pair l r ihl ihr=>
  intro d vs h hr hn hnd
  simp only[dA] at h
  split at h
  ·rename_i x y hx hy
   cases h
   simp only[af] at hr
   obtain⟨v1,v2,rfl,h1,h2⟩:=hr
   simp only[AT.ids,bK] at hnd hn
   have cF:=List.nodup_append.1 hnd
   obtain⟨B1,K1,k1,k2,k3,k4⟩:=ihl hx h1 (fun id hi=>hn id (by simp[hi])) cF.1
   obtain⟨B2,K2,q1,q2,q3,q4⟩:=ihr hy h2 (fun id hi=>hn id (by simp[hi])) cF.2.1
   have hall:((B1++K1)++(B2++K2)).Nodup:=gK hm hnd k2 q2 k3 q3
   have gi:((B1++K1)++(B2++K2)).Perm ((B1++B2)++(K1++K2)):=by
    simp only[List.append_assoc]
    refine List.Perm.append_left _ ?_
    rw[←List.append_assoc,←List.append_assoc]
    exact List.Perm.append_right _ List.perm_append_comm
   refine⟨B1++B2,K1++K2,by simp only[aq];exact⟨v1,v2,B1,B2,rfl,rfl,k1,q1⟩,gi.nodup_iff.1 hall,fun B hB=>?_,?_⟩
   ·simp only[AT.ids,bK]
    rcases List.mem_append.1 (gi.mem_iff.2 hB) with hB|hB
    ·obtain⟨i,j,k⟩:=k3 B hB;exact⟨i,by simp[j],k⟩
    ·obtain⟨i,j,k⟩:=q3 B hB;exact⟨i,by simp[j],k⟩
   ·intro w' bM z u Z ha hu cS hZ hk cz gf
    obtain⟨hty,fH,hgr⟩:=cS
    obtain⟨zt,zx⟩:=z
    simp only at hty
    subst hty
    simp only[iR] at hu
    split at hu
    ·rename_i u1 u2 hu1 hu2
     cases hu
     simp only[aq] at fH
     obtain⟨w1,w2,Z1,Z2,e,eZ,r1,r2⟩:=fH
     subst eZ
     have hl1:v1.length=w1.length:=by rw[aq.length k1,aq.length r1]
     obtain⟨rfl,rfl⟩:=List.append_inj e hl1
     have hpz:((Z1++Z2)++(K1++K2)).Perm ((Z1++K1)++(Z2++K2)):=by
      simp only[List.append_assoc]
      refine List.Perm.append_left _ ?_
      rw[←List.append_assoc,←List.append_assoc]
      exact List.Perm.append_right _ List.perm_append_comm
     have hZ':=hpz.nodup_iff.1 hZ
     have hZn:=List.nodup_append.1 hZ'
     obtain⟨ka1,ka2,ka3⟩:=nR hk
     obtain⟨p1,W1,n1,s1,t1,t2⟩:=k4 w' bM ⟨x.t,zx.1⟩ u1 Z1 ha hu1 ⟨rfl,r1,hgr.left⟩ hZn.1 ka1 (fun B hB=>cz B (hpz.mem_iff.2 (List.mem_append_left _ hB))) (fun B hB=>gf B (List.mem_append_left _ hB))
     obtain⟨p2,W2,n2,s2,t3,t4⟩:=q4 w' bM ⟨y.t,zx.2⟩ u2 Z2 ha hu2 ⟨rfl,r2,hgr.right⟩ hZn.2.1 ka2 (fun B hB=>cz B (hpz.mem_iff.2 (List.mem_append_right _ hB))) (fun B hB=>gf B (List.mem_append_right _ hB))
     refine⟨bA u1 p1 p2,W1++W2,a_.app n1 n2 (fun B hB B' aY=>hZn.2.2 B (s1 B hB) B' (s2 B' aY)) ka3,fun B hB=>?_,fun i b hf=>?_,fun i hi=>?_⟩
     ·refine hpz.mem_iff.2 ?_
      rcases List.mem_append.1 hB with hB|hB
      ·exact List.mem_append_left _ (s1 B hB)
      ·exact List.mem_append_right _ (s2 B hB)
     ·rw[b9] at hf
      simp only[AT.ids,bK,List.mem_append]
      split at hf
      ·rename_i c hc
       cases hf
       exact(t1 i _ hc).imp id fun h=>⟨.inl h.1,h.2.to (iP hc).1⟩
      ·rename_i hno
       exact(t3 i _ hf).imp id fun h=>⟨.inr h.1,h.2.to (iO hno).1⟩
     ·simp only[AT.ids,bK,List.mem_append] at hi
      rcases hi with hi|hi
      ·obtain⟨b,hb,hs⟩:=t2 i hi
       exact⟨b,by rw[b9,hb],hs.to (iP hb).1⟩
      ·obtain⟨b,hb,hs⟩:=t4 i hi
       have hno:find u1 i=none:=by
        cases hf:find u1 i with
        |none=>rfl
        |some c=>exact(ka3 i c b hf hb).elim
       exact⟨b,by rw[b9,hno];exact hb,hs.to (iO hno).1⟩
    ·cases hu
  ·simp at h
 |nest id st rs row p u=>
  intro d vs h hr hn _
  simp only[dA] at h
  split at h
  ·rename_i st' fz rs' t xs hc
   obtain⟨hb,hst⟩:=cp hc
   simp only at hst
   subst hst
   obtain⟨h1,h2⟩:=aQ h
   simp only[Bool.and_eq_true] at h1
   have hrs:rs=rs':=Nat.eq_of_beq_eq_true h1.1.1
   subst hrs
   have cE:=fJ h1.2
   obtain⟨y,rfl,j5⟩:=p8 cE h1.1.2 h2
   simp only[af] at hr
   obtain⟨l1,l2,_,l3⟩:=hr
   obtain⟨_,l4⟩:=l3 _ hb rfl rs t xs rfl
   obtain⟨_,_,hrow,B,o',hρ,hcell⟩:=l4 rfl
   obtain⟨B',cH,cs,rcs,pre,mid,post,D1,D2,B1,Bm,B2,y',f1,f2,f3,f4,f5,f6,f7,f8,f9,f10,f11,f12,f13⟩:=o3 hm hb hrow h1.1.2 cE
   rw[hρ] at f1
   cases f1
   subst f5
   rw[j5] at f9
   cases f9
   have hml:=aq.length f12
   have hrl:rcs.length=t.off p+u.size+post.length:=by rw[f10,List.length_append,List.length_append,f11,hml]
   have hmid:vs=mid:=by
    apply List.ext_getElem?
    intro j
    by_cases hj:j<u.size
    ·rw[←hcell j hj]
     have:=f8 (t.off p+j) (by omega)
     rw[←Nat.add_assoc] at this
     rw[this,f10,List.append_assoc,List.getElem?_append_right (by omega),List.getElem?_append_left (by omega)]
     congr 1
     omega
    ·rw[List.getElem?_eq_none (by omega),List.getElem?_eq_none (by omega)]
   subst hmid
   have ha:bD I I' w w:=⟨hI,fun _ _=>rfl⟩
   have jg:aM m ρ id B:=⟨_,hb,trivial,rfl,.inl ⟨o',hρ⟩⟩
   have hmD:∀b∈ρ.d id,aM m ρ id b:=fun b hb'=>⟨_,hb,trivial,rfl,.inr ⟨trivial,hb'⟩⟩
   obtain⟨dq1,dq2⟩:=hm.dp id _ hb trivial
   have hBd:¬B∈ρ.d id:=fun hin=>(dq2 B hin).2.1 id _ _ hb trivial hρ
   have gi:(ρ.d id).Perm (Bm++(D1++(B1++B2)++D2)):=by
    rw[f6]
    have:(D1++(B1++Bm++B2)++D2).Perm (Bm++(D1++(B1++B2)++D2)):=by
     have e1:D1++(B1++Bm++B2)++D2=((D1++B1)++Bm)++(B2++D2):=by simp
     have e2:Bm++(D1++(B1++B2)++D2)=(Bm++(D1++B1))++(B2++D2):=by simp
     rw[e1,e2]
     exact List.Perm.append_right _ List.perm_append_comm
    exact this
   have hnd0:(Bm++(D1++(B1++B2)++D2)).Nodup:=gi.nodup_iff.1 dq1
   refine⟨Bm,B::(D1++(B1++B2)++D2),aq.mono ha (fun b hb'=>⟨rfl,fun jb=>absurd jb (hn id (by simp[AT.ids]) b (hmD b (gi.mem_iff.2 (List.mem_append_left _ hb'))))⟩) f12,?_,?_,?_⟩
   ·have:(Bm++B::(D1++(B1++B2)++D2)).Perm (B::(Bm++(D1++(B1++B2)++D2))):=List.perm_middle
    rw[this.nodup_iff,List.nodup_cons]
    exact⟨fun h=>hBd (gi.mem_iff.2 h),hnd0⟩
   ·intro b hb'
    refine⟨id,by simp[AT.ids],?_⟩
    have:b=B∨b∈ρ.d id:=by
     rw[gi.mem_iff]
     simp only[List.mem_append,List.mem_cons] at hb' ⊢
     rcases hb' with h|h|h
     ·exact .inr (.inl h)
     ·exact .inl h
     ·exact .inr (.inr h)
    rcases this with e|h
    ·subst e;exact jg
    ·exact hmD b h
   ·intro w' bM z uu Z hag hu cS hZ hk cz gf
    obtain⟨hty,fH,hgr⟩:=cS
    obtain⟨zt,zx⟩:=z
    simp only at hty
    subst hty
    simp only[iR,hc] at hu
    obtain⟨_,hu⟩:=aQ hu
    have hKB:w'.heap[B]?=w.heap[B]? :=gf B (by simp)
    have hsameD:∀b∈D1++(B1++B2)++D2,w'.heap[b]?=w.heap[b]?∧(bM b→I b):=fun b hb'=>⟨gf b (List.mem_cons_of_mem _ hb'),fun h=>absurd h (cz b (List.mem_append_right _ (List.mem_cons_of_mem _ hb')))⟩
    obtain⟨x',g1,g2⟩:=f13 w' bM zx vs Z hag hsameD (fun k _=>World.cell?_of_block (w:=w) hKB) (fun j hj=>by rw[World.cell?_of_block (w:=w) hKB,f8 j hj,f10]) fH
    rw[g1] at hu
    simp only[DV.as,dif_pos,Option.some.injEq] at hu
    subst hu
    have hWs:∀b∈B::(D1++(B1++Z++B2)++D2),b∈Z++B::(D1++(B1++B2)++D2):=by
     intro b hb'
     simp only[List.mem_cons,List.mem_append] at hb' ⊢
     rcases hb' with h|(h|(h|h)|h)|h<;>simp[h]
    have hZ':(B::(D1++(B1++Z++B2)++D2)).Nodup:=by
     have:(Z++B::(D1++(B1++B2)++D2)).Perm (B::(D1++(B1++Z++B2)++D2)):=by
      refine List.perm_middle.trans (List.Perm.cons _ ?_)
      have e1:D1++(B1++Z++B2)++D2=((D1++B1)++Z)++(B2++D2):=by simp
      have e2:Z++(D1++(B1++B2)++D2)=(Z++(D1++B1))++(B2++D2):=by simp
      rw[e1,e2]
      exact List.Perm.append_right _ List.perm_append_comm
     exact this.nodup_iff.1 hZ
    have hZc:=List.nodup_cons.1 hZ'
    let pl:Pl:=⟨fun _=>some (B,o'),fun _=>D1++(B1++Z++B2)++D2⟩
    have lR:(xs.set row x').length=xs.length:=List.length_set
    have gj:fQ m ρ w w' pl id ⟨st',false,.deep rs t (xs.set row x')⟩:=by
     refine⟨_,hb,trivial,rfl,⟨Nat.le_refl _,rfl,lR.symm⟩,hρ.symm,fun C o2 cs' hp hcs=>?_,fun _ _ _ _ _ _ _ C o2 hp=>?_⟩
     ·rw[hρ] at hp
      cases hp
      exact⟨cs',hcs.of_same hKB,Nat.le_refl _⟩
     ·rw[hρ] at hp
      cases hp
      exact hKB
    refine⟨pl,B::(D1++(B1++Z++B2)++D2),⟨fun i b hf=>?_,fun i b C hf hO=>?_,fun i j b c C hf hf' _ _=>(eH hf).1.symm.trans (eH hf').1,fun i b hf _=>⟨hZc.2,fun C hC o2 he=>?_⟩⟩,hWs,fun i b hf=>?_,fun i hi=>?_⟩
    ·obtain⟨rfl,rfl⟩:=eH hf
     refine⟨rfl,trivial,fun m' ρ' hfit=>?_⟩
     obtain⟨_,k2,k3⟩:=hfit id _ (by rw[aG,if_pos rfl])
     simp only[aS]
     refine⟨trivial,.inr ⟨B,o',cs,k2,f2.of_same hKB,by rw[lR];exact f3,by rw[k3];exact g2,cz B (List.mem_append_right _ List.mem_cons_self)⟩⟩
    ·obtain⟨rfl,rfl⟩:=eH hf
     rcases hO with⟨o2,hO⟩|⟨_,hO⟩
     ·cases hO;exact List.mem_cons_self
     ·exact List.mem_cons_of_mem _ hO
    ·cases he
     exact hZc.1 hC
    ·obtain⟨rfl,rfl⟩:=eH hf
     exact .inr ⟨by simp[AT.ids],gj⟩
    ·simp only[AT.ids,List.mem_singleton] at hi
     subst hi
     exact⟨_,by rw[aG,if_pos rfl],gj⟩
  ·simp at h
 |_=>intro d vs h hr _ _;simp[dA] at h
end
end Go.Ab
namespace Go.Ab
section
variable {P:Program} {F:Fix} {C:Cx} {o:Oper} {a:Act} {w w':World} {m:MF} {I I':Nat→Prop} {ρ:Pl} {d:aE}
theorem uj {I':Nat→Prop}(hm:aD F m w I ρ)(hI:∀B,I B→I' B){mo:Mode}{x:AT}{y:Arg}{v:Value}(hy:mkArg m mo x=some y)(hx:au w I m ρ x v)
  (hle:∀id∈pT m mo x,∀b B,m id=some b→b.live→bE ρ id b B→I' B) (hown:∀id∈de mo x++fK m mo x,∀B,aM m ρ id B→¬I' B) (hnd:(de mo x++fK m mo x).Nodup) :
  ∃Bs Ks,ArgO w I' y v Bs∧(Bs++Ks).Nodup∧(∀B∈Bs++Ks,∃id∈de mo x++fK m mo x,aM m ρ id B) ∧
   oF m ρ w I (iS m mo x) (fun w' bM z Z=>qG w w' bM y v z Z) Ks (de mo x):=by
 cases mo with
 |v=>
  simp only[mkArg,Option.map_eq_some_iff] at hy
  obtain⟨dv,eY,rfl⟩:=hy
  obtain⟨hs1,gZ⟩:=tR eY
  obtain⟨cs,k1,k2,_⟩:=tQ hm hI (fun id hi=>hle id hi) eY hs1 hx
  exact⟨[],[],⟨cs,k1,bX.eF k2⟩,by simp,by simp,kD fun y u h=>by simp[iS] at h⟩
 |f=>
  cases x<;>simp only[mkArg,reduceCtorEq] at hy
  rename_i g c
  simp only[Option.map_eq_some_iff] at hy
  obtain⟨dv,eY,rfl⟩:=hy
  have hx':=bQ (a:=.fn g c) rfl hx (by simp) (by simp) (by simp) (by simp)
  simp only[af,List.cons.injEq,and_true] at hx'
  obtain⟨caps,e,hc⟩:=hx'
  exact⟨[],[],⟨rfl,caps,e,toC_ok (x:=c) hm hI (fun id hi=>hle id hi) eY hc⟩,by simp,by simp,kD fun y u h=>by simp[iS] at h⟩
 |k=>
  simp only[mkArg,Option.map_eq_some_iff] at hy
  obtain⟨dv,eY,rfl⟩:=hy
  obtain⟨hs1,gZ⟩:=xp eY
  obtain⟨cs,k1,k2⟩:=ow hs1 gZ hx
  obtain⟨B1,q1,q2,q3⟩:=tP (I':=I') hm hI eY k2 (fun id hi=>hown id (by simp[fK,de,hi])) (by simpa[fK,de] using hnd)
  exact⟨B1,[],⟨cs,k1,q1⟩,by simpa using q2,fun B hB=>by obtain⟨i,j,k⟩:=q3 B (by simpa using hB);exact⟨i,by simp[fK,de,j],k⟩,kD fun y u h=>by simp[iS] at h⟩
 |d=>
  simp only[mkArg,Option.map_eq_some_iff] at hy
  obtain⟨dv,eY,rfl⟩:=hy
  obtain⟨hs1,gZ⟩:=tN eY
  obtain⟨cs,k1,k2⟩:=ow hs1 gZ hx
  obtain⟨B1,K1,q1,q2,q3,q4⟩:=ox (I':=I') hm hI eY k2 (fun id hi=>hown id (by simp[fK,de,hi])) (by simpa[fK,de] using hnd)
  refine⟨B1,K1,⟨cs,k1,q1⟩,q2,fun B hB=>by obtain⟨i,j,k⟩:=q3 B hB;exact⟨i,by simp[fK,de,j],k⟩,?_⟩
  intro w' bM z u Z ha hu cS hZ hk cz gf
  obtain⟨cs',e1,e2,e3,e4⟩:=cS
  have hcs:cs'=cs:=by
   have hl1:=aq.length q1
   have hl2:=aq.length e3
   rw[e2] at hl2
   rw[k1] at e1
   unfold aL at e1
   cases ha:dv.t.isAgg with
   |true=>rw[ha,if_pos rfl,if_pos rfl] at e1;simpa using e1.symm
   |false=>
    simp only[ha,Bool.false_eq_true,if_false] at e1
    have hone:dv.t.size=1:=by cases hdt:dv.t<;>simp[hdt,Ty.isAgg] at ha<;>rfl
    rw[hone] at hl1 hl2
    obtain⟨u1,rfl⟩:=List.length_eq_one_iff.1 hl1
    obtain⟨u2,rfl⟩:=List.length_eq_one_iff.1 hl2
    simpa using e1.symm
  subst hcs
  exact q4 w' bM z u Z ha hu ⟨e2,e3,e4⟩ hZ hk cz gf
 |m=>
  cases x<;>simp only[mkArg,reduceCtorEq] at hy
  case nil t=>
   simp only[Option.some.injEq] at hy
   subst hy
   have e:=mN (.inl rfl) hx
   exact⟨[],[],⟨none,0,by simp[e],by simp,.inl ⟨rfl,rfl,rfl⟩⟩,by simp,by simp,kD fun y u h=>by simp only[iS,Option.some.injEq] at h;exact h.symm⟩
  case whole id st t=>
   split at hy
   ·rename_i xs hro
    simp only[Option.some.injEq] at hy
    subst hy
    have hx':=bQ (a:=.whole id st t) rfl hx (by simp) (by simp) (by simp) (by simp)
    obtain⟨B1,q1,q2⟩:=qc hm hx' hro hI (hown id (by simp[de]))
    refine⟨B1,[],q1,?_,?_,?_⟩
    ·rcases q2 with rfl|⟨B,rfl,_⟩<;>simp
    ·rcases q2 with rfl|⟨B,rfl,q2⟩
     ·simp
     ·intro B' aY
      simp only[List.append_nil,List.mem_singleton] at aY
      subst aY
      exact⟨id,by simp[de],q2⟩
    ·intro w' bM z u Z ha hu cS hZ hk cz _
     obtain⟨ys',rfl,hl,hr,hcs⟩:=cS
     simp only[List.append_nil] at hZ cz
     simp only[iS] at hu
     split at hu
     ·rename_i zs hzs
      have e0:=bT hzs
      cases e0
      cases hu
      have hb:=eR hro
      obtain⟨ad,cap,e1,e2,e3⟩:=rL hx hro
      obtain⟨ad',cap',f1,f2,f3⟩:=hr
      rw[e1] at f1
      simp only[List.cons.injEq,Value.slice.injEq,and_true] at f1
      obtain⟨rfl,f1l,rfl⟩:=f1
      have rR:a_ w' bM [(id,⟨st,false,.rows t ys'⟩)] Z ⟨fun _=>ρ id,fun _=>[]⟩:=by
       refine a_.single rfl (dP rfl) (fun m' ρ' hρ=>?_) (fun B o' hp=>?_)
       ·simp only[aS]
        refine⟨trivial,?_⟩
        rcases f3 with⟨g1,g2,g3⟩|⟨B,o',cs,g1,g2,g3,g4,g5,g6⟩
        ·rcases e3 with e3|⟨B,o',cs,_,e4,_⟩
         ·exact .inl ⟨by rw[←List.length_eq_zero_iff];omega,hρ.trans e3.2.2⟩
         ·rw[g1] at e4;cases e4
        ·rcases e3 with e3|⟨B',cH,cs',e4,e5,_⟩
         ·rw[g1] at e3;cases e3.1
         ·rw[g1] at e5
          cases e5
          have:=Nat.mul_le_mul_right t.size f2
          exact .inr ⟨B,o',cs,hρ.trans e4,g2,by omega,g4,by simpa using g5⟩
       ·rcases e3 with e3|⟨B',cH,cs',e4,e5,_⟩
        ·rw[e3.2.2] at hp;cases hp
        ·rw[e4] at hp
         cases hp
         rcases f3 with⟨g1,_⟩|⟨B2,o2,cs2,g1,_,_,_,_,g6⟩
         ·rw[g1] at e5;cases e5
         ·rw[g1] at e5;cases e5;rw[g6];exact List.mem_singleton.2 rfl
      have gj:fQ m ρ w w' ⟨fun _=>ρ id,fun _=>[]⟩ id ⟨st,false,.rows t ys'⟩:=by
       refine⟨_,hb,dP rfl,rfl,⟨rfl,hl.symm⟩,rfl,fun B o' cs hp hc=>?_,fun _ _ _ _ _ h=>by cases h⟩
       exact hcs B (rR.src id _ B (by rw[aG,if_pos rfl]) (.inl ⟨_,hp⟩)) cs hc
      refine⟨_,Z,rR,by simp,fun i b hf=>?_,fun i hi=>?_⟩
      ·obtain⟨rfl,rfl⟩:=eH hf
       exact .inr ⟨by simp[de],gj⟩
      ·simp only[de,List.mem_singleton] at hi
       subst hi
       exact⟨_,by rw[aG,if_pos rfl],gj⟩
     ·cases hu
   ·simp at hy
 |p=>
  cases x<;>simp only[mkArg,reduceCtorEq] at hy
  rename_i id st p
  cases p with
  |cons s p=>simp[] at hy
  |nil=>
   simp only[] at hy
   split at hy
   ·rename_i st' t b hc
    simp only[Option.map_eq_some_iff] at hy
    obtain⟨dv,eY,rfl⟩:=hy
    obtain⟨hb,hst⟩:=cp hc
    simp only at hst
    subst hst
    have e2:de .p (AT.aZ id st' [])++fK m .p (AT.aZ id st' [])=id::b.ids:=by simp[de,fK,qC,hb]
    rw[e2] at hown hnd ⊢
    have hx':=bQ (a:=.aZ id st' []) rfl hx (by simp) (by simp) (by simp) (by simp)
    simp only[af] at hx'
    obtain⟨_,_,h3⟩:=hx'
    obtain⟨e0,B,f1,f2⟩:=h3 _ hb rfl t b rfl
    simp only[List.cons.injEq,and_true,Ty.off] at f2
    have az:=hm.blk id _ hb
    simp only[aS] at az
    obtain⟨ht,B',cs,k1,k2,k3,k4⟩:=az
    rw[f1] at k1
    cases k1
    have bG:aM m ρ id B:=⟨_,hb,iL rfl,rfl,.inl ⟨0,f1⟩⟩
    have hnid:=List.nodup_cons.1 hnd
    obtain⟨B1,q1,q2,q3⟩:=tP (I':=I') hm hI eY k3 (fun j hj=>hown j (by simp[hj])) hnid.2
    refine⟨B::B1,[],⟨B,cs,B1,f2,k2,hown id (by simp) B bG,q1,rfl⟩,?_,?_,?_⟩
    ·rw[List.append_nil,List.nodup_cons]
     refine⟨fun hB=>?_,q2⟩
     obtain⟨i2,j2,r⟩:=q3 B hB
     have:=bG.inj hm r
     subst this
     exact hnid.1 j2
    ·intro B' aY
     rw[List.append_nil] at aY
     rcases List.mem_cons.1 aY with h|h
     ·subst h;exact⟨id,by simp,bG⟩
     ·obtain⟨i2,j2,r⟩:=q3 B' h
      exact⟨i2,by simp[j2],r⟩
    ·intro w' bM z u Z ha hu cS hZ hk cz _
     obtain⟨B0,cs0,B2,e1,hcells,hIB,hty,hr,rfl⟩:=cS
     simp only[List.append_nil] at hZ cz
     simp only[iS,hc] at hu
     obtain⟨hti,hu⟩:=aQ hu
     cases hu
     have gG:=Ty.cA hti
     rw[e1] at f2
     simp only[Value.pointer.injEq,Option.some.injEq,Addr.mk.injEq,and_true] at f2
     have hBB:B0=B:=f2
     subst hBB
     have hl0:=ht.length k3
     have hl1:=hr.length
     have hnc:=List.nodup_cons.1 hZ
     simp only[List.map_cons] at hk
     have ka4:=List.nodup_cons.1 hk
     obtain⟨p1,n1,n2⟩:=lY m ((id+1)*1000) hr hnc.2
     have hnone:find (aW m z.t z.x ((id+1)*1000)).2.1 id=none:=by
      cases hf:find (aW m z.t z.x ((id+1)*1000)).2.1 id with
      |none=>rfl
      |some c=>exact(ka4.1 (nF hf)).elim
     have htyp:Typed (aW m z.t z.x ((id+1)*1000)).1 t:=by rw[gG];exact lZ m z.t z.x _
     have hv:=a_.var (st:=st') n1.new hcells hIB hnc.1 hnone htyp fun m' ρ' hf=>n2 m' ρ' fun i b h=>⟨(hf i b h).1,(hf i b h).2.1⟩
     have gj:fQ m ρ w w' (p1.put id (some (B0,0))) id ⟨st',false,.var t (aW m z.t z.x ((id+1)*1000)).1⟩:=by
      refine⟨_,hb,iL rfl,rfl,rfl,by simp[Pl.put,f1],fun C o' cs' hp aJ=>?_,fun _ _ _ _ _ h=>by cases h⟩
      rw[f1] at hp
      cases hp
      have:=k2.unique aJ
      subst this
      exact⟨cs0,hcells,by rw[hl0,hl1,gG,vq];exact Nat.le_refl _⟩
     refine⟨_,_,hv,by simp,fun i c hf=>?_,fun i hi=>?_⟩
     ·rw[aG] at hf
      split at hf
      ·rename_i e
       subst e
       cases hf
       exact .inr ⟨by simp[de],gj⟩
      ·exact .inl (n1.blk i c hf).2.2.1
     ·simp only[de,List.mem_singleton] at hi
      subst hi
      exact⟨_,by rw[aG,if_pos rfl],gj⟩
   ·simp at hy
theorem uo {I':Nat→Prop}(hm:aD F m w I ρ)(hI:∀B,I B→I' B):∀{os:List Mode} {as:List AT} {args:List Arg} {vals:List Value},j9 m os as=some args→cB (au w I m ρ) as vals →
  (∀id∈eO m os as,∀b B,m id=some b→b.live→bE ρ id b B→I' B)→(∀id∈dm os as++eD m os as,∀B,aM m ρ id B→¬I' B)→(dm os as++eD m os as).Nodup →
  ∃Bs Ks,ku w I' args vals Bs∧(Bs++Ks).Nodup∧(∀B∈Bs++Ks,∃id∈dm os as++eD m os as,aM m ρ id B) ∧
   ∀(w':World) (bM:Nat→Prop) (ds:List DV) (u:List (Nat×ag)) (Z:List Nat),bD I bM w w'→cU m os as ds=some u→bS w w' bM args vals ds Z→(Z++Ks).Nodup→(u.map (·.1)).Nodup→(∀B∈Z++Ks,¬bM B)→(∀B∈Ks,w'.heap[B]?=w.heap[B]?) →
    ∃pl Ws,a_ w' bM u Ws pl∧(∀B∈Ws,B∈Z++Ks)∧(∀i b,find u i=some b→b.st=aU m i∨(i∈dm os as∧fQ m ρ w w' pl i b))∧(∀i∈dm os as,∃b,find u i=some b∧fQ m ρ w w' pl i b):=by
 intro os
 induction os with
 |nil=>
  intro as args vals h hs _ _ _
  cases as with
  |cons x as=>simp[j9] at h
  |nil=>
   simp only[j9,Option.some.injEq] at h
   subst h
   cases hs
   refine⟨[],[],rfl,by simp,by simp,fun w' bM ds u Z _ hu _ _ _ _ _=>?_⟩
   cases ds with
   |cons d ds=>simp[cU] at hu
   |nil=>
    simp only[cU,Option.some.injEq] at hu
    subst hu
    exact⟨ρ,[],a_.nil _,by simp,fun i b h=>by simp[find] at h,fun i h=>by simp[dm] at h⟩
 |cons mo os ih=>
  intro as args vals h hs hle hown hnd
  cases as with
  |nil=>simp[j9] at h
  |cons x as=>
  simp only[j9] at h
  split at h
  ·rename_i y ys hy hys
   simp only[Option.some.injEq] at h
   subst h
   cases hs with
   |cons hx hs=>
   rename_i v vals
   rw[vI] at hle
   rw[r8,r9] at hown hnd
   rw[r8,r9]
   have gi:((de mo x++dm os as)++(fK m mo x++eD m os as)).Perm ((de mo x++fK m mo x)++(dm os as++eD m os as)):=by
    simp only[List.append_assoc]
    refine List.Perm.append_left _ ?_
    rw[←List.append_assoc,←List.append_assoc]
    exact List.Perm.append_right _ List.perm_append_comm
   have hnd2:=gi.nodup_iff.1 hnd
   have hnd2':=List.nodup_append.1 hnd2
   obtain⟨B1,K1,a1,a2,a3,a4⟩:=uj hm hI hy hx (fun id hi=>hle id (List.mem_append_left _ hi)) (fun id hi=>hown id (gi.mem_iff.2 (List.mem_append_left _ hi))) hnd2'.1
   obtain⟨B2,K2,b1,b2,b3,b4⟩:=ih hys hs (fun id hi=>hle id (List.mem_append_right _ hi)) (fun id hi=>hown id (gi.mem_iff.2 (List.mem_append_right _ hi))) hnd2'.2.1
   have hall:((B1++K1)++(B2++K2)).Nodup:=gK hm hnd2 a2 b2 a3 b3
   have hp2:∀(Z1 Z2:List Nat),((Z1++Z2)++(K1++K2)).Perm ((Z1++K1)++(Z2++K2)):=by
    intro Z1 Z2
    simp only[List.append_assoc]
    refine List.Perm.append_left _ ?_
    rw[←List.append_assoc,←List.append_assoc]
    exact List.Perm.append_right _ List.perm_append_comm
   refine⟨B1++B2,K1++K2,⟨B1,B2,rfl,a1,b1⟩,(hp2 B1 B2).nodup_iff.2 hall,fun B hB=>?_,?_⟩
   ·rcases List.mem_append.1 ((hp2 B1 B2).mem_iff.1 hB) with hB|hB
    ·obtain⟨i,j,k⟩:=a3 B hB;exact⟨i,gi.mem_iff.2 (List.mem_append_left _ j),k⟩
    ·obtain⟨i,j,k⟩:=b3 B hB;exact⟨i,gi.mem_iff.2 (List.mem_append_right _ j),k⟩
   ·intro w' bM ds u Z ha hu cS hZ hk cz gf
    have htk:=vW hy
    rcases xB hu with⟨t1,hu⟩|⟨t1,z,ds',u1,u2,rfl,hu1,hu2,rfl⟩
    ·rcases t_ cS with⟨t2,cS⟩|⟨t2,_⟩
     ·have hke:de mo x = []:=by cases mo<;>cases x<;>first|rfl|(simp[Mode.jP] at t1)
      have hZ':(Z++K2).Nodup:=by
       refine hZ.sublist ?_
       exact List.Sublist.append_left (List.sublist_append_right _ _) _
      have hsub:∀B∈Z++K2,B∈Z++(K1++K2):=fun B hB=>by simp only[List.mem_append] at hB ⊢;rcases hB with h|h<;>simp[h]
      obtain⟨pl,Ws,c1,c2,c3,c4⟩:=b4 w' bM ds u Z ha hu cS hZ' hk (fun B hB=>cz B (hsub B hB)) (fun B hB=>gf B (List.mem_append_right _ hB))
      refine⟨pl,Ws,c1,fun B hB=>hsub B (c2 B hB),fun i b hf=>?_,fun i hi=>?_⟩
      ·rw[hke];exact c3 i b hf
      ·rw[hke] at hi;exact c4 i hi
     ·rw[t2] at htk;rw[t1] at htk;cases htk
    ·rcases t_ cS with⟨t2,_⟩|⟨t2,z',ds'',Z1,Z2,e,rfl,hup1,hup2⟩
     ·rw[t2] at htk;rw[t1] at htk;cases htk
     ·cases e
      have hZ':=(hp2 Z1 Z2).nodup_iff.1 hZ
      have hZn:=List.nodup_append.1 hZ'
      obtain⟨ka1,ka2,ka3⟩:=nR hk
      obtain⟨p1,W1,n1,s1,t1,t2⟩:=a4 w' bM z u1 Z1 ha hu1 hup1 hZn.1 ka1 (fun B hB=>cz B ((hp2 Z1 Z2).mem_iff.2 (List.mem_append_left _ hB))) (fun B hB=>gf B (List.mem_append_left _ hB))
      obtain⟨p2,W2,n2,s2,t3,t4⟩:=b4 w' bM ds' u2 Z2 ha hu2 hup2 hZn.2.1 ka2 (fun B hB=>cz B ((hp2 Z1 Z2).mem_iff.2 (List.mem_append_right _ hB))) (fun B hB=>gf B (List.mem_append_right _ hB))
      refine⟨bA u1 p1 p2,W1++W2,a_.app n1 n2 (fun B hB B' aY=>hZn.2.2 B (s1 B hB) B' (s2 B' aY)) ka3,fun B hB=>?_,fun i b hf=>?_,fun i hi=>?_⟩
      ·refine(hp2 Z1 Z2).mem_iff.2 ?_
       rcases List.mem_append.1 hB with hB|hB
       ·exact List.mem_append_left _ (s1 B hB)
       ·exact List.mem_append_right _ (s2 B hB)
      ·rw[b9] at hf
       simp only[List.mem_append]
       split at hf
       ·rename_i c hc
        cases hf
        exact(t1 i _ hc).imp id fun h=>⟨.inl h.1,h.2.to (iP hc).1⟩
       ·rename_i hno
        exact(t3 i _ hf).imp id fun h=>⟨.inr h.1,h.2.to (iO hno).1⟩
      ·simp only[List.mem_append] at hi
       rcases hi with hi|hi
       ·obtain⟨b,hb,hs⟩:=t2 i hi
        exact⟨b,by rw[b9,hb],hs.to (iP hb).1⟩
       ·obtain⟨b,hb,hs⟩:=t4 i hi
        have hno:find u1 i=none:=by
         cases hf:find u1 i with
         |none=>rfl
         |some c=>exact(ka3 i c b hf hb).elim
        exact⟨b,by rw[b9,hno];exact hb,hs.to (iO hno).1⟩
  ·simp at h
end
end Go.Ab
namespace Go.Ab
section
variable {P:Program} {F:Fix} {C:Cx} {o:Oper} {a:Act} {w w':World} {m:MF} {I I':Nat→Prop} {ρ:Pl} {d:aE}
theorem nH (m:MF)(i:Nat):∀ids:List Nat,find (cj m ids) i=if i∈ids then(m i).map (fun b=>⟨b.st+1,false,.dead⟩) else none
 | []=>by simp[cj,c_,find]
 |j::l=>by
  have ih:=nH m i l
  unfold cj at ih ⊢
  simp only[c_]
  cases hm:m j with
  |none=>
   simp only[Option.map_none,ih]
   by_cases hij:i=j
   ·subst hij;simp[hm]
   ·simp[hij]
  |some b=>
   simp only[Option.map_some,aG,ih]
   by_cases hij:i=j
   ·subst hij;simp[hm]
   ·have:¬j=i:=fun e=>hij e.symm
    simp[hij,this]
theorem aC.called {ke ki le Bs Ws:List Nat}{L:List (Nat×ag)}{pl:Pl}(hm:aD F m w I ρ)(_hle:∀i∈le,¬i∈ke++ki)
  (hBs:∀B∈Bs,∃id∈ke++ki,aM m ρ id B) (hnew:a_ w' I' L Ws pl)
  (hst:∀i b,find L i=some b→b.st=aU m i∨(i∈ke∧fQ m ρ w w' pl i b)) (hke:∀i∈ke,∃b,find L i=some b)
  (hW:∀B∈Ws,((∃id∈ke++ki,aM m ρ id B)∨w.heap.size≤B)∧¬I' B) (hIa:∀B,cP m ρ I le B→I' B) (hIs:∀B,I B→w'.heap[B]?=w.heap[B]?)
  (hIb:∀B,I' B→B<w'.heap.size∧(cP m ρ I le B∨w.heap.size≤B∨∃id∈ke++ki,aM m ρ id B)) (hframe:∀B,B<w.heap.size→¬B∈Bs→w'.heap[B]?=w.heap[B]?)
  (hsize:w.heap.size≤w'.heap.size) (hos:w'.os=w.os) (eL:w'.tape=w.tape) (hout:w'.output=w.output) :
  aC F m (m.aj (app L (app (cj m ki) (bu m le)))) w w' I I' ρ (bA L pl ρ)∧Fits L pl (m.aj (app L (app (cj m ki) (bu m le)))) (bA L pl ρ):=by
 have hval:∀i,m.aj (app L (app (cj m ki) (bu m le))) i=match find L i with
   |some b=>some b
   |none=>if i∈ki then(m i).map (fun b=>⟨b.st+1,false,.dead⟩) else if i∈le then(m i).map ag.bu else m i:=by
  intro i
  unfold MF.aj
  rw[b9,b9,nH,pn]
  cases find L i with
  |some b=>rfl
  |none=>
   by_cases h1:i∈ki
   ·simp only[h1,if_true]
    cases m i with
    |none=>by_cases h2:i∈le<;>simp[h2]
    |some b=>rfl
   ·by_cases h2:i∈le
    ·simp only[h1,h2,if_true,if_false]
     cases m i<;>rfl
    ·simp[h1,h2]
 have hfit:Fits L pl (m.aj (app L (app (cj m ki) (bu m le)))) (bA L pl ρ):=by
  intro j c hc
  exact⟨by rw[hval,hc],(iP hc).1,(iP hc).2⟩
 refine⟨?_,hfit⟩
 have ha:bD I I' w w':=⟨fun B h=>hIa B (.inl h),hIs⟩
 have hold:∀i b B,find L i=none→¬i∈ki→m i=some b→b.live→bE ρ i b B→w'.heap[B]?=w.heap[B]?∧B<w.heap.size∧¬∃id∈ke++ki,aM m ρ id B:=by
  intro i b B h1 h2 h3 h4 h5
  have hlt:B<w.heap.size:=by
   rcases h5 with⟨o,h5⟩|⟨h5,h6⟩
   ·exact hm.lt h3 h4 h5
   ·exact(hm.dlt h3 h5 h6).1
  have hno:¬∃id∈ke++ki,aM m ρ id B:=by
   rintro⟨j,hj,b',k1,k2,_,k3⟩
   have:=hm.gM h3 h4 h5 k1 k2 k3
   subst this
   rcases List.mem_append.1 hj with hj|hj
   ·obtain⟨c,hc⟩:=hke i hj
    rw[h1] at hc;cases hc
   ·exact h2 hj
  exact⟨hframe B hlt fun hB=>hno (hBs B hB),hlt,hno⟩
 have hk:cC m (m.aj (app L (app (cj m ki) (bu m le)))) ρ (bA L pl ρ) w w':=by
  refine⟨fun i b hb=>?_,fun i b b' rs t u xs ys hb hb' hs hc aJ B o' hr=>?_⟩
  ·rw[hval]
   cases hf:find L i with
   |some c=>
    refine⟨c,rfl,?_⟩
    rcases hst i c hf with h|⟨_,b0,h1,h2,h3,h4,h5,h6,_⟩
    ·left
     rw[h]
     exact jH hb
    ·rw[hb] at h1
     cases h1
     exact .inr ⟨h3,h4,(iP hf).1.trans h5,fun _ B o' hr cs hc=>h6 B o' cs hr hc⟩
   |none=>
    simp only
    by_cases h1:i∈ki
    ·exact⟨_,by simp only[h1,if_true,hb];rfl,.inl (Nat.lt_succ_self _)⟩
    ·have hpl:bA L pl ρ i=ρ i:=(iO hf).1
     have hcells:b.live→∀B o',ρ i=some (B,o')→∀cs,Cells w B cs→∃cs',Cells w' B cs'∧cs.length≤cs'.length:=
      fun hl B o' hr cs hc=>⟨cs,hc.of_same (hold i b B hf h1 hb hl (.inl ⟨o',hr⟩)).1,Nat.le_refl _⟩
     by_cases h2:i∈le
     ·rcases b.nJ with⟨_,hz⟩|⟨_,hz⟩
      ·exact⟨b.bu,by simp only[h1,h2,if_true,if_false,hb];rfl,.inl (by rw[hz];exact Nat.lt_succ_self _)⟩
      ·exact⟨b.bu,by simp only[h1,h2,if_true,if_false,hb];rfl,.inr ⟨by rw[hz],by rw[hz];exact bt.refl _,hpl,hcells⟩⟩
     ·exact⟨b,by simp only[h1,h2,if_false,hb],.inr ⟨rfl,bt.refl _,hpl,hcells⟩⟩
  ·rw[hval] at hb'
   cases hf:find L i with
   |some c=>
    rw[hf] at hb'
    cases hb'
    rcases hst i _ hf with h|⟨_,b0,h1,h2,h3,h4,h5,h6,h7⟩
    ·have:=jH hb
     omega
    ·rw[hb] at h1
     cases h1
     exact h7 rs t u xs ys hc aJ B o' hr
   |none=>
    rw[hf] at hb'
    simp only at hb'
    by_cases h1:i∈ki
    ·simp only[h1,if_true,hb,Option.map_some,Option.some.injEq] at hb'
     subst hb'
     cases aJ
    ·exact(hold i b B hf h1 hb (dL (by unfold ag.bq;rw[hc];trivial)) (.inl ⟨o',hr⟩)).1
 have cL:∀i b,m.aj (app L (app (cj m ki) (bu m le))) i=some b→b.live→(find L i=some b∧bA L pl ρ i=pl i∧(bA L pl ρ).d i=pl.d i) ∨
   (find L i=none∧¬i∈ki∧bA L pl ρ i=ρ i∧(bA L pl ρ).d i=ρ.d i∧∃b0,m i=some b0∧b0.live∧b0.c=b.c∧(i∈le∧b.fz=true∧¬b0.bq∨¬i∈le∧b0=b)):=by
  intro i b hb hl
  rw[hval] at hb
  cases hf:find L i with
  |some c=>
   rw[hf] at hb
   cases hb
   exact .inl ⟨rfl,iP hf⟩
  |none=>
   rw[hf] at hb
   simp only at hb
   by_cases h1:i∈ki
   ·simp only[h1,if_true,Option.map_eq_some_iff] at hb
    obtain⟨b0,_,rfl⟩:=hb
    simp[ag.live] at hl
   ·refine .inr ⟨rfl,h1,(iO hf).1,(iO hf).2,?_⟩
    by_cases h2:i∈le
    ·simp only[h1,h2,if_true,if_false,Option.map_eq_some_iff] at hb
     obtain⟨b0,h3,rfl⟩:=hb
     rcases b0.nJ with⟨_,hz⟩|⟨hd,hz⟩
     ·rw[hz] at hl;simp[ag.live] at hl
     ·rw[hz] at hl
      exact⟨b0,h3,hl,by rw[hz],.inl ⟨h2,by rw[hz],hd⟩⟩
    ·simp only[h1,h2,if_false] at hb
     exact⟨b,hb,hl,rfl,.inr ⟨h2,rfl⟩⟩
 have mB:∀{i:Nat} {b:ag} {B:Nat},bA L pl ρ i=pl i∧(bA L pl ρ).d i=pl.d i→bE (bA L pl ρ) i b B→bE pl i b B:=by
  intro i b B e h
  exact h.imp (fun⟨o,h⟩=>⟨o,e.1▸h⟩) (fun⟨h1,h2⟩=>⟨h1,e.2▸h2⟩)
 have mC:∀{i:Nat} {b b0:ag} {B:Nat},bA L pl ρ i=ρ i→(bA L pl ρ).d i=ρ.d i→b0.c=b.c→bE (bA L pl ρ) i b B→bE ρ i b0 B:=by
  intro i b b0 B e1 e2 hc h
  exact h.imp (fun⟨o,h⟩=>⟨o,e1▸h⟩) (fun⟨h1,h2⟩=>⟨by unfold ag.bq at *;rw[hc];exact h1,e2▸h2⟩)
 have cross:∀{i j:Nat} {b c:ag} {B:Nat},find L i=some b→bE pl i b B→find L j=none→¬j∈ki→m j=some c→c.live→bE ρ j c B→False:=by
  intro i j b c B e1 e2 e4 e5 e7 e8 e9
  obtain⟨_,k2,k3⟩:=hold j c B e4 e5 e7 e8 e9
  rcases(hW B (hnew.src i b B e1 e2)).1 with h|h
  ·exact k3 h
  ·omega
 have hone:∀i j b c B,m.aj (app L (app (cj m ki) (bu m le))) i=some b→m.aj (app L (app (cj m ki) (bu m le))) j=some c→b.live→c.live→bE (bA L pl ρ) i b B→bE (bA L pl ρ) j c B→i=j:=by
  intro i j b c B h1 h2 h3 h4 h5 h6
  rcases cL i b h1 h3 with⟨e1,e2⟩|⟨e1,e2,e3,e3',b0,e4,e5,e6,_⟩
  ·rcases cL j c h2 h4 with⟨g1,g2⟩|⟨g1,g2,g3,g3',c0,g4,g5,g6,_⟩
   ·exact hnew.one i j b c B e1 g1 (mB e2 h5) (mB g2 h6)
   ·exact(cross e1 (mB e2 h5) g1 g2 g4 g5 (mC g3 g3' g6 h6)).elim
  ·rcases cL j c h2 h4 with⟨g1,g2⟩|⟨g1,g2,g3,g3',c0,g4,g5,g6,_⟩
   ·exact(cross g1 (mB g2 h6) e1 e2 e4 e5 (mC e3 e3' e6 h5)).elim
   ·exact hm.gM e4 e5 (mC e3 e3' e6 h5) g4 g5 (mC g3 g3' g6 h6)
 have hfzI:∀B,cP m ρ I le B→F.I0 B∨F.w0.heap.size≤B∨F.X0 B:=by
  rintro B (h|⟨id,_,b,o',h1,h2,h3⟩|⟨id,_,b,h1,h2,h3⟩)
  ·exact hm.fI B h
  ·exact .inr (hm.mine id b B o' h1 h2 h3)
  ·exact .inr ((hm.dp id b h1 h2).2 B h3).1
 have cS:∀i b B,m.aj (app L (app (cj m ki) (bu m le))) i=some b→b.live→bE (bA L pl ρ) i b B→F.w0.heap.size≤B∨F.X0 B:=by
  intro i b B h1 h2 h3
  rcases cL i b h1 h2 with⟨e1,e2⟩|⟨e1,e2,e3,e3',b0,e4,e5,e6,_⟩
  ·rcases(hW B (hnew.src i b B e1 (mB e2 h3))).1 with⟨id,_,h⟩|h
   ·exact h.up hm
   ·exact .inl (Nat.le_trans hm.size h)
  ·rcases mC e3 e3' e6 h3 with⟨o,h⟩|⟨h,h'⟩
   ·exact hm.mine i b0 B o e4 e5 h
   ·exact((hm.dp i b0 e4 h).2 B h').1
 refine⟨ha,hk,⟨fun i b hb=>?_,fun i i' b b' B o1 o2 h1 h2 h3 h4 h5 h6=>hone i i' b b' B h1 h2 h3 h4 (.inl ⟨_,h5⟩) (.inl ⟨_,h6⟩),fun B h=>(hIb B h).1,fun B h=>hIa B (.inl (hm.fX B h)),fun B h=>?_,fun i b B o1 h1 h2 h3=>cS i b B h1 h2 (.inl ⟨_,h3⟩),fun i b hb hd=>?_,fun B h1 h2=>?_,Nat.le_trans hm.size hsize,hos.trans hm.os,eL.trans hm.tape,hout.trans hm.output,F.G.mono ha hm.ez⟩⟩
 ·by_cases hl:b.live
  ·rcases cL i b hb hl with⟨h1,_⟩|⟨h1,h2,h3,h3',b0,h4,h5,h6,h7⟩
   ·exact(hnew.blk i b h1).2.2 _ _ hfit
   ·have az:=hm.blk i b0 h4
    rcases h7 with⟨hle',hfz,hnd⟩|⟨hle',rfl⟩
    ·unfold aS at az ⊢
     cases hc:b.c with
     |dead=>trivial
     |deep rs t xs=>exact absurd (by unfold ag.bq;rw[h6,hc];trivial) hnd
     |var t x=>
      rw[h6,hc] at az
      simp only at az ⊢
      obtain⟨q1,B,cs,q2,q3,q4,_⟩:=az
      obtain⟨k1,_,_⟩:=hold i b0 B h1 h2 h4 h5 (.inl ⟨_,q2⟩)
      refine⟨q1,B,cs,h3.trans q2,q3.of_same k1,q4.mono ha hk,?_⟩
      simp only[hfz,true_iff]
      exact hIa B (.inr (.inl ⟨i,hle',b0,0,h4,h5,q2⟩))
     |rows t xs=>
      rw[h6,hc] at az
      simp only at az ⊢
      obtain⟨_,q⟩:=az
      refine⟨trivial,?_⟩
      rcases q with⟨q1,q2⟩|⟨B,o',cs,q1,q2,q3,q4,_⟩
      ·exact .inl ⟨q1,h3.trans q2⟩
      ·obtain⟨k1,_,_⟩:=hold i b0 B h1 h2 h4 h5 (.inl ⟨_,q1⟩)
       refine .inr ⟨B,o',cs,h3.trans q1,q2.of_same k1,q3,q4.mono (fun o=>World.cell?_of_block (w:=w) k1) (fun x vs h=>aa.mono ha h),?_⟩
       simp only[hfz,true_iff]
       exact hIa B (.inr (.inl ⟨i,hle',b0,o',h4,h5,q1⟩))
    ·have g_:∀B,bE ρ i b0 B→w'.heap[B]?=w.heap[B]?∧(I' B→I B):=by
      intro B hO
      obtain⟨k1,k2,k3⟩:=hold i b0 B h1 h2 h4 h5 hO
      refine⟨k1,fun jb=>?_⟩
      rcases(hIb B jb).2 with h|h|h
      ·rcases h with h|⟨id,hid,c,cH,e1,e2,e3⟩|⟨id,hid,c,e1,e2,e3⟩
       ·exact h
       ·have:=hm.gM h4 h5 hO e1 e2 (.inl ⟨_,e3⟩)
        subst this
        exact absurd hid hle'
       ·have:=hm.gM h4 h5 hO e1 (dL e2) (.inr ⟨e2,e3⟩)
        subst this
        exact absurd hid hle'
      ·omega
      ·exact absurd h k3
     exact az.mono ha hk h3 h3' (fun B o' hr _=>g_ B (.inl ⟨o',hr⟩)) (fun hd B hB=>g_ B (.inr ⟨hd,hB⟩))
  ·unfold aS
   unfold ag.live at hl
   cases hc:b.c with
   |dead=>trivial
   |var t x=>simp[hc] at hl
   |rows t xs=>simp[hc] at hl
   |deep rs t xs=>simp[hc] at hl
 ·rcases(hIb B h).2 with h|h|⟨id,_,h⟩
  ·exact hfzI B h
  ·exact .inr (.inl (Nat.le_trans hm.size h))
  ·exact .inr (h.up hm)
 ·have hl:=dL hd
  have hnm:((bA L pl ρ).d i).Nodup∧∀B∈(bA L pl ρ).d i,∀o,bA L pl ρ i≠some (B,o):=by
   rcases cL i b hb hl with⟨e1,e2,e3⟩|⟨e1,e2,e3,e3',b0,e4,e5,e6,_⟩
   ·rw[e2,e3];exact hnew.dn i b e1 hd
   ·rw[e3,e3']
    obtain⟨q1,q2⟩:=hm.dp i b0 e4 (by unfold ag.bq at *;rw[e6];exact hd)
    exact⟨q1,fun B hB o=>(q2 B hB).2.1 i b0 o e4 e5⟩
  refine⟨hnm.1,fun B hB=>⟨cS i b B hb hl (.inr ⟨hd,hB⟩),fun i' b' o h1 h2 h3=>?_,fun i' b' h1 h2 h3=>?_⟩⟩
  ·have:=hone i i' b b' B hb h1 hl h2 (.inr ⟨hd,hB⟩) (.inl ⟨o,h3⟩)
   subst this
   exact hnm.2 B hB o h3
  ·exact(hone i i' b b' B hb h1 hl (dL h2) (.inr ⟨hd,hB⟩) (.inr ⟨h2,h3⟩)).symm
 ·have hnB:¬B∈Bs:=by
   intro h
   obtain⟨id,_,fV⟩:=hBs B h
   rcases fV.up hm with h|h
   ·omega
   ·exact h2 h
  rw[hframe B (Nat.lt_of_lt_of_le h1 hm.size) hnB]
  exact hm.frame B h1 h2
end
end Go.Ab
namespace Go.Ab
section
variable {P:Program} {F:Fix} {C:Cx} {o:Oper} {a:Act} {w w':World} {m:MF} {I I':Nat→Prop} {ρ:Pl} {d:aE}
theorem aa.dQ:∀{t:Ty} {x:t.den} {vs:List Value},t.aK=false→aa w I t x vs→aa w I' t x vs:=by
 intro t
 induction t with
 |lst t _=>intro x vs h;simp[Ty.aK] at h
 |ref t _=>intro x vs h;simp[Ty.aK] at h
 |own t _=>intro x vs _ h;simp only[aa] at h
 |pair a b aI aH=>
  intro x vs h hr
  simp only[Ty.aK,Bool.or_eq_false_iff] at h
  simp only[aa] at hr ⊢
  obtain⟨v1,v2,e,h1,h2⟩:=hr
  exact⟨v1,v2,e,aI h.1 h1,aH h.2 h2⟩
 |arr n t ih=>
  intro x vs h hr
  simp only[aa] at hr ⊢
  exact⟨hr.1,aR.mono (fun x vs hh=>ih h hh) hr.2⟩
 |_=>intro x vs _ h;exact h
theorem bX.dQ (hI:∀B,I' B→I B):∀{t:Ty} {x:t.den} {vs:List Value} {Bs:List Nat},t.aK=false→bX w I t x vs Bs→bX w I' t x vs Bs:=by
 intro t
 induction t with
 |own t _=>
  intro x vs Bs h hr
  obtain⟨ad,cap,e,hl,hr⟩:=hr
  refine⟨ad,cap,e,hl,hr.imp (fun h=>h) ?_⟩
  rintro⟨B,o',cs,h1,h2,h3,h4,h5,h6⟩
  exact⟨B,o',cs,h1,h2,h3,h4.mono (fun _=>rfl) (fun x vs hh=>aa.dQ h hh),fun h=>h5 (hI B h),h6⟩
 |pair a b aI aH=>
  intro x vs Bs h hr
  simp only[Ty.aK,Bool.or_eq_false_iff] at h
  obtain⟨v1,v2,B1,B2,e,eb,h1,h2⟩:=hr
  exact⟨v1,v2,B1,B2,e,eb,aI h.1 h1,aH h.2 h2⟩
 |_=>intro x vs Bs h hr;exact⟨hr.1,aa.dQ h hr.2⟩
theorem br.anti {α:Type}{B sz:Nat}{R R':α→List Value→List Nat→Prop}(hR:∀x vs D,R x vs D→R' x vs D):∀{xs:List α} {off:Nat} {Ds:List Nat},br w B sz R off xs Ds→br w B sz R' off xs Ds
 | [],_,_,h=>h
 |_::_,_,_,⟨cs,D1,D2,e,h1,h2,h3,h4⟩=>⟨cs,D1,D2,e,h1,h2,hR _ _ _ h3,br.anti hR h4⟩
theorem aq.dQ (hI:∀B,I' B→I B):∀{t:Ty} {x:t.den} {vs:List Value} {Bs:List Nat},aq w I t x vs Bs→aq w I' t x vs Bs:=by
 intro t
 induction t with
 |lst t ih=>
  intro x vs Bs hr
  simp only[aq] at hr ⊢
  obtain⟨ad,cap,e,hl,hr⟩:=hr
  refine⟨ad,cap,e,hl,hr.imp (fun h=>h) ?_⟩
  rintro⟨B,o',cs,Ds,h1,h2,h3,h4,h5,h6⟩
  exact⟨B,o',cs,Ds,h1,h2,h3,h4.anti fun x vs D h=>ih h,fun h=>h5 (hI B h),h6⟩
 |pair a b aI aH=>
  intro x vs Bs hr
  simp only[aq] at hr ⊢
  obtain⟨v1,v2,B1,B2,e,eb,h1,h2⟩:=hr
  exact⟨v1,v2,B1,B2,e,eb,aI h1,aH h2⟩
 |own t _=>intro x vs Bs hr;simp only[aq] at hr
 |ref t _=>intro x vs Bs hr;simp only[aq] at hr
 |arr n t _=>intro x vs Bs hr;simp only[aq] at hr ⊢;exact⟨hr.1,hr.2.1,aa.dQ (by simpa[Ty.aK] using hr.2.1) hr.2.2⟩
 |_=>intro x vs Bs hr;simp only[aq] at hr ⊢;exact⟨hr.1,aa.dQ rfl hr.2⟩
theorem kC.dQ (hI:∀B,I' B→I B){r:RV}{v:Value}{Bs:List Nat}(h:r.nV=false)(hr:kC w I r v Bs):kC w I' r v Bs:=by
 cases r with
 |v d=>obtain⟨cs,e,hr⟩:=hr;exact⟨cs,e,hr.dQ hI h⟩
 |d y=>obtain⟨cs,e,hr⟩:=hr;exact⟨cs,e,hr.dQ hI⟩
 |p d=>obtain⟨B,cs,B1,e,hc,hB,hr,e2⟩:=hr;exact⟨B,cs,B1,e,hc,fun h=>hB (hI B h),hr.dQ hI h,e2⟩
theorem fC.dQ (hI:∀B,I' B→I B):∀{outs:List RV} {vs:List Value} {Bs:List Nat},bF RV.nV outs=false→fC w I outs vs Bs→fC w I' outs vs Bs
 | [],[],_,_,h=>h
 | [],_::_,_,_,h=>h
 |_::_,[],_,_,h=>h
 |r::outs,v::vs,Bs,h,hr=>by
  simp only[bF,Bool.or_eq_false_iff] at h
  obtain⟨B1,B2,e,h1,h2⟩:=hr
  exact⟨B1,B2,e,h1.dQ hI h.1,fC.dQ hI h.2 h2⟩
theorem bS.dQ (hI:∀B,I' B→I B):∀{args:List Arg} {vs:List Value} {ds:List DV} {Bs:List Nat},ig args ds=false→bS w w' I args vs ds Bs→bS w w' I' args vs ds Bs:=by
 intro args
 induction args with
 |nil=>intro vs ds Bs h hr;cases ds<;>first|exact hr|(simp only[bS] at hr;done)
 |cons a args ih=>
  intro vs ds Bs h hr
  cases vs with
  |nil=>cases a<;>cases ds<;>simp only[bS] at hr
  |cons v vs=>
  cases a with
  |v d=>simp only[bS] at hr ⊢;exact ih (by simpa only[ig] using h) hr
  |f g d=>simp only[bS] at hr ⊢;exact ih (by simpa only[ig] using h) hr
  |d y=>
   cases ds with
   |nil=>simp only[bS] at hr
   |cons u ds=>
   simp only[ig] at h
   simp only[bS] at hr ⊢
   obtain⟨cs,B1,B2,e1,e2,e3,e4,e5,e6⟩:=hr
   exact⟨cs,B1,B2,e1,e2,e3.dQ hI,e4,e5,ih h e6⟩
  |p d=>
   cases ds with
   |nil=>simp only[bS] at hr
   |cons u ds=>
   simp only[ig,Bool.or_eq_false_iff] at h
   simp only[bS] at hr ⊢
   obtain⟨B,cs,B1,B2,e1,e2,e3,e4,e5,e6,e7⟩:=hr
   exact⟨B,cs,B1,B2,e1,e2,fun h=>e3 (hI B h),e4,e5.dQ hI h.1,e6,ih h.2 e7⟩
  |m t xs=>
   cases ds with
   |nil=>simp only[bS] at hr
   |cons u ds=>
   simp only[ig,Bool.or_eq_false_iff] at h
   simp only[bS] at hr ⊢
   obtain⟨ys,B1,B2,e1,e2,e3,e4,e5,e6⟩:=hr
   subst e1
   exact⟨ys,B1,B2,rfl,e2,e3.dQ hI h.1,e4,e5,ih h.2 e6⟩
end
end Go.Ab
namespace Go.Ab
section
variable {P:Program} {F:Fix} {C:Cx} {o:Oper} {a:Act} {w w':World} {m:MF} {I I':Nat→Prop} {ρ:Pl} {d:aE}
theorem cB.app {α β:Type}{R:α→β→Prop}:∀{l1 l2:List α} {k1 k2:List β},cB R l1 k1→cB R l2 k2→cB R (Ab.app l1 l2) (k1++k2)
 | [],_,_,_,h,h'=>by cases h;exact h'
 |_::_,_,_,_,h,h'=>by cases h with | cons h1 h2=>exact .cons h1 (h2.app h')
theorem uq:∀{c:AT} {vs:List Value},jW c=true→af w I m ρ c vs→cB (au w I m ρ) (ic c) vs:=by
 intro c
 induction c with
 |bB l r _ ihr=>
  intro vs h hr
  simp only[jW,Bool.and_eq_true] at h
  simp only[af] at hr
  obtain⟨v,vs',rfl,h1,h2⟩:=hr
  refine .cons ?_ (ihr h.2 h2)
  have hsl:l.slot=true:=by cases l<;>first|rfl|exact h.1
  refine(jM hsl).2 ?_
  unfold aB
  have:l.isAgg=false:=by
   cases l<;>simp[AT.one] at h<;>first|rfl|(simp[AT.isAgg];exact h.1)
  simpa[this] using h1
 |b7=>intro vs _ hr;simp only[af] at hr;subst hr;exact .nil
 |_=>intro vs h hr;simp[jW] at h
theorem tI:∀{l:List AT} {vs:List Value},cB (fun x v=>x.slot=true∧au w I m ρ x v) l vs→cD w I m ρ (k_ l) vs
 | [],_,h=>by cases h;rfl
 |_::_,_,h=>by
  cases h with
  |cons h1 h2=>exact⟨_,_,rfl,(jM h1.1).1 h1.2,tI h2⟩
structure dD (P:Program) (G:gC) (C:Cx):Prop where
 fns:∀f b6 den,find C.fns f=some (b6,den)→(∀(args:Array Value) (w:World),(callFunc f args).run P w = .ok (.enter f args) w) ∧
  ∀args r,den args=some r→(∀b∈r.ok,b=true)→Holds P G f args r
 gl:∀g d,find C.gl g=some d→∀w I,G.ok w I→aa w I (.ref d.t) d.x [.pointer (some ⟨g,0,none⟩)]
end
end Go.Ab
namespace Go.Ab
section
variable {P:Program} {F:Fix} {C:Cx} {o:Oper} {a:Act} {w w':World} {m:MF} {I I':Nat→Prop} {ρ:Pl} {d:aE}
theorem wk {outs:List RV}{v:Value}{Ys:List Nat}{n:Nat}(h:jR w I outs v Ys)(hnd:Ys.Nodup) :
  ∃pl:Pl,a_ w I (bW m outs n).2 Ys pl∧(∀i b,find (bW m outs n).2 i=some b→n≤i∧b.st=aU m i) ∧
   ∀m' ρ',Fits (bW m outs n).2 pl m' ρ'→au w I m' ρ' (oneOf (bW m outs n).1) v:=by
 have hlen:∀{outs:List RV} {n:Nat},(bW m outs n).1.length=outs.length:=by
  intro outs
  induction outs with
  |nil=>intro n;rfl
  |cons r outs ih=>intro n;cases r<;>simp[bW,ih]
 match outs,h with
 | [r],h=>
  have h':fC w I [r] [v] Ys:=⟨Ys,[],by simp,h,rfl⟩
  obtain⟨pl,h1,h2,h3⟩:=qb m n h' hnd
  refine⟨pl,h1,h2,fun m' ρ' hf=>?_⟩
  have h4:=h3 m' ρ' hf
  generalize (bW m [r] n).1=l at h4
  cases h4 with
  |cons h5 h6=>cases h6;exact h5.2
 | [],h=>
  obtain⟨arr,rfl,h'⟩:=h
  obtain⟨pl,h1,h2,h3⟩:=qb m n h' hnd
  refine⟨pl,h1,h2,fun m' ρ' hf=>?_⟩
  have h4:=h3 m' ρ' hf
  have h5:arr.toList = []:=by
   cases ha:arr.toList with
   |nil=>rfl
   |cons x l=>rw[ha] at h';simp[fC] at h'
  have:arr = #[]:=by apply Array.ext';simpa using h5
  subst this
  rfl
 |r::r2::outs,h=>
  obtain⟨arr,rfl,h'⟩:=h
  obtain⟨pl,h1,h2,h3⟩:=qb m n h' hnd
  refine⟨pl,h1,h2,fun m' ρ' hf=>?_⟩
  have h4:=tI (h3 m' ρ' hf)
  have hl:=hlen (outs:=r::r2::outs) (n:=n)
  generalize (bW m (r::r2::outs) n).1=l at h4 hl
  match l,hl with
  |x::y::l,_=>exact⟨arr,rfl,h4⟩
end
end Go.Ab
namespace Go.Ab
section
variable {P:Program} {F:Fix} {C:Cx} {o:Oper} {a:Act} {w w':World} {m:MF} {I I':Nat→Prop} {ρ:Pl} {d:aE}
theorem uf {l l':List Nat}(h:ni l l'=true):∀i∈l,¬i∈l':=by
 induction l with
 |nil=>simp
 |cons x l ih=>
  simp only[ni,cn,Bool.and_eq_true,Bool.not_eq_true'] at h
  intro i hi
  rcases List.mem_cons.1 hi with e|hi
  ·subst e
   intro hin
   rw[jw.2 hin] at h
   simp at h
  ·exact ih h.2 i hi
theorem uR {g:Operand}{f:FuncId}{caps:AT}{args:Array Operand}{ts:Array Nat}{as:List AT}{dst:Nat}(hC:dD P F.G C)(ho:o.op = .call ⟨.value g,args,ts⟩)(hm:aD F m w I ρ)
  (hg:au w I m ρ (.fn f caps) (a.eval g)) (hs:cB (au w I m ρ) as (args.toList.map a.eval)) (hcaps:jW caps=true)
  (hd:oU C m dst f (app as (ic caps))=some d) (hok:∀b∈d.ok,b=true):aA P F o a w m I ρ d:=by
 have hg':=bQ (a:=.fn f caps) rfl hg (by simp) (by simp) (by simp) (by simp)
 simp only[af,List.cons.injEq,and_true] at hg'
 obtain⟨cv,hgv,hcv⟩:=hg'
 have hall:=cB.app hs (uq hcaps hcv)
 unfold oU at hd
 split at hd
 ·simp at hd
 ·rename_i b6 den hfn
  obtain⟨hent,hden⟩:=hC.fns f b6 den hfn
  generalize app as (ic caps)=xs at hd hall
  cases hch:nodup (app (dm b6 xs) (eD m b6 xs))&&ni (eO m b6 xs) (app (dm b6 xs) (eD m b6 xs)) with
  |false=>simp[hch] at hd
  |true=>
  simp only[hch,cond_true] at hd
  simp only[Bool.and_eq_true,jI,bK] at hch
  have hap:=uf hch.2
  split at hd
  ·simp at hd
  ·rename_i ar har
   split at hd
   ·simp at hd
   ·rename_i r hdr
    split at hd
    ·simp at hd
    ·rename_i u hu
     obtain⟨hk,hd⟩:=aQ hd
     cases hd
     rw[jI,gJ] at hk
     obtain⟨kd1,kd2,kd3⟩:=nR hk
     have hown:∀id∈dm b6 xs++eD m b6 xs,∀B,aM m ρ id B→¬cP m ρ I (eO m b6 xs) B:=by
      rintro id hid B bG (hI|⟨j,hj,bj,oj,k1,k2,k3⟩|⟨j,hj,bj,k1,k2,k3⟩)
      ·exact bG.gx hm hI
      ·obtain⟨b,h1,h2,h3,h4⟩:=bG
       have:=hm.gM h1 h2 h4 k1 k2 (.inl ⟨_,k3⟩)
       subst this
       exact hap id hj hid
      ·obtain⟨b,h1,h2,h3,h4⟩:=bG
       have:=hm.gM h1 h2 h4 k1 (dL k2) (.inr ⟨k2,k3⟩)
       subst this
       exact hap id hj hid
     have hlent:∀id∈eO m b6 xs,∀b B,m id=some b→b.live→bE ρ id b B→cP m ρ I (eO m b6 xs) B:=by
      rintro id hi b B h1 h2 (⟨o',h3⟩|⟨h3,h4⟩)
      ·exact .inr (.inl ⟨id,hi,b,o',h1,h2,h3⟩)
      ·exact .inr (.inr ⟨id,hi,b,h1,h3,h4⟩)
     obtain⟨Bs,Ks,hargs,hBK,nK,hcont⟩:=uo (I':=cP m ρ I (eO m b6 xs)) hm (fun _ h=>.inl h) har hall hlent hown hch.1
     have lP:=List.nodup_append.1 hBK
     have hBnd:=lP.1
     have hBnot:∀B∈Bs++Ks,¬cP m ρ I (eO m b6 xs) B:=by
      intro B hB
      obtain⟨id,hid,bG⟩:=nK B hB
      exact hown id hid B bG
     have hBlt:∀B∈Bs++Ks,B<w.heap.size:=by
      intro B hB
      obtain⟨id,hid,bG⟩:=nK B hB
      exact bG.lt hm
     have j0:=hden ar r hdr hok w (cP m ρ I (eO m b6 xs)) _ Bs (aC.freeze hm _).mem.aV (aC.freeze hm _).mem.ez hargs hBnd (fun B hB=>hBnot B (List.mem_append_left _ hB))
     intro K Q hK
     have ec:(execOp a.eval o).run P w = .ok (.enter f (args.toList.map a.eval++cv.toList).toArray) w:=by
      have:args.map a.eval++cv=(args.toList.map a.eval++cv.toList).toArray:=by apply Array.ext';simp
      simp[execOp,ho,resolve,hgv,Deferred.ofValue,invoke,hent]
     unfold Oper.wp
     rw[ec,Oper.upon_enter]
     refine Calls.mono j0 fun e w' he=>?_
     obtain⟨v,I',Ys,Zs,rfl,hO,hU,hYZ,hW,hag,jb,hfr,hsz,hos,htp,hout⟩:=he
     simp only
     have hYn:=List.nodup_append.1 hYZ
     have gf:∀B∈Ks,w'.heap[B]?=w.heap[B]? :=fun B hB=>hfr B (hBlt B (List.mem_append_right _ hB)) fun h=>lP.2.2 B h B hB rfl
     have hKn:∀B∈Ks,¬I' B:=by
      intro B hB hIB
      rcases(jb B hIB).2 with h|h|h
      ·exact hBnot B (List.mem_append_right _ hB) h
      ·have:=hBlt B (List.mem_append_right _ hB);omega
      ·exact lP.2.2 B h B hB rfl
     have hYK:∀B∈Ys++Zs,∀B'∈Ks,B≠B':=by
      rintro B hB B' aY rfl
      rcases(hW B hB).1 with h|h
      ·exact lP.2.2 B h B aY rfl
      ·have:=hBlt B (List.mem_append_right _ aY);omega
     have hZK:(Zs++Ks).Nodup:=List.nodup_append.2 ⟨hYn.2.1,lP.2.1,fun B hB B' aY=>hYK B (List.mem_append_right _ hB) B' aY⟩
     have fin:∀(I2:Nat→Prop) (le2:List Nat),(∀i∈le2,i∈eO m b6 xs)→jR w' I2 r.outs v Ys→bS w w' I2 ar (args.toList.map a.eval++cv.toList) r.iU Zs→(∀B,I2 B→I' B)→(∀B,cP m ρ I le2 B→I2 B) →
       (∀B,I2 B→cP m ρ I le2 B∨w.heap.size≤B∨B∈Bs) →
       ∃ρ',aC F m (m.aj (app (app (bW m r.outs ((dst+1)*1000)).2 u) (app (cj m (eD m b6 xs)) (bu m le2)))) w w' I I2 ρ ρ' ∧
        au w' I2 (m.aj (app (app (bW m r.outs ((dst+1)*1000)).2 u) (app (cj m (eD m b6 xs)) (bu m le2)))) ρ' (oneOf (bW m r.outs ((dst+1)*1000)).1) v:=by
      intro I2 le2 nN hO2 hU2 hsub hIa hIb
      have hag0:∀B,I B→w'.heap[B]?=w.heap[B]? :=fun B h=>hag.same B (.inl h)
      have hagr:bD I I2 w w':=⟨fun B h=>hIa B (.inl h),hag0⟩
      obtain⟨p1,n1,n2,n3⟩:=wk (m:=m) (n:=(dst+1)*1000) hO2 hYn.1
      obtain⟨p2,Ws,u1,us,u2,u3⟩:=hcont w' I2 r.iU u Zs hagr hu hU2 hZK kd2 (fun B hB hI=>by
       rcases List.mem_append.1 hB with h|h
       ·exact(hW B (List.mem_append_right _ h)).2 (hsub B hI)
       ·exact hKn B h (hsub B hI)) gf
      have hnew:=a_.app n1 u1 (fun B hB B' aY=>by
       rcases List.mem_append.1 (us B' aY) with h|h
       ·exact hYn.2.2 B hB B' h
       ·exact hYK B (List.mem_append_left _ hB) B' h) kd3
      have hA:∀i b,find (app (bW m r.outs ((dst+1)*1000)).2 u) i=some b→b.st=aU m i∨(i∈dm b6 xs∧fQ m ρ w w' (bA (bW m r.outs ((dst+1)*1000)).2 p1 p2) i b):=by
       intro i b hb
       rw[b9] at hb
       split at hb
       ·rename_i b' hb'
        cases hb
        exact .inl (n2 i b hb').2
       ·rename_i hno
        exact(u2 i b hb).imp id fun h=>⟨h.1,h.2.to (iO hno).1⟩
      have hB:∀i∈dm b6 xs,∃b,find (app (bW m r.outs ((dst+1)*1000)).2 u) i=some b:=by
       intro i hi
       obtain⟨b,hb,_⟩:=u3 i hi
       have hno:find (bW m r.outs ((dst+1)*1000)).2 i=none:=by
        cases hf:find (bW m r.outs ((dst+1)*1000)).2 i with
        |none=>rfl
        |some c=>exact(kd3 i c b hf hb).elim
       exact⟨b,by rw[b9,hno];exact hb⟩
      have hBs':∀B∈Bs,∃id∈dm b6 xs++eD m b6 xs,aM m ρ id B:=fun B hB=>nK B (List.mem_append_left _ hB)
      obtain⟨c1,c2⟩:=aC.called (le:=le2) hm (fun i hi=>hap i (nN i hi)) hBs' hnew hA hB (fun B hB=>by
        have eC:B∈Ys++Zs∨B∈Ks:=by
         rcases List.mem_append.1 hB with h|h
         ·exact .inl (List.mem_append_left _ h)
         ·rcases List.mem_append.1 (us B h) with h|h
          ·exact .inl (List.mem_append_right _ h)
          ·exact .inr h
        rcases eC with h|h
        ·exact⟨(hW B h).1.imp (hBs' B) id,fun hI=>(hW B h).2 (hsub B hI)⟩
        ·exact⟨.inl (nK B (List.mem_append_right _ h)),fun hI=>hKn B h (hsub B hI)⟩) hIa hag0
       (fun B hB=>⟨(jb B (hsub B hB)).1,(hIb B hB).imp id (Or.imp id (hBs' B))⟩) hfr hsz hos htp hout
      exact⟨_,c1,n3 _ _ (Fits.left c2)⟩
     have hass:∀{x y z:List (Nat×ag)},app (app x y) z=app x (app y z):=by intro x y z;simp[bK]
     cases hkp:bF RV.nV r.outs || ig ar r.iU with
     |true=>
      obtain⟨ρ',f1,f2⟩:=fin I' (eO m b6 xs) (fun _ h=>h) hO hU (fun _ h=>h) (fun B h=>hag.sub B h) (fun B h=>(jb B h).2)
      rw[hass] at f1 f2
      exact hK v w' I' ρ' (by simpa only[hkp,cond_true] using f1) (by simpa only[hkp,cond_true] using f2)
     |false=>
      simp only[Bool.or_eq_false_iff] at hkp
      have hsub:∀B,I B→I' B:=fun B h=>hag.sub B (.inl h)
      have hO2:jR w' I r.outs v Ys:=by
       have hO':=hO
       unfold jR at hO' ⊢
       split
       ·rename_i x hx
        rw[hx] at hO' hkp
        simp only[bF,Bool.or_false] at hkp
        exact hO'.dQ hsub hkp.1
       ·rename_i hx
        split at hO'
        ·rename_i x hx2;exact absurd hx2 (hx x)
        ·obtain⟨arr,e,h⟩:=hO'
         exact⟨arr,e,h.dQ hsub hkp.1⟩
      obtain⟨ρ',f1,f2⟩:=fin I [] (fun _ h=>by simp at h) hO2 (hU.dQ hsub hkp.2) hsub (fun B h=>by
       rcases h with h|⟨_,h,_⟩|⟨_,h,_⟩
       ·exact h
       ·simp at h
       ·simp at h) (fun B h=>.inl (.inl h))
      rw[hass] at f1 f2
      exact hK v w' I ρ' (by simpa only[hkp,Bool.or_false,cond_false,bu,c_] using f1) (by simpa only[hkp,Bool.or_false,cond_false,bu,c_] using f2)
end
end Go.Ab
namespace Go.Ab
section
variable {P:Program} {F:Fix} {C:Cx} {o:Oper} {a:Act} {w w':World} {m:MF} {I I':Nat→Prop} {ρ:Pl} {d:aE}
theorem a_.deep {id st rs B o:Nat}{t:Ty}{zs:List t.den}{Ds:List Nat}{cs:List Value}(hc:Cells w B cs)(hl:o+zs.length*t.size≤cs.length)(hr:br w B t.size (aq w I t) o zs Ds)(hI:¬I B)(hnd:(B::Ds).Nodup) :
  a_ w I [(id,⟨st,false,.deep rs t zs⟩)] (B::Ds) ⟨fun _=>some (B,o),fun _=>Ds⟩:=by
 have hnc:=List.nodup_cons.1 hnd
 refine⟨fun i b hf=>?_,fun i b C hf hO=>?_,fun i j b c C hf hf' _ _=>(eH hf).1.symm.trans (eH hf').1,fun i b hf _=>⟨hnc.2,fun C hC o2 he=>?_⟩⟩
 ·obtain⟨rfl,rfl⟩:=eH hf
  refine⟨rfl,trivial,fun m' ρ' hfit=>?_⟩
  obtain⟨_,k2,k3⟩:=hfit id _ (by rw[aG,if_pos rfl])
  simp only[aS]
  exact⟨trivial,.inr ⟨B,o,cs,k2,hc,hl,by rw[k3];exact hr,hI⟩⟩
 ·obtain⟨rfl,rfl⟩:=eH hf
  rcases hO with⟨o2,hO⟩|⟨_,hO⟩
  ·cases hO;exact List.mem_cons_self
  ·exact List.mem_cons_of_mem _ hO
 ·cases he
  exact hnc.1 hC
theorem a_.deep0 {id st rs:Nat}{t:Ty}:a_ w I [(id,⟨st,false,.deep rs t []⟩)] [] ⟨fun _=>none,fun _=>[]⟩:=by
 refine⟨fun i b hf=>?_,fun i b C hf hO=>?_,fun i j b c C hf hf' _ _=>(eH hf).1.symm.trans (eH hf').1,fun i b hf _=>⟨by simp,by simp⟩⟩
 ·obtain⟨rfl,rfl⟩:=eH hf
  refine⟨rfl,trivial,fun m' ρ' hfit=>?_⟩
  obtain⟨_,k2,k3⟩:=hfit id _ (by rw[aG,if_pos rfl])
  simp only[aS]
  exact⟨trivial,.inl ⟨trivial,k2,k3⟩⟩
 ·rcases hO with⟨o2,hO⟩|⟨_,hO⟩
  ·cases hO
  ·simp at hO
theorem mM {m':MF}{ρ':Pl}{id st rs B o cap:Nat}{t:Ty}{zs:List t.den}{cs:List Value}{n:Nat}(hm':m' id=some ⟨st,false,.deep rs t zs⟩)(jl:ρ' id=some (B,o))(hn:n=zs.length)(hl:n≤cap)(hc:Cells w B cs)(hcap:o+cap*t.size≤cs.length) :
  au w I m' ρ' (.whole id st t) (.slice (some ⟨B,o,none⟩) n cap):=by
 subst hn
 show aB _ _ _ _ _ _
 unfold aB
 simp only[AT.isAgg,Bool.false_eq_true,if_false,af]
 refine⟨⟨_,rfl,rfl⟩,bR.of hm' rfl,fun b hb' hs' t' k aJ=>?_⟩
 rw[hm'] at hb'
 cases hb'
 cases aJ
 exact⟨_,cap,rfl,hl,.inr ⟨B,o,cs,jl,rfl,hc,hcap⟩⟩
theorem tG {m':MF}{ρ':Pl}{id st rs:Nat}{t:Ty}(hm':m' id=some ⟨st,false,.deep rs t []⟩)(jl:ρ' id=none):au w I m' ρ' (.whole id st t) (.slice none 0 0):=by
 show aB _ _ _ _ _ _
 unfold aB
 simp only[AT.isAgg,Bool.false_eq_true,if_false,af]
 refine⟨⟨_,rfl,rfl⟩,bR.of hm' rfl,fun b hb' hs' t' k aJ=>?_⟩
 rw[hm'] at hb'
 cases hb'
 cases aJ
 exact⟨none,0,rfl,Nat.le_refl _,.inl ⟨rfl,rfl,jl⟩⟩
theorem br.cells {α:Type}{B sz:Nat}{R:α→List Value→List Nat→Prop}:∀{xs:List α} {off:Nat} {Ds:List Nat},br w B sz R off xs Ds →
  ∃cs:List Value,cs.length=xs.length*sz∧(∀j,j<cs.length→w.cell? ⟨B,off+j,none⟩=cs[j]?)∧((∀x vs D,R x vs D→∀v∈vs,v.oneCell'=true)→∀v∈cs,v.oneCell'=true) ∧
   ∀(w':World) (B' off':Nat) (R':α→List Value→List Nat→Prop),(∀j,j<cs.length→w'.cell? ⟨B',off'+j,none⟩=cs[j]?)→(∀x vs D,(∀b∈D,b∈Ds)→R x vs D→R' x vs D)→br w' B' sz R' off' xs Ds
 | [],off,Ds,h=>⟨[],by simp,fun j hj=>by simp at hj,fun _=>by simp,fun _ _ _ _ _ _=>h⟩
 |x::xs,off,Ds,h=>by
  obtain⟨cs,D1,D2,e,h1,h2,h3,h4⟩:=h
  subst e
  obtain⟨ds,k1,k2,k3,k4⟩:=br.cells h4
  refine⟨cs++ds,by simp[h1,k1,Nat.add_mul];omega,fun j hj=>?_,fun hR v hv=>?_,fun w' B' off' R' hc hR=>?_⟩
  ·by_cases je:j<sz
   ·rw[List.getElem?_append_left (by omega),←h2 j je]
   ·simp only[List.length_append] at hj
    have:=k2 (j-sz) (by omega)
    rw[List.getElem?_append_right (by omega),h1,←this]
    congr 2
    omega
  ·rcases List.mem_append.1 hv with h|h
   ·exact hR _ _ _ h3 v h
   ·exact k3 hR v h
  ·refine⟨cs,D1,D2,rfl,h1,fun j hj=>?_,hR _ _ _ (fun b hb=>List.mem_append_left _ hb) h3,k4 w' B' (off'+sz) R' (fun j hj=>?_) (fun x vs D hD=>hR x vs D fun b hb=>List.mem_append_right _ (hD b hb))⟩
   ·rw[hc j (by simp;omega),List.getElem?_append_left (by omega)]
   ·have:=hc (sz+j) (by simp;omega)
    rw[←Nat.add_assoc] at this
    rw[this,List.getElem?_append_right (by omega),h1]
    congr 1
    omega
theorem xJ {w w':World}{B:Nat}(h:w'.heap[B]?=w.heap[B]?)(k:Nat):w'.cell? ⟨B,k,none⟩=w.cell? ⟨B,k,none⟩:=World.cell?_of_block (w:=w) h
theorem xI:∀{t:Ty},t.iY=true→(∀{T:Nat},aF P t T→aq w I t t.dflt (aX t) [])∧(∀{fs off},bO P t fs off→aq w I t t.dflt (aX t) []):=by
 intro t
 induction t with
 |unit=>intro _;exact⟨fun _=>aq.eF rfl rfl,fun _=>aq.eF rfl rfl⟩
 |bool=>intro _;exact⟨fun _=>aq.eF rfl rfl,fun _=>aq.eF rfl rfl⟩
 |int k=>intro _;exact⟨fun _=>aq.eF rfl rfl,fun _=>aq.eF rfl rfl⟩
 |str=>intro _;exact⟨fun _=>aq.eF rfl rfl,fun _=>aq.eF rfl rfl⟩
 |lst u _=>
  intro _
  have:aq w I (.lst u) (Ty.dflt (.lst u)) (aX (.lst u)) []:=by
   simp only[aq]
   exact⟨none,0,rfl,Nat.le_refl _,.inl ⟨rfl,rfl,trivial⟩⟩
  exact⟨fun _=>this,fun _=>this⟩
 |own u _=>intro h;simp[Ty.iY] at h
 |pair x y fW gH=>
  intro h
  simp only[Ty.iY,Bool.and_eq_true] at h
  refine⟨fun {T} hT=>?_,fun {fs off} hF=>?_⟩
  ·unfold aF at hT
   simp only[TO] at hT
   obtain⟨_,fs,_,f,l,_,_,h1,h2⟩:=hT
   simp only[aq]
   exact⟨_,_,[],[],rfl,rfl,(fW h.1).1 h1,(gH h.2).2 h2⟩
  ·unfold bO at hF
   simp only[TO] at hF
   obtain⟨f,l,_,_,h1,h2⟩:=hF
   simp only[aq]
   exact⟨_,_,[],[],rfl,rfl,(fW h.1).1 h1,(gH h.2).2 h2⟩
 |arr n u ih=>
  intro h
  simp only[Ty.iY,Bool.and_eq_true,Bool.not_eq_true'] at h
  refine⟨fun {T} hT=>?_,fun {fs off} hF=>by unfold bO at hF;simp only[TO] at hF⟩
  exact aq.eF (by simpa[Ty.aK] using h.2) ((oE (P:=P) (t:=.arr n u) (by simp[Ty.gX])).1 hT)
 |ref u _=>intro h;simp[Ty.iY] at h
theorem ue {t:Ty}{x:t.den}{z:List Value}{B:Nat}(hz:aq w I t x z []):∀(n off:Nat),(∀j,j<n*z.length→w.cell? ⟨B,off+j,none⟩=((List.replicate n z).flatten)[j]?) →
  br w B t.size (aq w I t) off (List.replicate n x) []
 |0,_,_=>rfl
 |n+1,off,h=>by
  have hl:=aq.length hz
  have hfl:((List.replicate n z).flatten).length=n*z.length:=by simp
  rw[List.replicate_succ]
  refine⟨z,[],[],rfl,hl,fun j hj=>?_,hz,ue hz n (off+t.size) fun j hj=>?_⟩
  ·rw[h j (by rw[Nat.add_mul];omega),List.replicate_succ,List.flatten_cons,List.getElem?_append_left (by omega)]
  ·have:=h (t.size+j) (by rw[Nat.add_mul];omega)
   rw[←Nat.add_assoc] at this
   rw[this,List.replicate_succ,List.flatten_cons,List.getElem?_append_right (by omega),hl]
   congr 1
   omega
theorem oG {B:Nat}:cP m ρ I [] B→I B:=by
 rintro(h|⟨_,h,_⟩|⟨_,h,_⟩)
 ·exact h
 ·simp at h
 ·simp at h
theorem aC.lB {id st rs B o:Nat}{t:Ty}{zs:List t.den}{Ds ki Bs:List Nat}{cs:List Value}(hm:aD F m w I ρ)(hst:st=aU m id)
  (hc:Cells w' B cs) (hl:o+zs.length*t.size≤cs.length) (hr:br w' B t.size (aq w' I t) o zs Ds) (hnd:(B::Ds).Nodup)
  (hW:∀b∈B::Ds,((∃i∈ki,aM m ρ i b)∨w.heap.size≤b)∧¬I b) (hBs:∀b∈Bs,∃i∈ki,aM m ρ i b)
  (hframe:∀b,b<w.heap.size→¬b∈Bs→w'.heap[b]?=w.heap[b]?) (hsize:w.heap.size≤w'.heap.size) (hos:w'.os=w.os) (eL:w'.tape=w.tape) (hout:w'.output=w.output) :
  ∃ρ',aC F m (m.aj (app [(id,⟨st,false,.deep rs t zs⟩)] (app (cj m ki) (bu m [])))) w w' I I ρ ρ'∧ρ' id=some (B,o)∧(m.aj (app [(id,⟨st,false,.deep rs t zs⟩)] (app (cj m ki) (bu m [])))) id=some ⟨st,false,.deep rs t zs⟩:=by
 have hnew:=a_.deep (id:=id) (st:=st) (rs:=rs) hc hl hr (hW B List.mem_cons_self).2 hnd
 obtain⟨h1,h2⟩:=aC.called (ke:=[]) (ki:=ki) (le:=[]) (Bs:=Bs) hm (by simp) (by simpa using hBs) hnew (fun i b hf=>by
   obtain⟨rfl,rfl⟩:=eH hf
   exact .inl hst) (by simp) (by simpa using hW) (fun _ h=>oG h) (fun b hI=>hframe b (hm.aV b hI) fun hb=>by
   obtain⟨i,_,h⟩:=hBs b hb
   exact h.gx hm hI) (fun b hI=>⟨Nat.lt_of_lt_of_le (hm.aV b hI) hsize,.inl (.inl hI)⟩) hframe hsize hos eL hout
 obtain⟨h3,h4,_⟩:=h2 id _ (by rw[aG,if_pos rfl])
 exact⟨_,h1,h4,h3⟩
theorem u7 {T:Nat}{xl xc:Operand}{al ac:AT}{l c:Int}{dst:Nat}(hC:bH P C)(ho:o.op = .makeSlice T xl xc)(hm:aD F m w I ρ)(hl:au w I m ρ al (a.eval xl))(hc:au w I m ρ ac (a.eval xc))
  (hil:fh al=some l) (hic:fh ac=some c) (hd:kT C m dst T l c=some d) (hok:∀b∈d.ok,b=true):aA P F o a w m I ρ d:=by
 cases hel:C.el T with
 |none=>simp[kT,hel] at hd
 |some t=>
 cases bL:C.dp&&t.aK with
 |false=>exact u9 hC ho hm hl hc hil hic (fun t' ht'=>by rw[hel] at ht';cases ht';exact bL) hd hok
 |true=>
  obtain⟨kl,jf⟩:=gI hil hl
  obtain⟨kc,hkc⟩:=gI hic hc
  unfold kT at hd
  rw[hel] at hd
  obtain⟨hz,hd⟩:=aQ hd
  rw[bL,cond_true] at hd
  cases hd
  simp only[Bool.and_eq_true,Bool.or_eq_true,Bool.not_eq_true'] at hz bL
  have hdok:t.iY=true:=by rcases hz.2 with h|h;exact h;rw[h] at bL;cases bL.1
  simp only[List.mem_cons,List.not_mem_nil,or_false,forall_eq_or_imp,forall_eq,decide_eq_true_eq] at hok
  obtain⟨h0,hlc,hmax⟩:=hok
  obtain⟨E,h1,h2,h3⟩:=hC.el hel
  obtain⟨i0,g1,g2,g3,g4⟩:=h3.info.info
  obtain⟨z1,z2⟩:=ju (w:=w) (I:=I) (m:=m) (ρ:=ρ) h3
  have eM:=eW h3 (z1.length z2) (af.bV z1 z2)
  have hzl:=z1.length z2
  have hmx:c≤34359738368:=by unfold dh at hmax;omega
  have hb:(i0.bytes:Int)*c≤281474976710656:=by
   have h5:(i0.bytes:Int)≤4096:=by omega
   have:=Int.mul_le_mul h5 hmx (by omega) (by omega)
   omega
  have hrun:=run_make (P:=P) w T E i0 _ h1 g1 g3 kl kc l c h0 hlc hb (by omega)
  have hcells:madeCells (aL t (aX t)).cells (c.toNat*i0.size)=((List.replicate l.toNat (aX t)).flatten++(List.replicate (c.toNat-l.toNat) (aX t)).flatten).toArray:=by
   apply Array.ext'
   rw[eM,g2,←hzl,me,←List.flatten_append,List.replicate_append_replicate,show l.toNat+(c.toNat-l.toNat)=c.toNat by omega]
  rw[hcells] at hrun
  generalize hcs:(List.replicate l.toNat (aX t)).flatten++(List.replicate (c.toNat-l.toNat) (aX t)).flatten=cs at hrun
  have bI:cs.length=c.toNat*t.size:=by
   rw[←hcs]
   simp only[List.length_append,List.length_flatten,List.map_replicate,List.sum_replicate_nat,hzl]
   rw[←Nat.add_mul]
   congr 1
   omega
  have fc:Cells (w.alloc (.cells cs.toArray E)) w.heap.size cs:=by simpa using Cells.alloc w cs.toArray E
  have hrows:br (w.alloc (.cells cs.toArray E)) w.heap.size t.size (aq (w.alloc (.cells cs.toArray E)) I t) 0 (List.replicate l.toNat t.dflt) []:=by
   refine ue ((xI (P:=P) hdok).1 h3) l.toNat 0 fun j hj=>?_
   rw[Nat.zero_add,fc.cell,←hcs,List.getElem?_append_left (by simpa using hj)]
  obtain⟨ρ',hd1,iF,hd3⟩:=aC.lB (id:=dst) (rs:=0) (o:=0) (ki:=[]) (Bs:=[]) hm rfl fc (by
    simp only[List.length_replicate,bI,Nat.zero_add]
    exact Nat.mul_le_mul_right _ (by omega)) hrows (by simp) (fun b hb=>by
    simp only[List.mem_singleton] at hb
    subst hb
    exact⟨.inr (Nat.le_refl _),fun hI=>absurd (hm.aV _ hI) (Nat.lt_irrefl _)⟩) (by simp) (fun b hb _=>heap_alloc_old w _ b hb) (by simp) rfl rfl rfl
  refine aA.world (v:=.slice (some ⟨w.heap.size,0,none⟩) l.toNat c.toNat) (w':=w.alloc (.cells cs.toArray E)) (by simp only[execOp,ho,jf,hkc,Sem.run_bind,hrun,Result.andThen_ok];rfl) hd1 ?_
  exact mM hd3 iF (by simp) (by omega) fc (by rw[bI];omega)
theorem xk:∀{v:AT} {u:Ty} {y:DV},Typed v u→dA m v=some y→y.t=u:=by
 intro v
 induction v with
 |leaf t x=>intro u y h hv;simp only[dA] at hv;cases hl:t.aK<;>rw[hl] at hv<;>simp at hv;subst hv;exact h
 |nil t=>intro u y h hv;simp only[dA,Option.some.injEq] at hv;subst hv;exact h.symm
 |whole id st t=>intro u y h hv;simp only[dA,Option.map_eq_some_iff] at hv;obtain⟨r,_,rfl⟩:=hv;exact h.symm
 |pair l r ihl ihr=>
  intro u y h hv
  simp only[Typed] at h
  obtain⟨a,b,rfl,h1,h2⟩:=h
  simp only[dA] at hv
  split at hv
  ·rename_i x y hx hy
   simp only[Option.some.injEq] at hv
   subst hv
   simp[ihl h1 hx,ihr h2 hy]
  ·simp at hv
 |nest id st rs row p t=>
  intro u y h hv
  simp only[dA] at hv
  split at hv
  ·obtain⟨h1,h2⟩:=aQ hv
   simp only[Bool.and_eq_true] at h1
   obtain⟨z,rfl,_⟩:=p8 (fJ h1.2) h1.1.2 h2
   exact h
  ·cases hv
 |_=>intro u y h hv;simp[dA] at hv
theorem vh {T:Nat}{xo vo:Operand}{ax av:AT}(hC:bH P C)(ho:o.op = .store T xo vo)(hm:aD F m w I ρ)(hx:au w I m ρ ax (a.eval xo))(hv:au w I m ρ av (a.eval vo))
  (hd:kq C m T ax av=some d):aA P F o a w m I ρ d:=by
 by_cases iG:∃id st row p s fz rs t xs,ax = .ptr id st row p∧cur m id st=some ⟨s,fz,.deep rs t xs⟩
 case neg=>
  exact vi hC ho hm hx hv (fun id st row p e s fz rs t xs h=>iG ⟨id,st,row,p,s,fz,rs,t,xs,e,h⟩) hd
 case pos=>
  obtain⟨id,st,row,p,s,fz,rs,t,xs,rfl,hc⟩:=iG
  unfold kq at hd
  simp only at hd
  cases hu:C.ty T with
  |none=>simp[hu] at hd
  |some u=>
  have hT:=hC.ty hu
  rw[hu] at hd
  simp only[hc] at hd
  obtain⟨hb,hst⟩:=cp hc
  simp only at hst
  subst hst
  cases fz with
  |true=>simp at hd
  |false=>
  obtain⟨hi,hd⟩:=aQ hd
  simp only[Bool.and_eq_true,Bool.not_eq_true'] at hi
  obtain⟨⟨⟨⟨hi1,hi2⟩,hi3⟩,hi5⟩,hi6⟩:=hi
  have cE:=fJ hi1
  have hty:=iD hi2
  have hnot:¬id∈av.ids:=fun h=>by rw[jw.2 h] at hi5;cases hi5
  have hnd:=jI.1 hi6
  split at hd
  ·rename_i s' y hvv
   split at hd
   ·rename_i r hr0
    split at hd
    ·rename_i z hz
     cases hd
     have hsu:=xk hty hvv
     simp only at hsu
     subst hsu
     have hx':=bQ (a:=.ptr id s row p) rfl hx (by simp) (by simp) (by simp) (by simp)
     simp only[af] at hx'
     obtain⟨_,_,h3⟩:=hx'
     obtain⟨e0,hrow,B,o',e1,e2⟩:=h3 _ hb rfl t xs.length rfl
     simp only[List.cons.injEq,and_true] at e2
     obtain⟨aN,ef,hmid⟩:=aB.pack hty ((fo hty).1 hv)
     have hlen:=hty.length hmid
     have hone:=af.bV hty hmid
     have hcells:(a.eval vo).cells=aN.toArray:=by rw[ef];exact eW hT hlen hone
     obtain⟨Bv,Kv,r1,r2,r3,_⟩:=ox (I':=I) hm (fun _ h=>h) hvv hmid (fun i _ B hB=>hB.gx hm) hnd
     have r2':=(List.nodup_append.1 r2).1
     have r3':∀b∈Bv,∃i∈av.ids,aM m ρ i b:=fun b hb'=>r3 b (List.mem_append_left _ hb')
     obtain⟨B',cH,cs,rcs,pre,mid,post,D1,D2,B1,Bm,B2,y',f1,f2,f3,f4,f5,f6,f7,f8,f9,f10,f11,f12,f13⟩:=o3 hm hb hrow hi3 cE
     rw[e1] at f1
     cases f1
     have hml:=aq.length f12
     have hrl:rcs.length=t.off p+s'.size+post.length:=by rw[f10,List.length_append,List.length_append,f11,hml]
     have hrowle:(row+1)*t.size≤xs.length*t.size:=Nat.mul_le_mul_right _ hrow
     rw[Nat.add_mul] at hrowle
     have hfit:o'+row*t.size+t.off p+aN.length≤cs.length:=by omega
     obtain⟨w',hr,aJ,hsame,hsize,hos,eL,hout⟩:=qm hT hcells hlen hone f2 hfit
     have hlen':=mH hfit
     have jg:aM m ρ id B:=⟨_,hb,trivial,rfl,.inl ⟨o',e1⟩⟩
     have hmD:∀b∈ρ.d id,aM m ρ id b:=fun b hb'=>⟨_,hb,trivial,rfl,.inr ⟨trivial,hb'⟩⟩
     obtain⟨dq1,dq2⟩:=hm.dp id _ hb trivial
     have hBd:¬B∈ρ.d id:=fun hin=>(dq2 B hin).2.1 id _ _ hb trivial e1
     have hBv:∀b∈Bv,b≠B∧¬b∈ρ.d id:=by
      intro b hb'
      obtain⟨i,hi,fV⟩:=r3' b hb'
      refine⟨fun e=>?_,fun e=>?_⟩
      ·subst e
       have:=fV.inj hm jg
       subst this
       exact hnot hi
      ·have:=fV.inj hm (hmD b e)
       subst this
       exact hnot hi
     have ha:bD I I w w':=⟨fun _ h=>h,fun k hk=>hsame k (fun e=>f4 (e▸hk))⟩
     have hsub:∀b∈D1++(B1++B2)++D2,b∈ρ.d id:=by
      intro b hb'
      rw[f6]
      simp only[List.mem_append] at hb' ⊢
      rcases hb' with(h|h|h)|h<;>simp[h]
     obtain⟨x',g1,g2⟩:=f13 w' I y aN Bv ha (fun b hb'=>⟨hsame b (fun e=>hBd (e▸hsub b hb')),fun h=>h⟩) (fun k hk=>by
       rw[aJ.cell,f2.cell,gN hfit,if_neg (by omega)]) (fun j hj=>by
       rw[aJ.cell,gN hfit]
       by_cases hin:t.off p≤j∧j<t.off p+aN.length
       ·rw[if_pos (by omega),List.append_assoc,List.getElem?_append_right (by omega),List.getElem?_append_left (by omega)]
        congr 1
        omega
       ·rw[if_neg (by omega),←f2.cell,f8 j hj,f10]
        by_cases hlo:j<pre.length
        ·rw[List.append_assoc,List.append_assoc,List.getElem?_append_left hlo,List.getElem?_append_left hlo]
        ·rw[List.getElem?_append_right (by simp;omega),List.getElem?_append_right (by simp;omega)]
         simp only[List.length_append]
         congr 1
         omega) (aq.mono ha (fun b hb'=>⟨hsame b (hBv b hb').1,fun h=>h⟩) r1)
     rw[g1] at hr0
     cases hr0
     have:z=x':=by simpa[DV.as] using hz.symm
     subst this
     have hmem:∀b∈D1++(B1++Bv++B2)++D2,b∈Bv∨b∈D1++(B1++B2)++D2:=by
      intro b hb'
      simp only[List.mem_append] at hb' ⊢
      rcases hb' with(h|(h|h)|h)|h<;>simp[h]
     have hndD:(B::(D1++(B1++Bv++B2)++D2)).Nodup:=by
      rw[List.nodup_cons]
      refine⟨fun h=>?_,?_⟩
      ·rcases hmem B h with h|h
       ·exact(hBv B h).1 rfl
       ·exact hBd (hsub B h)
      ·have e1:(D1++(B1++Bv++B2)++D2).Perm (Bv++(D1++(B1++B2)++D2)):=by
        have e1:D1++(B1++Bv++B2)++D2=((D1++B1)++Bv)++(B2++D2):=by simp
        have e2:Bv++(D1++(B1++B2)++D2)=(Bv++(D1++B1))++(B2++D2):=by simp
        rw[e1,e2]
        exact List.Perm.append_right _ List.perm_append_comm
       have e2:(ρ.d id).Perm (Bm++(D1++(B1++B2)++D2)):=by
        rw[f6]
        have e1:D1++(B1++Bm++B2)++D2=((D1++B1)++Bm)++(B2++D2):=by simp
        have e2:Bm++(D1++(B1++B2)++D2)=(Bm++(D1++B1))++(B2++D2):=by simp
        rw[e1,e2]
        exact List.Perm.append_right _ List.perm_append_comm
       refine e1.nodup_iff.2 (List.nodup_append.2 ⟨r2',(List.nodup_append.1 (e2.nodup_iff.1 dq1)).2.1,?_⟩)
       rintro b cq b' bZ rfl
       exact(hBv b cq).2 (hsub b bZ)
     have lR:(xs.set row z).length=xs.length:=List.length_set
     have hnew:=a_.deep (id:=id) (st:=s) (rs:=rs+1) aJ (by rw[hlen',lR];exact f3) g2 f4 hndD
     have gj:fQ m ρ w w' ⟨fun _=>some (B,o'),fun _=>D1++(B1++Bv++B2)++D2⟩ id ⟨s,false,.deep (rs+1) t (xs.set row z)⟩:=by
      refine⟨_,hb,trivial,rfl,⟨Nat.le_succ _,rfl,lR.symm⟩,e1.symm,fun C o2 cs' hp hcs=>?_,fun r' _ _ _ _ h h'=>?_⟩
      ·rw[e1] at hp
       cases hp
       have:=f2.unique hcs
       subst this
       exact⟨_,aJ,by omega⟩
      ·cases h
       simp only[BC.deep.injEq] at h'
       omega
     obtain⟨c1,c2⟩:=aC.called (ke:=[id]) (ki:=av.ids) (le:=[]) (Bs:=[B]) hm (by simp) (fun b hb'=>by
       simp only[List.mem_singleton] at hb'
       subst hb'
       exact⟨id,by simp,jg⟩) hnew (fun i b hf=>by
       obtain⟨rfl,rfl⟩:=eH hf
       exact .inr ⟨by simp,gj⟩) (fun i hi=>by
       simp only[List.mem_singleton] at hi
       subst hi
       exact⟨_,by rw[aG,if_pos rfl]⟩) (fun b hb'=>by
       rcases List.mem_cons.1 hb' with e|h
       ·subst e;exact⟨.inl ⟨id,by simp,jg⟩,f4⟩
       ·rcases hmem b h with h|h
        ·obtain⟨i,hi,fV⟩:=r3' b h
         exact⟨.inl ⟨i,by simp[hi],fV⟩,fV.gx hm⟩
        ·exact⟨.inl ⟨id,by simp,hmD b (hsub b h)⟩,(hmD b (hsub b h)).gx hm⟩) (fun _ h=>oG h) (fun b hI=>ha.same b hI)
      (fun b hI=>⟨by rw[hsize];exact hm.aV b hI,.inl (.inl hI)⟩) (fun b _ hb'=>hsame b (by simpa using hb')) (by rw[hsize];exact Nat.le_refl _) hos eL hout
     have hmm:m.aj (app [(id,(⟨s,false,.deep (rs+1) t (xs.set row z)⟩:ag))] (app (cj m av.ids) (bu m [])))=m.aj ((id,⟨s,false,.deep (rs+1) t (xs.set row z)⟩)::cj m av.ids):=by
      simp[bK,bu,c_]
     rw[hmm] at c1
     exact aA.skip (w':=w') (by simp[execOp,ho,e2,hr]) c1 rfl
    ·cases hd
   ·cases hd
  ·cases hd
end
end Go.Ab
namespace Go.Ab
section
variable {P:Program} {F:Fix} {C:Cx} {o:Oper} {a:Act} {w w':World} {m:MF} {I I':Nat→Prop} {ρ:Pl} {d:aE}
def oJ (w:World)(I:Nat→Prop)(t:Ty)(xs:List t.den)(Ds:List Nat)(news:List Value):Prop:=
 ∀(w':World) (B' off':Nat),bD I I w w'→(∀j,j<news.length→w'.cell? ⟨B',off'+j,none⟩=news[j]?)→(∀b∈Ds,w'.heap[b]?=w.heap[b]?)→br w' B' t.size (aq w' I t) off' xs Ds
theorem ry {jd sj rs:Nat}{fz:Bool}{t u:Ty}{ys:List t.den}{v:Value}(hm:aD F m w I ρ)(hs:au w I m ρ (.whole jd sj u) v)(hb:m jd=some ⟨sj,fz,.deep rs t ys⟩) :
  ∃news,lA P w t.size v ys.length news∧news.length=ys.length*t.size∧(∀v∈news,v.oneCell'=true)∧oJ w I t ys (ρ.d jd) news:=by
 obtain⟨ad,cap,e1,e2,e3⟩:=kO hs hb rfl rfl
 subst e1
 have az:=hm.blk jd _ hb
 simp only[aS] at az
 obtain⟨_,az⟩:=az
 have hempty:ys = []→ρ.d jd = []→∃news,lA P w t.size (.slice ad ys.length cap) ys.length news∧news.length=ys.length*t.size∧(∀v∈news,v.oneCell'=true)∧oJ w I t ys (ρ.d jd) news:=by
  intro h1 h2
  subst h1
  refine⟨[],⟨by simp[Builtin.lenOf],fun w' _=>?_⟩,by simp,by simp,fun w' B' off' _ _ _=>?_⟩
  ·cases ad<;>simp[Builtin.firstCells,loadCells,loadCellsFrom]
  ·rw[h2];rfl
 rcases az with⟨f1,_,f3⟩|⟨B,o',cs,f1,f2,f3,f4,f5⟩
 ·exact hempty f1 f3
 ·rcases e3 with⟨g1,g2,g3⟩|⟨B',cH,cs',g1,g2,g3,g4⟩
  ·rw[g3] at f1;cases f1
  ·rw[f1] at g1
   cases g1
   subst g2
   obtain⟨news,k1,k2,k3,k4⟩:=f4.cells
   refine⟨news,⟨by simp[Builtin.lenOf],fun w' hw=>?_⟩,k1,k3 fun x vs D h=>aq.bV h,fun w' B' off' ha hc hD=>k4 w' B' off' _ hc fun x vs D hsub h=>aq.mono ha (fun b hb=>⟨hD b (hsub b hb),fun h=>h⟩) h⟩
   have:(loadCells ⟨B,o',none⟩ news.length).run P w' = .ok news.toArray w':=om fun j hj=>by
    rw[←k2 j hj]
    simp[World.cell?,hw]
   simp[Builtin.firstCells,←k1,this]
theorem qz (m:MF)(id:Nat)(b:ag)(l:List Nat):m.aj (app [(id,b)] (app (cj m (id::l)) (bu m [])))=m.aj ((id,b)::cj m l):=by
 funext i
 have e:app [(id,b)] (app (cj m (id::l)) (bu m []))=(id,b)::cj m (id::l):=by simp[bK,bu,c_]
 unfold MF.aj
 rw[e,aG,aG,nH,nH]
 by_cases h:id=i
 ·rw[if_pos h,if_pos h]
 ·have:¬i=id:=fun e=>h e.symm
  rw[if_neg h,if_neg h]
  simp only[List.mem_cons,this,false_or]
theorem qx (m:MF)(id:Nat)(b:ag)(l:List Nat):m.aj (app [(id,b)] (app (cj m l) (bu m [])))=m.aj ((id,b)::cj m l):=by
 simp[bK,bu,c_]
theorem aC.qH {id st rs:Nat}{t:Ty}{ki:List Nat}(hm:aD F m w I ρ)(hst:st=aU m id) :
  ∃ρ',aC F m (m.aj (app [(id,⟨st,false,.deep rs t []⟩)] (app (cj m ki) (bu m [])))) w w I I ρ ρ'∧ρ' id=none∧(m.aj (app [(id,⟨st,false,.deep rs t []⟩)] (app (cj m ki) (bu m [])))) id=some ⟨st,false,.deep rs t []⟩:=by
 have hnew:=a_.deep0 (w:=w) (I:=I) (id:=id) (st:=st) (rs:=rs) (t:=t)
 obtain⟨h1,h2⟩:=aC.called (ke:=[]) (ki:=ki) (le:=[]) (Bs:=[]) hm (by simp) (by simp) hnew (fun i b hf=>by
   obtain⟨rfl,rfl⟩:=eH hf
   exact .inl hst) (by simp) (by simp) (fun _ h=>oG h) (fun b hI=>rfl) (fun b hI=>⟨hm.aV b hI,.inl (.inl hI)⟩) (fun _ _ _=>rfl) (Nat.le_refl _) rfl rfl rfl
 obtain⟨h3,h4,_⟩:=h2 id _ (by rw[aG,if_pos rfl])
 exact⟨_,h1,h4,h3⟩
theorem sN {id:Nat}{b:ag}(hb:m id=some b)(hf:b.fz=false)(hd:b.bq):∀B∈ρ.d id,aM m ρ id B:=fun _B hB=>⟨b,hb,dL hd,hf,.inr ⟨hd,hB⟩⟩
theorem rH {T T2:Nat}{xo yo:Operand}{ax ay:AT}{dst:Nat}{t:Ty}{fS:TypeDesc}(hC:bH P C)(ho:o.op = .call ⟨.builtin .append,#[xo,yo],#[T,T2]⟩)(hm:aD F m w I ρ)
  (hx:au w I m ρ ax (a.eval xo)) (hy:au w I m ρ ay (a.eval yo)) (ht:C.el T=some t) (dN:P.underlying T2=some fS) (hk:∀k,fS ≠ .int k)
  (hd:lC C m dst t ax ay=some d) (hok:∀b∈d.ok,b=true):aA P F o a w m I ρ d:=by
 cases bL:pR m ay with
 |false=>exact uL hC ho hm hx hy ht dN hk bL hd hok
 |true=>
 obtain⟨E,h1,h2,h3⟩:=hC.el ht
 obtain⟨i0,g1,g2,g3,g4⟩:=h3.info.info
 obtain⟨z1,z2⟩:=ju (w:=w) (I:=I) (m:=m) (ρ:=ρ) h3
 have eM:=eW h3 (z1.length z2) (af.bV z1 z2)
 have hzl:=z1.length z2
 have hzs:(aL t (aX t)).cells.size=t.size:=by rw[eM];simpa using hzl
 have ec:∀{v:Value} {w':World},(Builtin.append_ #[T,T2] o.type #[a.eval xo,a.eval yo]).run P w = .ok v w'→(execOp a.eval o).run P w = .ok (.value v) w':=by
  intro v w' h
  simp[execOp,ho,resolve,invoke,builtin,h]
 unfold lC at hd
 rw[bL,cond_true] at hd
 unfold qP at hd
 split at hd
 case h_2=>cases hd
 rename_i jd sj u'
 split at hd
 case h_2=>cases hd
 rename_i sj' rs' v zs hcj
 obtain⟨hbj,hsj⟩:=cp hcj
 simp only at hsj
 subst hsj
 split at hd
 case h_1=>cases hd
 rename_i ys hys
 have:=bT hys
 cases this
 obtain⟨news,ht1,gh,hn1,hmv⟩:=ry (P:=P) hm hy hbj
 rw[←g2] at ht1
 have cQ:∀b∈ρ.d jd,aM m ρ jd b:=sN hbj rfl trivial
 obtain⟨dj1,dj2⟩:=hm.dp jd _ hbj trivial
 have kL:∀{i b:Nat},aM m ρ i b→b<w.heap.size:=fun h=>h.lt hm
 have fresh:∀{y:AT},y=ax→(y = .nil t∨y = .cy)→ys.length≤dh →
   aA P F o a w m I ρ ⟨.whole dst (aU m dst) t,(dst,⟨aU m dst,false,.deep 0 t ys⟩)::cj m [jd],[decide (ys.length≤dh)]⟩:=by
  intro y hya hyn hmax
  subst hya
  have hv:=mN hyn hx
  cases jk:ys with
  |nil=>
   subst jk
   have hn0:news = []:=by rw[←List.length_eq_zero_iff,gh];simp
   subst hn0
   obtain⟨ρ',q1,q2,q3⟩:=aC.qH (id:=dst) (rs:=0) (t:=t) (ki:=[jd]) hm rfl
   rw[qx] at q1 q3
   refine aA.world (v:=.slice none 0 0) (w':=w) (ec ?_) q1 (tG q3 q2)
   rw[hv]
   exact jt h1 dN hk g1 ht1 (Nat.le_refl _) rfl
  |cons y0 ys0=>
   have hpos:0<ys.length:=by rw[jk];simp
   rw[←jk]
   have hrun:=oe (ty:=o.type) (base:=none) (sLen:=0) (sCap:=0) (olds:=[]) h1 dN hk g1 g3 ht1 (by omega) (fun w' _=>by simp[Builtin.firstCells]) (by simpa[dh] using hmax) g4
   have hge:=grownCap_ge w (0+ys.length) 0 E
   generalize dj:(Builtin.zeroCells (aL t (aX t)).cells (grownCap w (0+ys.length) 0 E-(0+ys.length))).toList=rest at hrun
   have hrl:rest.length=(grownCap w (0+ys.length) 0 E-(0+ys.length))*t.size:=by rw[←dj,ot,hzs]
   generalize grownCap w (0+ys.length) 0 E=cap at hrun hge hrl
   have fc:Cells (w.drew.alloc (.cells ([]++news++rest).toArray E)) w.heap.size (news++rest):=by
    exact Cells.alloc w.drew ([]++news++rest).toArray E
   have hag:bD I I w (w.drew.alloc (.cells ([]++news++rest).toArray E)):=⟨fun _ h=>h,fun b hb=>heap_alloc_old w.drew _ b (hm.aV b hb)⟩
   have hrows:=hmv (w.drew.alloc (.cells ([]++news++rest).toArray E)) w.heap.size 0 hag (fun j hj=>by rw[Nat.zero_add,fc.cell,List.getElem?_append_left hj]) (fun b hb=>heap_alloc_old w.drew _ b (kL (cQ b hb)))
   have hmul:ys.length*t.size+(cap-(0+ys.length))*t.size=cap*t.size:=by rw[←Nat.add_mul];congr 1;omega
   obtain⟨ρ',q1,q2,q3⟩:=aC.lB (id:=dst) (rs:=0) (o:=0) (ki:=[jd]) (Bs:=[]) hm rfl fc (by simp only[List.length_append];omega) hrows (by
     rw[List.nodup_cons]
     exact⟨fun h=>absurd (kL (cQ _ h)) (Nat.lt_irrefl _),dj1⟩) (fun b hb=>by
     rcases List.mem_cons.1 hb with e|h
     ·subst e;exact⟨.inr (Nat.le_refl _),fun hI=>absurd (hm.aV _ hI) (Nat.lt_irrefl _)⟩
     ·exact⟨.inl ⟨jd,by simp,cQ b h⟩,(cQ b h).gx hm⟩) (by simp) (fun b hb _=>heap_alloc_old w.drew _ b hb) (by simp) rfl rfl rfl
   rw[qx] at q1 q3
   rw[←hv] at hrun
   refine aA.world (ec hrun) q1 (mM q3 q2 (by omega) hge fc (by simp only[List.length_append];omega))
 simp only at hd
 split at hd
 ·
  rename_i u
  obtain⟨hu,hd1⟩:=aQ hd
  obtain⟨_,iF⟩:=aQ hd1
  have:=Ty.cA hu
  subst this
  cases iF
  exact fresh rfl (.inl rfl) (by simpa using hok)
 ·obtain⟨_,hd⟩:=aQ hd
  cases hd
  exact fresh rfl (.inr rfl) (by simpa using hok)
 ·rename_i id st u
  split at hd
  case h_2=>cases hd
  rename_i st' rs v' ws hci
  obtain⟨hJ,hsi⟩:=cp hci
  simp only at hsi
  subst hsi
  split at hd
  case h_2=>cases hd
  rename_i xs hxs
  have:=bT hxs
  cases this
  obtain⟨hu,hd1⟩:=aQ hd
  cases hd1
  simp only[Bool.and_eq_true,Bool.not_eq_true'] at hu
  have jj:=Ty.cA hu.1
  subst jj
  have hne:id≠jd:=fun e=>by rw[e,Nat.beq_refl] at hu;cases hu.2
  have hmax:xs.length+ys.length≤dh:=by simpa using hok
  obtain⟨olds,ot1,onl,on1,omv⟩:=ry (P:=P) hm hx hJ
  obtain⟨ad,cap,e1,e2,e3⟩:=kO hx hJ rfl rfl
  have fV:∀b∈ρ.d id,aM m ρ id b:=sN hJ rfl trivial
  obtain⟨di1,di2⟩:=hm.dp id _ hJ trivial
  have hdd:(ρ.d id++ρ.d jd).Nodup:=List.nodup_append.2 ⟨di1,dj1,fun b hb b' hb' e=>by
   subst e
   exact hne ((fV b hb).inj hm (cQ b hb'))⟩
  have hst1:st'+1=aU m id:=by simp[aU,hJ]
  by_cases hroom:xs.length+ys.length≤cap
  ·rcases e3 with⟨k1,k2,k3⟩|⟨B,o',cs,k1,k2,k3,k4⟩
   ·subst k1 k2
    have hx0:xs = []:=by rw[←List.length_eq_zero_iff];omega
    have hy0:ys = []:=by rw[←List.length_eq_zero_iff];omega
    subst hx0 hy0
    have hn0:news = []:=by rw[←List.length_eq_zero_iff,gh];simp
    subst hn0
    obtain⟨ρ',q1,q2,q3⟩:=aC.qH (id:=id) (rs:=rs+1) (t:=u) (ki:=[id,jd]) hm hst1
    rw[qz] at q1 q3
    refine aA.world (v:=.slice none 0 0) (w':=w) (ec ?_) q1 (tG q3 q2)
    rw[e1]
    exact jt h1 dN hk g1 ht1 (Nat.le_refl _) rfl
   ·subst k2
    have az:=hm.blk id _ hJ
    simp only[aS] at az
    rcases az.2 with⟨_,hno,_⟩|⟨B',cH,cs',f1,f2,f3,f4,f5⟩
    ·rw[k1] at hno;cases hno
    ·rw[k1] at f1
     cases f1
     have:=k3.unique f2
     subst this
     have jg:aM m ρ id B:=⟨_,hJ,trivial,rfl,.inl ⟨o',k1⟩⟩
     have hmul:xs.length*u.size+ys.length*u.size≤cap*u.size:=by rw[←Nat.add_mul];exact Nat.mul_le_mul_right _ hroom
     have hle:o'+xs.length*u.size+news.length≤cs.length:=by omega
     obtain⟨w',hr,aJ,hsame,hsize,hos,eL,hout⟩:=run_storeCells_cells P B (o'+xs.length*u.size) news 0 cs w k3 (by simpa using hle) hn1
     simp only[Nat.add_zero] at aJ
     have hlen':=mH hle
     have hag:bD I I w w':=⟨fun _ h=>h,fun k hk=>hsame k (fun e=>f5 (e▸hk))⟩
     have hBi:∀b∈ρ.d id,b≠B:=fun b hb e=>(di2 b hb).2.1 id _ _ hJ trivial (e▸k1)
     have hBj:∀b∈ρ.d jd,b≠B:=fun b hb e=>by
      subst e
      exact hne (jg.inj hm (cQ b hb))
     have hr1:br w' B u.size (aq w' I u) o' xs (ρ.d id):=by
      obtain⟨os',p1,p2,_,p4⟩:=f4.cells
      refine p4 w' B o' _ (fun j hj=>?_) fun x vs D hsub h=>aq.mono hag (fun b hb=>⟨hsame b (hBi b (hsub b hb)),fun h=>h⟩) h
      rw[←p2 j hj,aJ.cell,k3.cell,gN hle,if_neg (by omega)]
     have hr2:br w' B u.size (aq w' I u) (o'+xs.length*u.size) ys (ρ.d jd):=hmv w' B _ hag (fun j hj=>by
      rw[aJ.cell,gN hle,if_pos (by omega)]
      congr 1
      omega) (fun b hb=>hsame b (hBj b hb))
     obtain⟨ρ',q1,q2,q3⟩:=aC.lB (id:=id) (st:=st'+1) (rs:=rs+1) (ki:=[id,jd]) (Bs:=[B]) hm hst1 aJ (by rw[hlen',List.length_append,Nat.add_mul];omega) (hr1.app hr2) (by
       rw[List.nodup_cons]
       refine⟨fun h=>?_,hdd⟩
       rcases List.mem_append.1 h with h|h
       ·exact hBi B h rfl
       ·exact hBj B h rfl) (fun b hb=>by
       have eC:aM m ρ id b∨aM m ρ jd b:=by
        rcases List.mem_cons.1 hb with e|h
        ·subst e;exact .inl jg
        ·rcases List.mem_append.1 h with h|h
         ·exact .inl (fV b h)
         ·exact .inr (cQ b h)
       rcases eC with h|h
       ·exact⟨.inl ⟨id,by simp,h⟩,h.gx hm⟩
       ·exact⟨.inl ⟨jd,by simp,h⟩,h.gx hm⟩) (fun b hb=>by
       simp only[List.mem_singleton] at hb
       subst hb
       exact⟨id,by simp,jg⟩) (fun b _ hb=>hsame b (by simpa using hb)) (by rw[hsize];exact Nat.le_refl _) hos eL hout
     rw[qz] at q1 q3
     refine aA.world (v:=.slice (some ⟨B,o',none⟩) (xs.length+ys.length) cap) (w':=w') (ec ?_) q1 (mM q3 q2 (by simp) hroom aJ (by rw[hlen'];omega))
     rw[e1]
     exact jt h1 dN hk g1 ht1 hroom (by simp only[Addr.iw,g2];exact hr)
  ·have ho2:∀w':World,w'.heap=w.heap→(Builtin.firstCells i0.size xs.length (.slice ad xs.length cap)).run P w' = .ok olds.toArray w':=by
    intro w' hw
    have:=ot1.2 w' hw
    rw[e1] at this
    rw[g2]
    exact this
   have hrun:=oe (ty:=o.type) h1 dN hk g1 g3 ht1 (by omega) ho2 (by simpa[dh] using hmax) g4
   have hge:=grownCap_ge w (xs.length+ys.length) cap E
   generalize dj:(Builtin.zeroCells (aL u (aX u)).cells (grownCap w (xs.length+ys.length) cap E-(xs.length+ys.length))).toList=rest at hrun
   have hrl:rest.length=(grownCap w (xs.length+ys.length) cap E-(xs.length+ys.length))*u.size:=by rw[←dj,ot,hzs]
   generalize grownCap w (xs.length+ys.length) cap E=cap' at hrun hge hrl
   have fc:Cells (w.drew.alloc (.cells (olds++news++rest).toArray E)) w.heap.size (olds++news++rest):=Cells.alloc w.drew (olds++news++rest).toArray E
   have hag:bD I I w (w.drew.alloc (.cells (olds++news++rest).toArray E)):=⟨fun _ h=>h,fun b hb=>heap_alloc_old w.drew _ b (hm.aV b hb)⟩
   have hr1:=omv (w.drew.alloc (.cells (olds++news++rest).toArray E)) w.heap.size 0 hag (fun j hj=>by rw[Nat.zero_add,fc.cell,List.append_assoc,List.getElem?_append_left hj]) (fun b hb=>heap_alloc_old w.drew _ b (kL (fV b hb)))
   have hr2:=hmv (w.drew.alloc (.cells (olds++news++rest).toArray E)) w.heap.size (0+xs.length*u.size) hag (fun j hj=>by
    rw[fc.cell,List.append_assoc,List.getElem?_append_right (by omega),List.getElem?_append_left (by omega)]
    congr 1
    omega) (fun b hb=>heap_alloc_old w.drew _ b (kL (cQ b hb)))
   have hmul:xs.length*u.size+ys.length*u.size+(cap'-(xs.length+ys.length))*u.size=cap'*u.size:=by rw[←Nat.add_mul,←Nat.add_mul];congr 1;omega
   obtain⟨ρ',q1,q2,q3⟩:=aC.lB (id:=id) (st:=st'+1) (rs:=rs+1) (o:=0) (ki:=[id,jd]) (Bs:=[]) hm hst1 fc (by simp only[List.length_append,Nat.add_mul];omega) (hr1.app hr2) (by
     rw[List.nodup_cons]
     refine⟨fun h=>?_,hdd⟩
     rcases List.mem_append.1 h with h|h
     ·exact absurd (kL (fV _ h)) (Nat.lt_irrefl _)
     ·exact absurd (kL (cQ _ h)) (Nat.lt_irrefl _)) (fun b hb=>by
     rcases List.mem_cons.1 hb with e|h
     ·subst e;exact⟨.inr (Nat.le_refl _),fun hI=>absurd (hm.aV _ hI) (Nat.lt_irrefl _)⟩
     ·rcases List.mem_append.1 h with h|h
      ·exact⟨.inl ⟨id,by simp,fV b h⟩,(fV b h).gx hm⟩
      ·exact⟨.inl ⟨jd,by simp,cQ b h⟩,(cQ b h).gx hm⟩) (by simp) (fun b hb _=>heap_alloc_old w.drew _ b hb) (by simp) rfl rfl rfl
   rw[qz] at q1 q3
   rw[←e1] at hrun
   exact aA.world (ec hrun) q1 (mM q3 q2 (by simp) hge fc (by simp only[List.length_append];omega))
 ·cases hd
end
end Go.Ab
namespace Go.Ab
section
variable {P:Program} {F:Fix} {C:Cx} {o:Oper} {a:Act} {w w':World} {m:MF} {I I':Nat→Prop} {ρ:Pl} {d:aE}
theorem sC {t:Ty}{T':Nat}{ρf:Operand→AT}(hT:aF P t T')(hm:aD F m w I ρ) :
  ∀(ps:List (Nat×Operand)) {n:Nat} {ys:List t.den} {pre post:List Value},(∀p∈ps,au w I m ρ (ρf p.2) (a.eval p.2)) →
   (dY (fun p:Nat×AT=>p.2.ids) (bf (fun p=>(p.1,ρf p.2)) ps)).Nodup→l9 m t n (bf (fun p=>(p.1,ρf p.2)) ps)=some ys→pre.length=n*t.size→post.length=ps.length*t.size →
   ∃news Ds,Instr.fill (fun i=>some (i*t.size,t.size)) (pre++post).toArray (ps.map fun p=>(p.1,a.eval p.2))=some (pre++news).toArray∧news.length=ps.length*t.size∧ys.length=ps.length ∧
    Ds.Nodup∧(∀b∈Ds,∃i∈dY (fun p:Nat×AT=>p.2.ids) (bf (fun p=>(p.1,ρf p.2)) ps),aM m ρ i b)∧oJ w I t ys Ds news
 | [],n,ys,pre,post,_,_,h,hpre,hpost=>by
  simp only[bf,l9,Option.some.injEq] at h
  subst h
  have:post = []:=by rw[←List.length_eq_zero_iff,hpost];simp
  subst this
  exact⟨[],[],by simp[Instr.fill],by simp,rfl,by simp,by simp,fun w' B' off' _ _ _=>rfl⟩
 | (i,x)::ps,n,ys,pre,post,hs,hnd,h,hpre,hpost=>by
  simp only[bf,l9] at h
  obtain⟨hb,h1⟩:=aQ h
  simp only[Bool.and_eq_true] at hb
  have hi:=Nat.eq_of_beq_eq_true hb.1
  subst hi
  split at h1
  ·rename_i d0 hd0
   split at h1
   ·rename_i y ys' hy hys
    cases h1
    have e0:=bT hy
    subst e0
    have hty:=iD hb.2
    have hx:=lE (u:=some t) (hs (i,x) (by simp))
    obtain⟨aN,hv,hmid⟩:=aB.pack hty ((fo hty).1 hx)
    have hlen:=hty.length hmid
    have hcells:(a.eval x).cells=aN.toArray:=by rw[hv];exact eW hT hlen (af.bV hty hmid)
    have hidsub:∀j∈(bY (some t) (ρf x)).ids,j∈(ρf x).ids:=by
     intro j hj
     unfold bY at hj
     split at hj
     ·simp[AT.ids] at hj
     ·exact hj
    simp only[bf,dY,bK] at hnd
    have cF:=List.nodup_append.1 hnd
    have hidn:(bY (some t) (ρf x)).ids.Nodup:=by
     unfold bY
     split
     ·simp[AT.ids]
     ·exact cF.1
    obtain⟨Bv,Kv,r1,r2,r3,_⟩:=ox (I':=I) hm (fun _ h=>h) hd0 hmid (fun i _ B hB=>hB.gx hm) hidn
    have hpl:post.length=t.size+ps.length*t.size:=by rw[hpost,List.length_cons,Nat.add_mul];omega
    obtain⟨mid,post',rfl,hml⟩:∃mid post',post=mid++post'∧mid.length=t.size:=⟨post.take t.size,post.drop t.size,(List.take_append_drop _ _).symm,by rw[List.length_take];omega⟩
    obtain⟨news,Ds,k1,k2,k3,k4,k5,k6⟩:=sC hT hm ps (n:=i+1) (pre:=pre++aN) (post:=post') (fun p hp=>hs p (by simp[hp])) cF.2.1 hys (by rw[List.length_append,hpre,hlen,Nat.add_mul];omega) (by simp only[List.length_append] at hpl;omega)
    have hr3:∀b∈Bv,∃j∈(ρf x).ids,aM m ρ j b:=fun b hb=>by
     obtain⟨j,hj,h⟩:=r3 b (List.mem_append_left _ hb)
     exact⟨j,hidsub j hj,h⟩
    refine⟨aN++news,Bv++Ds,?_,by rw[List.length_append,k2,hlen,List.length_cons,Nat.add_mul];omega,by simp[k3],gK hm hnd (List.nodup_append.1 r2).1 k4 hr3 k5,fun b hb=>?_,fun w' B' off' ha hc hD=>?_⟩
    ·simp only[List.map_cons]
     rw[←List.append_assoc,o_ (n:=t.size) (by rw[hpre]) hcells hml hlen]
     simpa[List.append_assoc] using k1
    ·simp only[bf,dY,bK]
     rcases List.mem_append.1 hb with h|h
     ·obtain⟨j,hj,h⟩:=hr3 b h;exact⟨j,by simp[hj],h⟩
     ·obtain⟨j,hj,h⟩:=k5 b h;exact⟨j,by simp[hj],h⟩
    ·refine⟨aN,Bv,Ds,rfl,hlen,fun j hj=>?_,aq.mono ha (fun b hb=>⟨hD b (List.mem_append_left _ hb),fun h=>h⟩) r1,k6 w' B' (off'+t.size) ha (fun j hj=>?_) (fun b hb=>hD b (List.mem_append_right _ hb))⟩
     ·rw[hc j (by simp;omega),List.getElem?_append_left (by omega)]
     ·have:=hc (t.size+j) (by simp;omega)
      rw[←Nat.add_assoc] at this
      rw[this,List.getElem?_append_right (by omega),hlen]
      congr 1
      omega
   ·cases h1
  ·cases h1
theorem uP {T len:Nat}{parts:Array (Nat×Operand)}{ρf:Operand→AT}{dst:Nat}(hC:bH P C)(ho:o.op = .buildSlice T len parts)(hm:aD F m w I ρ)
  (hs:∀p∈parts.toList,au w I m ρ (ρf p.2) (a.eval p.2)) (hd:kF C m dst T len (bf (fun p=>(p.1,ρf p.2)) parts.toList)=some d):aA P F o a w m I ρ d:=by
 cases hel:C.el T with
 |none=>simp[kF,hel] at hd
 |some t=>
 cases bL:C.dp&&t.aK with
 |false=>exact uQ hC ho hm hs (fun t' ht'=>by rw[hel] at ht';cases ht';exact bL) hd
 |true=>
  unfold kF at hd
  rw[hel] at hd
  simp only at hd
  rw[bL,cond_true] at hd
  obtain⟨hz,hd1⟩:=aQ hd
  simp only[Bool.and_eq_true] at hz
  obtain⟨⟨hz1,hz2⟩,hz3⟩:=hz
  have hlen:parts.toList.length=len:=by
   have:=Nat.eq_of_beq_eq_true hz1
   rw[gJ,List.length_map] at this
   exact this
  have hsm:=Nat.le_of_ble_eq_true hz2
  have hndc:=List.nodup_cons.1 (jI.1 hz3)
  obtain⟨ys,hys,rfl⟩:=Option.map_eq_some_iff.1 hd1
  obtain⟨E,h1,h2,h3⟩:=hC.el hel
  obtain⟨i0,g1,g2,g3,g4⟩:=h3.info.info
  obtain⟨z1,z2⟩:=ju (w:=w) (I:=I) (m:=m) (ρ:=ρ) h3
  have eM:=eW h3 (z1.length z2) (af.bV z1 z2)
  have hzl:=z1.length z2
  obtain⟨news,Ds,q1,q2,q3,q4,q5,q6⟩:=sC (P:=P) (pre:=[]) (post:=(List.replicate len (aX t)).flatten) (n:=0) h3 hm parts.toList hs hndc.2 hys (by simp) (by simp[hzl,hlen])
  simp only[List.nil_append] at q1
  have hrun:(Instr.buildSlice T len (parts.map fun(i,x)=>(i,a.eval x))).run P w = .ok (.slice (some ⟨w.heap.size,0,none⟩) len len) (w.alloc (.cells news.toArray E)):=by
   by_cases hl0:len=0
   ·subst hl0
    have hps:parts.toList = []:=by rw[←List.length_eq_zero_iff];exact hlen
    rw[hps] at q1 q2
    simp only[List.map_nil,List.length_nil,Nat.zero_mul] at q1 q2
    have hn0:news = []:=by rw[←List.length_eq_zero_iff];exact q2
    subst hn0
    have:parts = #[]:=by apply Array.ext';simpa using hps
    subst this
    simp[Instr.buildSlice,run_underlying h1,h3.info.run_sizeOf,Instr.fill,newRow,Array.range_zero']
   ·have hne:¬len*i0.size=0:=by
     rw[g2]
     exact Nat.ne_of_gt (Nat.mul_pos (by omega) h2)
    refine run_buildSlice w T E len _ _ i0 _ h1 g1 g3 (by rw[g2];omega) hne ?_
    have hcells:((Array.range (len*i0.size)).map ((aL t (aX t)).cells[· % (aL t (aX t)).cells.size]!))=(List.replicate len (aX t)).flatten.toArray:=by
     apply Array.ext'
     have:=me (aX t) len
     unfold madeCells at this
     rw[eM,g2,←hzl,this]
    rw[hcells,g2,←q1]
    simp
  have fc:Cells (w.alloc (.cells news.toArray E)) w.heap.size news:=Cells.alloc w news.toArray E
  have hag:bD I I w (w.alloc (.cells news.toArray E)):=⟨fun _ h=>h,fun b hb=>heap_alloc_old w _ b (hm.aV b hb)⟩
  have hlt:∀b∈Ds,b<w.heap.size:=fun b hb=>by obtain⟨j,_,h⟩:=q5 b hb;exact h.lt hm
  have hrows:=q6 (w.alloc (.cells news.toArray E)) w.heap.size 0 hag (fun j _=>by rw[Nat.zero_add,fc.cell]) (fun b hb=>heap_alloc_old w _ b (hlt b hb))
  rw[hlen] at q2 q3
  obtain⟨ρ',p1,p2,p3⟩:=aC.lB (id:=dst) (rs:=0) (o:=0) (ki:=dY (fun p:Nat×AT=>p.2.ids) (bf (fun p=>(p.1,ρf p.2)) parts.toList)) (Bs:=[]) hm rfl fc (by rw[q2,q3];omega) hrows (by
    rw[List.nodup_cons]
    exact⟨fun h=>absurd (hlt _ h) (Nat.lt_irrefl _),q4⟩) (fun b hb=>by
    rcases List.mem_cons.1 hb with e|h
    ·subst e;exact⟨.inr (Nat.le_refl _),fun hI=>absurd (hm.aV _ hI) (Nat.lt_irrefl _)⟩
    ·obtain⟨j,hj,cQ⟩:=q5 b h
     exact⟨.inl ⟨j,hj,cQ⟩,cQ.gx hm⟩) (by simp) (fun b hb _=>heap_alloc_old w _ b hb) (by simp) rfl rfl rfl
  rw[qx] at p1 p3
  exact aA.world (v:=.slice (some ⟨w.heap.size,0,none⟩) len len) (w':=w.alloc (.cells news.toArray E)) (by simp only[execOp,ho,Sem.run_bind,hrun,Result.andThen_ok];rfl) p1 (mM p3 p2 q3.symm (Nat.le_refl _) fc (by rw[q2];omega))
end
end Go.Ab
namespace Go.Ab
section
variable {P:Program} {F:Fix} {C:Cx} {o:Oper} {a:Act} {w w':World} {m:MF} {I I':Nat→Prop} {ρ:Pl} {d:aE}
theorem oX:∀{ts:List Nat} {as:List AT} {vs:List Value},cB (au w I m ρ) as vs→cB (au w I m ρ) (nr C ts as) vs
 | [],_,_,h=>h
 |_::_,[],_,h=>h
 |_::_,_::_,_,.cons h1 h2=>.cons (nt h1) (oX h2)
theorem m_ {ρf:Operand→AT}:∀{l:List Operand},(∀x∈l,au w I m ρ (ρf x) (a.eval x))→cB (au w I m ρ) (bf ρf l) (l.map a.eval)
 | [],_=>.nil
 |x::l,h=>.cons (h x (by simp)) (m_ fun y hy=>h y (by simp[hy]))
theorem opt_list {α:Type}{x:α}(h:some x∈([]:List (Option α))):False:=by simp at h
theorem vg {ρf:Operand→AT}{dst:Nat}(hC:bH P C)(hF:dD P F.G C)(hm:aD F m w I ρ)(hx:∀x∈o.op.operands,au w I m ρ (ρf x) (a.eval x))
  (hd:cY C m dst ρf o=some d) (hok:∀b∈d.ok,b=true):aA P F o a w m I ρ d:=by
 obtain⟨odst,op,oty,pos,after,guard⟩:=o
 cases op with
 |move x=>simp only[cY,Option.some.injEq] at hd;subst hd;exact rI (.inl rfl) hm (hx x (by simp[Op.operands]))
 |assign x=>simp only[cY,Option.some.injEq] at hd;subst hd;exact rI (.inr rfl) hm (hx x (by simp[Op.operands]))
 |alloc T=>
  simp only[cY] at hd
  split at hd
  ·rename_i t ht;cases hd;exact uK hC rfl hm ht
  ·cases hd
 |box T x=>
  simp only[cY] at hd
  split at hd
  ·rename_i t ht
   cases hb:(C.co T (ρf x)).fits t with
   |false=>simp[hb] at hd
   |true=>
    simp only[hb,cond_true,Option.some.injEq] at hd
    subst hd
    exact uN hC rfl hm (nt (hx x (by simp[Op.operands]))) ht hb
  ·cases hd
 |build T parts=>
  simp only[cY] at hd
  exact uO hC rfl hm (fun p hp=>hx p.2 (by simp only[Op.operands,List.mem_toArray,List.mem_map];exact⟨p,hp,rfl⟩)) hd
 |buildSlice T len parts=>
  simp only[cY] at hd
  exact uP hC rfl hm (fun p hp=>hx p.2 (by simp only[Op.operands,List.mem_toArray,List.mem_map];exact⟨p,hp,rfl⟩)) hd
 |load T x=>exact u5 hC rfl hm (hx x (by simp[Op.operands])) hd
 |store T x v=>exact vh hC rfl hm (hx x (by simp[Op.operands])) (nt (hx v (by simp[Op.operands]))) hd
 |binOp op T x y T2=>exact uM hC rfl hm (hx x (by simp[Op.operands])) (hx y (by simp[Op.operands])) hd hok
 |unOp op T x=>exact vj rfl hm (hx x (by simp[Op.operands])) hd
 |convert S T x=>exact uT hC rfl hm (hx x (by simp[Op.operands])) hd hok
 |makeSlice T l c=>
  simp only[cY] at hd
  split at hd
  ·rename_i x y h1 h2
   exact u7 hC rfl hm (hx l (by simp[Op.operands])) (hx c (by simp[Op.operands])) h1 h2 hd hok
  ·cases hd
 |slice T x lo hi mx=>
  cases mx with
  |some k=>
   cases lo with
   |none=>simp[cY] at hd
   |some l=>
    cases hi with
    |none=>simp[cY] at hd
    |some h=>
     exact vf hC rfl hm (hx x (by simp[Op.operands])) (hx l (by simp[Op.operands])) (hx h (by simp[Op.operands])) (hx k (by simp[Op.operands])) hd hok
  |none=>
   exact ve hC rfl hm (hx x (by simp[Op.operands])) (fun y hy=>hx y (by subst hy;simp[Op.operands])) (fun y hy=>hx y (by subst hy;simp[Op.operands])) hd hok
 |fieldAddr T x f=>exact uX hC rfl hm (hx x (by simp[Op.operands])) hd
 |field T x f=>exact uW hC rfl hm (hx x (by simp[Op.operands])) hd
 |indexAddr T x i=>
  simp only[cY] at hd
  split at hd
  ·rename_i n hn
   exact uZ hC rfl hm (hx x (by simp[Op.operands])) (hx i (by simp[Op.operands])) hn hd hok
  ·cases hd
 |index T x i=>
  simp only[cY] at hd
  split at hd
  ·rename_i n hn
   exact uY hC rfl hm (hx x (by simp[Op.operands])) (hx i (by simp[Op.operands])) hn hd hok
  ·cases hd
 |extract x i=>exact uV rfl hm (hx x (by simp[Op.operands])) hd
 |makeFunc fn first caps=>
  cases fn with
  |func g=>
   simp only[cY] at hd
   cases hb:first.toList.isEmpty&&cn AT.one (bf ρf caps.toList) with
   |false=>simp only[hb] at hd;simp at hd
   |true=>
    simp only[hb,cond_true,Option.some.injEq] at hd
    simp only[Bool.and_eq_true] at hb
    subst hd
    exact u6 rfl hm hb.1 (m_ fun y hy=>hx y (by simp[Op.operands,Array.mem_toList_iff.1 hy])) hb.2
  |_=>simp[cY] at hd
 |nilCheck x=>exact vb rfl hm (hx x (by simp[Op.operands])) hd
 |call c=>
  obtain⟨callee,args,ts⟩:=c
  cases callee with
  |builtin b=>
   simp only[cY] at hd
   have hall:=oX (C:=C) (ts:=ts.toList) (m_ (a:=a) (ρf:=ρf) (l:=args.toList) fun y hy=>hx y (by simp[Op.operands,Call.operands,Array.mem_toList_iff.1 hy]))
   unfold qZ at hd
   split at hd
   ·rename_i T x h1 h2
    have ets:ts = #[T]:=by apply Array.ext';simpa using h1
    rw[h2] at hall
    cases hlt:nU C T x with
    |false=>simp[hlt] at hd
    |true=>
     simp only[hlt,cond_true] at hd
     split at hd
     ·rename_i n hn
      cases hd
      generalize hal:args.toList=al at hall
      cases al with
      |nil=>cases hall
      |cons y al=>
       cases hall with
       |cons e1 e2=>
        cases al with
        |cons _ _=>cases e2
        |nil=>
         have ea:args = #[y]:=by apply Array.ext';simpa using hal
         subst ea ets
         exact u0 hC rfl hm e1 hlt hn
     ·cases hd
   ·rename_i t t2 x y h1 h2
    have ets:ts = #[t,t2]:=by apply Array.ext';simpa using h1
    rw[h2] at hall
    generalize hal:args.toList=al at hall
    rcases al with _|⟨p,_|⟨q,_|⟨r,al⟩⟩⟩
    ·cases hall
    ·cases hall with | cons _ e=>cases e
    ·cases hall with
     |cons e1 e2=>
     cases e2 with
     |cons e2 _=>
     have ea:args = #[p,q]:=by apply Array.ext';simpa using hal
     subst ea ets
     split at hd
     ·rename_i u v hu hv
      obtain⟨E,hE,_⟩:=gR (hC.ty hv)
      exact rH hC rfl hm e1 e2 hu hE (by intro k hk;cases hk) hd hok
     ·rename_i u hu hv
      exact rH hC rfl hm e1 e2 hu (mQ (hC.ty hv)) (by intro k hk;cases hk) hd hok
     ·cases hd
    ·cases hall with | cons _ e=>cases e with | cons _ e=>cases e
   ·exact va rfl hm hall hd
   ·exact u_ rfl hm hall hd
   ·rename_i T x h1 h2
    have ets:ts = #[T]:=by apply Array.ext';simpa using h1
    rw[h2] at hall
    generalize hal:args.toList=al at hall
    rcases al with _|⟨y,_|⟨z,al⟩⟩
    ·cases hall
    ·cases hall with
     |cons e1 e2=>
     have ea:args = #[y]:=by apply Array.ext';simpa using hal
     subst ea ets
     exact uS hC rfl hm e1 hd
    ·cases hall with | cons _ e=>cases e
   ·cases hd
  |value g=>
   simp only[cY] at hd
   split at hd
   ·rename_i f caps hg
    cases hc:jW caps with
    |false=>simp[hc] at hd
    |true=>
     simp only[hc,cond_true] at hd
     exact uR hF rfl hm (hg▸hx g (by simp[Op.operands,Call.operands]))
      (oX (m_ fun y hy=>hx y (by simp[Op.operands,Call.operands,Array.mem_toList_iff.1 hy]))) hc hd hok
   ·cases hd
  |invoke r mm=>simp[cY] at hd
 |_=>simp[cY] at hd
end
end Go.Ab
namespace Go.Ab
section
variable {P:Program} {F:Fix} {C:Cx} {o:Oper} {a:Act} {w w':World} {m:MF} {I I':Nat→Prop} {ρ:Pl} {d:aE}
theorem uz (v:Value):au w I m ρ (nv v) v:=by
 unfold nv
 split
 ·exact eo.2 rfl
 ·exact cJ.2 rfl
 ·refine gA.2 ?_
  rename_i s
  simp
 ·simp[au,aB,AT.isAgg,af]
 ·trivial
theorem oR {x y:Bool}(h:lD x y=true):x=y:=by cases x<;>cases y<;>simp_all [lD]
theorem qN {α:Type}{p:α→Bool}:∀{l:List α},bF p l=true→∃x∈l,p x=true
 | [],h=>by simp[bF] at h
 |x::l,h=>by
  simp only[bF,Bool.or_eq_true] at h
  rcases h with h|h
  ·exact⟨x,by simp,h⟩
  ·obtain⟨y,h1,h2⟩:=qN h
   exact⟨y,by simp[h1],h2⟩
theorem nh {α:Type}{p:α→Bool}:∀{l:List α} {x:α},x∈l→p x=true→bF p l=true
 | [],x,h,_=>by simp at h
 |y::l,x,h,hp=>by
  simp only[bF,Bool.or_eq_true]
  rcases List.mem_cons.1 h with e|h
  ·subst e;exact .inl hp
  ·exact .inr (nh h hp)
theorem eG {α:Type}{p:α→Bool}:∀{l:List α},cn p l=true→∀x∈l,p x=true
 | [],_,x,h=>by simp at h
 |y::l,h,x,hx=>by
  simp only[cn,Bool.and_eq_true] at h
  rcases List.mem_cons.1 hx with e|hx
  ·subst e;exact h.1
  ·exact eG h.2 x hx
theorem qs {A T:dG}{tmps:Array Value}(h:mO A T=true)(hT:dH tmps T):dH tmps A:=by
 intro t ht
 have:=eG h t ht
 unfold hasTag at this
 obtain⟨u,hu,h2⟩:=qN this
 simp only[Bool.and_eq_true] at h2
 have h3:=Nat.eq_of_beq_eq_true h2.1
 have h4:=oR h2.2
 have:=hT u hu
 rw[h3,h4] at this
 exact this
def Reads (w:World)(I:Nat→Prop)(m:MF)(ρ:Pl)(tmps:Array Value)(env:List (Nat×AT))(s:Nat):Prop:=
 ∀av,find env s=some av→fO w I m ρ tmps av (tmps.getD s Go.undef)
theorem n7 {env:List (Nat×AT)}{T:dG}{x:Operand}{G:gC}(hF:dD P G C)(hG:G.ok w I)(h:∀s,x = .tmp s→Reads w I m ρ a.tmps env s)(hT:dH a.tmps T):au w I m ρ (fj C env T x) (a.eval x):=by
 unfold fj
 cases x with
 |tmp s=>
  simp only[operand,Act.eval]
  cases hf:find env s with
  |none=>exact trivial
  |some av=>
   have:=h s rfl av hf
   simp only[Option.getD_some]
   split
   ·rename_i A b
    cases hs:mO A T with
    |true=>exact this.1 (qs hs hT)
    |false=>trivial
   ·rename_i hn
    unfold fO at this
    split at this
    ·rename_i A b;exact absurd rfl (hn A b)
    ·exact this
 |const v=>
  simp only[operand,Act.eval]
  split
  ·rename_i A b h;unfold nv at h;split at h<;>cases h
  ·exact uz v
 |global g=>
  simp only[operand,Act.eval]
  cases hf:find C.gl g with
  |none=>trivial
  |some d=>exact hF.gl g d hf w I hG
 |func f=>
  simp only[operand,Act.eval,au,aB,AT.isAgg]
  exact⟨#[],rfl,rfl⟩
theorem wz {ac ax ay:AT}(h:mF ac ax ay=some d):(∃g,ac = .leaf .bool g)∧(∃t x,ax = .leaf t x)∧(∃t x,ay = .leaf t x)∧d.aj = []∧d.ok = []:=by
 unfold mF at h
 split at h
 ·split at h
  ·cases h;exact⟨⟨_,rfl⟩,⟨_,_,rfl⟩,⟨_,_,rfl⟩,rfl,rfl⟩
  ·cases h
 ·cases h
theorem doS_ok {env:List (Nat×AT)}{T:dG}{p:Nat→Bool}(hC:bH P C)(hF:dD P F.G C)(hm:aD F m w I ρ)(bI:kA m p)(cS:∀x∈d.aj,p x.1=true)
  (hr:∀s,Operand.tmp s∈o.op.operands→Reads w I m ρ a.tmps env s) (hT:dH a.tmps T) (hp:∀x∈o.op.operands,∀id∈(fj C env T x).ids,p id=true)
  (hd:doS C env T (m.on p) o=some d) (hok:∀b∈d.ok,b=true):aA P F o a w m I ρ d:=by
 refine aA.lift hm bI cS fun F' hG hm'=>?_
 rw[←hG] at hF
 have hx:∀x∈o.op.operands,au w I (m.on p) ρ (fj C env T x) (a.eval x):=fun x hx=>
  au.cut (hp x hx) (n7 hF hm'.ez (fun s hs=>hr s (hs▸hx)) hT)
 unfold doS at hd
 split at hd
 ·rename_i c x y ho
  split at hd
  ·rename_i s hs
   have hc:c = .tmp s:=by cases c<;>simp[qt] at hs;subst hs;rfl
   subst hc
   obtain⟨⟨g,hg⟩,⟨tx,vx,hlx⟩,⟨ty,vy,hly⟩,_,_⟩:=wz hd
   have mc:Operand.tmp s∈o.op.operands:=by rw[ho];simp[Op.operands]
   have mx:x∈o.op.operands:=by rw[ho];simp[Op.operands]
   have my:y∈o.op.operands:=by rw[ho];simp[Op.operands]
   have tags:∀b,a.eval (.tmp s) = .bool b→dH a.tmps (app (jO env s b) T):=by
    intro b hb t ht
    rw[bp] at ht
    rcases ht with ht|ht
    ·unfold jO at ht
     split at ht
     ·rename_i A e hf
      rcases List.mem_cons.1 ht with e|ht
      ·subst e;exact hb
      ·unfold fj at hg
       simp only[operand,hf,Option.getD_some] at hg
       cases hsub:mO A T with
       |true=>exact qs hsub hT t ht
       |false=>rw[hsub] at hg;cases hg
     ·rcases List.mem_cons.1 ht with e|ht
      ·subst e;exact hb
      ·simp at ht
    ·exact hT t ht
   refine vc ho hm' (hx _ mc) (fun h=>?_) (fun h=>?_) hd
   ·refine au.cut (by rw[hlx];simp[AT.ids]) (n7 hF hm'.ez (fun s hs=>hr s (hs▸mx)) (tags true h))
   ·refine au.cut (by rw[hly];simp[AT.ids]) (n7 hF hm'.ez (fun s hs=>hr s (hs▸my)) (tags false h))
  ·cases hd
 ·exact vg hC hF hm' hx hd hok
theorem uv {mem:Mem}{D:List Nat}(h:q_ mem D=true):kA (find mem) (cX D):=by
 intro id b t x hid hb hc j hj
 have:=eG h _ (d_ hb)
 simp only[hid,Bool.not_true,Bool.false_or,hb] at this
 obtain⟨st,fz,c⟩:=b
 simp only at hc
 subst hc
 exact eG this j hj
theorem vr {D:List Nat}{i:Nat}(h:i∈D):cX D i=true:=nh h (by simp)
theorem p5 {mf:Nat→Option ag}:∀{l:List Nat} {i:Nat},i∈l→i∈cT mf l
 | [],i,h=>by simp at h
 |x::l,i,h=>by
  simp only[cT,List.mem_cons,bp]
  rcases List.mem_cons.1 h with e|h
  ·exact .inl e
  ·exact .inr (.inr (p5 h))
theorem vV {mem:Mem}{dst:Nat}{as:List AT}{x:AT}{i:Nat}(h:x∈as)(hi:i∈x.ids):i∈dom mem dst as:=
 List.mem_cons_of_mem _ (p5 (sL.2 ⟨x,h,hi⟩))
end
end Go.Ab
namespace Go.Ab
section
variable {P:Program} {F:Fix} {C:Cx} {w:World} {I:Nat→Prop} {ρ:Pl} {m:MF}
theorem aC.same (h:aD F m w I ρ){n st:Nat}{t:Ty}{a:AT}{d:DV}{x:t.den}(hm:m n=some ⟨st,false,.var t a⟩)(hp:a.pure=some d)(hx:d.as t=some x) :
  aC F m (m.put n ⟨st,false,.var t (.leaf t x)⟩) w w I I ρ ρ:=by
 have hb:=h.blk n _ hm
 unfold aS at hb
 simp only at hb
 obtain⟨_,B,cs,r1,r2,r3,r4⟩:=hb
 have hI:¬I B:=fun hI=>by have:=r4.2 hI;cases this
 have e:=bT hx
 subst e
 have hr:=mG hp r3
 refine aC.write h n _ _ B 0 cs cs hm (by simp[ag.live]) (.inr ⟨rfl,rfl⟩) r1 hI r2 r2 (Nat.le_refl _) (fun _ _=>rfl) rfl rfl rfl rfl ?_
 intro _ _
 unfold aS
 exact⟨rfl,B,cs,r1,r2,by simp only[af];exact hr,by simp[hI]⟩
theorem mR (m:MF)(i:Nat)(b:ag)(l:List (Nat×ag)):m.aj ((i,b)::l)=(m.aj l).put i b:=by
 funext j
 simp only[MF.aj,MF.put,aG]
 by_cases h:i=j
 ·subst h;simp
 ·simp[h]
theorem mj {c:Bool}{m0:MF}:∀{l u:List (Nat×ag)},jm c m0 l=some u→u.map (·.1)=l.map (·.1)∧(l.map (·.1)).Nodup
 | [],u,h=>by simp only[jm,Option.some.injEq] at h;subst h;simp
 | (i,b)::l,u,h=>by
  simp only[jm] at h
  split at h
  ·rename_i b' l' h1 h2
   cases ha:bF (fun x=>Nat.beq x.1 i) l with
   |true=>simp[ha] at h
   |false=>
    simp only[ha,cond_false,Option.some.injEq] at h
    subst h
    obtain⟨e1,e2⟩:=mj h2
    refine⟨by simp[e1],?_⟩
    simp only[List.map_cons,List.nodup_cons]
    refine⟨fun hin=>?_,e2⟩
    obtain⟨y,hy,he⟩:=List.mem_map.1 hin
    have:=nh (p:=fun x:Nat×ag=>Nat.beq x.1 i) hy (by rw[he];exact Nat.beq_refl i)
    rw[ha] at this
    cases this
  ·cases h
theorem p7 {c:Bool}{m0:MF}:∀{l u:List (Nat×ag)} {ρ:Pl},jm c m0 l=some u→aD F m w I ρ→(∀x∈l,(c=false→m x.1=m0 x.1)∧(c=true→m x.1=some x.2)) →
  ∃ρ',aC F m (m.aj u) w w I I ρ ρ'
 | [],u,ρ,h,hm,_=>by
  simp only[jm,Option.some.injEq] at h
  subst h
  exact⟨ρ,aC.refl hm⟩
 | (i,b)::l,u,ρ,h,hm,hx=>by
  have jy:=mj h
  simp only[jm] at h
  split at h
  ·rename_i b' l' h1 h2
   cases ha:bF (fun x=>Nat.beq x.1 i) l with
   |true=>simp[ha] at h
   |false=>
    simp only[ha,cond_false,Option.some.injEq] at h
    subst h
    obtain⟨jv,hd⟩:=p7 h2 hm fun x hin=>hx x (List.mem_cons_of_mem _ hin)
    have hni:¬i∈l'.map (·.1):=by
     have:=jy.2
     have e:=(mj h2).1
     rw[e]
     exact(List.nodup_cons.1 this).1
    have hsame:(m.aj l') i=m i:=by
     have:find l' i=none:=by
      cases hf:find l' i with
      |none=>rfl
      |some b1=>exact absurd (List.mem_map.2 ⟨_,d_ hf,rfl⟩) hni
     simp[MF.aj,this]
    obtain⟨q1,q2⟩:=hx (i,b) List.mem_cons_self
    simp only at q1 q2
    rw[mR]
    have dead:∀st,(∀b1,(m.aj l') i=some b1→b1.st<st)→∃ρ',aC F m ((m.aj l').put i ⟨st,false,.dead⟩) w w I I ρ ρ':=fun st hst=>
     ⟨_,hd.trans (aC.stale hd.mem i _ hst (.inl (by simp[ag.live])))⟩
    cases hc:c with
    |false=>
     subst hc
     have q:=q1 rfl
     unfold p6 at h1
     split at h1
     ·rename_i st t xs e0
      obtain⟨g1,g2⟩:=aQ h1
      cases g2
      have hn:(m.aj l') i=none:=by rw[hsame,q,e0]
      obtain⟨iF,_⟩:=aC.empty (t:=t) hd.mem i st (fun b0 hb0=>by rw[hn] at hb0;cases hb0) (Nat.le_of_ble_eq_true g1)
      exact⟨_,hd.trans iF⟩
     ·rename_i e0 hneq
      cases h1
      exact dead _ fun b1 cq=>by rw[hsame,q,e0] at cq;cases cq
     ·rename_i st fz e0
      obtain⟨g1,g2⟩:=aQ h1
      cases g2
      exact dead _ fun b1 cq=>by
       rw[hsame,q,e0] at cq
       cases cq
       have:=Nat.le_of_ble_eq_true g1
       simp only
       omega
     ·rename_i st t a st' t' a' e0
      obtain⟨g1,g2⟩:=aQ h1
      split at g2
      ·rename_i d e hd1 he1
       split at g2
       ·rename_i x y hx1 hy1
        cases g2
        exact⟨_,hd.trans (aC.same hd.mem (by rw[hsame,q,e0]) hd1 hx1)⟩
       ·cases g2
      ·cases g2
     ·cases h1
    |true=>
     subst hc
     have q:=q2 rfl
     unfold p6 at h1
     split at h1
     ·rename_i st t xs e0
      obtain⟨g1,g2⟩:=aQ h1
      cases g2
      have e:(m.aj l').put i ⟨st,false,.rows t (bif true then xs else [])⟩=m.aj l':=by
       funext j
       simp only[MF.put,cond_true]
       by_cases hj:i=j
       ·subst hj;rw[if_pos rfl,hsame,q]
       ·rw[if_neg hj]
      rw[e]
      exact⟨_,hd⟩
     ·cases h1
      exact dead _ fun b1 cq=>by rw[hsame,q] at cq;cases cq;exact Nat.lt_succ_self _
     ·obtain⟨g1,g2⟩:=aQ h1
      cases g2
      exact dead _ fun b1 cq=>by rw[hsame,q] at cq;cases cq;exact Nat.lt_succ_self _
     ·rename_i st t a st' t' a' e0
      obtain⟨g1,g2⟩:=aQ h1
      simp only[Bool.and_eq_true] at g1
      split at g2
      ·rename_i d e hd1 he1
       split at g2
       ·rename_i x y hx1 hy1
        cases g2
        have e1:=Nat.eq_of_beq_eq_true g1.1
        have e2:=Ty.cA g1.2
        subst e1
        subst e2
        exact⟨_,hd.trans (aC.same hd.mem (by rw[hsame,q]) he1 hy1)⟩
       ·cases g2
      ·cases g2
     ·cases h1
  ·cases h
theorem tu {env:List (Nat×AT)}{m0:MF}{T:dG}{d d':aE}(h:kZ env m0 T d=some d'):d'.av=d.av∧d'.ok=d.ok ∧
  (d'=d∧(T = []∨d.aj = [])∨l7 env T=true∧jm (gP env T) m0 d.aj=some d'.aj):=by
 unfold kZ at h
 cases hb:T.isEmpty || d.aj.isEmpty with
 |true=>
  rw[hb,cond_true] at h
  cases h
  exact⟨rfl,rfl,.inl ⟨rfl,by simpa using hb⟩⟩
 |false=>
  rw[hb,cond_false] at h
  obtain⟨h1,h2⟩:=aQ h
  split at h2
  ·rename_i u hu
   cases h2
   exact⟨rfl,rfl,.inr ⟨h1,hu⟩⟩
  ·cases h2
theorem qj {env:List (Nat×AT)}{m0:MF}{T:dG}{d d':aE}(h:kZ env m0 T d=some d'):d'.aj.map (·.1)=d.aj.map (·.1):=by
 obtain⟨_,_,h1|h1⟩:=tu h
 ·rw[h1.1]
 ·exact(mj h1.2).1
end
end Go.Ab
namespace Go.Ab
section
variable {P:Program} {F:Fix} {C:Cx} {o:Oper} {a:Act} {w w':World} {m:MF} {I I':Nat→Prop} {ρ:Pl} {d:aE}
inductive fD (C:Cx) (ops:List Oper):St→List Rec→St→Prop where
 |nil (st:St):fD C ops st [] st
 |cons {st st':St} {r:Rec} {rs:List Rec}:kg C ops r.o st=some r→fD C ops (r.go st) rs st'→fD C ops st (r::rs) st'
theorem recS_o {ops:List Oper}{st:St}{r:Rec}(h:kg C ops o st=some r):r.o=o:=by
 unfold kg at h
 split at h
 ·cases h
 ·dsimp only at h
  split at h
  ·cases h
  ·rename_i d _
   obtain⟨_,h⟩:=aQ h
   split at h
   ·cases h;rfl
   ·cases h
theorem n8 {ops:List Oper}:∀{l:List Oper} {st st':St} {rs:List Rec},j_ C ops l st=some (st',rs)→fD C ops st rs st'∧rs.map (·.o)=l
 | [],st,st',rs,h=>by simp only[j_,Option.some.injEq,Prod.mk.injEq] at h;obtain⟨rfl,rfl⟩:=h;exact⟨.nil _,rfl⟩
 |o::l,st,st',rs,h=>by
  simp only[j_] at h
  split at h
  ·rename_i r hr
   split at h
   ·rename_i st2 rs2 h2
    simp only[Option.some.injEq,Prod.mk.injEq] at h
    obtain⟨rfl,rfl⟩:=h
    obtain⟨e1,e2⟩:=n8 h2
    have ho:=recS_o hr
    exact⟨.cons (ho▸hr) e1,by simp[ho,e2]⟩
   ·cases h
  ·cases h
def bw:List Rec→Nat→St→St
 | [],_,st=>st
 |_::_,0,st=>st
 |r::rs,k+1,st=>bw rs k (r.go st)
theorem fD.at {ops:List Oper}:∀{st st':St} {rs:List Rec},fD C ops st rs st'→∀{k:Nat} {r:Rec},rs[k]?=some r→kg C ops r.o (bw rs k st)=some r
 |_,_,_,.nil _,k,r,h=>by simp at h
 |_,_,_,.cons h1 h2,k,r,h=>by
  cases k with
  |zero=>simp only[List.getElem?_cons_zero,Option.some.injEq] at h;subst h;exact h1
  |succ k=>exact h2.at (by simpa using h)
def bJ (L:Nat→Bool):List Rec→MF→MF
 | [],m=>m
 |r::rs,m=>bJ (fun k=>L (k+1)) rs (bif L 0 then m.aj r.d.aj else m)
abbrev EF:=Nat→Option AT
def EF.put (e:EF)(r:Rec):EF:=match r.o.dst with
 |some s=>fun i=>if s=i then some (gV r.T r.d.av) else e i
 |none=>e
def cR (L:Nat→Bool):List Rec→EF→EF
 | [],e=>e
 |r::rs,e=>cR (fun k=>L (k+1)) rs (bif L 0 then e.put r else e)
theorem mem_go (r:Rec)(st:St):find (r.go st).mem=MF.aj (find st.mem) r.d.aj:=uJ _ _
theorem rC (r:Rec)(st:St):find (r.go st).env=EF.put (find st.env) r:=by
 funext i
 unfold Rec.go EF.put
 cases r.o.dst with
 |some s=>simp only[aG]
 |none=>rfl
theorem kU:∀(rs:List Rec) (m:MF),bJ (fun _=>false) rs m=m
 | [],_=>rfl
 |r::rs,m=>by simp only[bJ,cond_false];exact kU rs m
theorem lK:∀(rs:List Rec) (e:EF),cR (fun _=>false) rs e=e
 | [],_=>rfl
 |r::rs,m=>by simp only[cR,cond_false];exact lK rs m
theorem jF:∀(rs:List Rec) (k:Nat) (st:St),bJ (fun i=>decide (i<k)) rs (find st.mem)=find (bw rs k st).mem
 | [],k,st=>by cases k<;>rfl
 |r::rs,0,st=>by
  have:(fun i=>decide (i<0))=fun _=>false:=by funext i;simp
  rw[this,kU];rfl
 |r::rs,k+1,st=>by
  have:(fun i=>decide (i+1<k+1))=fun i=>decide (i<k):=by funext i;simp
  simp only[bJ,bw,Nat.zero_lt_succ,decide_true,cond_true]
  rw[this,←mem_go]
  exact jF rs k _
theorem lJ:∀(rs:List Rec) (k:Nat) (st:St),cR (fun i=>decide (i<k)) rs (find st.env)=find (bw rs k st).env
 | [],k,st=>by cases k<;>rfl
 |r::rs,0,st=>by
  have:(fun i=>decide (i<0))=fun _=>false:=by funext i;simp
  rw[this,lK];rfl
 |r::rs,k+1,st=>by
  have:(fun i=>decide (i+1<k+1))=fun i=>decide (i<k):=by funext i;simp
  simp only[cR,bw,Nat.zero_lt_succ,decide_true,cond_true]
  rw[this,←rC]
  exact lJ rs k _
theorem fD.last {ops:List Oper}:∀{st st':St} {rs:List Rec},fD C ops st rs st'→bw rs rs.length st=st'
 |_,_,_,.nil _=>rfl
 |_,_,_,.cons _ h2=>h2.last
theorem jE {id:Nat}:∀{rs:List Rec} {L L':Nat→Bool} {m m':MF},(∀k r,rs[k]?=some r→find r.d.aj id≠none→L k=L' k)→m id=m' id→bJ L rs m id=bJ L' rs m' id
 | [],_,_,_,_,_,h=>h
 |r::rs,L,L',m,m',hl,h=>by
  simp only[bJ]
  refine jE (fun k r' hk hw=>hl (k+1) r' (by simpa using hk) hw) ?_
  by_cases hw:find r.d.aj id=none
  ·have:∀(b:Bool) (m:MF),(bif b then m.aj r.d.aj else m) id=m id:=by
    intro b m;cases b
    ·rfl
    ·simp[MF.aj,hw]
   rw[this,this,h]
  ·rw[hl 0 r rfl hw]
   cases L' 0 with
   |false=>exact h
   |true=>simp only[cond_true,MF.aj];split<;>first|rfl|exact h
theorem pX {id:Nat}{b:ag}:∀{rs:List Rec} {L:Nat→Bool} {m:MF} {j:Nat} {r:Rec},rs[j]?=some r→L j=true→find r.d.aj id=some b →
  (∀k r',j<k→rs[k]?=some r'→find r'.d.aj id≠none→L k=false)→bJ L rs m id=some b
 | [],_,_,j,r,h,_,_,_=>by simp at h
 |x::rs,L,m,0,r,h,hL,hf,hk=>by
  simp only[List.getElem?_cons_zero,Option.some.injEq] at h
  subst h
  simp only[bJ,hL,cond_true]
  have:bJ (fun k=>L (k+1)) rs (m.aj x.d.aj) id=bJ (fun _=>false) rs (m.aj x.d.aj) id:=
   jE (fun k r' hr hw=>hk (k+1) r' (by omega) (by simpa using hr) hw) rfl
  rw[this,kU]
  simp[MF.aj,hf]
 |x::rs,L,m,j+1,r,h,hL,hf,hk=>by
  simp only[bJ]
  exact pX (j:=j) (by simpa using h) hL hf (fun k r' hjk hr hw=>hk (k+1) r' (by omega) (by simpa using hr) hw)
theorem kI {s:Nat}:∀{rs:List Rec} {L L':Nat→Bool} {e e':EF},(∀k r,rs[k]?=some r→r.o.dst=some s→L k=L' k)→e s=e' s→cR L rs e s=cR L' rs e' s
 | [],_,_,_,_,_,h=>h
 |r::rs,L,L',e,e',hl,h=>by
  simp only[cR]
  refine kI (fun k r' hk hw=>hl (k+1) r' (by simpa using hk) hw) ?_
  by_cases hw:r.o.dst=some s
  ·rw[hl 0 r rfl hw]
   cases L' 0 with
   |false=>exact h
   |true=>simp[cond_true,EF.put,hw]
  ·have:∀(b:Bool) (e:EF),(bif b then e.put r else e) s=e s:=by
    intro b e;cases b
    ·rfl
    ·simp only[cond_true,EF.put]
     cases hd:r.o.dst with
     |some s'=>
      have:¬s'=s:=fun h=>hw (h▸hd)
      simp[this]
     |none=>rfl
   rw[this,this,h]
theorem rB {s:Nat}:∀{rs:List Rec} {L:Nat→Bool} {e:EF} {j:Nat} {r:Rec},rs[j]?=some r→L j=true→r.o.dst=some s →
  (∀k r',j<k→rs[k]?=some r'→r'.o.dst≠some s)→cR L rs e s=some (gV r.T r.d.av)
 | [],_,_,j,r,h,_,_,_=>by simp at h
 |x::rs,L,e,0,r,h,hL,hf,hk=>by
  simp only[List.getElem?_cons_zero,Option.some.injEq] at h
  subst h
  simp only[cR,hL,cond_true]
  have:cR (fun k=>L (k+1)) rs (e.put x) s=cR (fun _=>false) rs (e.put x) s:=
   kI (fun k r' hr hw=>absurd hw (hk (k+1) r' (by omega) (by simpa using hr))) rfl
  rw[this,lK]
  simp[EF.put,hf]
 |x::rs,L,e,j+1,r,h,hL,hf,hk=>by
  simp only[cR]
  exact rB (j:=j) (by simpa using h) hL hf (fun k r' hjk hr=>hk (k+1) r' (by omega) (by simpa using hr))
def fM (L:Nat→Bool)(j:Nat):Nat→Bool:=fun k=>L k || decide (k=j)
end
end Go.Ab
