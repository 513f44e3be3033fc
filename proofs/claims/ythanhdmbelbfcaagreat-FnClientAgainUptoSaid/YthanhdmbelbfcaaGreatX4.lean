import Derived.Test.YthanhdmbelbfcaaGreatX3
import Derived.Scope
import Derived.Tactics
import Derived.OwnWalk
import Derived.Carry
import Derived.OpenShut
import Derived.JoinedCond
import Derived.KernelRfl
import Derived.Below
import Derived.WideKeyArgs
set_option linter.defProp false
namespace Go.Ab
section
variable {P:Program} {F:Fix} {C:Cx} {o:Oper} {a:Act} {w w':World} {m:MF} {I I':Nat→Prop} {ρ:Pl} {d:aD}
variable {n:Nat} {K:eO} {st st':St}
structure iD (l:List (Nat×aa)) (n e:Nat):Prop where
 le:n≤e
 all:∀x∈l,n≤x.1∧x.1<e∧∃t,x.2=⟨0,false,.rows t []⟩
 fnd:∀x∈l,find l x.1=some x.2
def iD.nil (n:Nat):iD [] n n:=⟨bA _,fun x h=>by grind,fun x h=>by grind⟩
def iD.app {l l':List (Nat×aa)}{n k e:Nat}(h:iD l n k)(h':iD l' k e):iD (app l l') n e:=by
 refine⟨nV h.le h'.le,fun x hx=>?_,fun x hx=>?_⟩
 ·rw[bw] at hx
  have:=h.le
  have:=h'.le
  rcases hx with hx|hx
  ·obtain⟨h1,h2,h3⟩:=h.all x hx;exact⟨h1,by omega,h3⟩
  ·obtain⟨h1,h2,h3⟩:=h'.all x hx;exact⟨by omega,h2,h3⟩
 ·rw[cO]
  rw[bw] at hx
  rcases hx with hx|hx
  ·rw[h.fnd x hx]
  ·cases hf:find l x.1 with
   |none=>exact h'.fnd x hx
   |some b=>
    have h1:=(h.all _ (eS hf)).2.1
    have h2:=(h'.all x hx).1
    omega
def jc (l:List (Nat×aa))(m:MF)(ρ:Pl):Prop:=∀x∈l,m x.1=some x.2∧ρ x.1=none
def jc.left {l l':List (Nat×aa)}(h:jc (app l l') m ρ):jc l m ρ:=fun x hx=>h x (bw.2 (.inl hx))
def jc.right {l l':List (Nat×aa)}(h:jc (app l l') m ρ):jc l' m ρ:=fun x hx=>h x (bw.2 (.inr hx))
def vE:∀(a:AT) (n:Nat),iD (dB a n).2.1 n (dB a n).2.2:=by
 intro a
 induction a with
 |nil t=>intro n;exact⟨by simp[dB],fun x hx=>by simp_all [dB],fun x hx=>by simp_all [dB,aF]⟩
 |pair l r ihl ihr=>intro n;exact(ihl n).app (ihr _)
 |bJ l r ihl ihr=>intro n;exact(ihl n).app (ihr _)
 |fn f c ih=>trivial
 |_=>intro n;exact iD.nil n
def sX:∀{x:AT} {n:Nat} {vs:List Value},jc (dB x n).2.1 m ρ→aq w I m ρ x vs→aq w I m ρ (dB x n).1 vs:=by
 intro x
 induction x with
 |nil t=>
  intro n vs ht h
  subst h
  obtain⟨h1,h2⟩:=ht (n,⟨0,false,.rows t []⟩) (by simp[dB])
  refine⟨⟨_,rfl,rfl⟩,⟨_,h1,bA _⟩,fun b hb _ u xs hc=>?_⟩
  rw[h1] at hb
  cases hb
  cases hc
  exact⟨none,0,rfl,bA _,.inl ⟨rfl,rfl,h2⟩⟩
 |pair l r ihl ihr=>
  intro n vs ht h
  obtain⟨v1,v2,e,h1,h2⟩:=h
  exact⟨v1,v2,e,ihl ht.left h1,ihr ht.right h2⟩
 |bJ l r ihl ihr=>
  intro n vs ht h
  obtain⟨v1,v2,e,h1,h2⟩:=h
  exact⟨v1,v2,e,ihl ht.left h1,ihr ht.right h2⟩
 |fn f c ih=>
  grind [aq,dB]
 |_=>simp[dB]
def y9:∀{x:AT} {n:Nat} {t:Ty},Typed x t→Typed (dB x n).1 t:=by
 intro x
 induction x with
 |pair l r ihl ihr=>
  intro n t h
  obtain⟨a,b,e,h1,h2⟩:=h
  exact⟨a,b,e,ihl h1,ihr h2⟩
 |_=>intro n t h;exact h
def yZ (x:AT)(n:Nat):(dB x n).1.isAgg=x.isAgg:=by cases x<;>rfl
def qC {x:AT}{n:Nat}{v:Value}(ht:jc (dB x n).2.1 m ρ)(h:aG w I m ρ x v):aG w I m ρ (dB x n).1 v:=by
 unfold aG at h ⊢
 rw[yZ]
 split
 ·rename_i hh
  rw[bQ hh] at h
  obtain⟨arr,e,h1⟩:=h
  exact⟨arr,e,sX ht h1⟩
 ·rename_i hh
  rw[cT hh] at h
  exact sX ht h
def y8:∀{x:AT} {n:Nat} {vs:List Value},jc (dB x n).2.1 m ρ→eD w I m ρ x vs→eD w I m ρ (dB x n).1 vs:=by
 intro x
 induction x with
 |bJ l r ihl ihr=>
  intro n vs ht h
  obtain⟨v,vs',e,h1,h2⟩:=h
  exact⟨v,vs',e,qC ht.left h1,ihr ht.right h2⟩
 |dM=>intro n vs _ h;exact h
 |_=>simp[eD]
def y7 {x:AT}{n:Nat}{v:Value}(ht:jc (dB x n).2.1 m ρ)(h:aj w I m ρ x v):aj w I m ρ (dB x n).1 v:=by
 cases x with
 |bJ l r=>
  obtain⟨arr,e,h1⟩:=h
  exact⟨arr,e,y8 (x:=.bJ l r) ht h1⟩
 |dM=>exact h
 |any=>trivial
 |bS _ _=>trivial
 |leaf t y=>exact h
 |nil t=>exact qC (x:=.nil t) ht h
 |pair l r=>exact qC (x:=.pair l r) ht h
 |fn f c=>exact qC (x:=.fn f c) ht h
 |_=>exact h
def vA:∀(l:List (Nat×AT)) (n:Nat),iD (jy l n).2.1 n (jy l n).2.2
 | [],n=>iD.nil n
 | (_s,x)::l,n=>(vE x n).app (vA l _)
def vz:∀{l:List (Nat×AT)} {n s:Nat} {x':AT},find (jy l n).1 s=some x'→∃x k,find l s=some x∧x'=(dB x k).1∧∀y∈(dB x k).2.1,y∈(jy l n).2.1
 | [],n,s,x',h=>by trivial
 | (t,x)::l,n,s,x',h=>by
  simp[jy,aF] at h
  by_cases e:t=s
  ·rw[bQ e] at h
   cases h
   exact⟨x,n,by simp[aF,e],rfl,fun y hy=>bw.2 (.inl hy)⟩
  ·rw[cT e] at h
   obtain⟨z,k,h1,h2,h3⟩:=vz h
   exact⟨z,k,by simp[aF,e,h1],h2,fun y hy=>bw.2 (.inr (h3 y hy))⟩
def yV (b:aa)(n:Nat):iD (fK b n).2.1 n (fK b n).2.2:=by
 obtain⟨st,fz,c⟩:=b
 cases c with
 |var t x=>exact vE x n
 |_=>exact iD.nil n
def vC:∀(l:Mem) (n:Nat),iD (jz l n).2.1 n (jz l n).2.2
 | [],n=>iD.nil n
 | (_s,x)::l,n=>(yV x n).app (vC l _)
def vB:∀{l:Mem} {n s:Nat} {x':aa},find (jz l n).1 s=some x'→∃x k,find l s=some x∧x'=(fK x k).1∧∀y∈(fK x k).2.1,y∈(jz l n).2.1
 | [],n,s,x',h=>by trivial
 | (t,x)::l,n,s,x',h=>by
  simp[jz,aF] at h
  by_cases e:t=s
  ·rw[bQ e] at h
   cases h
   exact⟨x,n,by simp[aF,e],rfl,fun y hy=>bw.2 (.inl hy)⟩
  ·rw[cT e] at h
   obtain⟨z,k,h1,h2,h3⟩:=vB h
   exact⟨z,k,by simp[aF,e,h1],h2,fun y hy=>bw.2 (.inr (h3 y hy))⟩
def vD:∀{l:Mem} {n s:Nat} {x:aa},find l s=some x→∃x',find (jz l n).1 s=some x'
 | [],n,s,x',h=>by trivial
 | (t,x)::l,n,s,x',h=>by
  simp[jz,aF] at h ⊢
  by_cases e:t=s
  ·grind
  ·rw[cT e] at h ⊢
   exact vD h
def sr:∀(l:Mem) (seen:List Nat) (i:Nat),find (uniq l seen) i=if i∈seen then none else find l i
 | [],seen,i=>by simp[uniq,find]
 | (j,b)::l,seen,i=>by
  simp[uniq]
  by_cases hj:j∈seen
  ·rw[lE.2 hj]
   simp[sr l seen i,aF]
   by_cases hi:i∈seen
   ·simp[hi]
   ·have:j≠i:=fun e=>hi (e▸hj)
    simp[this]
  ·have:bW (Nat.beq j) seen=false:=by
    cases h:bW (Nat.beq j) seen with
    |false=>rfl
    |true=>exact absurd (lE.1 h) hj
   rw[this]
   simp[aF,sr l (j::seen) i]
   by_cases e:j=i
   ·subst e;simp[hj]
   ·have:¬i=j:=fun h=>e h.symm
    simp[e,this]
def r7:∀{l:List Nat} {env:List (Nat×AT)} {s:Nat} {x:AT},find (ku env l) s=some x→find env s=some x
 | [],env,s,x,h=>by trivial
 |t::l,env,s,x,h=>by
  simp[ku] at h
  split at h
  ·rename_i y hy
   rw[aF] at h
   split at h
   ·rename_i e;subst e;rw[hy];exact h
   ·exact r7 h
  ·exact r7 h
def vw (b:aa)(n:Nat):(fK b n).1.st=b.st∧(fK b n).1.fz=b.fz∧bX b.c (fK b n).1.c:=by
 obtain⟨st,fz,c⟩:=b
 cases c with
 |var t x=>trivial
 |rows t xs=>trivial
 |deep rs t xs=>exact⟨rfl,rfl,bX.refl _⟩
 |dead=>trivial
def yW {id:Nat}{b:aa}{k:Nat}(ht:jc (fK b k).2.1 m ρ)(h:cM w I m ρ id b):cM w I m ρ id (fK b k).1:=by
 obtain⟨st,fz,c⟩:=b
 cases c with
 |var t x=>
  obtain⟨h1,B,cs,h2,h3,h4,h5⟩:=h
  exact⟨y9 h1,B,cs,h2,h3,sX (x:=x) (n:=k) ht h4,h5⟩
 |rows t xs=>exact h
 |deep rs t xs=>exact h
 |dead=>exact h
def yU {b:aa}{k:Nat}(h:(fK b k).1.bI):(fK b k).1=b:=by
 obtain⟨st,fz,c⟩:=b
 cases c<;>grind [fK,aa.bI]
def zi {keep:List Nat}(hb:cH (fun x=>Nat.ble (x.1+1) eW) st.mem=true)(h:Inv F n K st a w) :
  ∃I ρ,pU F n K (s7 keep st) a w I ρ:=by
 obtain⟨⟨I,ρ,hi⟩,hn⟩:=h
 have hA:s7 keep st=⟨(jy (ku st.env keep) eW).1,app (jz (uniq st.mem []) (jy (ku st.env keep) eW).2.2).1 (app (jy (ku st.env keep) eW).2.1 (jz (uniq st.mem []) (jy (ku st.env keep) eW).2.2).2.1),st.ok⟩:=rfl
 rw[hA]
 generalize hE:jy (ku st.env keep) eW=E
 generalize hM:jz (uniq st.mem []) E.2.2=M
 have hfe:=hE▸vA _ _
 have hfm:=hM▸vC _ _
 have hfr:=hfe.app hfm
 have hlt:∀id b,find st.mem id=some b→id<eW:=fun id b hb'=>by
  have:=fR hb _ (eS hb')
  have:=fc this
  omega
 have huniq:∀i,find (uniq st.mem []) i=find st.mem i:=fun i=>by rw[sr];rfl
 have hold:∀id b',find M.1 id=some b'→∃b k,find st.mem id=some b∧b'=(fK b k).1∧∀y∈(fK b k).2.1,y∈M.2.1:=by
  intro id b' hf
  rw[←hM] at hf
  obtain⟨b,k,h1,h2,h3⟩:=vB hf
  grind
 let m1:=find (app M.1 (app E.2.1 M.2.1))
 let lC:Pl:=⟨fun i=>if i<eW then ρ i else none,fun i=>if i<eW then ρ.d i else []⟩
 have hfind:∀id b',m1 id=some b'→(∃b k,find st.mem id=some b∧b'=(fK b k).1∧∀y∈(fK b k).2.1,y∈M.2.1)∨(eW≤id∧∃t,b'=⟨0,false,.rows t []⟩):=by
  intro id b' hf
  change find (app M.1 (app E.2.1 M.2.1)) id=some b' at hf
  rw[cO] at hf
  split at hf
  ·grind
  ·obtain⟨h1,_,h3⟩:=hfr.all _ (eS hf)
   exact .inr ⟨h1,h3⟩
 have hold1:∀id b,find st.mem id=some b→∃k,m1 id=some (fK b k).1:=by
  intro id b hb'
  obtain⟨b',cE⟩:=vD (l:=uniq st.mem []) (n:=E.2.2) (by rw[huniq];exact hb')
  rw[hM] at cE
  obtain⟨b0,k,h1,h2,h3⟩:=hold id b' cE
  rw[hb'] at h1
  cases h1
  refine⟨k,?_⟩
  show find (app M.1 (app E.2.1 M.2.1)) id=_
  rw[cO,cE,h2]
 have uO:jc (app E.2.1 M.2.1) m1 lC:=by
  intro x hx
  obtain⟨h1,_,_⟩:=hfr.all x hx
  refine⟨?_,by show(if x.1<eW then ρ x.1 else none)=none;rw[cT (by omega)]⟩
  show find (app M.1 (app E.2.1 M.2.1)) x.1=_
  rw[cO]
  cases hf:find M.1 x.1 with
  |none=>exact hfr.fnd x hx
  |some b=>
   obtain⟨b0,k,h2,_⟩:=hold _ _ hf
   have:=hlt _ _ h2
   omega
 have hkeep:c_ (find st.mem) m1 ρ lC w w:=by
  refine⟨fun id b hb'=>?_,fun _ _ _ _ _ _ _ _ _ _ _ _ _ _ _ _=>rfl⟩
  obtain⟨k,hk⟩:=hold1 id b hb'
  obtain⟨e1,e2,e3⟩:=vw b k
  exact⟨_,hk,.inr ⟨e1.symm,e3,by show(if id<eW then ρ id else none)=_;rw[bQ (hlt id b hb')],fun _ _ _ _ cs hc=>⟨cs,hc,bA _⟩⟩⟩
 have cS:=bH.refl I w
 have hρ:∀id B o,lC id=some (B,o)→ρ id=some (B,o):=by
  intro id B o h
  change (if id<eW then ρ id else none)=_ at h
  split at h
  ·exact h
  ·cases h
 have dA:∀{id:Nat} {b':aa},m1 id=some b'→b'.live→∀{B o},lC id=some (B,o)→∃b,find st.mem id=some b∧b.live:=by
  intro id b' hb' hl B o hr
  rcases hfind id b' hb' with⟨b,k,h1,h2,_⟩|⟨h1,_⟩
  ·refine⟨b,h1,?_⟩
   obtain⟨_,_,e3⟩:=vw b k
   rw[h2] at hl
   unfold aa.live at hl ⊢
   revert e3 hl
   cases b.c<;>cases (fK b k).1.c<;>simp[bX]
  ·change (if id<eW then ρ id else none)=_ at hr
   rw[cT (by omega)] at hr
   cases hr
 refine⟨I,lC,⟨?_,?_,hi.size,hi.defers,hi.kept.mono hkeep⟩⟩
 ·refine⟨fun id b' hb'=>?_,fun id id' b b' B o o' h1 h2 h3 h4 h5 h6=>?_,hi.mem.aS,hi.mem.iJ,hi.mem.iu,fun id b B o h1 h2 h3=>?_,fun id b hb' cF=>?_,hi.mem.frame,hi.mem.size,hi.mem.os,hi.mem.tape,hi.mem.output,hi.mem.fU⟩
  ·rcases hfind id b' hb' with⟨b,k,h1,h2,h3⟩|⟨h1,t,h2⟩
   ·subst h2
    refine yW (m:=m1) (ρ:=lC) (fun y hy=>uO y (bw.2 (.inr (h3 y hy)))) ?_
    refine(hi.mem.aN id b h1).mono cS hkeep ?_ ?_ (fun _ _ _ _=>⟨rfl,fun h=>h⟩) (fun _ _ _=>⟨rfl,fun h=>h⟩)
    ·show(if id<eW then ρ id else none)=_
     rw[bQ (hlt id b h1)]
    ·show(if id<eW then ρ.d id else [])=_
     rw[bQ (hlt id b h1)]
   ·subst h2
    refine⟨trivial,.inl ⟨rfl,?_⟩⟩
    show(if id<eW then ρ id else none)=none
    rw[cT (by omega)]
  ·obtain⟨c,gN,iS⟩:=dA h1 h3 h5
   obtain⟨c',mC,mD⟩:=dA h2 h4 h6
   exact hi.mem.inj id id' c c' B o o' gN mC iS mD (hρ _ _ _ h5) (hρ _ _ _ h6)
  ·obtain⟨c,gN,iS⟩:=dA h1 h2 h3
   exact hi.mem.mine id c B o gN iS (hρ _ _ _ h3)
  ·have jR:∀{i:Nat} {c:aa},m1 i=some c→c.bI→find st.mem i=some c∧lC.d i=ρ.d i:=by
    intro i c hc hd
    rcases hfind i c hc with⟨b0,k,h1,h2,_⟩|⟨_,t,h2⟩
    ·rw[h2] at hd
     have:=yU hd
     rw[h2,this]
     refine⟨h1,?_⟩
     show(if i<eW then ρ.d i else [])=_
     rw[bQ (hlt i b0 h1)]
    ·rw[h2] at hd;simp[aa.bI] at hd
   obtain⟨h1,h2⟩:=jR hb' cF
   obtain⟨q1,q2⟩:=hi.mem.dp id b h1 cF
   rw[h2]
   refine⟨q1,fun B hB=>⟨(q2 B hB).1,fun id' b' o g1 g2 g3=>?_,fun id' b' g1 g2 g3=>?_⟩⟩
   ·obtain⟨c,gN,iS⟩:=dA g1 g2 g3
    exact(q2 B hB).2.1 id' c o gN iS (hρ _ _ _ g3)
   ·obtain⟨k1,k2⟩:=jR g1 g2
    rw[k2] at g3
    exact(q2 B hB).2.2 id' b' k1 g2 g3
 ·intro s av bC
  rw[←hE] at bC
  obtain⟨x,k,h1,h2,h3⟩:=vz bC
  subst h2
  refine y7 (m:=m1) (ρ:=lC) (fun y hy=>uO y (bw.2 (.inl (hE▸h3 y hy)))) ?_
  exact(hi.env s x (r7 h1)).mono cS hkeep
end
section
variable {P:Program} {F:Fix} {C:Cx} {o:Oper} {a:Act} {w w':World} {m m':MF} {I I':Nat→Prop} {ρ ρ':Pl} {d:aD}
variable {n:Nat} {K:eO} {st st':St} {μ:List (Nat×Nat)}
def n7:BC→BC→Prop
 |c,.rows u xs=>c = .rows u xs
 |c,.deep _ u xs=>∃r,c = .deep r u xs
 |c,.var t _=>∃x,c = .var t x
 |_,.dead=>True
def n7.arr {c c':BC}{x:Ty×Nat}(h:n7 c c')(e:c'.arr=some x):c.arr=some x:=by
 cases c' with
 |rows u xs=>grind [n7]
 |deep r u xs=>obtain⟨r',h⟩:=h;subst h;exact e
 |var _ _=>cases e
 |dead=>cases e
structure mX (m m':MF) (ρ ρ':Pl) (μ:List (Nat×Nat)):Prop where
 to:∀id j b,find μ id=some j→m id=some b→∃b',m' j=some b'∧(0<b'.st∨(b'.st=0∧n7 b.c b'.c))∧ρ' j=ρ id
def pC {id st:Nat}{f:Nat→AT}:jE m μ id st f = .undef 1∨∃b j,m id=some b∧b.st=st∧find μ id=some j∧jE m μ id st f=f j:=by
 unfold jE
 split
 ·rename_i b hb
  split
  ·rename_i j hj
   exact .inr ⟨b,j,(cN hb).1,(cN hb).2,hj,rfl⟩
  ·exact .inl rfl
 ·exact .inl rfl
def zc {vs:List Value}(h:gJ vs):aq w I m ρ (.undef 1) vs:=by
 obtain⟨v,e,h1⟩:=h
 subst e
 exact⟨rfl,fun u hu=>by grind⟩
def iN.to {id j sz off:Nat}{ad:Option Addr}{cap:Nat}(h:iN w ρ id sz off ad cap)(e:ρ' j=ρ id):iN w ρ' j sz off ad cap:=by
 simp_all [iN,fP]
def fP.to {id j sz:Nat}{ad:Option Addr}{cap:Nat}(h:fP w ρ id sz ad cap)(e:ρ' j=ρ id):fP w ρ' j sz ad cap:=by
 simp_all [fP]
def oV (a b:AT):oU a b = .pair a b∨∃s x t y,a = .leaf s x∧b = .leaf t y∧oU a b = .leaf (.pair s t) (x,y):=by
 unfold oU
 grind
def yT {a b:AT}{v1 v2:List Value}(h1:aq w I m ρ a v1)(h2:aq w I m ρ b v2):aq w I m ρ (oU a b) (v1++v2):=by
 rcases oV a b with e|⟨s,x,t,y,rfl,rfl,e⟩
 ·rw[e];exact⟨v1,v2,rfl,h1,h2⟩
 ·exact⟨v1,v2,rfl,h1,h2⟩
def tf (gR:mX m m' ρ ρ' μ):∀{x:AT} {vs:List Value},aq w I m ρ x vs→aq w I m' ρ' (cQ m μ x) vs:=by
 intro x
 have ref:∀{id st:Nat} {f:Nat→AT} {vs:List Value},gJ vs →
   (∀b j b',m id=some b→b.st=st→m' j=some b'→(b'.st=0→n7 b.c b'.c)→ρ' j=ρ id→aq w I m' ρ' (f j) vs)→aq w I m' ρ' (jE m μ id st f) vs:=by
  intro id st f vs h1 h
  rcases pC (m:=m) (μ:=μ) (id:=id) (st:=st) (f:=f) with e|⟨b,j,e1,e2,e3,e4⟩
  ·rw[e];exact zc h1
  ·rw[e4]
   obtain⟨b',k1,k2,k3⟩:=gR.to id j b e3 e1
   refine h b j b' e1 e2 k1 (fun hz=>?_) k3
   rcases k2 with k2|k2
   ·omega
   ·exact k2.2
 induction x with
 |leaf t x=>intro vs h;exact h
 |whole id st t=>
  intro vs h
  refine ref h.1 fun b j b' e1 e2 k1 k2 k3=>⟨h.1,⟨b',k1,lB _⟩,fun b2 cE hst u xs hc=>?_⟩
  rw[k1] at cE;cases cE
  obtain⟨ad,cap,q1,q2,q3⟩:=h.2.2 b e1 e2 u xs ((k2 hst).arr hc)
  exact⟨ad,cap,q1,q2,q3.to k3⟩
 |piece id st off len t=>
  intro vs h
  refine ref h.1 fun b j b' e1 e2 k1 k2 k3=>⟨h.1,⟨b',k1,lB _⟩,fun b2 cE hst u xs hc=>?_⟩
  rw[k1] at cE;cases cE
  obtain⟨ad,cap,q1,q2,q3,q4⟩:=h.2.2 b e1 e2 u xs ((k2 hst).arr hc)
  exact⟨ad,cap,q1,q2,q3,q4.to k3⟩
 |nil t=>intro vs h;exact h
 |dU=>intro vs h;exact h
 |pair l r ihl ihr=>intro vs h;obtain⟨v1,v2,e,h1,h2⟩:=h;rw[e];exact yT (ihl h1) (ihr h2)
 |undef n=>intro vs h;exact h
 |aR id st p=>
  intro vs h
  refine ref h.1 fun b j b' e1 e2 k1 k2 k3=>⟨h.1,⟨b',k1,lB _⟩,fun b2 cE hst t x hc=>?_⟩
  rw[k1] at cE;cases cE
  have:=k2 hst
  rw[hc] at this
  obtain⟨x',hx'⟩:=this
  rw[k3]
  exact h.2.2 b e1 e2 t x' hx'
 |ptr id st row p=>
  intro vs h
  refine ref h.1 fun b j b' e1 e2 k1 k2 k3=>⟨h.1,⟨b',k1,lB _⟩,fun b2 cE hst t xs hc=>?_⟩
  rw[k1] at cE;cases cE
  rw[k3]
  exact h.2.2 b e1 e2 t xs ((k2 hst).arr hc)
 |nest id st rs row p u=>intro vs h;exact⟨h.1,h.2.1⟩
 |fn f c ih=>intro vs h;obtain⟨caps,e,h1⟩:=h;exact⟨caps,e,ih h1⟩
 |bJ l r ihl ihr=>intro vs h;obtain⟨v1,v2,e,h1,h2⟩:=h;exact⟨v1,v2,e,ihl h1,ihr h2⟩
 |dM=>intro vs h;exact h
 |bS g b=>intro vs h;simp[aq] at h
 |any=>intro vs h;exact h
def zy:∀(x:AT),x.fM=true→(cQ m μ x).isAgg=x.isAgg:=by
 intro x hnn
 have ref:∀{id st:Nat} {f:Nat→AT},(∀j,(f j).isAgg=false)→(jE m μ id st f).isAgg=false:=by
  intro id st f h
  rcases pC (m:=m) (μ:=μ) (id:=id) (st:=st) (f:=f) with e|⟨b,j,_,_,_,e⟩<;>rw[e]
  ·rfl
  ·grind
 cases x<;>first|rfl|exact ref fun _=>rfl|grind [AT.fM]|(rename_i l r;rcases oV (cQ m μ l) (cQ m μ r) with e|⟨_,_,_,_,_,_,e⟩<;>simp[cQ,e]<;>rfl)
def zI:∀{x:AT} {t:Ty},x.fM=true→Typed x t→Typed (cQ m μ x) t:=by
 intro x
 induction x with
 |whole id st u=>
  intro t _ h
  subst h
  simp[cQ]
  rcases pC (m:=m) (μ:=μ) (id:=id) (st:=st) (f:=fun j=>AT.whole j 0 u) with e|⟨b,j,_,_,_,e⟩<;>rw[e]
  ·trivial
  ·rfl
 |piece id st off len u=>
  intro t _ h
  subst h
  simp[cQ]
  rcases pC (m:=m) (μ:=μ) (id:=id) (st:=st) (f:=fun j=>AT.piece j 0 off len u) with e|⟨b,j,_,_,_,e⟩<;>rw[e]
  ·trivial
  ·rfl
 |pair l r ihl ihr=>intro t hn h;simp[AT.fM] at hn;obtain⟨a,b,e,h1,h2⟩:=h;have k1:=ihl hn.1 h1;have k2:=ihr hn.2 h2;rcases oV (cQ m μ l) (cQ m μ r) with e'|⟨s,x,u,y,e1,e2,e'⟩<;>simp[cQ,e'];exact⟨a,b,e,k1,k2⟩;simp_all [Typed]
 |nest _ _ _ _ _ _=>intro t hn h;trivial
 |aR id st p=>intro t _ h;trivial
 |ptr id st row p=>intro t _ h;trivial
 |fn f c ih=>intro t _ h;trivial
 |bJ l r ihl ihr=>intro t _ h;trivial
 |bS g b=>intro t _ h;trivial
 |_=>intro t _ h;exact h
def mN (gR:mX m m' ρ ρ' μ){x:AT}{v:Value}(hn:x.fM=true)(h:aG w I m ρ x v):aG w I m' ρ' (cQ m μ x) v:=by
 unfold aG at h ⊢
 rw[zy x hn]
 split
 ·rename_i hh
  rw[bQ hh] at h
  obtain⟨arr,e,h1⟩:=h
  exact⟨arr,e,tf gR h1⟩
 ·rename_i hh
  rw[cT hh] at h
  exact tf gR h
def zH (gR:mX m m' ρ ρ' μ):∀{x:AT} {vs:List Value},x.fM=true→eD w I m ρ x vs→eD w I m' ρ' (cQ m μ x) vs:=by
 intro x
 induction x with
 |bJ l r ihl ihr=>intro vs hn h;simp[AT.fM] at hn;obtain⟨v,vs',e,h1,h2⟩:=h;exact⟨v,vs',e,mN gR hn.1 h1,ihr hn.2 h2⟩
 |dM=>intro vs _ h;exact h
 |_=>simp[eD]
def zT {x:AT}{v:Value}(h:aG w I m ρ x v)(hn:∀l r,x ≠ .bJ l r)(h1:x ≠ .dM):aj w I m ρ x v:=by
 cases x<;>first|exact h|trivial|grind|exact absurd rfl h1
def zD (gR:mX m m' ρ ρ' μ){x:AT}{v:Value}(hn:x.fM=true)(h:aj w I m ρ x v):aj w I m' ρ' (cQ m μ x) v:=by
 have ref:∀{id st:Nat} {f:Nat→AT},(∀j,(∀l r,f j ≠ .bJ l r)∧f j ≠ .dM)→aG w I m' ρ' (jE m μ id st f) v→aj w I m' ρ' (jE m μ id st f) v:=by
  intro id st f hf hv
  refine zT hv ?_ ?_<;>rcases pC (m:=m) (μ:=μ) (id:=id) (st:=st) (f:=f) with e|⟨b,j,_,_,_,e⟩<;>rw[e]
  all_goals grind
 cases x with
 |bJ l r=>obtain⟨arr,e,h1⟩:=h;exact⟨arr,e,zH gR (x:=.bJ l r) hn h1⟩
 |dM=>exact h
 |any=>trivial
 |bS _ _=>trivial
 |whole id st t=>exact ref (fun j=>⟨by simp,by simp⟩) (mN gR (x:=.whole id st t) hn h)
 |piece id st off len t=>exact ref (fun j=>⟨by simp,by simp⟩) (mN gR (x:=.piece id st off len t) hn h)
 |ptr id st row p=>exact ref (fun j=>⟨by simp,by simp⟩) (mN gR (x:=.ptr id st row p) hn h)
 |aR id st p=>exact ref (fun j=>⟨by simp,by simp⟩) (mN gR (x:=.aR id st p) hn h)
 |leaf t y=>exact h
 |nil t=>exact h
 |dU=>exact h
 |pair l r=>have k:=mN gR (x:=.pair l r) hn h;simp[cQ] at k ⊢;rcases oV (cQ m μ l) (cQ m μ r) with e|⟨_,_,_,_,_,_,e⟩<;>(rw[e] at k ⊢;exact k)
 |undef k=>exact h
 |fn f c=>exact mN gR (x:=.fn f c) hn h
 |nest _ _ _ _ _ _=>trivial
def zL (gR:mX m m' ρ ρ' μ){x:AT}{v:Value}(h:aj w I m ρ x v):aj w I m' ρ' (pB m μ x) v:=by
 have main:aj w I m' ρ' (bif x.fM then cQ m μ x else .any) v:=by
  cases hn:x.fM with
  |true=>exact zD gR hn h
  |false=>trivial
 cases x<;>first|trivial|trivial
def uC {i:Nat}{b:aa}:∀{l:Mem} (j:Nat),find (nN i b l) j=if i=j then some b else find l j
 | [],j=>by simp[nN,aF]
 | (k,c)::l,j=>by
  simp[nN]
  cases h:Nat.ble i k with
  |true=>simp[aF]
  |false=>
   have hik:i≠k:=by intro e;subst e;rw[Nat.ble_eq_true_of_le (bA _)] at h;grind
   simp[aF,uC (l:=l)]
   grind
def si:∀(l:Mem) (j:Nat),find (mO l) j=find l j
 | [],_=>rfl
 | (i,b)::l,j=>by
  show find (nN i b (mO l)) j=_
  rw[uC,aF,si l]
def lH {α:Type}:∀{l:List (Nat×α)} {i:Nat} {x:α},(l.map (·.1)).Nodup→(i,x)∈l→find l i=some x
 | [],i,x,_,h=>by grind
 | (j,y)::l,i,x,hn,h=>by
  simp at hn
  rw[aF]
  rcases bN.1 h with e|h
  ·grind
  ·have:j≠i:=by grind
   rw[cT this]
   exact lH hn.2 h
def pA {i:Nat}{b:aa}(h:m i=some b):(fD m μ i=⟨1,false,.dead⟩∧0<b.st∧gD i=true) ∨
  ((gD i=false∨b.st=0)∧(fD m μ i).st=0∧(fD m μ i).fz=b.fz∧((∃t x,b.c = .var t x∧(fD m μ i).c = .var t (cQ m μ x))∨(∃t xs,b.c = .rows t xs∧(fD m μ i).c = .rows t xs)∨(∃r t xs,b.c = .deep r t xs∧(fD m μ i).c = .deep 0 t xs)∨(b.c = .dead∧(fD m μ i).c = .dead))):=by
 obtain⟨st,fz,c⟩:=b
 unfold fD
 rw[h]
 simp
 cases hp:gD i && !(Nat.beq st 0) with
 |true=>
  simp only[dW,true_and]
  simp at hp
  refine .inl ⟨Nat.pos_of_ne_zero fun e=>?_,hp.1⟩
  simp_all
 |false=>
  refine .inr ⟨?_,?_⟩
  ·rw[zl81] at hp
   rcases hp with hp|hp
   ·exact .inl hp
   ·refine .inr ?_
    simp only[Bool.not_eq_false'] at hp
    exact dH hp
  ·cases c with
   |var t x=>exact⟨rfl,rfl,.inl ⟨t,x,rfl,rfl⟩⟩
   |rows t xs=>exact⟨rfl,rfl,.inr (.inl ⟨t,xs,rfl,rfl⟩)⟩
   |deep r t xs=>exact⟨rfl,rfl,.inr (.inr (.inl ⟨r,t,xs,rfl,rfl⟩))⟩
   |dead=>exact⟨rfl,rfl,.inr (.inr (.inr ⟨rfl,rfl⟩))⟩
def zA (x:AT):∀A b,cQ m μ x ≠ .bS A b:=by
 cases x<;>simp[cQ]<;>first
  |grind
  |grind [jE]
  | (rename_i l r;rcases oV (cQ m μ l) (cQ m μ r)<;>grind)
  |skip
def zK (x:AT):∀A b,pB m μ x ≠ .bS A b:=by
 intro A b
 have main:(bif x.fM then cQ m μ x else .any) ≠ .bS A b:=by
  cases x.fM with
  |true=>exact zA x A b
  |false=>simp
 cases x<;>first|trivial|simp
def r8 (m:MF)(μ:List (Nat×Nat)):∀(env:List (Nat×AT)) (s:Nat),find (bu (fun x=>(x.1,pB m μ x.2)) env) s=(find env s).map (pB m μ)
 | [],s=>rfl
 | (t,x)::l,s=>by
  simp[bu,aF,r8 m μ l]
  grind
def zj {p:St}(hb:s8 st=some p)(h:∃I ρ,pU F n K st a w I ρ):Inv F n K p a w:=by
 obtain⟨I,ρ,hi⟩:=h
 unfold s8 at hb
 dsimp only at hb
 generalize qN st.mem 100 _=μ at hb
 obtain⟨hok,hb⟩:=aU hb
 cases hb
 rw[bB] at hok
 obtain⟨hok,hnn⟩:=hok
 have hnn':∀i fz s t x,find st.mem i=some ⟨s,fz,.var t x⟩→x.fM=true:=fun i fz s t x h=>fR hnn _ (eS h)
 simp only[renOk,bB,lU,jw] at hok
 obtain⟨⟨⟨n1,n2⟩,hpid⟩,hpm⟩:=hok
 let m:MF:=find st.mem
 let m':MF:=find (mO (bu (fun x=>(x.2,fD (find st.mem) μ x.1)) μ))
 let sw:List (Nat×Nat):=μ.map fun x=>(x.2,x.1)
 let ρ':Pl:=⟨fun j=>match find sw j with | some i=>ρ i|none=>none,fun j=>match find sw j with | some i=>ρ.d i|none=>[]⟩
 have nsw:(sw.map (·.1)).Nodup:=by grind
 have kT:∀i j,(i,j)∈μ→ρ' j=ρ i:=by
  intro i j hij
  show(match find sw j with | some i=>ρ i|none=>none)=_
  rw[lH nsw (gG.2 ⟨(i,j),hij,rfl⟩)]
 have hswd:∀i j,(i,j)∈μ→ρ'.d j=ρ.d i:=by
  intro i j hij
  show(match find sw j with | some i=>ρ.d i|none=>[])=_
  rw[lH nsw (gG.2 ⟨(i,j),hij,rfl⟩)]
 have nm:(((bu (fun x:Nat×Nat=>(x.2,fD (find st.mem) μ x.1)) μ)).map (·.1)).Nodup:=by
  rw[jw]
  grind
 have hto:∀i j,(i,j)∈μ→m' j=some (fD m μ i):=by
  intro i j hij
  show find (mO _) j=_
  rw[si]
  exact lH nm (by rw[jw];grind)
 have mF:∀j b',m' j=some b'→∃i,(i,j)∈μ∧b'=fD m μ i:=by
  intro j b' h
  change find (mO _) j=_ at h
  rw[si,jw] at h
  obtain⟨⟨i,k⟩,h1,h2⟩:=gG.1 (eS h)
  grind
 have fA:mX m m' ρ ρ' μ:=by
  refine⟨fun id j b hf hb=>?_⟩
  have hin:=eS hf
  refine⟨_,hto id j hin,?_,kT id j hin⟩
  rcases pA (μ:=μ) hb with⟨e,_,_⟩|⟨_,e1,_,e2⟩
  ·grind
  ·refine .inr ⟨e1,?_⟩
   rcases e2 with⟨t,x,k1,k2⟩|⟨t,xs,k1,k2⟩|⟨r,t,xs,k1,k2⟩|⟨k1,k2⟩<;>rw[k2,k1]
   ·exact⟨x,rfl⟩
   ·rfl
   ·exact⟨r,rfl⟩
   ·trivial
 have dA:∀i j,(i,j)∈μ→(fD m μ i).live→∃b,m i=some b∧b.live:=by
  intro i j hij hl
  cases hb:m i with
  |none=>
   have:fD m μ i=⟨0,false,.dead⟩:=by unfold fD;rw[hb]
   rw[this] at hl
   exact hl.elim
  |some b=>
   refine⟨b,rfl,?_⟩
   rcases pA (μ:=μ) hb with⟨e,_,_⟩|⟨_,_,_,e2⟩
   ·rw[e] at hl;exact hl.elim
   ·rcases e2 with⟨t,x,k1,k2⟩|⟨t,xs,k1,k2⟩|⟨r,t,xs,k1,k2⟩|⟨k1,k2⟩
    ·exact kz k1
    ·exact fC k1
    ·unfold aa.live;rw[k1];trivial
    ·unfold aa.live at hl;rw[k2] at hl;exact hl.elim
 have kg:∀i j,(i,j)∈μ→(fD m μ i).bI→∃b,m i=some b∧b.bI:=by
  intro i j hij hd
  obtain⟨b,hb,_⟩:=dA i j hij (fj hd)
  refine⟨b,hb,?_⟩
  unfold aa.bI at hd ⊢
  rcases pA (μ:=μ) hb with⟨e,_,_⟩|⟨_,_,_,e2⟩
  ·rw[e] at hd;exact hd.elim
  ·rcases e2 with⟨t,x,k1,k2⟩|⟨t,xs,k1,k2⟩|⟨r,t,xs,k1,k2⟩|⟨k1,k2⟩<;>rw[k2] at hd
   ·exact hd.elim
   ·exact hd.elim
   ·rw[k1];trivial
   ·exact hd.elim
 have hsame:∀{i j j':Nat},(i,j)∈μ→(i,j')∈μ→j=j':=by
  intro i j j' h h'
  have f1:=lH n1 h
  rw[lH n1 h'] at f1
  cases f1
  rfl
 refine⟨⟨I,ρ',⟨?_,?_,hi.size,hi.defers,?_⟩⟩,?_⟩
 ·refine⟨fun j b' hb'=>?_,fun j j' b b' B o o' h1 h2 h3 h4 h5 h6=>?_,hi.mem.aS,hi.mem.iJ,hi.mem.iu,fun j b B o h1 h2 h3=>?_,fun j b hb' hd=>?_,hi.mem.frame,hi.mem.size,hi.mem.os,hi.mem.tape,hi.mem.output,hi.mem.fU⟩
  ·obtain⟨i,hij,e⟩:=mF j b' hb'
   subst e
   cases hb:m i with
   |none=>
    have:fD m μ i=⟨0,false,.dead⟩:=by unfold fD;rw[hb]
    rw[this];trivial
   |some b=>
    have aA:=hi.mem.aN i b hb
    rcases pA (μ:=μ) hb with⟨e,_,_⟩|⟨_,_,e1,e2⟩
    ·rw[e];trivial
    ·unfold cM at aA ⊢
     rcases e2 with⟨t,x,k1,k2⟩|⟨t,xs,k1,k2⟩|⟨r,t,xs,k1,k2⟩|⟨k1,k2⟩
     ·rw[k1] at aA
      rw[k2]
      simp only at aA ⊢
      obtain⟨q1,B,cs,q2,q3,q4,q5⟩:=aA
      exact⟨zI (hnn' i b.fz b.st t x (by show m i=_;rw[hb,←k1])) q1,B,cs,by rw[kT i j hij];exact q2,q3,tf fA q4,by rw[e1];exact q5⟩
     ·rw[k1] at aA
      rw[k2]
      simp only at aA ⊢
      rw[kT i j hij,e1]
      exact aA
     ·rw[k1] at aA
      rw[k2]
      simp only at aA ⊢
      rw[kT i j hij,hswd i j hij,e1]
      exact aA
     ·rw[k2];trivial
  ·obtain⟨i,hij,e⟩:=mF j b h1
   obtain⟨i',kk,e'⟩:=mF j' b' h2
   subst e e'
   obtain⟨c,gN,iS⟩:=dA i j hij h3
   obtain⟨c',mC,mD⟩:=dA i' j' kk h4
   have:=hi.mem.inj i i' c c' B o o' gN mC iS mD (by rw[←kT i j hij];exact h5) (by rw[←kT i' j' kk];exact h6)
   subst this
   have f1:=lH n1 hij
   have f2:=lH n1 kk
   rw[f1] at f2
   cases f2
   rfl
  ·obtain⟨i,hij,e⟩:=mF j b h1
   subst e
   obtain⟨c,gN,iS⟩:=dA i j hij h2
   exact hi.mem.mine i c B o gN iS (by rw[←kT i j hij];exact h3)
  ·obtain⟨i,hij,e⟩:=mF j b hb'
   subst e
   obtain⟨c,gN,iS⟩:=kg i j hij hd
   obtain⟨q1,q2⟩:=hi.mem.dp i c gN iS
   rw[hswd i j hij]
   refine⟨q1,fun B hB=>⟨(q2 B hB).1,fun j' b' o g1 g2 g3=>?_,fun j' b' g1 g2 g3=>?_⟩⟩
   ·obtain⟨i',kk,e'⟩:=mF j' b' g1
    subst e'
    obtain⟨c',mC,mD⟩:=dA i' j' kk g2
    exact(q2 B hB).2.1 i' c' o mC mD (by rw[←kT i' j' kk];exact g3)
   ·obtain⟨i',kk,e'⟩:=mF j' b' g1
    subst e'
    obtain⟨c',mC,mD⟩:=kg i' j' kk g2
    have:=(q2 B hB).2.2 i' c' mC mD (by rw[←hswd i' j' kk];exact g3)
    subst this
    exact hsame kk hij
 ·intro s av bC
  simp only[r8,cq] at bC
  obtain⟨x,hx,e⟩:=bC
  subst e
  exact zL fA (hi.env s x hx)
 ·intro id b0 hb0
  obtain⟨b,hb,h1⟩:=hi.kept id b0 hb0
  have hp:=K.pid id b0 hb0
  have:=fR hpm _ (eS hb)
  simp only[hp,zl70,zl71] at this
  split at this
  ·rename_i j hj
   have:=dH this
   subst this
   have hin:=eS hj
   refine⟨_,hto _ _ hin,?_⟩
   rcases pA (μ:=μ) hb with⟨e,_,_⟩|⟨e0,e1,_,e2⟩
   ·rw[e];exact .inl (by decide)
   ·refine .inr ⟨e1,?_⟩
    have hz:b.st=0:=by
     rcases e0 with e0|e0
     ·rw[hp] at e0;cases e0
     ·exact e0
    rcases h1 with h1|⟨_,k2,k3,k4⟩
    ·omega
    ·refine⟨k2.trans ?_,(kT _ _ hin).trans k3,k4⟩
     rcases e2 with⟨t,x,q1,q2⟩|⟨t,xs,q1,q2⟩|⟨r,t,xs,q1,q2⟩|⟨q1,q2⟩<;>(show ff b.c (fD m μ _).c)<;>rw[q1,q2]
     ·exact rfl
     ·exact⟨rfl,rfl⟩
     ·exact⟨rfl,rfl⟩
     ·trivial
  ·cases this
 ·intro s A b hf
  simp only[r8,cq] at hf
  obtain⟨x,hx,e⟩:=hf
  exact zK x A b e
def zk {keep:List Nat}{p:St}(hp:plain keep st=some p)(h:Inv F n K st a w):=by
 unfold plain at hp
 cases hb:cH (fun x=>Nat.ble (x.1+1) eW) st.mem with
 |false=>grind
 |true=>
  rw[hb] at hp
  exact zj hp (zi hb h)
end
section
variable {P:Program} {F:Fix} {C:Cx} {o:Oper} {a:Act} {w w':World} {m m':MF} {I I':Nat→Prop} {ρ ρ':Pl} {d:aD}
variable {n:Nat} {K:eO} {st st':St}
def o8:∀{p q:Path},mM p q=true→p=q
 | [],[],_=>rfl
 |.fst::p,.fst::q,h=>by rw[o8 (p:=p) (q:=q) h]
 |.snd::p,.snd::q,h=>by rw[o8 (p:=p) (q:=q) h]
 |.idx i::p,.idx j::q,h=>by
  simp only[mM,bB] at h
  rw[dH h.1,o8 (p:=p) (q:=q) h.2]
 | [],_::_,h=>by trivial
 |.fst::_,[],h=>by trivial
 |.snd::_,[],h=>by trivial
 |.idx _::_,[],h=>by trivial
 |.fst::_,.snd::_,h=>by trivial
 |.fst::_,.idx _::_,h=>by trivial
 |.snd::_,.fst::_,h=>by trivial
 |.snd::_,.idx _::_,h=>by trivial
 |.idx _::_,.fst::_,h=>by trivial
 |.idx _::_,.snd::_,h=>by trivial
def AS.nh:∀{s:AS} {x:AT} {y:s.den},s.data x=some y→s.of y=x:=by
 intro s
 induction s with
 |leaf t=>
  intro x y h
  cases x<;>simp[AS.data,reduceCtorEq] at h
  have:=cz h
  cases this
  rfl
 |whole id t=>
  intro x y h
  cases x<;>(try trivial)
  rename_i jd st u
  cases st with
  |succ k=>cases h
  |zero=>
   obtain⟨e1,_⟩:=aU h
   simp only[bB] at e1
   have:=dH e1.1
   have:=Ty.cX e1.2
   subst_vars
   rfl
 |piece id t=>
  intro x y h
  cases x<;>(try trivial)
  rename_i jd st off len u
  cases st with
  |succ k=>cases h
  |zero=>
   obtain⟨e1,e2⟩:=aU h
   simp only[bB] at e1
   have:=dH e1.1
   have:=Ty.cX e1.2
   subst_vars
   cases e2
   rfl
 |dU=>intro x y h;cases x<;>simp[AS.data,reduceCtorEq] at h;rfl
 |pair l r ihl ihr=>
  intro x y h
  cases x<;>simp[AS.data,reduceCtorEq] at h
  split at h
  ·rename_i u v hu hv
   cases h
   simp[AS.of,ihl hu,ihr hv]
  ·cases h
 |undef k=>
  intro x y h
  cases x<;>simp[AS.data,reduceCtorEq] at h
  obtain⟨e1,_⟩:=aU h
  have:=dH e1
  subst_vars
  rfl
 |ptr id p=>
  intro x y h
  cases x<;>(try simp[AS.data,reduceCtorEq] at h)
  rename_i jd st row q
  cases st with
  |succ k=>cases h
  |zero=>
   obtain⟨e1,e2⟩:=aU h
   simp only[bB] at e1
   have:=dH e1.1
   have:=o8 e1.2
   subst_vars
   cases e2
   rfl
 |aR id p=>
  intro x y h
  cases x<;>(try simp[AS.data,reduceCtorEq] at h)
  rename_i jd st q
  cases st with
  |succ k=>cases h
  |zero=>
   obtain⟨e1,e2⟩:=aU h
   simp only[bB] at e1
   have:=dH e1.1
   have:=o8 e1.2
   subst_vars
   rfl
 |fn f c ih=>
  intro x y h
  cases x<;>simp only[AS.data,reduceCtorEq] at h
  obtain⟨e1,e2⟩:=aU h
  have:=dH e1
  subst this
  simp only[AS.of,ih e2]
 |bJ l r ihl ihr=>
  intro x y h
  cases x<;>simp only[AS.data,reduceCtorEq] at h
  split at h
  ·rename_i u v hu hv
   cases h
   simp only[AS.of,ihl hu,ihr hv]
  ·cases h
 |dM=>intro x y h;cases x<;>simp only[AS.data,reduceCtorEq] at h;rfl
 |any=>intro x y h;cases x<;>simp only[AS.data,reduceCtorEq] at h;rfl
def BS.nh {s:BS}{x:BC}{y:s.den}(h:s.data x=some y):s.of y=x:=by
 cases s with
 |var t a=>
  cases x<;>simp[BS.data] at h
  obtain⟨e1,e2⟩:=aU h
  have:=Ty.cX e1
  subst this
  simp[BS.of,AS.nh e2]
 |rows t=>
  cases x<;>simp[BS.data] at h
  have:=cz h
  cases this
  rfl
 |deep t=>
  cases x with
  |deep r u xs=>
   cases r with
   |zero=>
    have:=cz h
    cases this
    rfl
   |succ r=>trivial
  |_=>trivial
def uy:∀{l:List (Nat×AS)} {e:List (Nat×AT)} {y:oo l},qb l e=some y→ou l y=e
 | [],[],y,_=>rfl
 | [],_::_,y,h=>by trivial
 | [(s,a)],[],y,h=>by trivial
 | [(s,a)],[(s',b)],y,h=>by
  obtain⟨e1,e2⟩:=aU h
  have:=dH e1
  subst this
  simp[ou,AS.nh e2]
 | [(s,a)],_::_::_,y,h=>by trivial
 | (s,a)::a'::l,[],y,h=>by trivial
 | (s,a)::a'::l,(s',b)::l',y,h=>by
  simp[qb] at h
  obtain⟨e1,e2⟩:=aU h
  have:=dH e1
  subst this
  split at e2
  ·rename_i u v hu hv
   cases e2
   simp[ou,AS.nh hu,uy hv]
  ·cases e2
def vm:∀{l:List (Nat×Bool×BS)} {e:Mem} {y:oR l},qA l e=some y→oS l y=e
 | [],[],y,_=>rfl
 | [],_::_,y,h=>by trivial
 | [(s,f,a)],[],y,h=>by trivial
 | [(s,f,a)],[(s',⟨st,f',b⟩)],y,h=>by
  cases st with
  |succ k=>trivial
  |zero=>
   obtain⟨e1,e2⟩:=aU h
   simp only[bB] at e1
   have:=dH e1.1
   have:=rK e1.2
   subst_vars
   simp[oS,BS.nh e2]
 | [(s,f,a)],_::_::_,y,h=>by simp[qA] at h
 | (s,f,a)::a'::l,[],y,h=>by trivial
 | (s,f,a)::a'::l,(s',⟨st,f',b⟩)::l',y,h=>by
  cases st with
  |succ k=>trivial
  |zero=>
   obtain⟨e1,e2⟩:=aU h
   simp only[bB] at e1
   have:=dH e1.1
   have:=rK e1.2
   subst_vars
   split at e2
   ·rename_i u v hu hv
    cases e2
    simp[oS,BS.nh hu,vm hv]
   ·cases e2
def Inv.vI {e:List (Nat×AT)}{m:Mem}{k k':List Bool}(h:Inv F n K ⟨e,m,k⟩ a w):Inv F n K ⟨e,m,k'⟩ a w:=by
 obtain⟨⟨I,ρ,h1⟩,h2⟩:=h
 exact⟨⟨I,ρ,h1.mem,h1.env,h1.size,h1.defers,h1.kept⟩,h2⟩
def wpA_ok {m:MF}{x:AS}{a:AT}{v:Value}(h:aj w I m ρ a v):aj w I m ρ (wpA m x a) v:=by
 unfold wpA
 split
 ·rename_i id st t
  split
  ·rename_i b hb
   split
   ·rename_i y ha
    obtain⟨h1,h2⟩:=cN hb
    have hx':=cj (a:=.whole id st t) rfl h (by simp) (by simp) (by simp) (by simp)
    obtain⟨k1,k2,k3⟩:=hx'
    refine⟨k1,k2,fun b' hb' hs u' n' hc=>?_⟩
    obtain⟨a,cap,e1,e2,e3⟩:=k3 b' hb' hs u' n' hc
    rw[h1] at hb'
    cases hb'
    rw[ha] at hc
    cases hc
    exact⟨a,cap,e1,e2,by omega,e3.weak⟩
   ·exact h
  ·exact h
 ·exact h
def Am {m:MF}{x:AS}{a:AT}(h:∀A b,a ≠ .bS A b):∀A b,wpA m x a ≠ .bS A b:=by
 unfold wpA
 grind
def tK {m:MF}:∀{l:List (Nat×AS)} {e:List (Nat×AT)} {s:Nat} {av:AT},find (wpE m l e) s=some av→∃x a,find e s=some a∧(av=a∨av=wpA m x a)
 | [],e,s,av,h=>⟨.any,av,h,.inl rfl⟩
 |x::l,[],s,av,h=>by cases h
 |x::l,(k,a)::e,s,av,h=>by
  simp[wpE,aF] at h
  by_cases hk:k=s
  ·rw[bQ hk] at h
   cases h
   exact⟨x.2,a,by rw[aF,bQ hk],.inr rfl⟩
  ·rw[cT hk] at h
   obtain⟨y,b,h1,h2⟩:=tK h
   exact⟨y,b,by rw[aF,cT hk];exact h1,h2⟩
def Inv.wp {l:List (Nat×AS)}{e:List (Nat×AT)}{m:Mem}{k:List Bool}(h:Inv F n K ⟨e,m,k⟩ a w):Inv F n K ⟨wpE (find m) l e,m,k⟩ a w:=by
 obtain⟨⟨I,ρ,h1⟩,h2⟩:=h
 refine⟨⟨I,ρ,h1.mem,fun s av bC=>?_,h1.size,h1.defers,h1.kept⟩,fun s A b hf=>?_⟩
 ·obtain⟨x,a0,e1,e2⟩:=tK bC
  have h0:=h1.env s a0 e1
  rcases e2 with e2|e2
  ·subst e2;exact h0
  ·subst e2;exact wpA_ok h0
 ·obtain⟨x,a0,e1,e2⟩:=tK hf
  have hw:∀A b,a0 ≠ .bS A b:=fun A b e=>h2 s A b (e▸e1)
  rcases e2 with e2|e2
  ·exact hw A b e2.symm
  ·exact Am hw A b e2.symm
def pF {s:Sh}{x:s.den}{ok:List Bool}(hd:s.data st=some x)(h:Inv F n K st a w):Inv F n K { s.of x with ok:=ok } a w:=by
 unfold Sh.data at hd
 split at hd
 ·grind
 ·rename_i p hp
  split at hd
  ·rename_i u v hu hv
   cases hd
   have h1:=zk hp h
   have h1':=h1.wp (l:=s.env)
   have e1:=uy hu
   have e2:=vm hv
   unfold Sh.of
   rw[e1,e2]
   exact h1'.vI
  ·cases hd
def exOf:Ex→Exit
 |.norm=>.normal
 |.exit i=>.exit i
 |.ret=>.ret
def Ex.cX:∀{e f:Ex},e.is f=true→e=f
 |.norm,.norm,_=>rfl
 |.exit i,.exit j,h=>by simp_all [Ex.is]
 |.ret,.ret,_=>rfl
 |.norm,.exit _,h=>by trivial
 |.norm,.ret,h=>by trivial
 |.exit _,.norm,h=>by trivial
 |.exit _,.ret,h=>by trivial
 |.ret,.norm,h=>by trivial
 |.ret,.exit _,h=>by trivial
def rW {α:Type}{Kt:Ex→St→Option α}{ok:List Bool}{r:α}{f:Ex}:∀{l:fF} {y:l.den},l.data f st=some y→fF.go Kt ok l y=some r →
  ∃(s:Sh) (z:s.den),s.data st=some z∧Kt f { s.of z with ok:=ok }=some r
 | [],y,h,_=>by grind
 | [(e,s)],y,h,hg=>by
  obtain⟨e1,e2⟩:=aU h
  have:=Ex.cX e1
  subst this
  exact⟨s,y,e2,hg⟩
 | (e,s)::b::l,y,h,hg=>by
  simp[fF.data] at h
  split at h
  ·rename_i x hx
   cases h
   obtain⟨e1,e2⟩:=aU hx
   have:=Ex.cX e1
   subst this
   exact⟨s,x,e2,hg⟩
  ·rw[cq] at h
   obtain⟨z,hz,e⟩:=h
   subst e
   exact rW hz hg
def rE (P:Program)(c:Code)(Q:Exit→Act→World→Prop)(a:Act)(w:World):Prop:=
 ∀(b:Frame) (k:List Item) (cs:List Frame),∃e a' w',Q e a' w'∧Arrives P (lone (b.at a (.code c :: .inLoop c::k)) cs w) b k cs e a' w'
def yO {c:Code}{Q:Exit→Act→World→Prop}(h:rE P c Q a w):(Code.loop c).wp P Q a w:=fun b k cs=>by
 obtain⟨e,a',w',hq,cA⟩:=h b k cs
 exact⟨e,a',w',hq,.of_steps (.one step_loop) cA⟩
def vl {c:Code}{Q:Exit→Act→World→Prop}(h:c.wp P (Exit.then (rE P c Q) Q) a w):rE P c Q a w:=by
 intro b k cs
 obtain⟨e,a₁,w₁,hq,cA⟩:=h b (.inLoop c::k) cs
 cases e with
 |normal=>
  obtain⟨e₂,a₂,w₂,hq₂,yh⟩:=hq b k cs
  exact⟨e₂,a₂,w₂,hq₂,.of_steps (Steps.trans cA (.one step_inLoop)) yh⟩
 |exit id=>exact⟨_,a₁,w₁,hq,.pass (x:=.inLoop c) rfl (fun _ _=>.inl (by simp)) cA⟩
 |goto l=>exact⟨_,a₁,w₁,hq,.pass (x:=.inLoop c) rfl (fun _ _=>.inl (by simp)) cA⟩
 |ret=>exact⟨_,a₁,w₁,hq,.pass (x:=.inLoop c) rfl (fun _ _=>.inl (by simp)) cA⟩
 |panic ch=>exact⟨_,a₁,w₁,hq,.pass (x:=.inLoop c) rfl (fun _ _=>.inl (by simp)) cA⟩
 |outgrown=>exact⟨_,a₁,w₁,hq,.pass (x:=.inLoop c) rfl (fun _ _=>.inl (by simp)) cA⟩
def iF (C:Cx)(lt:List (Nat×bZ)):Code→Prop
 |.seq a b=>iF C lt a∧iF C lt b∧∀L,mA lt a=some L→∀x,L.dom x=true→boxR C lt a L x=some (L.val x)
 |.cond _ a b=>iF C lt a∧iF C lt b
 |.block _ c=>iF C lt c
 |.scope c=>iF C lt c
 |.loop c=>iF C lt c∧∀L,(find lt (iH c)=some L∨find lt (iH c+500000)=some L)→∀x,L.dom x=true→Comes (round C lt c L) x (L.val x)
 |_=>True
end
section
variable {P:Program} {F:Fix} {C:Cx} {o:Oper} {a:Act} {w w':World} {m m':MF} {I I':Nat→Prop} {ρ ρ':Pl} {d:aD}
variable {n:Nat} {K:eO} {st st':St}
def yN {lt:List (Nat×bZ)}{k:Nat}{st:St}{L:bZ}(h:sO lt k st=some L):find lt k=some L∨find lt (k+500000)=some L:=by
 grind [sO]
def xm (hF:eN P F.G C){c:Operand}{g:Bool}(h:rR st.env C c=some g)(hi:Inv F n K st a w):a.eval c = .bool g:=by
 obtain⟨⟨I,ρ,h1⟩,h2⟩:=hi
 have h3:aj w I (find st.mem) ρ (iz C st.env [] c) (a.eval c):=by
  refine qF hF h1.mem.fU (fun s _ av bC=>?_) (by intro t ht;grind)
  exact rU (h1.env s av bC) fun A b e=>h2 s A b (e▸bC)
 have h4:iz C st.env [] c = .leaf .bool g:=by
  grind [rR,iz]
 rw[h4] at h3
 exact f_.1 h3
def evC_ok (hm:P.follows .mixedOrders=true)(hC:bR P C)(hF:eN P F.G C){lt:List (Nat×bZ)}:∀(c:Code) {α:Type} {r:α} {Kt:Ex→St→Option α} {st:St} {a:Act} {w:World} {Q:Exit→Act→World→Prop},
  codeOk n c=true→iF C lt c→Inv F n K st a w→gy C lt c Kt st=some r →
  (∀e st' a' w',Kt e st'=some r→Inv F n K st' a' w'→Q (exOf e) a' w')→c.wp P Q a w:=by
 intro c
 induction c with
 |skip=>intro α r Kt st a w Q _ _ hi h hQ;exact wp_skip (hQ _ _ _ _ h hi)
 |region id ops draw=>
  intro α r Kt st a w Q dZ _ hi h hQ
  simp[gy] at h
  split at h
  ·rename_i st' hst
   obtain⟨h1,h2⟩:=aU h
   have hok:=tU.1 h1
   have hn:∀a' w',Inv F n K st' a' w'→Q .normal a' w':=fun a' w' h'=>hQ .norm _ _ _ h2 h'.vI
   cases draw with
   |false=>exact zu hC hF dZ hst hok hi hn
   |true=>exact zq hm hC hF dZ hst hok hi hn
  ·cases h
 |seq x y iV jr=>
  intro α r Kt st a w Q dZ hl hi h hQ
  simp[codeOk] at dZ
  simp[gy] at h
  split at h
  ·rename_i L hL
   unfold goBox at h
   split at h
   ·rename_i x0 hx
    obtain⟨nq,h2⟩:=aU h
    have hbox:=hl.2.2 L hL x0 nq
    have hix:=(pF (ok:=[]) hx hi)
    refine wp_seq (iV dZ.1 hl.1 hix hbox ?_)
    intro e st' a' w' he hi'
    obtain⟨s,v,k1,k2⟩:=rW (aU he).2 h2
    have hi2:=pF (ok:=st.ok) k1 hi'
    split at k2
    ·exact jr dZ.2 hl.2.1 hi2 k2 hQ
    ·rename_i hne
     have:=hQ e _ a' w' k2 hi2
     cases e with
     |norm=>exact absurd rfl hne
     |exit i=>exact this
     |ret=>exact this
   ·cases h
  ·refine wp_seq (iV dZ.1 hl.1 hi h ?_)
   intro e st' a' w' he hi'
   split at he
   ·exact jr dZ.2 hl.2.1 hi' he hQ
   ·rename_i hne
    have:=hQ e st' a' w' he hi'
    cases e with
    |norm=>exact absurd rfl hne
    |exit i=>exact this
    |ret=>exact this
 |cond c x y iV jr=>
  intro α r Kt st a w Q dZ hl hi h hQ
  simp[codeOk] at dZ
  simp[gy] at h
  split at h
  ·rename_i g hcg
   have hc:=xm hF hcg hi
   cases g with
   |true=>exact wp_cond_true hc (iV dZ.1 hl.1 hi h hQ)
   |false=>exact wp_cond_false hc (jr dZ.2 hl.2 hi h hQ)
  ·cases h
 |block id c ih=>
  intro α r Kt st a w Q dZ hl hi h hQ
  refine wp_block (ih dZ hl hi h ?_)
  intro e st' a' w' he hi'
  split at he
  ·rename_i i
   cases hb:Nat.beq i id with
   |true=>
    rw[hb] at he
    have:=dH hb
    subst this
    have h1:=hQ _ _ _ _ he hi'
    simp[exOf,Exit.inBlock]
    exact h1
   |false=>
    rw[hb] at he
    have hne:i≠id:=by intro e;subst e;simp at hb
    have h1:=hQ _ _ _ _ he hi'
    simp[exOf,Exit.inBlock,hne]
    exact h1
  ·rename_i hne
   have h1:=hQ _ _ _ _ he hi'
   cases e with
   |norm=>exact h1
   |exit i=>exact absurd rfl (hne i)
   |ret=>exact h1
 |loop c ih=>
  intro α r Kt st a w Q dZ hl hi h hQ
  simp[gy] at h
  split at h
  ·rename_i L hL
   split at h
   ·rename_i x hx
    obtain⟨nq,h2⟩:=aU h
    have uI:=hl.2 L (yN hL) x nq
    have hix:=(pF (ok:=[]) hx hi)
    clear nq h hx hi
    refine yO ?_
    generalize L.val x=y at uI h2
    induction uI generalizing a w with
    |out hr=>
     rename_i x' y'
     refine vl (ih (r:=Sum.inr y') dZ hl.1 hix hr ?_)
     intro e st' a' w' he hi'
     have jT:=(aU he).2
     split at jT
     ·rw[cq] at jT
      obtain⟨_,_,e⟩:=jT
      cases e
     ·rename_i hne
      rw[cq] at jT
      obtain⟨z,hz,e2⟩:=jT
      cases e2
      obtain⟨s,v,k1,k2⟩:=rW hz h2
      have h3:=hQ _ _ _ _ k2 (pF k1 hi')
      cases e with
      |norm=>exact absurd rfl hne
      |exit i=>exact h3
      |ret=>exact h3
    |again hr _ ihc=>
     rename_i x' x'' y' _
     refine vl (ih (r:=Sum.inl x'') dZ hl.1 hix hr ?_)
     intro e st' a' w' he hi'
     have jT:=(aU he).2
     split at jT
     ·rw[cq] at jT
      obtain⟨z,hz,e⟩:=jT
      cases e
      exact ihc (pF (ok:=[]) hz hi') h2
     ·rw[cq] at jT
      obtain⟨_,_,e⟩:=jT
      cases e
   ·cases h
  ·cases h
 |exit id=>intro α r Kt st a w Q _ _ hi h hQ;exact wp_exit (hQ _ _ _ _ h hi)
 |scope c ih=>
  intro α r Kt st a w Q dZ hl hi h hQ
  refine wp_scope_straight (ih dZ hl hi h fun e st' a' w' he hi'=>?_)
  have:=hQ e st' a' w' he hi'
  cases e<;>exact this
 |label l=>intro α r Kt st a w Q _ _ hi h hQ;exact wp_label (hQ _ _ _ _ h hi)
 |ret=>intro α r Kt st a w Q _ _ hi h hQ;exact wp_ret (hQ _ _ _ _ h hi)
 |_=>intro α r Kt st a w Q _ _ _ h;simp[gy] at h
end
section
variable {P:Program} {F:Fix} {C:Cx} {o:Oper} {a:Act} {w w':World} {m m':MF} {I I':Nat→Prop} {ρ ρ':Pl} {d:aD}
variable {n:Nat} {K:eO} {st st':St}
def zM {t:Ty}{x:AT}{y:t.den}{k:aM}(h:(bif t.fu then none else match cR m (cI (some t) x) with
  |some d=>match d.as t with
   |some x'=>some (x',(⟨[],dR m x.ids⟩:aM))
   |none=>none
  |none=>none)=some (y,k)):t.fu=false∧cR m (cI (some t) x)=some ⟨t,y⟩∧k=⟨[],dR m x.ids⟩:=by
 cases ho:t.fu with
 |true=>grind
 |false=>
  rw[ho] at h
  split at h
  ·rename_i d hd
   split at h
   ·rename_i x' hx'
    cases h
    have:=cz hx'
    subst this
    exact⟨rfl,hd,rfl⟩
   ·cases h
  ·cases h
inductive j5 (m:MF):(t:Ty)→AT→t.den→aM→Prop where
 |whole {id st:Nat} {u:Ty} {xs:List u.den}:rowsOf m id st u=some (false,xs)→j5 m (.own u) (.whole id st u) xs ⟨[id],[]⟩
 |front {id st len:Nat} {u:Ty} {xs:List u.den}:rowsOf m id st u=some (false,xs)→j5 m (.own u) (.piece id st 0 len u) (xs.take len) ⟨[id],[]⟩
 |nil {u:Ty} {x:AT}:(x = .nil u∨x = .dU)→j5 m (.own u) x [] {}
 |pair {a b:Ty} {l r:AT} {ya:a.den} {yb:b.den} {ka kb:aM}:j5 m a l ya ka→j5 m b r yb kb→j5 m (.pair a b) (.pair l r) (ya,yb) (ka.app kb)
 |rest {t:Ty} {x:AT} {y:t.den}:t.fu=false→cR m (cI (some t) x)=some ⟨t,y⟩→j5 m t x y ⟨[],dR m x.ids⟩
def q8 {t:Ty}{x:AT}{y:t.den}{k:aM}(h:(bif t.fu then none else match cR m (cI (some t) x) with
  |some d=>match d.as t with
   |some x'=>some (x',(⟨[],dR m x.ids⟩:aM))
   |none=>none
  |none=>none)=some (y,k)):j5 m t x y k:=by
 obtain⟨h1,h2,h3⟩:=zM h
 subst h3
 exact .rest h1 h2
def qZ:∀{t:Ty} {x:AT} {y:t.den} {k:aM},gY m t x=some (y,k)→j5 m t x y k:=by
 intro t
 induction t with
 |own u _=>
  intro x y k h
  cases x with
  |whole id st u'=>
   simp[gY] at h
   split at h
   ·rename_i xs hr
    split at h
    ·rename_i ys hys
     cases h
     have:=cz hys
     cases this
     exact .whole hr
    ·cases h
   ·cases h
  |piece id st off len u'=>
   cases off with
   |zero=>
    simp[gY] at h
    split at h
    ·rename_i xs hr
     split at h
     ·rename_i ys hys
      cases h
      have:=cz hys
      cases this
      exact .front hr
     ·cases h
    ·cases h
   |succ off=>exact q8 (t:=.own u) h
  |nil u'=>
   simp[gY] at h
   split at h
   ·rename_i ys hys
    cases h
    have:=cz hys
    cases this
    exact .nil (.inl rfl)
   ·cases h
  |dU=>
   cases h
   exact .nil (.inr rfl)
  |_=>exact q8 (t:=.own u) h
 |pair ta tb aO aK=>
  intro x y k h
  cases x with
  |pair l r=>
   simp[gY] at h
   split at h
   ·rename_i x1 i x2 j h1 h2
    cases h
    exact .pair (aO h1) (aK h2)
   ·cases h
  |_=>exact q8 (t:=.pair ta tb) h
 |_=>intro x y k h;cases x<;>exact q8 h
def xk {t:Ty}{x:AT}{d:DV}(h:cR m (cI (some t) x)=some d)(ht:d.t=t):x.slot=true∧x.isAgg=t.isAgg:=by
 have h1:=Ad h
 cases t<;>cases x<;>simp_all [cI,AT.slot,AT.one,AT.isAgg]
def Ac {t:Ty}{x:AT}{y:t.den}{k:aM}(h:gY m t x=some (y,k)):x.slot=true∧x.isAgg=t.isAgg:=by
 cases qZ h with
 |whole _=>trivial
 |front _=>trivial
 |nil e=>rcases e with e|e<;>subst e<;>exact⟨rfl,rfl⟩
 |pair _ _=>trivial
 |rest _ h2=>exact xk h2 rfl
def xj {t:Ty}{x:AT}{vs:List Value}(h:aq w I m ρ x vs):aq w I m ρ (cI (some t) x) vs:=by
 unfold cI
 split
 ·exact h
 ·grind
def uq {t:Ty}{x:AT}{id:Nat}(h:id∈(cI (some t) x).ids):id∈x.ids:=by
 unfold cI at h
 grind [AT.ids]
def tD {I':Nat→Prop}(hm:aC F m w I ρ)(hI:∀B,I B→I' B){t:Ty}{x:AT}{y:t.den}{k:aM}(h:j5 m t x y k):∀{vs:List Value},aq w I m ρ x vs →
  (∀id∈k.aS,∀b B o,m id=some b→b.live→ρ id=some (B,o)→I' B)→(∀id∈k.own,∀B,aH m ρ id B→¬I' B)→k.own.Nodup →
  ∃Bs,cD w I' t y vs Bs∧Bs.Nodup∧∀B∈Bs,∃id∈k.own,aH m ρ id B:=by
 induction h with
 |whole h1=>
  rename_i id st u xs
  intro vs hr hi ho hn
  obtain⟨Bs,q1,q2⟩:=sZ hm hr h1 hI (ho id (by simp))
  grind
 |front h1=>
  rename_i id st len u xs
  intro vs hr hi ho hn
  have hb:=gW h1
  obtain⟨_,_,h3⟩:=hr
  obtain⟨ad,cap,e1,e2,e20,e3⟩:=h3 _ hb rfl u xs.length rfl
  have hlen:(xs.take len).length=len:=by grind
  have aA:=hm.aN id _ hb
  rcases e3.2 rfl with⟨q1,q2,q3⟩|⟨B,o,cs,q1,q2,q3,q4⟩
  ·refine⟨[],⟨ad,cap,by grind,by omega,.inl ⟨q1,q2,rfl⟩⟩,by simp,by simp⟩
  ·rcases aA.2 with⟨_,hno⟩|⟨B',o',cs',k1,k2,k3,k4,k5⟩
   ·rw[q1] at hno;cases hno
   ·rw[q1] at k1
    cases k1
    have bP:aH m ρ id B:=⟨_,hb,fC rfl,rfl,.inl ⟨_,q1⟩⟩
    refine⟨[B],⟨ad,cap,by rw[hlen];exact e1,by rw[hlen];exact e2,.inr ⟨B,o,cs,q2,q3,q4,?_,ho id (by simp) B bP,rfl⟩⟩,by simp,fun B' br=>?_⟩
    ·intro j x hj
     rw[List.getElem?_take] at hj
     split at hj
     ·obtain⟨es,r1,r2,r3⟩:=k4 j x hj
      exact⟨es,r1,r2,af.mono ⟨hI,fun _ _=>rfl⟩ r3⟩
     ·cases hj
    ·simp at br
     subst br
     exact⟨id,by simp,bP⟩
 |nil e2=>
  intro vs hr hi ho hn
  have:vs = [.slice none 0 0]:=by rcases e2 with e2|e2<;>subst e2<;>exact hr
  subst this
  exact⟨[],⟨none,0,by simp,by simp,.inl ⟨rfl,rfl,rfl⟩⟩,by simp,by simp⟩
 |pair h1 h2 aO aK=>
  intro vs hr hi ho hn
  obtain⟨v1,v2,e3,r1,r2⟩:=hr
  simp[aM.app,bw] at hi ho
  simp[aM.app,bY] at hn
  have hn':=cL.1 hn
  obtain⟨B1,q1,q2,q3⟩:=aO r1 (fun id h=>hi id (.inl h)) (fun id h=>ho id (.inl h)) hn'.1
  obtain⟨B2,p1,p2,p3⟩:=aK r2 (fun id h=>hi id (.inr h)) (fun id h=>ho id (.inr h)) hn'.2.1
  refine⟨B1++B2,⟨v1,v2,B1,B2,e3,rfl,q1,p1⟩,jA hm hn q2 p2 q3 p3,fun B hB=>?_⟩
  simp[aM.app,bY]
  rcases bU.1 hB with hB|hB
  ·obtain⟨i,hi,h⟩:=q3 B hB;exact⟨i,by simp[hi],h⟩
  ·obtain⟨i,hi,h⟩:=p3 B hB;exact⟨i,by simp[hi],h⟩
 |rest h1 h2=>
  intro vs hr hi ho hn
  exact⟨[],cD.fY (q9 (d:=⟨_,_⟩) hm hI (fun id h=>hi id (sR (uq h))) h2 (xj hr)),by simp,by simp⟩
def Aa {I':Nat→Prop}(hm:aC F m w I ρ)(hI:∀B,I B→I' B){t:Ty}{x:AT}{y:t.den}{k:aM}{v:Value}(h:qY m t x=some (y,k))(hs:aj w I m ρ x v)
  (ho:∀id∈k.own,∀B,aH m ρ id B→¬I' B) (hn:k.own.Nodup):∃cs,v=aQ t cs∧∃Bs,au w I' t y cs Bs∧Bs.Nodup∧∀B∈Bs,∃id∈k.own,aH m ρ id B:=by
 unfold qY at h
 split at h
 ·rename_i d0 hd
  split at h
  ·rename_i y' hy
   cases h
   have:=cz hy
   subst this
   have hs':=og (u:=some t) hs
   obtain⟨e1,e2⟩:=wA hd
   obtain⟨cs,hv,hr⟩:=qW e1 e2 hs'
   have lI:∀id∈(cI (some t) x).ids,id∈x.ids:=fun id hi=>uq hi
   have aE:(cI (some t) x).ids.Nodup:=by
    unfold cI
    split
    ·simp[AT.ids]
    ·exact hn
   obtain⟨Bs,Ks,q1,q2,q3,_⟩:=qX (I':=I') hm hI hd hr (fun id hi=>ho id (lI id hi)) aE
   exact⟨cs,hv,Bs,q1,(cL.1 q2).1,fun B hB=>by obtain⟨i,hi,h⟩:=q3 B (ee _ hB);exact⟨i,lI i hi,h⟩⟩
  ·cases h
 ·cases h
end
section
variable {P:Program} {F:Fix} {C:Cx} {o:Oper} {a:Act} {w w':World} {m m':MF} {I I':Nat→Prop} {ρ ρ':Pl} {d:aD}
variable {n:Nat} {K:eO} {st st':St}
def pD (tmps:Array Value):ResultVar→Sem Value
 |.tmp t=>pure (tmps.getD t Go.undef)
 |.cell a t=>do loadVar t (←asAddr (tmps.getD a Go.undef))
def yM {C:Cx}{tmps:Array Value}(hC:bR P C)(hm:aC F (find st.mem) w I ρ)(he:∀s av,find st.env s=some av→aj w I (find st.mem) ρ av (tmps.getD s Go.undef))
  {r:ResultVar} {x:AT} (h:nA C st r=some x):∃v,(pD tmps r).run P w = .ok v w∧aj w I (find st.mem) ρ x v:=by
 cases r with
 |tmp s=>exact⟨_,rfl,he s x h⟩
 |cell s T=>
  simp[nA] at h
  split at h
  ·rename_i id s0 u hs hu
   split at h
   ·rename_i st0 fz t a hcur
    obtain⟨h1,h2⟩:=aU h
    cases h2
    have:=Ty.cX h1
    subst this
    have hT:=hC.ty hu
    obtain⟨hb,hst⟩:=cN hcur
    have hx':=cj (a:=.aR id s0 []) rfl (he s _ hs) (by simp) (by simp) (by simp) (by simp)
    obtain⟨_,B,hρ,hv⟩:=hx'.2.2 _ hb hst t x rfl
    simp[Ty.off] at hv
    have aA:=hm.aN id _ hb
    obtain⟨ht,B',cs,f1,f2,f3,_⟩:=aA
    rw[hρ] at f1
    cases f1
    have hlen:=ht.length f3
    have hload:=hT.vZ (w:=w) (B:=B) (o:=0) hlen (fun j _=>by rw[lA];exact f2.cell j)
    refine⟨_,?_,(gX ht).2 (aG.unpack ht hT f3)⟩
    simp[pD,hv]
    simpa[asAddr] using hload
   ·cases h
  ·cases h
def qH {C:Cx}{tmps:Array Value}(hC:bR P C)(hm:aC F (find st.mem) w I ρ)(hI:∀B,I B→I' B)(he:∀s av,find st.env s=some av→aj w I (find st.mem) ρ av (tmps.getD s Go.undef)) :
  ∀{rs:List ResultVar} {ws:List Want} {l:List RV} {k:aM},kD C st rs ws=some (l,k) →
   (∀id∈k.aS,∀b B o,find st.mem id=some b→b.live→ρ id=some (B,o)→I' B)→(∀id∈k.own,∀B,aH (find st.mem) ρ id B→¬I' B)→k.own.Nodup →
   rs.length=ws.length∧∃vals,dI (fun r v=>(pD tmps r).run P w = .ok v w) rs vals∧∃Bs,ja w I' l vals Bs∧Bs.Nodup∧∀B∈Bs,∃id∈k.own,aH (find st.mem) ρ id B
 | [],[],l,k,h,_,_,_=>by
  cases h
  exact⟨rfl,[],.nil,[],rfl,by simp,by simp⟩
 | [],_::_,l,k,h,_,_,_=>by trivial
 |_::_,[],l,k,h,_,_,_=>by trivial
 |r::rs,wt::ws,l,k,h,hi,ho,hn=>by
  simp only[kD] at h
  split at h
  ·rename_i x l' k' hx eT
   obtain⟨v,hrun,sF⟩:=yM hC hm he hx
   split at h
   ·
    split at h
    ·rename_i y i hy
     cases h
     simp only[aM.app,bw] at hi ho
     simp only[aM.app,bY] at hn
     have hn':=cL.1 hn
     obtain⟨e1,e2⟩:=Ac hy
     obtain⟨cs,hv,hr⟩:=qW e1 e2 sF
     obtain⟨B1,q1,q2,q3⟩:=tD hm hI (qZ hy) hr (fun id h=>hi id (.inl h)) (fun id h=>ho id (.inl h)) hn'.1
     obtain⟨p1,vs,p0,B2,p2,p3,p4⟩:=qH hC hm hI he eT (fun id h=>hi id (.inr h)) (fun id h=>ho id (.inr h)) hn'.2.1
     refine⟨by simp[p1],v::vs,.cons hrun p0,B1++B2,⟨B1,B2,rfl,⟨cs,hv,q1⟩,p2⟩,jA hm hn q2 p3 q3 p4,fun B hB=>?_⟩
     simp only[aM.app,bY]
     rcases bU.1 hB with hB|hB
     ·obtain⟨i,hi,h⟩:=q3 B hB;exact⟨i,by simp[hi],h⟩
     ·obtain⟨i,hi,h⟩:=p4 B hB;exact⟨i,by simp[hi],h⟩
    ·cases h
   ·
    split at h
    ·rename_i y i hy
     cases h
     simp only[aM.app,bw] at hi ho
     simp only[aM.app,bY] at hn
     have hn':=cL.1 hn
     obtain⟨cs,hv,B1,q1,q2,q3⟩:=Aa hm hI hy sF (fun id h=>ho id (.inl h)) hn'.1
     obtain⟨p1,vs,p0,B2,p2,p3,p4⟩:=qH hC hm hI he eT (fun id h=>hi id (.inr h)) (fun id h=>ho id (.inr h)) hn'.2.1
     refine⟨by simp[p1],v::vs,.cons hrun p0,B1++B2,⟨B1,B2,rfl,⟨cs,hv,q1⟩,p2⟩,jA hm hn q2 p3 q3 p4,fun B hB=>?_⟩
     simp only[aM.app,bY]
     rcases bU.1 hB with hB|hB
     ·obtain⟨i,hi,h⟩:=q3 B hB;exact⟨i,by simp[hi],h⟩
     ·obtain⟨i,hi,h⟩:=p4 B hB;exact⟨i,by simp[hi],h⟩
    ·cases h
   ·
    rename_i t id sd
    split at h
    ·rename_i st0 vt b hcur
     split at h
     ·rename_i y i hy
      cases h
      obtain⟨hb,hst⟩:=cN hcur
      subst hst
      simp only[aM.app,app,bw,bN] at hi ho
      simp only[aM.app,app,bY] at hn
      have hnc:=dN.1 hn
      have hn':=cL.1 hnc.2
      have gC:=cj (a:=.aR id st0 []) rfl sF (by simp) (by simp) (by simp) (by simp)
      obtain⟨_,B,hρ,hv⟩:=gC.2.2 _ hb rfl vt b rfl
      simp only[jY,jZ,Ty.off] at hv
      have aA:=hm.aN id _ hb
      obtain⟨_,B',cs,f1,f2,f3,f4⟩:=aA
      rw[hρ] at f1
      cases f1
      have bP:aH (find st.mem) ρ id B:=⟨_,hb,kz rfl,rfl,.inl ⟨0,hρ⟩⟩
      obtain⟨B1,q1,q2,q3⟩:=tD hm hI (qZ hy) f3 (fun id h=>hi id (.inl h)) (fun id h=>ho id (.inr (.inl h))) hn'.1
      obtain⟨p1,vs,p0,B2,p2,p3,p4⟩:=qH hC hm hI he eT (fun id h=>hi id (.inr h)) (fun id h=>ho id (.inr (.inr h))) hn'.2.1
      have hall:∀B'∈B1++B2,∃id'∈app i.own k'.own,aH (find st.mem) ρ id' B':=by
       intro B' br
       rw[bY]
       rcases bU.1 br with br|br
       ·obtain⟨i,hi,h⟩:=q3 B' br;exact⟨i,by simp[hi],h⟩
       ·obtain⟨i,hi,h⟩:=p4 B' br;exact⟨i,by simp[hi],h⟩
      refine⟨by simp[p1],v::vs,.cons hrun p0,B::(B1++B2),⟨B::B1,B2,rfl,⟨B,cs,B1,hv,f2,ho id (.inl rfl) B bP,q1,rfl⟩,p2⟩,?_,?_⟩
      ·rw[dN]
       refine⟨fun hin=>?_,jA hm hnc.2 q2 p3 q3 p4⟩
       obtain⟨j,hj,dQ⟩:=hall B hin
       have:=dQ.inj hm bP
       subst this
       rw[bY] at hj
       exact hnc.1 hj
      ·intro B' br
       simp only[aM.app,app]
       rcases bN.1 br with e|br
       ·subst e;exact⟨id,by simp,bP⟩
       ·obtain⟨j,hj,dQ⟩:=hall B' br;exact⟨j,by simp only[bN];exact .inr hj,dQ⟩
     ·cases h
    ·cases h
   ·cases h
  ·cases h
def af.free:∀{t:Ty} {x:t.den} {vs:List Value} {w w':World} {I I':Nat→Prop},t.aV=false→af w I t x vs→af w' I' t x vs:=by
 intro t
 induction t with
 |lst t _=>simp[Ty.aV]
 |ref t _=>simp[Ty.aV]
 |own t _=>simp[af]
 |pair a b aO aK=>
  intro x vs w w' I I' h hr
  simp[Ty.aV] at h
  simp[af] at hr ⊢
  grind
 |arr n t ih=>
  intro x vs w w' I I' h hr
  exact⟨hr.1,aT.mono (fun x vs hh=>ih (by trivial) hh) hr.2⟩
 |_=>simp[af]
def gI (w0:World)(m0:MF)(pl:Pl):(t:Ty)→t.den→Nat→List Value→Prop
 |.lst t,xs,n,vs=>m0 n=some ⟨0,false,lR t xs⟩∧∃ad cap,vs = [.slice ad xs.length cap]∧xs.length≤cap∧fP w0 pl n t.size ad cap
 |.pair a b,x,n,vs=>match(Ty.pair a b).aV with
  |true=>∃v1 v2,vs=v1++v2∧gI w0 m0 pl a x.1 n v1∧gI w0 m0 pl b x.2 (aY (fun _=>none) a x.1 n).2.2 v2
  |false=>∃J,af w0 J (.pair a b) x vs
 |t,x,_,vs=>t.aV=false∧∃J,af w0 J t x vs
def Ag {m:MF}:∀{t:Ty} {x y:t.den} {n e:Nat} {l:List Nat},kI m t x n=some (y,l,e)→e=(aY (fun _=>none) t x n).2.2:=by
 intro t
 induction t with
 |lst t _=>
  intro x y n e l h
  obtain⟨_,h⟩:=aU h
  split at h
  ·cases h;rfl
  ·cases h
 |pair a b aO aK=>
  intro x y n e l h
  simp[kI] at h
  simp[aY]
  cases hl:(Ty.pair a b).aV with
  |false=>rw[hl] at h;cases h;rfl
  |true=>
   rw[hl] at h
   split at h
   ·rename_i y1 l1 k h1
    split at h
    ·rename_i z l2 e2 h2
     cases h
     have:=aO h1
     rw[←this]
     exact aK h2
    ·cases h
   ·cases h
 |_=>intro x y n e l h;simp only[kI,aX,jX] at h;exact h.2.2.symm
def zR {t:Ty}{x:List t.den}{c:BC}{k:Nat}(h:ff (lR t x) c)(ha:c.arr=some (t,k)):x.length=k:=by
 unfold lR at h
 cases hl:t.aV<;>rw[hl] at h<;>cases c<;>simp[BC.arr] at ha<;>simp[ff] at h
 all_goals grind
def Ah {w0:World}{m0 m:MF}{pl:Pl}(hm:aC F m w I ρ)(hI:∀B,I B→I' B)
  (hk:∀id b0,gD id=true→m0 id=some b0→∃b,m id=some b∧(0<b.st∨(b.st=0∧ff b0.c b.c∧ρ id=pl id ∧
   (b0.live→∀B o,pl id=some (B,o)→∀cs,Cells w0 B cs→∃cs',Cells w B cs'∧cs.length≤cs'.length)))) :
  ∀{t:Ty} {x y:t.den} {n e:Nat} {l:List Nat} {cs:List Value},kI m t x n=some (y,l,e)→gI w0 m0 pl t x n cs→(∀id∈l,∀B,aH m ρ id B→¬I' B)→l.Nodup →
   ∃Bs,au w I' t y cs Bs∧Bs.Nodup∧(∀B∈Bs,∃id∈l,aH m ρ id B)∧Grown w0 w cs:=by
 intro t
 have scal:∀{t:Ty} {y:t.den} {cs:List Value},t.aV=false→(∃J,af w0 J t y cs)→∃Bs,au w I' t y cs Bs∧Bs.Nodup∧(∀B∈Bs,∃id∈([]:List Nat),aH m ρ id B)∧Grown w0 w cs:=by
  rintro t y cs hl ⟨J,hr⟩
  refine⟨[],au.fY hl (af.free hl hr),by simp,by simp,?_⟩
  have none:∀{t:Ty} {y:t.den} {cs:List Value},t.aV=false→af w0 J t y cs→∀a n c,¬Value.slice a n c∈cs:=by
   intro t
   induction t with
   |lst t _=>intro y cs h;trivial
   |ref t _=>intro y cs h;trivial
   |own t _=>intro y cs _ h;trivial
   |pair a b aO aK=>
    intro y cs h hr a' n c hin
    simp only[Ty.aV,ry] at h
    simp only[af] at hr
    all_goals grind
   |arr k t ih=>
    intro y cs h hr a' n c hin
    simp only[af] at hr
    have:∀{xs:List t.den} {vs:List Value},aT (af w0 J t) xs vs→¬Value.slice a' n c∈vs:=by
     intro xs
     induction xs with
     |nil=>intro vs h;cases h;simp
     |cons x xs iV=>
      rintro vs ⟨v1,v2,e,h1,h2⟩ hin
      subst e
      rcases bU.1 hin with hin|hin
      ·exact ih (by trivial) h1 a' n c hin
      ·grind
    grind
   |unit=>intro y cs _ hr a' n c hin;simp only[af] at hr;grind
   |bool=>intro y cs _ hr a' n c hin;simp only[af] at hr;grind
   |int k=>intro y cs _ hr a' n c hin;simp only[af] at hr;grind
   |str=>intro y cs _ hr a' n c hin;simp only[af] at hr;grind
  intro B o n cap hin
  grind
 induction t with
 |lst t _=>
  intro x y n e l cs h hh ho hn
  obtain⟨hp,h⟩:=aU h
  split at h
  ·rename_i ys hown
   cases h
   obtain⟨hm0,ad,cap,hv,hcap,qo⟩:=hh
   obtain⟨b,hb,fW⟩:=hk n _ hp hm0
   have hb0:b.st=0∧b.c.arr=some (t,y.length):=by
    rcases qJ hown with⟨h1,_⟩|⟨fz,rs,h1⟩<;>(rw[hb] at h1;cases h1;exact⟨rfl,rfl⟩)
   rcases fW with fW|⟨_,hsh,hρ,qn⟩
   ·omega
   ·have hlen:x.length=y.length:=zR hsh hb0.2
    have dA:(⟨0,false,lR t x⟩:aa).live:=by unfold aa.live lR;cases t.aV<;>trivial
    have hatr:aq w I m ρ (.whole n 0 t) cs:=by
     refine⟨⟨_,hv,rfl⟩,cy.of hb hb0.1,fun b' hb' hs u k cA=>?_⟩
     rw[hb] at hb'
     cases hb'
     rw[hb0.2] at cA
     cases cA
     refine⟨ad,cap,by rw[hv,hlen],by omega,?_⟩
     rcases qo with⟨e1,e2,e3⟩|⟨B,o0,cs0,e1,e2,e3,e4⟩
     ·exact .inl ⟨e1,e2,hρ.trans e3⟩
     ·obtain⟨cs2,g1,g2⟩:=qn dA B o0 e1 cs0 e3
      exact .inr ⟨B,o0,cs2,hρ.trans e1,e2,g1,by omega⟩
    obtain⟨Bs,q1,q2,q3⟩:=vQ hm hatr hown hI (ho n (by simp))
    refine⟨Bs,q1,q2,fun B hB=>⟨n,by simp,q3 B hB⟩,?_⟩
    intro B o k c hin ds hds
    rw[hv] at hin
    simp only[i_,Value.slice.injEq] at hin
    rcases qo with⟨e1,e2,e3⟩|⟨B',o0,cs0,e1,e2,e3,e4⟩
    ·rw[e1] at hin;cases hin.1
    ·rw[e2] at hin
     simp only[aX,Addr.mk.injEq,jZ] at hin
     obtain⟨⟨rfl,rfl⟩,_⟩:=hin
     exact qn dA B o e1 ds hds
  ·cases h
 |pair a b aO aK=>
  intro x y n e l cs h hh ho hn
  simp only[kI] at h
  unfold gI at hh
  cases hl:(Ty.pair a b).aV with
  |false=>
   rw[hl] at h hh
   cases h
   exact scal hl hh
  |true=>
   rw[hl] at h hh
   simp only[dW] at h hh
   split at h
   ·rename_i y1 l1 k h1
    split at h
    ·rename_i z l2 e2 h2
     cases h
     obtain⟨v1,v2,rfl,g1,g2⟩:=hh
     have hnum:=Ag h1
     rw[←hnum] at g2
     simp only[bY] at hn ho
     have hn':=cL.1 hn
     obtain⟨B1,q1,q2,q3,q4⟩:=aO h1 g1 (fun id hi=>ho id (by simp[hi])) hn'.1
     obtain⟨B2,p1,p2,p3,p4⟩:=aK h2 g2 (fun id hi=>ho id (by simp[hi])) hn'.2.1
     refine⟨B1++B2,by simp only[au];exact⟨v1,v2,B1,B2,rfl,rfl,q1,p1⟩,jA hm hn q2 p2 q3 p3,fun B hB=>?_,fun B o k c hin=>?_⟩
     ·simp only[bY]
      rcases bU.1 hB with hB|hB
      ·obtain⟨i,hi,h⟩:=q3 B hB;exact⟨i,by simp[hi],h⟩
      ·obtain⟨i,hi,h⟩:=p3 B hB;exact⟨i,by simp[hi],h⟩
     ·rcases bU.1 hin with hin|hin
      ·exact q4 B o k c hin
      ·exact p4 B o k c hin
    ·cases h
   ·cases h
 |_=>
  intro x y n e l cs h hh ho hn
  simp only[kI,aX,jX] at h
  obtain⟨h1,rfl,rfl⟩:=h
  have hxy:x=y:=by first|exact h1|rfl
  subst hxy
  simp only[gI] at hh
  exact scal hh.1 hh.2
def uS {s:Nat}(h:s<50):gD (pid s)=true:=by
 unfold gD pid
 rw[bB]
 exact⟨Nat.ble_eq_true_of_le (by simp),Nat.ble_eq_true_of_le (by omega)⟩
def pR (w0:World)(m0:MF)(pl:Pl)(s:Nat):Arg→Value→Prop
 |.p d,v=>∃B,pl (pid s)=some (B,0)∧v = .pointer (some ⟨B,0,none⟩)∧∃x,m0 (pid s)=some ⟨0,false,.var d.t.aS x⟩
 |.d y,v=>∃cs,v=aQ y.t cs∧gI w0 m0 pl y.t y.x (om s) cs
 |.m t xs,v=>m0 (pid s)=some ⟨0,false,.rows t xs⟩∧∃ad cap,v = .slice ad xs.length cap∧xs.length≤cap∧fP w0 pl (pid s) t.size ad cap
 |_,_=>True
def nY (w0:World)(m0:MF)(pl:Pl):Nat→List Arg→List Value→Prop
 |_,[],[]=>True
 |s,x::l,v::vs=>pR w0 m0 pl s x v∧nY w0 m0 pl (s+1) l vs
 |_,_,_=>False
def nU {w0:World}{m0:MF}{pl:Pl}(hm:aC F (find st.mem) w I ρ)(hI:∀B,I B→I' B)
  (hk:∀id b0,gD id=true→m0 id=some b0→∃b,find st.mem id=some b∧(0<b.st∨(b.st=0∧ff b0.c b.c∧ρ id=pl id ∧
   (b0.live→∀B o,pl id=some (B,o)→∀cs,Cells w0 B cs→∃cs',Cells w B cs'∧cs.length≤cs'.length)))) :
  ∀{args:List Arg} {s:Nat} {vals:List Value} {us:List DV} {k:aM},s+args.length≤50→iA st s args=some (us,k)→nY w0 m0 pl s args vals →
   (∀id∈k.aS,∀b B o,find st.mem id=some b→b.live→ρ id=some (B,o)→I' B)→(∀id∈k.own,∀B,aH (find st.mem) ρ id B→¬I' B)→k.own.Nodup →
   ∃Bs,eR w0 w I' args vals us Bs∧Bs.Nodup∧∀B∈Bs,∃id∈k.own,aH (find st.mem) ρ id B
 | [],s,[],us,k,_,h,_,_,_,_=>by
  cases h
  exact⟨[],rfl,by simp,by simp⟩
 | [],s,_::_,us,k,_,h,hf,_,_,_=>hf.elim
 |_::_,s,[],us,k,_,h,hf,_,_,_=>by cases hf
 |.v d::l,s,v::vs,us,k,hs,h,hf,hi,ho,hn=>by
  simp only[iA] at h
  obtain⟨Bs,q⟩:=nU hm hI hk (by simp only[zl6] at hs;omega) h hf.2 hi ho hn
  exact⟨Bs,q⟩
 |.f g d::l,s,v::vs,us,k,hs,h,hf,hi,ho,hn=>by
  simp only[iA] at h
  obtain⟨Bs,q⟩:=nU hm hI hk (by simp only[zl6] at hs;omega) h hf.2 hi ho hn
  exact⟨Bs,q⟩
 |.d y::l,s,v::vs,us,k,hs,h,hf,hi,ho,hn=>by
  simp only[zl6] at hs
  simp only[iA] at h
  split at h
  ·rename_i x i e r ids hx eT
   cases h
   obtain⟨⟨cs,hv,hh⟩,hf'⟩:=hf
   simp only[aM.app,app,bw] at hi ho
   simp only[aM.app,app,bY] at hn
   have hn':=cL.1 hn
   obtain⟨B1,q1,q2,q3,q4⟩:=Ah hm hI hk hx hh (fun id h=>ho id (.inl h)) hn'.1
   obtain⟨B2,p2,p3,p4⟩:=nU hm hI hk (by omega) eT hf' hi (fun id h=>ho id (.inr h)) hn'.2.1
   refine⟨B1++B2,⟨cs,B1,B2,hv,rfl,q1,rfl,q4,p2⟩,jA hm hn q2 p3 q3 p4,fun B hB=>?_⟩
   simp only[aM.app,bY]
   rcases bU.1 hB with hB|hB
   ·obtain⟨i,hi,h⟩:=q3 B hB;exact⟨i,by simp[hi],h⟩
   ·obtain⟨i,hi,h⟩:=p4 B hB;exact⟨i,by simp[hi],h⟩
  ·cases h
 |.p d::l,s,v::vs,us,k,hs,h,hf,hi,ho,hn=>by
  simp only[zl6] at hs
  simp only[iA] at h
  split at h
  ·rename_i vt x r ids hb eT
   split at h
   ·rename_i y i hy
    cases h
    obtain⟨⟨B,hpl,hv,x0,hm0⟩,hf'⟩:=hf
    obtain⟨b,hb',fW⟩:=hk (pid s) _ (uS (by omega)) hm0
    rw[hb] at hb'
    cases hb'
    rcases fW with fW|⟨_,hsh,hρ,_⟩
    ·simp at fW
    ·rw[hpl] at hρ
     have aA:=hm.aN _ _ hb
     obtain⟨_,B',cs,f1,f2,f3,f4⟩:=aA
     rw[hρ] at f1
     cases f1
     have bP:aH (find st.mem) ρ (pid s) B:=⟨_,hb,kz rfl,rfl,.inl ⟨0,hρ⟩⟩
     simp only[aM.app,app,bw,bN] at hi ho
     simp only[aM.app,app,bY] at hn
     have hnc:=dN.1 hn
     have hn':=cL.1 hnc.2
     obtain⟨B1,q1,q2,q3⟩:=tD hm hI (qZ hy) f3 (fun id h=>hi id (.inl h)) (fun id h=>ho id (.inr (.inl h))) hn'.1
     obtain⟨B2,p2,p3,p4⟩:=nU hm hI hk (by omega) eT hf' (fun id h=>hi id (.inr h)) (fun id h=>ho id (.inr (.inr h))) hn'.2.1
     have hall:∀B'∈B1++B2,∃id'∈app i.own ids.own,aH (find st.mem) ρ id' B':=by
      intro B' br
      rw[bY]
      rcases bU.1 br with br|br
      ·obtain⟨i,hi,h⟩:=q3 B' br;exact⟨i,by simp[hi],h⟩
      ·obtain⟨i,hi,h⟩:=p4 B' br;exact⟨i,by simp[hi],h⟩
     refine⟨B::(B1++B2),⟨B,cs,B1,B2,hv,f2,ho (pid s) (.inl rfl) B bP,rfl,q1,rfl,p2⟩,?_,?_⟩
     ·rw[dN]
      refine⟨fun hin=>?_,jA hm hnc.2 q2 p3 q3 p4⟩
      obtain⟨j,hj,dQ⟩:=hall B hin
      have:=dQ.inj hm bP
      subst this
      rw[bY] at hj
      exact hnc.1 hj
     ·intro B' br
      simp only[aM.app,app]
      rcases bN.1 br with e|br
      ·subst e;exact⟨pid s,by simp,bP⟩
      ·obtain⟨j,hj,dQ⟩:=hall B' br;exact⟨j,by simp only[bN];exact .inr hj,dQ⟩
   ·cases h
  ·cases h
 |.m t xs::l,s,v::vs,us,k,hs,h,hf,hi,ho,hn=>by
  simp only[zl6] at hs
  simp only[iA] at h
  split at h
  ·rename_i ys r ids hr eT
   cases h
   obtain⟨⟨hm0,ad,cap,hv,hcap,qo⟩,hf'⟩:=hf
   have hb:=gW hr
   obtain⟨b,hb',fW⟩:=hk (pid s) _ (uS (by omega)) hm0
   rw[hb] at hb'
   cases hb'
   rcases fW with fW|⟨_,hsh,hρ,qn⟩
   ·simp at fW
   ·have hlen:xs.length=ys.length:=hsh.2
    have aA:=hm.aN _ _ hb
    simp only[cM] at aA
    obtain⟨_,aA⟩:=aA
    simp only[aM.app,app,bN] at hi ho
    simp only[aM.app,app] at hn
    have hnc:=dN.1 hn
    obtain⟨B2,p2,p3,p4⟩:=nU hm hI hk (by omega) eT hf' hi (fun id h=>ho id (.inr h)) hnc.2
    rcases qo with⟨e1,e2,e3⟩|⟨B,o0,cs,e1,e2,e3,e4⟩
    ·
     refine⟨B2,⟨ys,[],B2,rfl,hlen.symm,⟨ad,cap,by rw[hv,hlen],by omega,.inl ⟨e1,e2,rfl⟩⟩,rfl,by simp,p2⟩,p3,fun B hB=>?_⟩
     obtain⟨j,hj,h⟩:=p4 B hB
     exact⟨j,by simp only[aM.app,app,bN];exact .inr hj,h⟩
    ·rw[e1] at hρ
     obtain⟨cs2,g1,g2⟩:=qn (fC rfl) B o0 e1 cs e3
     rcases aA with⟨_,hno⟩|⟨B',o',cs',f1,f2,f3,f4,f5⟩
     ·rw[hno] at hρ;cases hρ
     ·rw[hρ] at f1
      cases f1
      have bP:aH (find st.mem) ρ (pid s) B:=⟨_,hb,fC rfl,rfl,.inl ⟨o0,hρ⟩⟩
      have hlen2:cs'.length=cs2.length:=by rw[f2.unique g1]
      refine⟨B::B2,⟨ys,[B],B2,rfl,hlen.symm,⟨ad,cap,by rw[hv,hlen],by omega,.inr ⟨B,o0,cs',e2,f2,by omega,f4.mono (fun _=>rfl) (fun x vs h=>af.mono ⟨hI,fun _ _=>rfl⟩ h),ho (pid s) (.inl rfl) B bP,rfl⟩⟩,rfl,?_,p2⟩,?_,?_⟩
      ·intro B' br cs3 hcs3
       simp only[i_] at br
       subst br
       have:cs3.length=cs.length:=by rw[hcs3.unique e3]
       exact⟨cs2,g1,by omega⟩
      ·rw[dN]
       refine⟨fun hin=>?_,p3⟩
       obtain⟨j,hj,dQ⟩:=p4 B hin
       have:=dQ.inj hm bP
       subst this
       exact hnc.1 hj
      ·intro B' br
       simp only[aM.app,app]
       rcases bN.1 br with e|br
       ·subst e;exact⟨pid s,by simp,bP⟩
       ·obtain⟨j,hj,dQ⟩:=p4 B' br;exact⟨j,by simp only[bN];exact .inr hj,dQ⟩
  ·cases h
end
section
variable {P:Program} {F:Fix} {C:Cx} {o:Oper} {a:Act} {w w':World} {m m':MF} {I I':Nat→Prop} {ρ ρ':Pl} {d:aD}
variable {n:Nat} {K:eO} {st st':St}
def lF:Nat→List Arg→List (Nat×AT)
 |_,[]=>[]
 |s,x::l=>(s,(eE s x).1)::lF (s+1) l
def fS:Nat→List Arg→Mem
 |_,[]=>[]
 |s,x::l=>app (eE s x).2 (fS (s+1) l)
def wT {α:Type}(x y z:List α):app (app x y) z=app x (app y z):=by simp[bY]
def tW {α:Type}(x:List α):app x []=x:=by simp[bY]
def ua:∀(args:List Arg) (s:Nat) (st:St),od s args st=⟨app st.env (lF s args),app st.mem (fS s args),st.ok⟩
 | [],s,st=>by simp[od,lF,fS,tW]
 |x::l,s,st=>by
  simp[od,lF,fS]
  rw[ua l]
  simp[wT,app]
def uR:∀{t:Ty} {x:t.den} {n i:Nat} {b:aa},(i,b)∈(aZ (fun _=>none) t x n).2.1→b.st=0:=by
 intro t
 induction t with
 |own u ih=>intro x n i b h;simp[aZ] at h;obtain⟨_,rfl⟩:=h;rfl
 |pair u v ihu ihv=>
  intro x n i b h
  simp[aZ] at h
  cases hh:(Ty.pair u v).fu with
  |false=>grind
  |true=>
   rw[hh] at h
   simp[bw] at h
   grind
 |_=>simp[aZ]
def yB:∀{t:Ty} {x:t.den} {n i:Nat} {b:aa},(i,b)∈(aY (fun _=>none) t x n).2.1→b.st=0:=by
 intro t
 induction t with
 |lst u ih=>intro x n i b h;simp[aY] at h;obtain⟨_,rfl⟩:=h;rfl
 |pair u v ihu ihv=>
  intro x n i b h
  simp[aY] at h
  cases hh:(Ty.pair u v).aV with
  |false=>grind
  |true=>
   rw[hh] at h
   simp[bw] at h
   grind
 |_=>simp[aY]
def t_:∀{args:List Arg} {s i:Nat} {b:aa},(i,b)∈fS s args→b.st=0
 | [],s,i,b,h=>by trivial
 |x::l,s,i,b,h=>by
  simp[fS,bw] at h
  rcases h with h|h
  ·cases x with
   |v d=>exact uR h
   |d y=>exact yB h
   |p d=>
    simp[eE] at h
    rcases h with⟨_,rfl⟩|h
    ·rfl
    ·exact uR h
   |m t xs=>simp_all [eE]
   |f g d=>trivial
  ·exact t_ h
def yC:∀(t:Ty) (x:t.den) (n:Nat),∀A b,(aZ m t x n).1 ≠ .bS A b:=by
 intro t x n A b h
 cases t<;>grind [aZ]
def yy:∀(t:Ty) (x:t.den) (n:Nat),∀A b,(aY m t x n).1 ≠ .bS A b:=by
 intro t x n A b h
 cases t<;>grind [aY]
def wW (s:Nat)(x:Arg):∀A b,(eE s x).1 ≠ .bS A b:=by
 intro A b h
 cases x with
 |v d=>exact yC _ _ _ A b h
 |d y=>exact yy _ _ _ A b h
 |_=>cases h
def rH:∀{args:List Arg} {s t:Nat} {x:AT},find (lF s args) t=some x→∃k y,args[k]?=some y∧t=s+k∧x=(eE t y).1
 | [],s,t,x,h=>by trivial
 |y::l,s,t,x,h=>by
  simp[lF,aF] at h
  split at h
  ·rename_i e
   cases h
   subst e
   exact⟨0,y,rfl,rfl,rfl⟩
  ·obtain⟨k,z,h1,h2,h3⟩:=rH h
   exact⟨k+1,z,by simpa using h1,by omega,h3⟩
def uk:∀{t:Ty} {x:t.den} {vs:List Value},nZ w I t x vs→aq w I m ρ (rO t x) vs
 |.pair a b,x,vs,h=>by
  obtain⟨v,l,e,_,h1,h2⟩:=h
  exact⟨v,l,e,h1,uk h2⟩
 |.unit,_,vs,h=>h
def yD {t:Ty}{x:t.den}{n:Nat}{cs:List Value}(h:aq w I m ρ (aZ m' t x n).1 cs)(hl:cs.length=t.size):aj w I m ρ (aZ m' t x n).1 (aQ t cs):=by
 have ht:=oK m' t x n
 refine(gX ht).2 ?_
 have ha:(aZ m' t x n).1.isAgg=t.isAgg:=by
  cases t with
  |pair u v=>
   simp[aZ]
   cases hh:(Ty.pair u v).fu<;>rfl
  |_=>rfl
 unfold aG aQ
 cases hh:t.isAgg with
 |true=>grind
 |false=>
  have hsz:t.size=1:=by cases t<;>simp_all [Ty.isAgg,Ty.size]
  rw[hsz] at hl
  obtain⟨v,rfl⟩:=List.length_eq_one_iff.1 hl
  grind
def yA {t:Ty}{x:t.den}{n:Nat}{cs:List Value}(h:aq w I m ρ (aY m' t x n).1 cs):aj w I m ρ (aY m' t x n).1 (aQ t cs):=
 (gX (sJ m' t x n)).2 (tI (sJ m' t x n) h rfl)
def yl:∀{t:Ty} {x:t.den} {vs:List Value} {Bs:List Nat} (n:Nat),au w I t x vs Bs→Bs.Nodup →
  ∃pl:Pl,bf w I (aY (fun _=>none) t x n).2.1 Bs pl∧(∀m' ρ',Fits (aY (fun _=>none) t x n).2.1 pl m' ρ'→aq w I m' ρ' (aY (fun _=>none) t x n).1 vs) ∧
   (∀i b,find (aY (fun _=>none) t x n).2.1 i=some b→n≤i∧i<(aY (fun _=>none) t x n).2.2) ∧
   ∀m' eJ,(∀i b,find (aY (fun _=>none) t x n).2.1 i=some b→m' i=some b∧eJ i=pl i)→gI w m' eJ t x n vs:=by
 intro t
 have mJ:∀{t:Ty} {x:t.den} {vs:List Value} {Bs:List Nat} {n:Nat} {av:AT},Bs = []→af w I t x vs→av = .leaf t x→(∀m' eJ,gI w m' eJ t x n vs) →
   ∃pl:Pl,bf w I [] Bs pl∧(∀m' ρ',Fits [] pl m' ρ'→aq w I m' ρ' av vs)∧(∀i b,find ([]:Mem) i=some b→n≤i∧i<n)∧∀m' eJ,(∀i b,find ([]:Mem) i=some b→m' i=some b∧eJ i=pl i)→gI w m' eJ t x n vs:=by
  intro t x vs Bs n av e h1 h2 h3
  subst e h2
  exact⟨⟨fun _=>none,fun _=>[]⟩,bf.nil _,fun _ _ _=>h1,fun i b h=>by trivial,fun m' eJ _=>h3 m' eJ⟩
 induction t with
 |lst t _=>
  intro x vs Bs n h aE
  obtain⟨pl,h1,h2,h3⟩:=bf.list (n:=n) (st:=aP (fun _=>none) n) (vv t x) h aE
  refine⟨pl,h1,h3,fun i b hb=>?_,fun m' eJ hp=>?_⟩
  ·simp[aY,aF] at hb
   split at hb
   ·rename_i e
    subst e
    simp[aY]
   ·simp[find] at hb
  ·obtain⟨p1,p2⟩:=hp n _ (by simp[aY];rw[aF,bQ rfl])
   refine⟨p1,?_⟩
   obtain⟨ad,cap,e,hl,fW⟩:=h
   refine⟨ad,cap,e,hl,?_⟩
   rw[h2,e] at p2
   rcases fW with⟨q1,q2,_⟩|⟨B,o',cs,Ds,q1,q2,q3,_⟩
   ·subst q1
    exact .inl ⟨rfl,q2,p2⟩
   ·subst q1
    exact .inr ⟨B,o',cs,p2,rfl,q2,q3⟩
 |pair a b aO aK=>
  intro x vs Bs n h aE
  cases ho:(Ty.pair a b).aV with
  |false=>
   obtain⟨h1,h2⟩:=au.rep ho h
   simp[aY,ho]
   exact mJ h2 h1 rfl fun m' eJ=>by unfold gI;rw[ho];exact⟨I,h1⟩
  |true=>
   obtain⟨v1,v2,B1,B2,e,eb,h1,h2⟩:=h
   subst eb
   simp[aY,ho]
   have dc:=cL.1 aE
   obtain⟨p1,k1,k2,k3,k4⟩:=aO n h1 dc.1
   obtain⟨p2,q1,q2,q3,q4⟩:=aK (aY (fun _=>none) a x.1 n).2.2 h2 dc.2.1
   have hle:=oI (fun _=>none) a x.1 n
   have qp:=oI (fun _=>none) b x.2 (aY (fun _=>none) a x.1 n).2.2
   have ij:∀i b' c,find (aY (fun _=>none) a x.1 n).2.1 i=some b'→find (aY (fun _=>none) b x.2 (aY (fun _=>none) a x.1 n).2.2).2.1 i=some c→False:=by
    intro i b' c hb hc
    have:=(k3 i b' hb).2
    have:=(q3 i c hc).1
    omega
   refine⟨bM (aY (fun _=>none) a x.1 n).2.1 p1 p2,bf.app k1 q1 dc.2.2 ij,fun m' ρ' hf=>?_,fun i b' hb=>?_,fun m' eJ hp=>?_⟩
   ·exact⟨v1,v2,e,k2 m' ρ' hf.left,q2 m' ρ' (hf.right ij)⟩
   ·rw[cO] at hb
    split at hb
    ·rename_i c hc
     obtain⟨r1,r2⟩:=k3 i _ hc
     exact⟨r1,by omega⟩
    ·obtain⟨r1,r2⟩:=q3 i b' hb
     exact⟨by omega,r2⟩
   ·unfold gI
    rw[ho]
    refine⟨v1,v2,e,k4 m' eJ fun i c hc=>?_,q4 m' eJ fun i c hc=>?_⟩
    ·obtain⟨r1,r2⟩:=hp i c (by rw[cO,hc])
     exact⟨r1,r2.trans (kF hc).1⟩
    ·have hno:find (aY (fun _=>none) a x.1 n).2.1 i=none:=by
      cases hf:find (aY (fun _=>none) a x.1 n).2.1 i with
      |none=>rfl
      |some c'=>exact(ij i c' c hf hc).elim
     obtain⟨r1,r2⟩:=hp i c (by rw[cO,hno];exact hc)
     exact⟨r1,r2.trans (kE hno).1⟩
 |own t _=>intro x vs Bs n h;simp[au] at h
 |ref t _=>intro x vs Bs n h;simp[au] at h
 |arr k t _=>
  intro x vs Bs n h aE
  exact mJ h.1 h.2.2 rfl fun m' eJ=>⟨by simpa[Ty.aV] using h.2.1,I,h.2.2⟩
 |_=>intro x vs Bs n h aE;exact mJ h.1 h.2 rfl fun m' eJ=>⟨rfl,I,h.2⟩
def arg_ok {x:Arg}{s:Nat}{v:Value}{Bs:List Nat}(h:ArgO w I x v Bs)(hn:Bs.Nodup)(hI:∀B∈Bs,¬I B)(hk:((eE s x).2.map (·.1)).Nodup) :
  ∃pl,bf w I (eE s x).2 Bs pl∧(∀m' ρ',Fits (eE s x).2 pl m' ρ'→aj w I m' ρ' (eE s x).1 v)∧pR w (find (eE s x).2) pl s x v:=by
 cases x with
 |v d=>
  obtain⟨cs,hv,hr⟩:=h
  obtain⟨pl,h1,h2⟩:=oJ (fun _=>none) ((pid s+1)*1000) hr hn
  refine⟨pl,h1.new,fun m' ρ' hf=>?_,trivial⟩
  subst hv
  exact yD (h2 m' ρ' fun i b h=>⟨(hf i b h).1,(hf i b h).2.1⟩) hr.length
 |d y=>
  obtain⟨cs,hv,hr⟩:=h
  obtain⟨pl,h1,h2,_,h4⟩:=yl (om s) hr hn
  refine⟨pl,h1,fun m' ρ' hf=>?_,cs,hv,h4 _ _ fun i b hb=>⟨hb,rfl⟩⟩
  subst hv
  exact yA (h2 m' ρ' hf)
 |p d=>
  obtain⟨B,cs,B1,hv,hc,hB,hr,e⟩:=h
  subst e hv
  have hn':=dN.1 hn
  obtain⟨pl,h1,h2⟩:=oJ (fun _=>none) ((pid s+1)*1000) hr hn'.2
  have hno:find (aZ (fun _=>none) d.t d.x ((pid s+1)*1000)).2.1 (pid s)=none:=by
   cases hf:find (aZ (fun _=>none) d.t d.x ((pid s+1)*1000)).2.1 (pid s) with
   |none=>rfl
   |some b=>
    have:=(h1.gV _ _ hf).1
    grind
  have hnew:=bf.var (st:=0) h1.new hc hB hn'.1 hno (oK _ _ _ _) fun m' ρ' hf=>h2 m' ρ' fun i b h=>⟨(hf i b h).1,(hf i b h).2.1⟩
  refine⟨_,hnew,fun m' ρ' hf=>?_,B,?_,rfl,(aZ (fun _=>none) d.t d.x ((pid s+1)*1000)).1,?_⟩
  ·have hb:=hf (pid s) ⟨0,false,.var d.t.aS (aZ (fun _=>none) d.t d.x ((pid s+1)*1000)).1⟩ (by simp[eE,aF])
   obtain⟨cU,cE,_⟩:=hb
   have hp:(Pl.put pl (pid s) (some (B,0))) (pid s)=some (B,0):=by simp[Pl.put]
   rw[hp] at cE
   refine⟨⟨_,rfl,rfl⟩,⟨_,cU,bA _⟩,fun b hb' hst t x hx=>?_⟩
   exact⟨trivial,B,cE,by simp[Ty.off]⟩
  ·simp[Pl.put]
  ·simp[eE,aF]
 |m t xs=>
  obtain⟨ad,cap,hv,hcap,fW⟩:=h
  simp at hv
  subst hv
  have hfind:find (eE s (.m t xs)).2 (pid s)=some ⟨0,false,.rows t xs⟩:=by simp[eE,aF]
  rcases fW with⟨e1,e2,e3⟩|⟨B,o',cs,e1,e2,e3,e4,e5,e6⟩
  ·have hx:xs = []:=by
    cases xs with
    |nil=>rfl
    |cons y ys=>simp at hcap;omega
   subst hx e1 e2 e3
   refine⟨⟨fun _=>none,fun _=>[]⟩,bf.single rfl (fC rfl) (fun m' ρ' hp=>⟨trivial,.inl ⟨rfl,hp⟩⟩) (fun B o h=>by cases h),fun m' ρ' hf=>?_,?_,_,_,rfl,bA _,.inl ⟨rfl,rfl,rfl⟩⟩
   ·obtain⟨cU,cE,_⟩:=hf (pid s) _ hfind
    refine⟨⟨_,rfl,rfl⟩,⟨_,cU,lB _⟩,fun b hb' hst u ys hy=>?_⟩
    rw[cU] at hb'
    cases hb'
    cases hy
    exact⟨none,0,rfl,bA _,.inl ⟨rfl,rfl,cE⟩⟩
   ·simp[eE,aF]
  ·subst e1 e6
   have hmul:xs.length*t.size≤cap*t.size:=gH _ hcap
   refine⟨⟨fun _=>some (B,o'),fun _=>[]⟩,bf.single rfl (fC rfl) (fun m' ρ' hp=>⟨trivial,.inr ⟨B,o',cs,hp,e2,by omega,e4,by simp[e5]⟩⟩) (fun B' de h=>by cases h;simp),fun m' ρ' hf=>?_,?_,_,_,rfl,hcap,.inr ⟨B,o',cs,rfl,rfl,e2,e3⟩⟩
   ·obtain⟨cU,cE,_⟩:=hf (pid s) _ hfind
    refine⟨⟨_,rfl,rfl⟩,⟨_,cU,lB _⟩,fun b hb' hst u ys hy=>?_⟩
    rw[cU] at hb'
    cases hb'
    cases hy
    exact⟨_,cap,rfl,hcap,.inr ⟨B,o',cs,cE,rfl,e2,e3⟩⟩
   ·simp[eE,aF]
 |f g d=>
  obtain⟨e,caps,hv,hc⟩:=h
  subst e hv
  refine⟨⟨fun _=>none,fun _=>[]⟩,bf.nil _,fun m' ρ' _=>?_,trivial⟩
  exact⟨caps,rfl,uk hc⟩
def gI.mono {m1 m2:MF}{p1 p2:Pl}(hm:∀i b,m1 i=some b→m2 i=some b∧p2 i=p1 i):∀{t:Ty} {x:t.den} {n:Nat} {vs:List Value},gI w m1 p1 t x n vs→gI w m2 p2 t x n vs:=by
 intro t
 induction t with
 |lst t _=>
  rintro x n vs ⟨h1,ad,cap,h2,h3,h4⟩
  obtain⟨k1,k2⟩:=hm n _ h1
  exact⟨k1,ad,cap,h2,h3,h4.to k2⟩
 |pair a b aO aK=>
  grind [gI]
 |_=>simp[gI]
def tY {m1 m2:MF}{p1 p2:Pl}{s:Nat}{x:Arg}{v:Value}(h:pR w m1 p1 s x v)(hm0:∀i b,m1 i=some b→m2 i=some b∧p2 i=p1 i):pR w m2 p2 s x v:=by
 have hm:=hm0 (pid s)
 cases x with
 |d y=>
  obtain⟨cs,h1,h2⟩:=h
  exact⟨cs,h1,h2.mono hm0⟩
 |p d=>
  obtain⟨B,h1,h2,y,h3⟩:=h
  obtain⟨k1,k2⟩:=hm _ h3
  exact⟨B,k2.trans h1,h2,y,k1⟩
 |m t xs=>
  obtain⟨h3,ad,cap,e1,e2,e3⟩:=h
  obtain⟨k1,k2⟩:=hm _ h3
  exact⟨k1,ad,cap,e1,e2,e3.to k2⟩
 |_=>trivial
def tZ {m1 m2:MF}{p1 p2:Pl}(hm:∀i b,m1 i=some b→m2 i=some b∧p2 i=p1 i):∀{l:List Arg} {s:Nat} {vs:List Value},nY w m1 p1 s l vs→nY w m2 p2 s l vs
 | [],_,[],_=>trivial
 | [],_,_::_,h=>h.elim
 |_::_,_,[],h=>by cases h
 |_::_,_,_::_,h=>⟨tY h.1 hm,tZ hm h.2⟩
def uc:∀{args:List Arg} {s:Nat} {vals:List Value} {Bs:List Nat},mV w I args vals Bs→Bs.Nodup→(∀B∈Bs,¬I B)→((fS s args).map (·.1)).Nodup →
  ∃pl,bf w I (fS s args) Bs pl∧(∀m' ρ',Fits (fS s args) pl m' ρ'→∀k x v,args[k]?=some x→vals[k]?=some v→aj w I m' ρ' (eE (s+k) x).1 v)∧nY w (find (fS s args)) pl s args vals∧args.length=vals.length
 | [],s,[],Bs,h,_,_,_=>by
  cases h
  exact⟨⟨fun _=>none,fun _=>[]⟩,bf.nil _,fun m' ρ' _ k x v hx=>by simp,trivial,rfl⟩
 | [],s,_::_,Bs,h,_,_,_=>h.elim
 |_::_,s,[],Bs,h,_,_,_=>by cases h
 |x::l,s,v::vs,Bs,h,hn,hI,hk=>by
  obtain⟨B1,B2,e,h1,h2⟩:=h
  subst e
  have hn':=cL.1 hn
  obtain⟨k1,k2,k3⟩:=qv (l1:=(eE s x).2) (l2:=fS (s+1) l) hk
  obtain⟨p1,q1,q2,q3⟩:=arg_ok (s:=s) h1 hn'.1 (fun B hB=>hI B (by grind)) k1
  obtain⟨p2,r1,r2,r3,r4⟩:=uc (s:=s+1) h2 hn'.2.1 (fun B hB=>hI B (by grind)) k2
  have hnew:=bf.app q1 r1 hn'.2.2 k3
  refine⟨_,hnew,fun m' ρ' hf k y u hy hu=>?_,⟨?_,?_⟩,by grind⟩
  ·cases k with
   |zero=>
    simp at hy hu
    subst hy hu
    exact q2 m' ρ' (Fits.left hf)
   |succ k=>
    have:=r2 m' ρ' (Fits.right k3 hf) k y u (by grind) (by grind)
    grind
  ·refine tY q3 fun i b hb=>?_
   exact⟨by simp[fS,cO,hb],(kF hb).1⟩
  ·refine tZ (fun i b hb=>?_) r3
   have:find (eE s x).2 i=none:=by
    cases hf:find (eE s x).2 i with
    |none=>rfl
    |some c=>exact(k3 i c b hf hb).elim
   exact⟨by simp[fS,cO,this];exact hb,(kE this).1⟩
end
section
variable {P:Program} {F:Fix} {C:Cx} {o:Oper} {a:Act} {w w':World} {m m':MF} {I I':Nat→Prop} {ρ ρ':Pl} {d:aD}
variable {n:Nat} {K:eO} {st st':St}
def lX:List Value→Value
 | [v]=>v
 |l=>.tuple l.toArray
def zQ {fn:Func}{tmps:Array Value}{vals:List Value}(hr:dI (fun r v=>(pD tmps r).run P w = .ok v w) fn.results.toList vals)(hl:fn.results.toList.length≤3) :
  (results fn tmps).run P w = .ok (lX vals) w:=by
 have hres:results fn tmps=(do let vs ←fn.results.mapM (pD tmps);pure (if h:vs.size=1 then vs[0] else .tuple vs)):=by
  rfl
 rw[hres]
 generalize hx:fn.results.toList=l at hr hl
 have he:fn.results=l.toArray:=by grind
 rw[he]
 cases hr with
 |nil=>simp[lX]
 |cons h1 hr=>
  cases hr with
  |nil=>simp[lX,h1]
  |cons h2 hr=>
   cases hr with
   |nil=>simp[lX,h1,h2]
   |cons h3 hr=>
    cases hr<;>simp_all [lX]
def vK {outs:List RV}{vals:List Value}{Bs:List Nat}(h:ja w I outs vals Bs):mu w I outs (lX vals) Bs:=by
 rcases outs with _|⟨x,_|⟨y,l⟩⟩
 ·cases vals with
  |nil=>exact⟨#[],rfl,h⟩
  |cons _ _=>trivial
 ·rcases vals with _|⟨v,_|⟨u,vs⟩⟩
  ·exact h.elim
  ·obtain⟨B1,B2,e,h1,h2⟩:=h
   cases h2
   simp at e
   subst e
   exact h1
  ·obtain⟨B1,B2,e,h1,h2⟩:=h
   exact h2.elim
 ·rcases vals with _|⟨v,_|⟨u,vs⟩⟩
  ·exact h.elim
  ·obtain⟨B1,B2,e,h1,h2⟩:=h
   exact h2.elim
  ·exact⟨(v::u::vs).toArray,rfl,h⟩
def evK_ok {α:Type}{r:α}{Kt:Ex→St→Option α}{c:Code}{fn:Func}{f:FuncId}{lt:List (Nat×bZ)}{args:List Arg}{ws:List Want}{outs:List RV}{kK:List DV}{ok:List Bool}(hm:P.follows .mixedOrders=true)(hC:bR P C){G:jN}(hF:eN P G C)
  (hf:P.funcs[f]?=some fn) (qh:fn.body=some c) (hlo:iF C lt c) (dZ:codeOk fn.ntmps c=true) (hlen:args.length≤fn.ntmps) (uL:args.length≤50) (hws:ws.length≤3) (aE:((fS 0 args).map (·.1)).Nodup)
  (jk:gy C lt c Kt ⟨lF 0 args,fS 0 args,[]⟩=some r) (hK:∀e st,Kt e st=some r→(∀i,e ≠ .exit i)∧finish C fn args ws st=some (outs,kK)):mq P G f args ⟨outs,kK,ok⟩:=by
 intro w I vals Bs hI hG hargs hBn hBI
 ·obtain⟨pl,hnew,hslots,hfs,hlv⟩:=uc hargs hBn hBI aE
  let F:Fix:=⟨w,I,fun B=>B∈Bs,G⟩
  let m0:MF:=find (fS 0 args)
  let K:eO:=⟨fun i=>bif gD i then m0 i else none,pl,w,fun id b hb=>by
   cases hp:gD id with
   |true=>rfl
   |false=>rw[hp] at hb;cases hb⟩
  have hfits:Fits (fS 0 args) pl m0 pl:=fun j c hc=>⟨hc,rfl,rfl⟩
  have hinv:Inv F fn.ntmps K ⟨lF 0 args,fS 0 args,[]⟩ { tmps:=vals.toArray++Array.replicate (fn.ntmps-vals.toArray.size) Go.undef,defers:=[] } w:=by
   refine⟨⟨I,pl,⟨?_,?_,?_,rfl,?_⟩⟩,?_⟩
   ·refine⟨fun id b hb=>(hnew.aN id b hb).2.2 m0 pl hfits,fun id id' b b' B o o' h1 h2 _ _ h5 h6=>hnew.one id id' b b' B h1 h2 (.inl ⟨_,h5⟩) (.inl ⟨_,h6⟩),hI,fun _ h=>h,fun _ h=>.inl h,
     fun id b B o h1 _ h3=>.inr (hnew.src id b B h1 (.inl ⟨_,h3⟩)),fun id b h1 h2=>⟨(hnew.dn id b h1 h2).1,fun B hB=>⟨.inr (hnew.src id b B h1 (.inr ⟨h2,hB⟩)),fun id' b' o k1 _ k3=>by
      have:=hnew.one id id' b b' B h1 k1 (.inr ⟨h2,hB⟩) (.inl ⟨_,k3⟩)
      subst this
      exact(hnew.dn id b h1 h2).2 B hB o k3,fun id' b' k1 k2 k3=>(hnew.one id id' b b' B h1 k1 (.inr ⟨h2,hB⟩) (.inr ⟨k2,k3⟩)).symm⟩⟩,fun _ _ _=>rfl,bA _,rfl,rfl,rfl,hG⟩
   ·intro s av bC
    obtain⟨k,x,h1,h2,h3⟩:=rH bC
    simp only[lA] at h2
    subst h2 h3
    have hk:s<args.length:=(nX.1 h1).1
    have hv:vals[s]?=some vals[s]:=by simp
    have:=hslots m0 pl hfits s x _ h1 hv
    simp only[lA] at this
    have mG:(vals.toArray++Array.replicate (fn.ntmps-vals.toArray.size) Go.undef).getD s Go.undef=vals[s]:=by
     simp[Array.getElem?_append,show s<vals.length by omega]
    rw[mG]
    exact this
   ·simp;omega
   ·intro id b0 hb0
    cases hp:gD id with
    |false=>simp only[K,hp] at hb0;cases hb0
    |true=>
     simp only[K,hp,dW] at hb0
     exact⟨b0,hb0,.inr ⟨t_ (eS hb0),ff.refl _,rfl,fun _ _ _ _ cs hc=>⟨cs,hc,bA _⟩⟩⟩
   ·intro s A b hf'
    obtain⟨k,x,_,_,h3⟩:=rH hf'
    exact wW _ _ A b h3.symm
  refine calls_of_wp hf qh (evC_ok hm hC hF c dZ hlo hinv jk ?_)
  ·intro e st' a' w' he hi'
   obtain⟨hne,kj⟩:=hK e st' he
   unfold finish at kj
   split at kj
   ·rename_i o i u j ho hu
    obtain⟨hb,h2⟩:=aU kj
    obtain⟨_,h3⟩:=aU h2
    cases h3
    simp only[bB,lU] at hb
    obtain⟨hown,himm⟩:=hb
    simp only[aM.app,bY] at hown himm
    have hown':=cL.1 hown
    obtain⟨⟨I2,ρ2,hi⟩,_⟩:=hi'
    let I3:=dV (find st'.mem) ρ2 I2 (i.aS++j.aS)
    have hfz:=aB.freeze hi.mem (i.aS++j.aS)
    have hImm:∀id∈i.aS++j.aS,∀b B o,find st'.mem id=some b→b.live→ρ2 id=some (B,o)→I3 B:=fun id hid b B o h1 h2 h3=>.inr (.inl ⟨id,hid,b,o,h1,h2,h3⟩)
    have hOwn:∀id∈i.own++j.own,∀B,aH (find st'.mem) ρ2 id B→¬I3 B:=by
     rintro id hid B bP (hIB|⟨k,hk,bk,ok',k1,k2,k3⟩|⟨k,hk,bk,k1,k2,k3⟩)
     ·exact bP.iX hi.mem hIB
     ·obtain⟨b,h1,h2,h3,h4⟩:=bP
      have:=hi.mem.jC h1 h2 h4 k1 k2 (.inl ⟨_,k3⟩)
      subst this
      have:=fR himm id hk
      rw[lE.2 hid] at this
      cases this
     ·obtain⟨b,h1,h2,h3,h4⟩:=bP
      have:=hi.mem.jC h1 h2 h4 k1 (fj k2) (.inr ⟨k2,k3⟩)
      subst this
      have:=fR himm id hk
      rw[lE.2 hid] at this
      cases this
    obtain⟨p1,rvs,p0,Ys,p2,p3,p4⟩:=qH (I':=I3) hC hi.mem (fun _ h=>.inl h) hi.env ho (fun id h=>hImm id (by simp[h])) (fun id h=>hOwn id (by simp[h])) hown'.1
    have hkept:∀id b0,gD id=true→m0 id=some b0→∃b,find st'.mem id=some b∧(0<b.st∨(b.st=0∧ff b0.c b.c∧ρ2 id=pl id ∧
      (b0.live→∀B o,pl id=some (B,o)→∀cs,Cells w B cs→∃cs',Cells w' B cs'∧cs.length≤cs'.length))):=by
     intro id b0 hp hb0
     refine hi.kept id b0 ?_
     simp only[K,hp,dW]
     exact hb0
    obtain⟨Zs,z1,z2,z3⟩:=nU (w0:=w) (m0:=m0) (pl:=pl) (I':=I3) hi.mem (fun _ h=>.inl h) hkept (s:=0) (by omega) hu hfs (fun id h=>hImm id (by simp[h])) (fun id h=>hOwn id (by simp[h])) hown'.2.1
    have bP:∀B∈Ys++Zs,∃id∈i.own++j.own,aH (find st'.mem) ρ2 id B:=by
     intro B hB
     rcases bU.1 hB with hB|hB
     ·obtain⟨k,hk,h⟩:=p4 B hB;exact⟨k,by simp[hk],h⟩
     ·obtain⟨k,hk,h⟩:=z3 B hB;exact⟨k,by simp[hk],h⟩
    have hres:=zQ (fn:=fn) p0 (by rw[p1];exact hws)
    have hpost:a'.defers = []∧∃v,(results fn a'.tmps).run P w' = .ok v w'∧(fun e w'=>∃v I' Ys Zs,e=Ending.returned v∧mu w' I' outs v Ys∧eR w w' I' args vals kK Zs∧(Ys++Zs).Nodup ∧
      (∀B∈Ys++Zs,(B∈Bs∨w.heap.size≤B)∧¬I' B)∧bH I I' w w'∧(∀B,I' B→B<w'.heap.size∧(I B∨w.heap.size≤B∨B∈Bs)) ∧
      (∀B,B<w.heap.size→¬B∈Bs→w'.heap[B]?=w.heap[B]?)∧w.heap.size≤w'.heap.size∧w'.os=w.os∧w'.tape=w.tape∧w'.output=w.output) (.returned v) w':=by
     refine⟨hi.defers,_,hres,_,I3,Ys,Zs,rfl,vK p2,z1,jA hi.mem hown p3 z2 p4 z3,fun B hB=>?_,⟨fun B h=>.inl (hi.mem.iJ B h),fun B h=>?_⟩,fun B h=>⟨hfz.mem.aS B h,?_⟩,hi.mem.frame,hi.mem.size,hi.mem.os,hi.mem.tape,hi.mem.output⟩
     ·obtain⟨id,hid,hmn⟩:=bP B hB
      refine⟨?_,hOwn id hid B hmn⟩
      rcases hmn.up hi.mem with h|h
      ·exact .inr h
      ·exact .inl h
     ·exact hi.mem.frame B (hI B h) fun hB=>hBI B hB h
     ·rcases hfz.mem.iu B h with h|h|h
      ·exact .inl h
      ·exact .inr (.inl h)
      ·exact .inr (.inr h)
    cases e with
    |norm=>exact hpost
    |ret=>exact hpost
    |exit i=>exact absurd rfl (hne i)
   ·cases kj
end
open Go.ChangeShapes Go.WideShapes Go.ChangeAt Go.RowKit
section
variable {P:Program} {F:Fix} {C:Cx} {w w':World} {m m':MF} {I I':Nat→Prop} {ρ ρ':Pl}
structure UB {H:Type} (ub:DataW H→Nat) (gf:List (DataW H)→Nat):Prop where
 one:∀d,1≤ub d
 str:∀b,b.length+1≤ub (.lit (.string b))
 slice:∀e s,gf e+gf s+1≤ub (.slice e s)
 agg:∀p,gf p+1≤ub (.agg p)
 cons:∀d r,gf (d::r)=ub d+gf r
def ji:(t:Ty)→t.den→Nat
 |.unit,_=>0
 |.str,s=>s.length+1
 |.lst t,xs=>(xs.map (ji t)).sum+1
 |.pair a b,x=>ji a x.1+ji b x.2
 |_,_=>1
def lf:(t:Ty)→t.den→Prop
 |.int k,n=>k.min≤n∧n≤k.max
 |.lst t,xs=>∀x∈xs,lf t x
 |.pair a b,x=>lf a x.1∧lf b x.2
 |_,_=>True
def Ty.given:Ty→Bool
 |.unit | .bool | .int _ | .str=>true
 |.lst t=>t.given
 |.pair a b=>a.given&&b.given
 |_=>false
def p5 {t:Ty}{T:TypeId}(h:bh P t T):P.cellsOf T=t.size:=by
 obtain⟨i,h1,h2,_⟩:=h.info.info
 grind [Program.cellsOf]
def zg {t:Ty}{T:TypeId}{v:Value}{r:Reach}{base:Nat}(h:bh P t T)(hg:t.given=true)(hv:Value.okWide P w r base T v):v=aQ t v.cells.toList:=by
 cases t with
 |unit=>
  obtain⟨_,fs,hu,_⟩:=h
  obtain⟨cs,rfl,_⟩:=okWide_struct hu hv
  rfl
 |bool=>
  obtain⟨b,rfl⟩:=okWide_bool h.2 hv
  rfl
 |int k=>
  obtain⟨b,rfl⟩:=okWide_int h.2 hv
  rfl
 |str=>
  obtain⟨b,rfl⟩:=okWide_string h.2 hv
  rfl
 |lst u=>
  obtain⟨_,E,hu,_⟩:=h
  obtain⟨a,len,cap,rfl⟩:=okWide_slice hu hv
  rfl
 |pair a b=>
  obtain⟨_,fs,hu,_⟩:=h
  obtain⟨cs,rfl,_⟩:=okWide_struct hu hv
  rfl
 |_=>simp[Ty.given] at hg
variable {H:Type} {enc:TypeId×Value→H} {ub:DataW H→Nat} {gf:List (DataW H)→Nat}
def z6 {α:Type}(l:List α)(o a b:Nat):(l.drop o).take (a+b)=(l.drop o).take a++(l.drop (o+a)).take b:=by
 rw[List.take_add,List.drop_drop]
def xg {base:Nat}{ad:Addr}{n:Nat}{cs:List Value}(h:w.cells? base ad n=some cs)(_hn:0<n)(hs:ad.spot=none):cs.length=n∧∀j,j<n→w.cell? ⟨ad.block,ad.off+j,none⟩=cs[j]? :=by
 obtain⟨h1,h2,h3⟩:=World.cells?_some h
 refine⟨h2,fun j hj=>?_⟩
 have:=h3 j hj
 rw[←this]
 unfold Addr.add
 obtain⟨b,o,s⟩:=ad
 grind
def zW {base:Nat}{ad:Addr}{n:Nat}{cs:List Value}(h:w.cells? base ad n=some cs)(hn:0<n):ad.spot=none∧ad.block<w.heap.size:=by
 obtain⟨h1,h2,h3⟩:=World.cells?_some h
 have h0:=h3 0 hn
 have hc:cs[0]?=some cs[0]:=by simp
 rw[hc] at h0
 unfold World.cell? at h0
 have ha:ad.add 0=ad:=rfl
 rw[ha] at h0
 split at h0
 ·rename_i c e fr hb
  refine⟨?_,?_⟩
  ·cases hs:ad.spot with
   |none=>rfl
   |some _=>simp[hs] at h0
  ·rcases Nat.lt_or_ge ad.block w.heap.size with hl|hl
   ·exact hl
   ·simp[Array.getElem?_eq_none hl] at hb
 ·cases h0
def wu {α:Type}{f:α→Nat}:∀{xs:List α} {ds:List (DataW H)},UB ub gf→xs.length=ds.length→(∀(i:Nat) (x:α) (d:DataW H),xs[i]?=some x→ds[i]?=some d→f x≤ub d)→(xs.map f).sum≤gf ds
 | [],[],_,_,_=>by simp
 |x::xs,d::ds,hu,hl,h=>by
  rw[hu.cons]
  simp
  have h1:=h 0 x d rfl rfl
  have h2:=wu (xs:=xs) (ds:=ds) (f:=f) hu (by grind) fun i y e hy he=>h (i+1) y e (by grind) (by grind)
  omega
 | [],_::_,_,h,_=>by simp
 |_::_,[],_,h,_=>by grind
def uZ {α:Type}{Q:Nat→α→Prop}:∀(n:Nat),(∀i,i<n→∃x,Q i x)→∃xs:List α,xs.length=n∧∀(i:Nat) (x:α),xs[i]?=some x→Q i x
 |0,_=>⟨[],rfl,fun i x h=>by grind⟩
 |n+1,h=>by
  obtain⟨xs,h1,h2⟩:=uZ n fun i hi=>h i (by omega)
  obtain⟨x,hx⟩:=h n (by simp)
  refine⟨xs ++ [x],by grind,fun i y hy=>?_⟩<;>grind
def zo (hu:UB ub gf):∀(t:Ty),t.given=true →
  (∀(T:TypeId) (cs:List Value) (fuel:Nat) (x:DataW H×List MemPlace),bh P t T→DataW.trod enc P w 0 (fun _=>true) true fuel T cs=some x→∃y:t.den,af w (· < w.heap.size) t y cs∧lf t y∧ji t y≤ub x.1) ∧
  (∀(fs:List Field) (off:Nat) (cs:List Value) (k:Nat) (xs:List (DataW H×List MemPlace)),dO P t fs off→xs.length=fs.length →
   (∀(i:Nat) (f:Field),fs[i]?=some f→DataW.trod enc P w 0 (fun _=>true) true k f.type ((cs.drop f.offset).take (P.cellsOf f.type))=xs[i]?) →
   ∃y:t.den,af w (· < w.heap.size) t y ((cs.drop off).take t.size)∧lf t y∧ji t y≤gf (xs.map (·.1))):=by
 intro t
 induction t with
 |unit=>
  intro _
  refine⟨fun T cs fuel x hT h=>?_,fun fs off cs k xs hf hl h=>?_⟩
  ·have hc:=p5 hT
   obtain⟨_,fs,hu1,hfs⟩:=hT
   obtain⟨xs,n,_,_,hl,_⟩:=DataW.trod_struct hu1 h
   rw[hc] at hl
   refine⟨(),?_,trivial,lB _⟩
   exact List.eq_nil_of_length_eq_zero (by simpa[Ty.size] using hl)
  ·exact⟨(),by simp[af,Ty.size],trivial,lB _⟩
 |bool=>
  intro _
  refine⟨fun T cs fuel x hT h=>?_,fun fs off cs k xs hf=>by simp[dO,TO] at hf⟩
  obtain⟨b,rfl,rfl⟩:=DataW.trod_bool hT.2 h
  exact⟨b,by simp[af],trivial,hu.one _⟩
 |int k=>
  intro _
  refine⟨fun T cs fuel x hT h=>?_,fun fs off cs k xs hf=>by simp[dO,TO] at hf⟩
  obtain⟨b,rfl,rfl,hw⟩:=DataW.trod_int hT.2 h
  simp only[Lit.wf,bB,mS] at hw
  exact⟨b,by simp[af],hw,hu.one _⟩
 |str=>
  intro _
  refine⟨fun T cs fuel x hT h=>?_,fun fs off cs k xs hf=>by simp[dO,TO] at hf⟩
  obtain⟨b,rfl,rfl,hw⟩:=DataW.trod_string hT.2 h
  exact⟨b.data.toList,by simp[af],trivial,hu.str _⟩
 |lst u ih=>
  intro hg
  have ih:=(ih (by simpa[Ty.given] using hg)).1
  refine⟨fun T cs fuel x hT h=>?_,fun fs off cs k xs hf=>by simp[dO,TO] at hf⟩
  obtain⟨E,hE,hsz,hTE⟩:=jI hT
  have hcE:=p5 hTE
  rcases DataW.trod_slice hE h with⟨rfl,rfl⟩|⟨ad,len,cap,elems,rest,n,_,rfl,rfl,_,hlc,hcap,hel,mG,_⟩
  ·refine⟨[],?_,by intro x hx;simp at hx,?_⟩
   ·simp only[af]
    exact⟨none,0,by simp,by simp,.inl trivial⟩
   ·exact hu.one _
  ·have hone:∀i,i<len→∃y:u.den,∃cs d,w.cells? 0 (ad.add (i*u.size)) u.size=some cs∧elems[i]?=some d∧af w (· < w.heap.size) u y cs∧lf u y∧ji u y≤ub d.1:=by
    intro i hi
    have h1:=mG i hi
    have h2:elems[i]?=some elems[i]:=by simp[show i<elems.length by omega]
    rw[h2,hcE,l9] at h1
    obtain⟨cs,h3,h4⟩:=h1
    obtain⟨y,h5,h6,h7⟩:=ih E cs n _ hTE h4
    exact⟨y,cs,_,h3,h2,h5,h6,h7⟩
   obtain⟨ys,hyl,hys⟩:=uZ len hone
   refine⟨ys,?_,?_,?_⟩
   ·refine⟨some ad,cap,by rw[hyl],by omega,?_⟩
    by_cases hz:len=0
    ·exact .inl (List.eq_nil_of_length_eq_zero (by omega))
    ·refine .inr ?_
     obtain⟨_,cs0,_,h0,_⟩:=hone 0 (by omega)
     have ha0:ad.add (0*u.size)=ad:=by simp[Addr.add]
     rw[ha0] at h0
     obtain⟨hsp,hbl⟩:=zW h0 hsz
     obtain⟨B,off,sp⟩:=ad
     subst hsp
     refine⟨B,off,rfl,hbl,fun i y hy=>?_⟩
     obtain⟨cs,d,h1,h2,h3,_⟩:=hys i y hy
     have hadd:(⟨B,off,none⟩:Addr).add (i*u.size)=⟨B,off+i*u.size,none⟩:=Addr.j6 _ _ _
     rw[hadd] at h1
     obtain⟨k1,k2⟩:=xg h1 hsz rfl
     exact⟨cs,k1,k2,h3⟩
   ·intro y hy
    obtain⟨i,hi⟩:=List.getElem?_of_mem hy
    obtain⟨_,_,_,_,_,h6,_⟩:=hys i y hi
    exact h6
   ·have hs:=hu.slice (elems.map (·.1)) (rest.map (·.1))
    have:(ys.map (ji u)).sum≤gf (elems.map (·.1)):=by
     refine wu hu (by simp[hyl,hel]) fun i y d hy hd=>?_
     obtain⟨_,d',_,h2,_,_,h7⟩:=hys i y hy
     simp only[List.getElem?_map,h2,zl23,aX] at hd
     subst hd
     exact h7
    simp only[ji]
    omega
 |pair a b aO aK=>
  intro hg
  simp only[Ty.given,bB] at hg
  have aO:=(aO hg.1).1
  have aK:=(aK hg.2).2
  have main:∀(f:Field) (l:List Field) (off:Nat) (cs:List Value) (k:Nat) (xs:List (DataW H×List MemPlace)),f.offset=off→bh P a f.type→dO P b l (off+a.size)→xs.length=(f::l).length →
    (∀(i:Nat) (g:Field),(f::l)[i]?=some g→DataW.trod enc P w 0 (fun _=>true) true k g.type ((cs.drop g.offset).take (P.cellsOf g.type))=xs[i]?) →
    ∃y:(Ty.pair a b).den,af w (· < w.heap.size) (.pair a b) y ((cs.drop off).take (a.size+b.size))∧lf (.pair a b) y∧ji (.pair a b) y≤gf (xs.map (·.1)):=by
   intro f l off cs k xs hfo hfT hl hlen h
   cases xs with
   |nil=>simp at hlen
   |cons x xs=>
    have h0:=h 0 f rfl
    simp only[zl72] at h0
    rw[p5 hfT,hfo] at h0
    obtain⟨ya,q1,q2,q3⟩:=aO _ _ _ _ hfT h0
    obtain⟨yb,p1,p2,p3⟩:=aK l (off+a.size) cs k xs hl (by simpa using hlen) fun i g hg=>by
     have:=h (i+1) g (by simpa using hg)
     simpa using this
    refine⟨(ya,yb),?_,⟨q2,p2⟩,?_⟩
    ·simp only[af]
     exact⟨_,_,z6 _ _ _ _,q1,p1⟩
    ·simp only[ji,mT,hu.cons]
     omega
  refine⟨fun T cs fuel x hT h=>?_,fun fs off cs k xs hf hl h=>?_⟩
  ·have hc:=p5 hT
   simp only[bh,TO] at hT
   obtain⟨_,fs,hu1,f,l,hfs,hf0,hfT,hfl⟩:=hT
   obtain⟨xs,n,_,rfl,hl,hxl,hx⟩:=DataW.trod_struct hu1 h
   rw[hc] at hl
   obtain⟨y,h1,h2,h3⟩:=main f l 0 cs n xs hf0 hfT (by simpa[dO] using hfl) (by rw[←hfs];simpa using hxl) (fun i g hg=>hx i g (by rw[←hfs] at hg;simpa using hg))
   refine⟨y,?_,h2,?_⟩
   ·rw[zl84] at h1
    have e:cs.take (a.size+b.size)=cs:=zl57 (by simp only[Ty.size] at hl;omega)
    rwa[e] at h1
   ·have:=hu.agg (xs.map (·.1))
    simp only at h3 ⊢
    omega
  ·simp only[dO,TO] at hf
   obtain⟨f,l,rfl,hfo,hfT,hfl⟩:=hf
   exact main f l off cs k xs hfo hfT hfl hl h
 |_=>intro hg;simp[Ty.given] at hg
end
open Go.ChangeShapes Go.WideShapes Go.ChangeAt Go.RowKit
section
variable {P:Program} {w w':World} {H:Type} {enc:TypeId×Value→H} {ub:DataW H→Nat} {gf:List (DataW H)→Nat}
def vU (hu:UB ub gf){base:Nat}{r:Reach}:∀{tys:List Ty} {ts:List TypeId} {vs:List Value} {ds:List (DataW H)} {ps:List MemPlace},dI (bh P) tys ts→(∀t∈tys,t.given=true) →
  DataW.TrodAll enc P w 0 (fun _=>true) true ts vs ds ps→(∀(j:Nat) (t:TypeId) (v:Value),ts[j]?=some t→vs[j]?=some v→Value.okWide P w r base t v) →
  ∃iP:List DV,iP.map (·.t)=tys∧(∀d∈iP,lf d.t d.x)∧(iP.map fun d=>ji d.t d.x).sum≤gf ds∧mV w (· < w.heap.size) (iP.map .v) vs []
 | [],_,vs,ds,ps,aW,_,h,_=>by
  cases aW
  obtain⟨rfl,rfl,_⟩:=trodAll_nil h
  exact⟨[],rfl,by simp,by simp,rfl⟩
 |ty::tys,_,vs,ds,ps,aW,hg,h,hv=>by
  cases aW with
  |cons hT hTs=>
  rename_i T ts
  obtain⟨v,vs',d,ds',p,q,rfl,rfl,rfl,h1,h2⟩:=trodAll_cons h
  obtain⟨fuel,hf⟩:=h1
  have hg1:=hg ty (by simp)
  obtain⟨y,k1,k2,k3⟩:=(zo (P:=P) (w:=w) (enc:=enc) hu ty hg1).1 T _ fuel _ hT hf
  obtain⟨iP,q1,q2,q3,q4⟩:=vU hu hTs (fun t ht=>hg t (by grind)) h2 fun j t v hj hjv=>hv (j+1) t v (by grind) (by grind)
  have hp:=zg hT hg1 (hv 0 T v rfl rfl)
  refine⟨⟨ty,y⟩::iP,by simp[q1],?_,?_,?_⟩
  ·intro d hd
   rcases bN.1 hd with e|hd
   ·subst e;exact k2
   ·exact q2 d hd
  ·simp[hu.cons]
   simp at k3
   omega
  ·exact⟨[],[],rfl,⟨_,hp,cD.fY k1⟩,q4⟩
def ud (hl:laidOutB P=true)(hb:Below w.heap.size w w'):∀{ts:List TypeId} {vs:List Value} {ds:List (DataW H)} {ps:List MemPlace},(∀t∈ts,P.readableRec t=true∧t<P.types.size) →
  DataW.TrodAll enc P w 0 (fun _=>true) true ts vs ds ps→(∀x∈ps,x.block<w.heap.size)→DataW.TrodAll enc P w' 0 (fun b=>decide (b<w.heap.size)) true ts vs ds ps
 | [],vs,ds,ps,_,h,_=>by
  obtain⟨rfl,rfl,rfl⟩:=trodAll_nil h
  rfl
 |T::ts,vs,ds,ps,hr,h,hlt=>by
  obtain⟨v,vs',d,ds',p,q,rfl,rfl,rfl,h1,h2⟩:=trodAll_cons h
  have:=hr T (by simp)
  exact trodAll_cons_mk (Below.trod hl this.1 this.2 h1 hb fun x hx=>hlt x (by grind)) (ud hl hb (fun t ht=>hr t (by grind)) h2 fun x hx=>hlt x (by grind))
def law_ok {G:jN}{f:FuncId}{fn:Func}{tys:List Ty}{TB:TypeId}{s:ChangeSpec}(hu:UB ub gf)(hl:laidOutB P=true)(htys:dI (bh P) tys fn.params.toList)(hg:∀t∈tys,t.given=true)
  (hr:∀t∈fn.params.toList,P.readableRec t=true∧t<P.types.size) (hres:fn.resultTypes = #[TB]) (hTB:P.underlying TB=some .bool) (hvars:s.vars = [])
  (hspec:∀ds,ds.length=tys.length→(s.fn H ds).results = [.lit (.bool true)]∧(s.fn H ds).args=ds∧(s.fn H ds).vars = [])
  (hh:∀iP:List DV,iP.map (·.t)=tys→(∀d∈iP,lf d.t d.x)→(iP.map fun d=>ji d.t d.x).sum≤1048576→mq P G f (iP.map .v) ⟨[.v ⟨.bool,true⟩],[],[]⟩)
  {W:World} {base:Nat} {args:Array Value} {ds gs:List (DataW H)} {before:List MemPlace}
  (hval:∀(j:Nat) t v,fn.params[j]?=some t→args[j]?=some v→Value.okWide P W .any base t v)
  (hW:DataW.Whole enc P fn.params.toList s.vars false W args.toList ds gs before) (hk:gf (ds++gs)≤1048576) (hglob:G.ok W (· < W.heap.size)) :
  Calls P f args W fun e W'=>∃v,e = .returned v∧s.post enc P fn false true false false W args v W':=by
 have hW':=hW
 obtain⟨p,q,hA,hV,rfl,hfz,aE⟩:=hW
 rw[hvars] at hV
 obtain⟨rfl,rfl⟩:=trodVars_none hV
 simp[] at hk hW'
 obtain⟨iP,q1,q2,q3,q4⟩:=vU hu htys hg hA fun j t v hj hv=>hval j t v (by grind) (by grind)
 have hlen:ds.length=tys.length:=by
  have h1:∀{ts:List TypeId} {vs:List Value} {ds:List (DataW H)} {ps:List MemPlace},DataW.TrodAll enc P W 0 (fun _=>true) true ts vs ds ps→ds.length=ts.length:=by
   intro ts
   induction ts with
   |nil=>intro vs ds ps h;obtain⟨_,rfl,_⟩:=trodAll_nil h;rfl
   |cons t ts ih=>intro vs ds ps h;obtain⟨_,_,_,_,_,_,_,rfl,_,_,h2⟩:=trodAll_cons h;grind
  have h2:∀{tys:List Ty} {ts:List TypeId},dI (bh P) tys ts→tys.length=ts.length:=by
   intro tys
   induction tys with
   |nil=>intro ts h;cases h;rfl
   |cons t tys ih=>intro ts h;cases h<;>grind
  grind
 obtain⟨s1,s2,s3⟩:=hspec ds hlen
 have hlt:=fun x hx=>by simpa using hW'.lt x hx
 have sB:=hh iP q1 q2 (by omega) W (· < W.heap.size) args.toList [] (fun _ h=>h) hglob q4 List.nodup_nil (by simp)
 refine Calls.mono sB fun e W2 he=>?_
 obtain⟨v,I',Ys,Zs,rfl,hO,_,_,_,_,_,hfr,hsz,hos,htp,hout⟩:=he
 have hv:v = .bool true:=by
  obtain⟨cs,h1,h2⟩:=hO
  obtain⟨_,h3⟩:=h2
  subst h3
  trivial
 subst hv
 have uH:Below W.heap.size W W2:=⟨hos,htp,hout,hsz,fun k hk=>hfr k hk (by simp)⟩
 refine⟨_,rfl,ds,[],p,[],p,[],hW',?_,?_,?_,uH.frame _,fun h=>by grind⟩
 ·rw[hres,jM,s1]
  exact trodAll_cons_mk (shut_bool hTB _) trodAll_mk0
 ·rw[jM,s2]
  exact ud hl uH hr hA hlt
 ·rw[hvars,jM,s3]
  exact rfl
end
section
variable {P:Program} {G:jN} {F:Fix} {C:Cx} {w w':World} {st:St} {lt:List (Nat×bZ)}
def aM.ext' {a b:aM}(h1:a.own=b.own)(h2:a.aS=b.aS):a=b:=by cases a;simp_all
def vL {r:ResultVar}{wt:Want}{x:wt.den}{i:aM}(h:nL C st r wt=some (x,i)){rs:List ResultVar}{ws:List Want}{l:List RV}{j:aM}(hr:kD C st rs ws=some (l,j)) :
  kD C st (r::rs) (wt::ws)=some (wt.rv x::l,i.app j):=by
 cases wt with
 |v t=>
  grind [nL,kD,Want.rv]
 |d t=>
  grind [nL,kD,Want.rv]
 |p t=>
  simp[nL] at h
  split at h<;>grind [kD,Want.rv,aM.app,app]
def aM.wU (i:aM):i.app {}=i:=by simp[aM.app,tW]
def vM:∀{rs:List ResultVar} {ws:List Want} {y:kY ws} {k:aM},qI C st rs ws=some (y,k)→kD C st rs ws=some (pK ws y,k)
 | [],[],y,k,h=>by cases h;rfl
 | [],_::_,y,k,h=>by trivial
 | [r],[w],y,k,h=>by
  have h':=h
  have:=vL h' (rs:=[]) (ws:=[]) (l:=[]) (j:={}) rfl
  rw[aM.wU] at this
  trivial
 | [_],[],y,k,h=>by cases h
 |_::_::_,[],y,k,h=>by cases h
 | [r],w::u::ws,y,k,h=>by cases h
 |r::r'::rs,[w],y,k,h=>by cases h
 |r::r'::rs,w::u::ws,y,k,h=>by
  simp[qI] at h
  split at h
  ·rename_i x i y' j h1 h2
   cases h
   exact vL h1 (vM h2)
  ·cases h
def nQ (p:PT)(l:List PT)(x:jf (p::l)):∃(a:p.den) (as:jf l),iZ (p::l) x=p.arg a::iZ l as:=by
 cases l with
 |nil=>exact⟨x,(),rfl⟩
 |cons q l=>exact⟨x.1,x.2,rfl⟩
def mR:∀{ps:List PT} {s:Nat} {xs:jf ps} {u:jW ps} {k:aM},k_ st s ps (iZ ps xs)=some (u,k)→iA st s (iZ ps xs)=some (kG ps u,k)
 | [],s,xs,u,k,h=>by cases h;rfl
 |.v t::l,s,xs,u,k,h=>by
  obtain⟨a,as,e⟩:=nQ (.v t) l xs
  rw[e] at h ⊢
  exact mR (ps:=l) h
 |.k t::l,s,xs,u,k,h=>by
  obtain⟨a,as,e⟩:=nQ (.k t) l xs
  rw[e] at h ⊢
  exact mR (ps:=l) h
 |.f g t::l,s,xs,u,k,h=>by
  obtain⟨a,as,e⟩:=nQ (.f g t) l xs
  rw[e] at h ⊢
  exact mR (ps:=l) h
 |.d t::l,s,xs,u,k,h=>by
  obtain⟨a,as,e⟩:=nQ (.d t) l xs
  rw[e] at h ⊢
  simp[PT.arg,k_] at h
  split at h
  ·rename_i x0 kq
   have:=cz kq
   cases this
   split at h
   ·rename_i x i e r ids hx eT
    cases h
    have:=mR (ps:=l) (xs:=as) eT
    simp[PT.arg,iA,hx,this,kG]
   ·cases h
  ·cases h
 |.p t::l,s,xs,u,k,h=>by
  obtain⟨a,as,e⟩:=nQ (.p t) l xs
  rw[e] at h ⊢
  simp[k_] at h
  split at h
  ·rename_i vt b r ids hb eT
   split at h
   ·rename_i x i hx
    cases h
    have:=mR (ps:=l) (xs:=as) eT
    simp[PT.arg,iA,hb,this,hx,kG]
   ·cases h
  ·cases h
 |.m t::l,s,xs,u,k,h=>by
  obtain⟨a,as,e⟩:=nQ (.m t) l xs
  rw[e] at h ⊢
  simp[k_] at h
  split at h
  ·rename_i ys r ids hb eT
   cases h
   have:=mR (ps:=l) (xs:=as) eT
   simp[PT.arg,iA,hb,this,kG]
  ·cases h
def evT_ok {fn:Func}{f:FuncId}{ps:List PT}{ws:List Want}{xs:jf ps}{y:kY ws×jW ps}{ok:List Bool}(hm:P.follows .mixedOrders=true)(hC:bR P C)(hF:eN P G C)
  (hf:P.funcs[f]?=some fn) (hlo:∀c,fn.body=some c→iF C lt c) (jk:evT C lt fn ps ws xs=some y):mq P G f (iZ ps xs) ⟨pK ws y.1,kG ps y.2,ok⟩:=by
 unfold evT at jk
 split at jk
 ·grind
 ·rename_i c qh
  obtain⟨hb,jk⟩:=aU jk
  simp only[bB,lU,jw] at hb
  obtain⟨⟨⟨⟨dZ,hlen⟩,uL⟩,hws⟩,aE⟩:=hb
  rw[ua] at jk aE
  refine evK_ok hm hC hF hf qh (hlo c qh) dZ (fc hlen) (fc uL) (fc hws) aE jk fun e st he=>?_
  have kj:(∀i,e ≠ .exit i)∧finT C fn ps (iZ ps xs) ws st=some y:=by
   cases e with
   |norm=>exact⟨(by intro i h;cases h),he⟩
   |ret=>exact⟨(by intro i h;cases h),he⟩
   |exit i=>cases he
  refine⟨kj.1,?_⟩
  have h2:=kj.2
  unfold finT at h2
  split at h2
  ·rename_i o i u j ho hu
   obtain⟨q1,q2⟩:=aU h2
   obtain⟨q3,q4⟩:=aU q2
   cases q4
   unfold finish
   simp[vM ho,mR (xs:=xs) hu,q1,q3]
  ·cases h2
def ConOk (P:Program)(G:jN)(c:j4):Prop:=∀xs y,c.fn xs=some y→∀ok,mq P G c.id (iZ c.ps xs) ⟨pK c.ws y.1,kG c.ps y.2,ok⟩
def PT.of_ok {p:PT}{a:Arg}{x:p.den}(h:p.of a=some x):a=p.arg x:=by
 cases p with
 |v t=>cases a<;>first|(rw[cz h];rfl)|cases h
 |k t=>cases a<;>first|(rw[cz h];rfl)|cases h
 |p t=>cases a<;>first|(rw[cz h];rfl)|cases h
 |d t=>cases a<;>first|(rw[cz h];rfl)|cases h
 |m t=>
  cases a with
  |m u ys=>
   have:=cz h
   cases this
   rfl
  |_=>cases h
 |f g t=>
  cases a with
  |f g' d=>
   simp[PT.of] at h
   obtain⟨h1,h2⟩:=aU h
   rw[cz h2,dH h1]
   rfl
  |_=>cases h
def vG:∀{ps:List PT} {as:List Arg} {xs:jf ps},oY ps as=some xs→as=iZ ps xs
 | [],[],xs,_=>rfl
 | [],_::_,xs,h=>by cases h
 | [p],[a],xs,h=>by
  have:=PT.of_ok (p:=p) (a:=a) (x:=xs) h
  rw[this]
  rfl
 | [_],[],xs,h=>by cases h
 |_::_::_,[],xs,h=>by cases h
 | [p],_::_::_,xs,h=>by cases h
 |p::q::l,[a],xs,h=>by
  grind [oY]
 |p::q::l,a::b::as,xs,h=>by
  simp[oY] at h
  split at h
  ·rename_i x y h1 h2
   cases h
   rw[PT.of_ok h1]
   have:=vG (ps:=q::l) (as:=b::as) h2
   rw[this]
   rfl
  ·cases h
def fnB (P:Program)(f:FuncId):Bool:=match P.funcs[f]? with
 |some fn=> !(fn.name == "runtime.NumGoroutine")&&fn.body.isSome
 |none=>false
def enters {f:FuncId}(h:fnB P f=true)(args:Array Value)(w:World):(callFunc f args).run P w = .ok (.enter f args) w:=by
 unfold fnB at h
 split at h
 ·rename_i fn hf
  simp[] at h
  have hb:fn.body≠none:=by
   intro hh
   simp[hh] at h
  have hn:=by simpa using h.1
  simp[callFunc,hf,hn,hb]
 ·cases h
def eN.nil (gF:List (Nat×TI))(dp:Bool){gl:List (Nat×DV)}(hg:∀g d,find gl g=some d→∀w I,G.ok w I→af w I (.ref d.t) d.x [.pointer (some ⟨g,0,none⟩)]):eN P G ⟨gF,[],dp,gl⟩:=⟨fun f cG den h=>by trivial,hg⟩
def eN.dp {C:Cx}(h:eN P G C)(b:Bool):eN P G ⟨C.gF,C.fns,b,C.gl⟩:=⟨h.fns,h.gl⟩
def eN.cons {gF:List (Nat×TI)}{fns:List (Nat×List Mode×(List Arg→Option Res))}{dp:Bool}{gl:List (Nat×DV)}(h:eN P G ⟨gF,fns,dp,gl⟩)(c:j4)(he:fnB P c.id=true)(hv:∀x y,c.fn x=some y→c.val x=y)(hc:ConOk P G c):eN P G ⟨gF,c.entry::fns,dp,gl⟩:=by
 refine⟨fun f cG den hf=>?_,h.gl⟩
 simp[j4.entry,aF] at hf
 split at hf
 ·rename_i e
  cases hf
  subst e
  refine⟨enters he,fun args r hr hok=>?_⟩
  simp[] at hr
  obtain⟨xs,hx,e⟩:=hr
  have:=vG hx
  subst this e
  have hs:=hok (qu (c.fn xs)) (by simp[j4.res])
  cases hy:c.fn xs with
  |none=>rw[hy] at hs;cases hs
  |some y=>
   unfold j4.res
   rw[hv xs y hy]
   exact hc xs y hy _
 ·exact h.fns f cG den hf
def iW:Code→List Code
 |.seq a b=>app (iW a) (iW b)
 |.cond _ a b=>app (iW a) (iW b)
 |.block _ c=>iW c
 |.scope c=>iW c
 |.loop c=>c::iW c
 |_=>[]
def tN (C:Cx)(lt:List (Nat×bZ))(c:Code):Prop:=∀L,(find lt (iH c)=some L∨find lt (iH c+500000)=some L)→∀x,L.dom x=true→Comes (round C lt c L) x (L.val x)
def h_:Code→List Code
 |.seq a b=>a::app (h_ a) (h_ b)
 |.cond _ a b=>app (h_ a) (h_ b)
 |.block _ c=>h_ c
 |.scope c=>h_ c
 |.loop c=>h_ c
 |_=>[]
def mj (C:Cx)(lt:List (Nat×bZ))(c:Code):Prop:=∀L,mA lt c=some L→∀x,L.dom x=true→boxR C lt c L x=some (L.val x)
def iF.of:∀{c:Code},(∀b∈iW c,tN C lt b)→(∀b∈h_ c,mj C lt b)→iF C lt c:=by
 intro c
 induction c with
 |seq a b aO aK=>
  intro h k
  exact⟨aO (fun x hx=>h x (bw.2 (.inl hx))) (fun x hx=>k x (gZ _ (bw.2 (.inl hx)))),aK (fun x hx=>h x (bw.2 (.inr hx))) (fun x hx=>k x (gZ _ (bw.2 (.inr hx)))),k a (by simp[h_])⟩
 |cond _ a b aO aK=>intro h k;exact⟨aO (fun x hx=>h x (bw.2 (.inl hx))) (fun x hx=>k x (bw.2 (.inl hx))),aK (fun x hx=>h x (bw.2 (.inr hx))) (fun x hx=>k x (bw.2 (.inr hx)))⟩
 |block _ c ih=>trivial
 |scope c ih=>trivial
 |loop c ih=>intro h k;exact⟨ih (fun x hx=>h x (gZ _ hx)) k,h c (by simp[iW])⟩
 |_=>intro _ _;trivial
def jh (fn:Func):Code:=match fn.body with
 |some c=>c
 |none=>.skip
def iY (fn:Func)(k:Nat):Code:=match cY (iW (jh fn)) k with
 |some c=>c
 |none=>.skip
def tM (C:Cx)(lt:List (Nat×bZ))(c:Code)(L:bZ):Prop:=∀x,L.dom x=true→Comes (round C lt c L) x (L.val x)
def lD (C:Cx)(lt:List (Nat×bZ))(fn:Func):Nat→List bZ→Prop
 |k,[]=>Nat.beq (iW (jh fn)).length k=true
 |k,L::l=>(((find lt (iH (iY fn k))=some L∧tM C lt (iY fn k) L)∨find lt (iH (iY fn k))=none)∧∀L2,find lt (iH (iY fn k)+500000)=some L2→tM C lt (iY fn k) L2)∧lD C lt fn (k+1) l
def notTwo {k:Nat}(h:(find lt k).isSome=false){p:bZ→Prop}:∀L2,find lt k=some L2→p L2:=fun L2 h2=>by grind
def loopsL_nil {fn:Func}{k:Nat}(h:Nat.beq (iW (jh fn)).length k=true:=by kernel_rfl):lD C lt fn k []:=h
def yP {fn:Func}{k:Nat}{L:bZ}{l:List bZ}(h1:find lt (iH (iY fn k))=some L)(h2:∀x,L.dom x=true→Comes (round C lt (iY fn k) L) x (L.val x))(h3:lD C lt fn (k+1) l)
  (h4:(find lt (iH (iY fn k)+500000)).isSome=false:=by kernel_rfl):lD C lt fn k (L::l):=⟨⟨.inl ⟨h1,h2⟩,notTwo h4⟩,h3⟩
def loopsC {fn:Func}{k:Nat}{L:bZ}{l:List bZ}(h2:∀x,L.dom x=true→Comes (round C lt (iY fn k) L) x (L.val x))(h3:lD C lt fn (k+1) l)
  (h1:find lt (iH (iY fn k))=some L:=by kernel_rfl) (h4:(find lt (iH (iY fn k)+500000)).isSome=false:=by kernel_rfl):=yP h1 h2 h3 h4
def oW:List (Nat×bZ)→Bool
 | []=>true
 | (k,_)::l=>Nat.ble k 999999&&oW l
def oX:∀{lt:List (Nat×bZ)} {k:Nat},oW lt=true→1000000≤k→find lt k=none
 | [],_,_,_=>rfl
 | (j,L)::l,k,h,hk=>by
  simp only[oW,bB] at h
  have:=fc h.1
  rw[aF,cT (by omega)]
  exact oX h.2 hk
def y_ {c:Code}(h:oW lt=true):mj C lt c:=by
 intro L hL
 unfold mA at hL
 split at hL
 ·rw[oX h (by simp[keyOf])] at hL;grind
 ·rw[oX h (by simp[keyOf])] at hL;grind
 ·rw[oX h (by omega)] at hL;grind
 ·rw[oX h (by omega)] at hL;grind
 ·grind
def qD (fn:Func)(k:Nat):Code:=match cY (h_ (jh fn)) k with
 |some c=>c
 |none=>.skip
def pS (C:Cx)(lt:List (Nat×bZ))(fn:Func)(ks:List Nat):Prop:=∀k∈ks,mj C lt (qD fn k)
def m8 (lt:List (Nat×bZ)):List Code→Nat→List Nat
 | [],_=>[]
 |c::l,k=>match mA lt c with | some _=>k::m8 lt l (k+1)|none=>m8 lt l (k+1)
def ug:∀{l:List Code} {k j:Nat} {c:Code} {L:bZ},l[j]?=some c→mA lt c=some L→k+j∈m8 lt l k
 | [],_,_,_,_,h,_=>by grind
 |d::l,k,0,c,L,h,hL=>by
  simp_all [m8]
 |d::l,k,j+1,c,L,h,hL=>by
  have:=ug (k:=k+1) (j:=j) (by trivial) hL
  unfold m8
  grind
def boxes_of {fn:Func}{ks:List Nat}(he:m8 lt (h_ (jh fn)) 0=ks)(h:pS C lt fn ks):∀b∈h_ (jh fn),mj C lt b:=by
 intro b hb L hL
 obtain⟨j,hj⟩:=List.getElem?_of_mem hb
 have hm:=ug (k:=0) hj hL
 rw[he,lA] at hm
 have:=h j hm
 unfold qD at this
 rw[jB,hj] at this
 exact this L hL
def boxesL_nil {fn:Func}:pS C lt fn []:=fun _ h=>by grind
def boxesL_cons {fn:Func}{k:Nat}{ks:List Nat}{sh:Sh}{ex:fF}{f:sh.den→Option ex.den}{f':sh.den→ex.den}(h1:mA lt (qD fn k)=some (boxD sh ex f f'))(h2:∀x,boxR C lt (qD fn k) (boxD sh ex f f') x=f x)
  (h3:∀x y,f x=some y→f' x=y) (h:pS C lt fn ks):pS C lt fn (k::ks):=by
 intro j hj
 rcases bN.1 hj with e|hj
 ·subst e
  intro L hL x hx
  rw[h1] at hL
  cases hL
  have e:=h2 x
  cases hf:f x with
  |none=>simp only[boxD,hf,qu] at hx;cases hx
  |some y=>rw[hf] at e;refine e.trans ?_;rw[←h3 x y hf];rfl
 ·exact h j hj
def boxesL_none {fn:Func}(h:oW lt=true:=by kernel_rfl):∀b∈h_ (jh fn),mj C lt b:=fun _ _=>y_ h
def yQ {fn:Func}{Ls:List bZ}(h:lD C lt fn 0 Ls)(hbx:∀b∈h_ (jh fn),mj C lt b):∀c,fn.body=some c→iF C lt c:=by
 intro c hc
 have hb:jh fn=c:=by grind [jh]
 refine iF.of (fun b hb'=>?_) (hb▸hbx)
 have main:∀(Ls:List bZ) (k:Nat),lD C lt fn k Ls→∀j,k≤j→(iW (jh fn))[j]?=some b→tN C lt b:=by
  intro Ls
  induction Ls with
  |nil=>
   intro k h j hj hg
   have:=dH h
   grind
  |cons L Ls ih=>
   intro k h j hj hg
   by_cases e:j=k
   ·subst e
    have hn:iY fn j=b:=by unfold iY;rw[jB,hg]
    obtain⟨⟨h,ht⟩,_⟩:=h
    rw[hn] at h ht
    rintro L' (hL'|hL')
    ·rcases h with⟨h1,h2⟩|h
     ·rw[h1] at hL'
      cases hL'
      exact h2
     ·rw[h] at hL';cases hL'
    ·exact ht L' hL'
   ·exact ih (k+1) h.2 j (by omega) hg
 obtain⟨j,hj⟩:=List.getElem?_of_mem hb'
 exact main Ls 0 h j (lB _) (by rw[hb];exact hj)
def loopD_ok {c:Code}{sh:Sh}{ex:fF}{y0:ex.den}{r:sh.den→Option (sh.den⊕ex.den)}(h:∀x,round C lt c (oP sh ex y0 r) x=r x) :
  ∀x,(oP sh ex y0 r).dom x=true→Comes (round C lt c (oP sh ex y0 r)) x ((oP sh ex y0 r).val x):=by
 have e:=funext h
 intro x hx
 rw[e]
 have hd:=@zl79 _ (Classical.propDecidable _) hx
 show Comes r x (oh r y0 x)
 grind [oP,p8,oh]
def Comes.det {X Y:Type}{r:X→Option (X⊕Y)}{x:X}{y z:Y}(h:Comes r x y)(h':Comes r x z):y=z:=by
 induction h with
 |out h1=>
  cases h'<;>grind
 |again h1 _ ih=>
  cases h'<;>grind
def Comes.is {X Y:Type}{r:X→Option (X⊕Y)}{x:X}{y y0:Y}(h:Comes r x y):p8 r x=true∧oh r y0 x=y:=by
 have hd:CDom r x:=⟨y,h⟩
 refine⟨by grind [p8],?_⟩
 unfold oh
 rw[dif_pos hd]
 exact(zl85 hd).det h
def con_ok {fn:Func}{c:j4}{Ls:List bZ}(hm:P.follows .mixedOrders=true)(hC:bR P C)(hF:eN P G C)(hf:P.funcs[c.id]?=some fn)(hlo:lD C lt fn 0 Ls)
  (hbx:∀b∈h_ (jh fn),mj C lt b) (jk:∀xs,evT C lt fn c.ps c.ws xs=c.fn xs):ConOk P G c:=
 fun xs _ hy _=>evT_ok hm hC hF hf (yQ hlo hbx) ((jk xs).trans hy)
end
section
variable {P:Program}
def fO:Ty→List Value→Option (List Value)
 |.unit,l=>some l
 |.bool,.bool false::l=>some l
 |.int k,.int k' 0::l=>bif lO k k' then some l else none
 |.str,.string ⟨⟨[]⟩⟩::l=>some l
 |.lst _,.slice none 0 0::l=>some l
 |.own _,.slice none 0 0::l=>some l
 |.pair a b,l=>match fO a l with | some l'=>fO b l'|none=>none
 |.arr n t,l=>oM (fO t) n l
 |.ref _,.pointer none::l=>some l
 |_,_=>none
where
 oM (f:List Value→Option (List Value)):Nat→List Value→Option (List Value)
  |0,l=>some l
  |n+1,l=>match f l with | some l'=>oM f n l'|none=>none
def wQ:∀{t:Ty} {l r:List Value},fO t l=some r→l=bg t++r:=by
 intro t
 induction t with
 |unit=>intro l r h;simp[fO] at h;simp[bg,h]
 |pair a b aO aK=>
  intro l r h
  simp[fO] at h
  split at h
  ·rename_i l' h1
   rw[aO h1,aK h]
   simp[bg]
  ·cases h
 |arr n t ih=>
  intro l r h
  have main:∀(n:Nat) {l r:List Value},fO.oM (fO t) n l=some r→l=(List.replicate n (bg t)).flatten++r:=by
   intro n
   induction n with
   |zero=>intro l r h;simp[fO.oM] at h;simp[h]
   |succ n ihn=>
    intro l r h
    simp[fO.oM] at h
    split at h
    ·rename_i l' h1
     rw[ih h1,ihn h]
     simp[zl29]
    ·cases h
  exact main n h
 |bool=>intro l r h;unfold fO at h;split at h<;>simp_all [bg]
 |int k=>
  intro l r h
  unfold fO at h
  split at h<;>first|(done)|skip
  all_goals simp_all
  obtain⟨e1,e2⟩:=aU h
  have:=qw e1
  simp_all [bg]
 |str=>intro l r h;unfold fO at h;split at h<;>simp_all [bg]
 |lst t _=>intro l r h;unfold fO at h;split at h<;>simp_all [bg]
 |own t _=>intro l r h;unfold fO at h;split at h<;>simp_all [bg]
 |ref t _=>intro l r h;unfold fO at h;split at h<;>simp_all [bg]
end
section
variable {P:Program}
def tL (t:Ty):Value→Bool
 |.agg cs=>t.isAgg&&(match fO t cs.toList with | some []=>true|_=>false)
 |v=> !t.isAgg&&(match fO t [v] with | some []=>true|_=>false)
def Ao {t:Ty}{v:Value}(h:tL t v=true):v=aQ t (bg t):=by
 have one:∀v,(!t.isAgg&&(match fO t [v] with | some []=>true|_=>false))=true→v=aQ t (bg t):=by
  intro v h
  simp at h
  obtain⟨h1,h2⟩:=h
  split at h2
  ·rename_i hz
   have:=wQ hz
   rw[jM] at this
   simp[aQ,h1,←this]
  ·cases h2
 unfold tL at h
 split at h
 ·simp at h
  obtain⟨h1,h2⟩:=h
  split at h2
  ·rename_i hz
   have:=wQ hz
   rw[jM] at this
   simp[aQ,h1,←this]
  ·cases h2
 ·exact one v h
def kr (P:Program)(t:Ty)(T:TypeId):=match P.info? T with
 |some i=>Nat.beq i.size t.size&&(match i.zero with | some z=>tL t z|none=>false)&&Nat.ble i.bytes 4096
 |none=>false
def lN {t:Ty}{T:TypeId}(h:kr P t T=true):iE P t T:=by
 unfold kr at h
 split at h
 ·rename_i i hi
  simp only[bB] at h
  obtain⟨⟨h1,h2⟩,h3⟩:=h
  split at h2
  ·rename_i z hz
   exact⟨i,hi,dH h1,by rw[hz,Ao h2],fc h3⟩
  ·cases h2
 ·cases h
def dw (P:Program):Ty→(TypeId→Bool)×(List Field→Nat→Bool)
 |.unit=>(fun T=>kr P .unit T&&(match P.underlying T with | some (.struct fs)=>fs.toList.isEmpty|_=>false),fun fs _=>fs.isEmpty)
 |.bool=>(fun T=>kr P .bool T&&(match P.underlying T with | some .bool=>true|_=>false),fun _ _=>false)
 |.int k=>(fun T=>kr P (.int k) T&&(match P.underlying T with | some (.int k')=>lO k' k|_=>false),fun _ _=>false)
 |.str=>(fun T=>kr P .str T&&(match P.underlying T with | some .string=>true|_=>false),fun _ _=>false)
 |.lst t=>(fun T=>kr P (.lst t) T&&(match P.underlying T with | some (.slice E)=>Nat.ble 1 t.size&&(dw P t).1 E|_=>false),fun _ _=>false)
 |.own _=>(fun _=>false,fun _ _=>false)
 |.pair a b=>(fun T=>kr P (.pair a b) T&&(match P.underlying T with
  |some (.struct fs)=>(match fs.toList with
   |f::l=>Nat.beq f.offset 0&&(dw P a).1 f.type&&(dw P b).2 l a.size
   | []=>false)
  |_=>false),
  fun fs off=>match fs with
   |f::l=>Nat.beq f.offset off&&(dw P a).1 f.type&&(dw P b).2 l (off+a.size)
   | []=>false)
 |.arr n t=>(fun T=>kr P (.arr n t) T&&(match P.underlying T with | some (.array n' E)=>Nat.beq n n'&&Nat.ble 2 n&&(match t with | .int _=>true|_=>false)&&(dw P t).1 E|_=>false),fun _ _=>false)
 |.ref t=>(fun T=>kr P (.ref t) T&&(match P.underlying T with | some (.pointer _)=>true|_=>false),fun _ _=>false)
def wH:∀{t:Ty},(∀T,(dw P t).1 T=true→(TO P t).1 T)∧(∀fs off,(dw P t).2 fs off=true→(TO P t).2 fs off):=by
 intro t
 induction t with
 |unit=>
  refine⟨fun T h=>?_,fun fs off h=>by simp_all [dw,TO]⟩
  simp[dw] at h
  obtain⟨h1,h2⟩:=h
  split at h2
  ·rename_i fs hf
   exact⟨lN h1,fs,hf,by simpa using h2⟩
  ·cases h2
 |bool=>
  refine⟨fun T h=>?_,fun fs off h=>by simp[dw] at h⟩
  simp[dw] at h
  obtain⟨h1,h2⟩:=h
  split at h2
  ·rename_i hf;exact⟨lN h1,hf⟩
  ·cases h2
 |int k=>
  refine⟨fun T h=>?_,fun fs off h=>by simp[dw] at h⟩
  simp[dw] at h
  obtain⟨h1,h2⟩:=h
  split at h2
  ·rename_i k' hf;rw[qw h2] at hf;exact⟨lN h1,hf⟩
  ·cases h2
 |str=>
  refine⟨fun T h=>?_,fun fs off h=>by simp[dw] at h⟩
  simp[dw] at h
  obtain⟨h1,h2⟩:=h
  split at h2
  ·rename_i hf;exact⟨lN h1,hf⟩
  ·cases h2
 |lst t ih=>
  refine⟨fun T h=>?_,fun fs off h=>by simp[dw] at h⟩
  simp[dw] at h
  obtain⟨h1,h2⟩:=h
  split at h2
  ·rename_i E hf
   simp only[bB] at h2
   exact⟨lN h1,E,hf,fc h2.1,ih.1 E h2.2⟩
  ·cases h2
 |own t _=>exact⟨fun T h=>by simp[dw] at h,fun fs off h=>by simp[dw] at h⟩
 |pair a b aO aK=>
  refine⟨fun T h=>?_,fun fs off h=>?_⟩
  ·simp[dw] at h
   obtain⟨h1,h2⟩:=h
   split at h2
   ·rename_i fs hf
    split at h2
    ·rename_i f l hfl
     simp only[bB] at h2
     exact⟨lN h1,fs,hf,f,l,hfl,dH h2.1.1,aO.1 _ h2.1.2,aK.2 _ _ h2.2⟩
    ·cases h2
   ·cases h2
  ·simp[dw] at h
   split at h
   ·rename_i f l
    simp only[bB] at h
    exact⟨f,l,rfl,dH h.1.1,aO.1 _ h.1.2,aK.2 _ _ h.2⟩
   ·cases h
 |arr n t ih=>
  refine⟨fun T h=>?_,fun fs off h=>by simp[dw] at h⟩
  simp[dw] at h
  obtain⟨h1,h2⟩:=h
  split at h2
  ·rename_i n' E hf
   simp only[bB] at h2
   obtain⟨⟨⟨q1,q2⟩,q3⟩,q4⟩:=h2
   have:=dH q1
   subst this
   refine⟨lN h1,E,hf,fc q2,?_,ih.1 E q4⟩
   split at q3
   ·exact⟨_,rfl⟩
   ·cases q3
  ·cases h2
 |ref t _=>
  refine⟨fun T h=>?_,fun fs off h=>by simp[dw] at h⟩
  simp[dw] at h
  obtain⟨h1,h2⟩:=h
  split at h2
  ·rename_i E hf;exact⟨lN h1,E,hf⟩
  ·cases h2
def eqB (P:Program)(T:TypeId):Bool:= !(P.stoodInHeld T) && !(P.eqGuardType P.depth T)&&cH (fun f=> !(f.name == "_")) (P.fieldsOf T).toList
def eqB_ok {T:TypeId}(h:eqB P T=true):EqOk P T:=by
 simp[eqB] at h
 refine⟨h.1.1,h.1.2,fun f hf=>?_⟩
 have:=fR h.2 f hf
 grind
def cxOk_of {C:Cx}(h:cH (fun x=>(dw P x.2.t).1 x.1&&(!(Nat.beq x.2.e 1) || eqB P x.1)) C.gF=true):bR P C:=by
 refine⟨fun T ti hf=>?_,fun T ti hf he=>?_⟩
 ·have:=fR h _ (eS hf)
  simp[] at this
  exact wH.1 T this.1
 ·have:=fR h _ (eS hf)
  simp[he] at this
  exact eqB_ok this.2
def tys_of {tys:List Ty}{ts:List TypeId}(h:tys.length=ts.length)(hh:cH (fun x=>(dw P x.1).1 x.2) (tys.zip ts)=true):dI (bh P) tys ts:=by
 induction tys generalizing ts with
 |nil=>cases ts with
  |nil=>exact .nil
  |cons _ _=>grind
 |cons t tys ih=>
  cases ts with
  |nil=>grind
  |cons T ts=>
   simp[cH] at hh
   exact .cons (wH.1 T hh.1) (ih (by grind) hh.2)
end
section
variable {P:Program} {G:jN} {w w':World} {I:Nat→Prop}
def oO:DV→Option Value
 |⟨.str,s⟩=>some (.string ⟨List.toArray (α:=UInt8) s⟩)
 |⟨.int k,n⟩=>some (.int k n)
 |⟨.bool,b⟩=>some (.bool b)
 |_=>none
def eI:List Arg→Option (List Value)
 | []=>some []
 |.v d::l=>match oO d,eI l with
  |some v,some vs=>some (v::vs)
  |_,_=>none
 |_=>none
def mK:List RV→Option (List Value)
 | []=>some []
 |.v d::l=>match oO d,mK l with
  |some v,some vs=>some (v::vs)
  |_,_=>none
 |_=>none
def vg {d:DV}{v:Value}(h:oO d=some v):d.t.isAgg=false∧af w I d.t d.x [v]∧(∀cs Bs,cD w I d.t d.x cs Bs→cs = [v]∧Bs = []):=by
 obtain⟨t,x⟩:=d
 cases t<;>simp[oO,reduceCtorEq] at h<;>subst h<;>refine⟨rfl,rfl,fun cs Bs h=>?_⟩<;>simp[cD] at h<;>exact⟨h.2,h.1⟩
def u_:∀{args:List Arg} {vs vals:List Value} {Bs:List Nat},eI args=some vs→mV w I args vals Bs→vals=vs∧Bs = []
 | [],vs,vals,Bs,h,ha=>by
  simp only[eI,aX] at h
  cases vals with
  |nil=>trivial
  |cons _ _=>trivial
 |.v d::l,vs,vals,Bs,h,ha=>by
  simp[eI] at h
  split at h
  ·rename_i v vs' h1 h2
   cases h
   cases vals with
   |nil=>exact ha.elim
   |cons v0 vals=>
    obtain⟨B1,B2,e,⟨cs,e1,e2⟩,h4⟩:=ha
    obtain⟨k1,_,k3⟩:=vg (w:=w) (I:=I) h1
    obtain⟨q1,q2⟩:=k3 cs B1 e2
    obtain⟨q3,q4⟩:=u_ h2 h4
    subst q1 q2 q3 q4
    refine⟨?_,by simp[e]⟩
    rw[e1]
    unfold aQ
    rw[k1]
    rfl
  ·cases h
 |.d _::_,_,_,_,h,_=>by simp[eI] at h
 |.p _::_,_,_,_,h,_=>by simp[eI] at h
 |.m _ _::_,_,_,_,h,_=>by simp[eI] at h
 |.f _ _::_,_,_,_,h,_=>by simp[eI] at h
def va:∀{args:List Arg} {vs vals:List Value},eI args=some vs→vals.length=args.length→eR w w' I args vals [] []
 | [],_,_,_,_=>rfl
 |.v d::l,vs,v::vals,h,hl=>by
  simp[eI] at h
  split at h
  ·rename_i v' vs' h1 h2
   exact va (args:=l) h2 (by simpa using hl)
  ·cases h
 |.v d::l,vs,[],h,hl=>by simp at hl
 |.d _::_,_,_,h,_=>by simp[eI] at h
 |.p _::_,_,_,h,_=>by simp[eI] at h
 |.m _ _::_,_,_,h,_=>by simp[eI] at h
 |.f _ _::_,_,_,h,_=>by simp[eI] at h
def u0:∀{args:List Arg} {vs:List Value},eI args=some vs→vs.length=args.length
 | [],vs,h=>by simp_all [eI]
 |.v d::l,vs,h=>by
  simp[eI] at h
  split at h
  ·rename_i v vs' h1 h2
   cases h
   simp[u0 h2]
  ·cases h
 |.d _::_,_,h=>by simp[eI] at h
 |.p _::_,_,h=>by simp[eI] at h
 |.m _ _::_,_,h=>by simp[eI] at h
 |.f _ _::_,_,h=>by simp[eI] at h
def yJ {d:DV}{v:Value}(h:oO d=some v):mY w I (.v d) v []:=by
 obtain⟨k1,k2,_⟩:=vg (w:=w) (I:=I) h
 exact⟨[v],by grind [aQ],cD.fY k2⟩
def vb:∀{outs:List RV} {os:List Value},mK outs=some os→ja w I outs os []
 | [],os,h=>by simp[mK] at h;subst h;rfl
 |.v d::l,os,h=>by
  simp[mK] at h
  split at h
  ·rename_i v vs' h1 h2
   cases h
   exact⟨[],[],rfl,yJ h1,vb h2⟩
  ·cases h
 |.d _::_,_,h=>by simp[mK] at h
 |.p _::_,_,h=>by simp[mK] at h
def mq.lit {f:FuncId}{args:List Arg}{outs:List RV}{vs os:List Value}{ok:List Bool}(h1:eI args=some vs)(h2:mK outs=some os)
  (h:∀w I,(∀B,I B→B<w.heap.size)→G.ok w I→Calls P f vs.toArray w fun e w'=>e = .returned (lX os)∧RowKit.Below w.heap.size w w'):mq P G f args ⟨outs,[],ok⟩:=by
 intro w I vals Bs hI hG ha _ _
 obtain⟨e1,e2⟩:=u_ h1 ha
 subst e1 e2
 refine(h w I hI hG).mono fun e w' ⟨he,hb⟩=>?_
 refine⟨lX os,I,[],[],he,vK (vb h2),va h1 (u0 h1),by simp,by simp,⟨fun _ h=>h,fun B hB=>hb.block B (hI B hB)⟩,fun B hB=>⟨Nat.lt_of_lt_of_le (hI B hB) hb.size,.inl hB⟩,fun B hB _=>hb.block B hB,hb.size,hb.os,hb.tape,hb.output⟩
end
open Go.ChangeShapes Go.WideShapes Go.ChangeAt Go.RowKit Go.WideElems
section
variable {P:Program} {w w':World} {H:Type} {enc:TypeId×Value→H} {ub:DataW H→Nat} {gf:List (DataW H)→Nat}
end
end Go.Ab
