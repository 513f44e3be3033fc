import Derived.Test.YtfeoanopdlpabaaGreatDoorX3
import Derived.Scope
import Derived.Tactics
import Derived.OwnWalk
namespace Go.Ab
section
variable {P:Program} {F:Fix} {C:Cx} {o:Oper} {a:Act} {w w':World} {m:MF} {I I':Nat→Prop} {ρ:Pl} {d:aE}
theorem pZ {α β:Type}{f:α→Option β}{y:β}:∀{l:List α},y∈c_ f l↔∃x∈l,f x=some y
 | []=>by simp[c_]
 |x::l=>by
  have ih:=pZ (f:=f) (y:=y) (l:=l)
  simp only[c_]
  cases hf:f x with
  |none=>
   simp only[ih,List.mem_cons]
   constructor
   ·rintro⟨z,h1,h2⟩;exact⟨z,.inr h1,h2⟩
   ·rintro⟨z,h1|h1,h2⟩
    ·subst h1;rw[hf] at h2;cases h2
    ·exact⟨z,h1,h2⟩
  |some z=>
   simp only[ih,List.mem_cons]
   constructor
   ·rintro(h|⟨z,h1,h2⟩)
    ·subst h;exact⟨x,.inl rfl,hf⟩
    ·exact⟨z,.inr h1,h2⟩
   ·rintro⟨z,h1|h1,h2⟩
    ·subst h1;rw[hf] at h2;cases h2;exact .inl rfl
    ·exact .inr ⟨z,h1,h2⟩
theorem gL {α:Type}:∀(l:List α) (i:Nat),bP l i=l[i]?
 | [],_=>by simp[bP]
 |_::_,0=>by simp[bP]
 |_::l,n+1=>by simp[bP,gL l n]
def dK:BC→BC→Prop
 |.var t _,.var u _=>t=u
 |.rows t xs,.rows u ys=>t=u∧xs.length=ys.length
 |.deep _ t xs,.deep _ u ys=>t=u∧xs.length=ys.length
 |.dead,.dead=>True
 |_,_=>False
theorem bt.eT {a b:BC}(h:bt a b):dK a b:=by
 cases a<;>cases b<;>simp only[bt] at h<;>simp only[dK]
 ·exact h
 ·exact h
 ·exact h.2
theorem dK.refl:∀c:BC,dK c c
 |.var _ _=>rfl
 |.rows _ _=>⟨rfl,rfl⟩
 |.deep _ _ _=>⟨rfl,rfl⟩
 |.dead=>trivial
theorem vO {b b':ag}(h:dK b.c b'.c)(hl:b.live):b'.live:=by
 unfold ag.live at *
 cases hb:b.c<;>cases hb':b'.c<;>simp_all [dK]
theorem dK.trans {a b c:BC}(h:dK a b)(k:dK b c):dK a c:=by
 cases a<;>cases b<;>simp only[dK] at h<;>cases c<;>simp only[dK] at k ⊢
 ·exact h.trans k
 ·exact⟨h.1.trans k.1,h.2.trans k.2⟩
 ·exact⟨h.1.trans k.1,h.2.trans k.2⟩
structure dF where
 m:MF
 ρ:Pl
 w:World
 pid:∀id b,m id=some b→eN id=true
def Kept (K:dF)(m:MF)(ρ:Pl)(w:World):Prop:=∀id b0,K.m id=some b0→∃b,m id=some b∧(0<b.st∨(b.st=0∧dK b0.c b.c∧ρ id=K.ρ id ∧
 (b0.live→∀B o,K.ρ id=some (B,o)→∀cs,Cells K.w B cs→∃cs',Cells w B cs'∧cs.length≤cs'.length)))
theorem Kept.mono {K:dF}{m':MF}{ρ':Pl}(h:Kept K m ρ w)(hk:cC m m' ρ ρ' w w'):Kept K m' ρ' w':=by
 intro id b0 hb0
 obtain⟨b,hb,h1⟩:=h id b0 hb0
 obtain⟨b',hb',h2⟩:=hk.keep id b hb
 refine⟨b',hb',?_⟩
 rcases h2 with h2|⟨e1,e2,e3,e4⟩
 ·exact .inl (by omega)
 ·rcases h1 with h1|⟨k1,k2,k3,k4⟩
  ·exact .inl (by omega)
  ·refine .inr ⟨by omega,k2.trans e2.eT,e3.trans k3,fun hl B o hB cs hc=>?_⟩
   obtain⟨cs1,c1,c2⟩:=k4 hl B o hB cs hc
   obtain⟨cs2,c3,c4⟩:=e4 (vO k2 hl) B o (k3.trans hB) cs1 c1
   exact⟨cs2,c3,by omega⟩
structure RInv (F:Fix) (n:Nat) (K:dF) (rs:List Rec) (st:St) (L:Nat→Bool) (a:Act) (w:World) (I:Nat→Prop) (ρ:Pl):Prop where
 mem:aD F (bJ L rs (find st.mem)) w I ρ
 env:∀s av,cR L rs (find st.env) s=some av→fO w I (bJ L rs (find st.mem)) ρ a.tmps av (a.tmps.getD s Go.undef)
 size:a.tmps.size=n
 defers:a.defers = []
 kept:Kept K (bJ L rs (find st.mem)) ρ w
structure bN (C:Cx) (n:Nat) (ops:List Oper) (st st':St) (rs:List Rec) (ah:Nat→Nat→Prop):Prop where
 runs:fD C ops st rs st'
 s6:rs.map (·.o)=ops
 nB:∀(i j:Nat) (ri rj:Rec) (s:Nat),rs[i]?=some ri→rs[j]?=some rj→ri.o.dst=some s→rj.o.dst=some s→i=j
 back:∀(i:Nat) (r:Rec) (g:Nat) (w:Bool),rs[i]?=some r→r.o.guard=some (g,w)→g<i
 lt:∀i j,ah i j→i<j
 sep:∀(i j:Nat) (f g:Rec),i<j→rs[i]?=some f→rs[j]?=some g→ah i j∨gY (f.eI ops) (g.eI ops)=true
 e0:∀s A b,find st.env s≠some (.bC A b)
 tmps:∀(r:Rec) (s:Nat),r∈rs→r.o.dst=some s→s<n
def ir (ah:Nat→Nat→Prop)(L:Nat→Bool):Prop:=∀i j,ah i j→L j=true→L i=true
theorem tF {s:Nat}{R:List Nat}(h:ou (some s) R=true):¬s∈R:=by
 intro hs
 simp only[ou,Bool.not_eq_true'] at h
 rw[jw.2 hs] at h
 cases h
theorem xC (a:AT):∀A b,gV [] a ≠ .bC A b:=by
 intro A b h
 unfold gV at h
 cases a<;>simp at h
section
variable {n:Nat} {K:dF} {ops:List Oper} {st st':St} {rs:List Rec} {ah:Nat→Nat→Prop}
theorem bN.op (h:bN C n ops st st' rs ah){j:Nat}{r:Rec}(hr:rs[j]?=some r):ops[j]?=some r.o:=by
 rw[←h.s6];simp[hr]
theorem bN.did (h:bN C n ops st st' rs ah){j:Nat}{r:Rec}(hr:rs[j]?=some r) :
  guardOf (bw rs j st).env ops r.o=some r.T∧r.D=dom (bw rs j st).mem (nA r.o) (bf (fj C (bw rs j st).env r.T) r.o.op.operands.toList) ∧
  doS C (bw rs j st).env r.T (view (bw rs j st).mem r.D) r.o=some r.d0∧(∀x∈r.d.aj,cX r.D x.1=true)∧kA (find (bw rs j st).mem) (cX r.D) ∧
  kZ (bw rs j st).env (find (bw rs j st).mem) r.T r.d0=some r.d:=by
 have h1:=h.runs.at hr
 unfold kg at h1
 split at h1
 ·cases h1
 ·rename_i T hT
  dsimp only at h1
  split at h1
  ·cases h1
  ·rename_i d hd
   obtain⟨hb,h1⟩:=aQ h1
   simp only[Bool.and_eq_true] at hb
   obtain⟨cq,bZ⟩:=hb
   split at h1
   ·rename_i d' hd'
    simp only[Option.some.injEq] at h1
    have e1:r.T=T:=by rw[←h1]
    have e2:r.d=d':=by rw[←h1]
    have e4:r.d0=d:=by rw[←h1]
    have e3:r.D=dom (bw rs j st).mem (nA r.o) (bf (fj C (bw rs j st).env T) r.o.op.operands.toList):=by rw[←h1]
    rw[←e3] at hd cq bZ
    refine⟨by rw[e1];exact hT,by rw[e1];exact e3,by rw[e1,e4];exact hd,fun x hx=>?_,uv bZ,by rw[e1,e2,e4];exact hd'⟩
    have:x.1∈d.aj.map (·.1):=by rw[←qj hd',←e2];exact List.mem_map.2 ⟨x,hx,rfl⟩
    obtain⟨y,hy,he⟩:=List.mem_map.1 this
    rw[←he]
    exact eG cq y hy
   ·cases h1
theorem bN.sepW (h:bN C n ops st st' rs ah){i j:Nat}{f g:Rec}(hi:rs[i]?=some f)(hj:rs[j]?=some g)(hij:i≠j) :
  ah i j∨ah j i∨gY (f.eI ops) (g.eI ops)=true∨gY (g.eI ops) (f.eI ops)=true:=by
 rcases Nat.lt_or_gt_of_ne hij with hlt|hlt
 ·rcases h.sep i j f g hlt hi hj with h1|h1
  ·exact .inl h1
  ·exact .inr (.inr (.inl h1))
 ·rcases h.sep j i g f hlt hj hi with h1|h1
  ·exact .inr (.inl h1)
  ·exact .inr (.inr (.inr h1))
theorem bN.nD (h:bN C n ops st st' rs ah){i j:Nat}{f g:Rec}(hi:rs[i]?=some f)(hj:rs[j]?=some g)(hij:i≠j){id:Nat}(hw:find f.d.aj id≠none)(hd:cX g.D id=true)(hsk:((j6 f&&fY g.o) || (f.kv&&isVs g))=false):ah i j∨ah j i:=by
 have hin:id∈bf (fun x=>x.1) f.d.aj:=by
  rw[gJ]
  cases hf:find f.d.aj id with
  |none=>exact absurd hf hw
  |some b=>exact nF hf
 rcases h.sepW hi hj hij with h1|h1|h1|h1
 ·exact .inl h1
 ·exact .inr h1
 ·simp only[gY,Bool.and_eq_true] at h1
  have h2:=h1.1.1.1
  simp only[Rec.eI,hsk,Bool.false_or] at h2
  have:=eG h2 id hin
  simp only[hd] at this
  cases this
 ·simp only[gY,Bool.and_eq_true] at h1
  have h2:=h1.1.1.2
  simp only[Rec.eI,hsk,Bool.false_or] at h2
  have:=eG h2 id hin
  simp only[hd] at this
  cases this
theorem bN.edgeS (h:bN C n ops st st' rs ah){i j:Nat}{f g:Rec}(hi:rs[i]?=some f)(hj:rs[j]?=some g)(hij:i≠j){s:Nat}(hw:f.o.dst=some s)(hd:s∈looks ops g.o):ah i j∨ah j i:=by
 rcases h.sepW hi hj hij with h1|h1|h1|h1
 ·exact .inl h1
 ·exact .inr h1
 ·simp only[gY,Bool.and_eq_true,Rec.eI,hw] at h1
  exact absurd hd (tF h1.1.2)
 ·simp only[gY,Bool.and_eq_true,Rec.eI,hw] at h1
  exact absurd hd (tF h1.2)
theorem vR {s:Nat}(h:Operand.tmp s∈o.op.operands):s∈looks ops o:=by
 unfold looks
 rw[bp]
 exact .inl (pZ.2 ⟨.tmp s,Array.mem_toList_iff.2 h,rfl⟩)
theorem sH {g s:Nat}{b:Bool}(h:o.guard=some (g,b))(hs:(bP ops g).bind (·.dst)=some s):s∈looks ops o:=by
 unfold looks
 rw[bp,h]
 refine .inr ?_
 simp only
 rw[hs]
 simp
variable {L:Nat→Bool}
theorem bN.pY (h:bN C n ops st st' rs ah){j:Nat}{r:Rec}(hr:rs[j]?=some r)(hL:L j=false)(bI:ir ah L)(eJ:∀i,ah i j→L i=true){id:Nat}(hid:cX r.D id=true)(hsh:fY r.o=false)(hvs:isVs r=false) :
  bJ L rs (find st.mem) id=find (bw rs j st).mem id:=by
 rw[←jF]
 refine jE (fun k f hk hw=>?_) rfl
 by_cases hkj:k=j
 ·subst hkj;simp[hL]
 ·rcases h.nD hk hr hkj hw hid (by rw[hsh,hvs,Bool.and_false,Bool.and_false];rfl) with h1|h1
  ·have:=h.lt _ _ h1
   simp[eJ k h1,this]
  ·have hlt:=h.lt _ _ h1
   have:¬k<j:=by omega
   simp only[this,decide_false]
   cases eX:L k with
   |false=>rfl
   |true=>have:=bI _ _ h1 eX;rw[hL] at this;cases this
def BC.kind:BC→Nat×Option (Ty×Nat)×Option Ty
 |.var t _=>(0,none,some t)
 |.rows t xs=>(1,some (t,xs.length),none)
 |.deep _ t xs=>(2,some (t,xs.length),none)
 |.dead=>(3,none,none)
def cI (o:Option ag):Option (Nat×Nat×Option (Ty×Nat)×Option Ty):=o.map fun b=>(b.st,b.c.kind)
theorem sg {m m':MF}{id st:Nat}{t:Ty}{xs:List t.den}(hs:cI (m id)=cI (m' id))(h:fL m id st t=some xs):∃ys,fL m' id st t=some ys∧ys.length=xs.length:=by
 have key:∀{u:Ty} {zs:List u.den},DV.as ⟨.lst u,zs⟩ (.lst t)=some xs→u=t∧zs.length=xs.length:=by
  intro u zs h
  have:=bT h
  cases this
  exact⟨rfl,rfl⟩
 unfold fL cur at h
 unfold cI at hs
 cases hm:m id with
 |none=>simp[hm] at h
 |some b=>
  rw[hm] at h hs
  cases hm':m' id with
  |none=>rw[hm'] at hs;cases hs
  |some b'=>
   rw[hm'] at hs
   obtain⟨s,fz,c⟩:=b
   obtain⟨s',fz',c'⟩:=b'
   simp only[Option.map_some,Option.some.injEq,Prod.mk.injEq] at hs
   obtain⟨e1,e2⟩:=hs
   subst e1
   simp only at h
   cases hst:Nat.beq s st with
   |false=>rw[hst] at h;simp at h
   |true=>
    rw[hst] at h
    simp only[cond_true] at h
    unfold fL cur
    rw[hm']
    simp only[hst,cond_true]
    cases c with
    |rows u zs=>
     cases c'<;>simp only[BC.kind,Prod.mk.injEq,Option.some.injEq,reduceCtorEq,and_false,and_true,Nat.reduceEqDiff,false_and] at e2
     rename_i u' zs'
     simp only at h
     obtain⟨k1,k2⟩:=key h
     subst k1
     obtain⟨k3,k4⟩:=e2.2
     subst k3
     exact⟨zs',by simp[DV.as],by omega⟩
    |deep rs u zs=>
     cases c'<;>simp only[BC.kind,Prod.mk.injEq,Option.some.injEq,reduceCtorEq,and_false,and_true,Nat.reduceEqDiff,false_and] at e2
     rename_i rs' u' zs'
     simp only at h
     obtain⟨k1,k2⟩:=key h
     subst k1
     obtain⟨k3,k4⟩:=e2.2
     subst k3
     exact⟨zs',by simp[DV.as],by omega⟩
    |_=>simp at h
theorem wS {m m':MF}{id st:Nat}{t:Ty}{fz:Bool}{xs:List t.den}(hs:cI (m id)=cI (m' id))(h:rowsOf m id st t=some (fz,xs)):∃f ys,rowsOf m' id st t=some (f,ys)∧ys.length=xs.length:=by
 have hb:=eR h
 have hl:fL m id st t=some xs:=by
  unfold fL cur
  rw[hb]
  simp[DV.as]
 obtain⟨ys,h1,h2⟩:=sg hs hl
 rcases pS h1 with⟨fz',hb'⟩|⟨fz',rs,hb'⟩
 ·refine⟨fz',ys,?_,h2⟩
  unfold rowsOf cur
  rw[hb']
  simp[DV.as]
 ·rw[hb,hb'] at hs
  simp[cI,BC.kind] at hs
theorem uA {m m':MF}{id st:Nat}(hs:cI (m id)=cI (m' id)){fz:Bool}{t:Ty}{a:AT}(h:cur m id st=some ⟨st,fz,.var t a⟩):∃f b,cur m' id st=some ⟨st,f,.var t b⟩:=by
 obtain⟨hm,_⟩:=cp h
 unfold cI at hs
 rw[hm] at hs
 cases hm':m' id with
 |none=>rw[hm'] at hs;cases hs
 |some b'=>
  rw[hm'] at hs
  obtain⟨s',fz',c'⟩:=b'
  simp only[Option.map_some,Option.some.injEq,Prod.mk.injEq] at hs
  obtain⟨e1,e2⟩:=hs
  subst e1
  cases c'<;>simp only[BC.kind,Prod.mk.injEq,Option.some.injEq,reduceCtorEq,and_false] at e2
  rename_i u b
  have e3:=e2.2.2
  subst e3
  exact⟨fz',b,by simp[cur,hm']⟩
theorem vu {m m':MF}{T:Nat}{x:AT}{i:Int}{d:aE}(hs:∀id∈x.ids,cI (m id)=cI (m' id))(h:jA C m T x i=some d):jA C m' T x i=some d:=by
 unfold jA at h ⊢
 split at h
 ·exact h
 ·rename_i id st t u hu
  cases bz:t.is u with
  |false=>rw[bz] at h;simp at h
  |true=>
   rw[bz] at h
   simp only[cond_true] at h
   split at h
   ·rename_i xs hr
    obtain⟨ys,h1,h2⟩:=sg (hs id (by simp[AT.ids])) hr
    simp only[cond_true,h1,h2]
    exact h
   ·cases h
 ·rename_i id st off len t u hu
  cases bz:t.is u with
  |false=>rw[bz] at h;simp at h
  |true=>
   rw[bz] at h
   simp only[cond_true] at h
   split at h
   ·rename_i r hr
    obtain⟨fz,xs⟩:=r
    obtain⟨f,ys,h1,h2⟩:=wS (hs id (by simp[AT.ids])) hr
    simp only[cond_true,h1]
    exact h
   ·cases h
 ·exact h
 ·rename_i id st p n u hu
  split at h
  ·rename_i st' fz t a hc
   have hst:st'=st:=(cp hc).2
   subst hst
   obtain⟨f,b,h1⟩:=uA (hs id (by simp[AT.ids])) hc
   simp only[h1]
   exact h
  ·cases h
 ·cases h
theorem vv {T:Nat}{x:AT}{i:Int}{d:aE}(h:jA C m T x i=some d):d.aj = []:=by
 unfold jA at h
 split at h
 ·obtain⟨_,h⟩:=aQ h;cases h;rfl
 ·obtain⟨_,h⟩:=aQ h
  split at h
  ·cases h;rfl
  ·cases h
 ·obtain⟨_,h⟩:=aQ h
  split at h
  ·cases h;rfl
  ·cases h
 ·obtain⟨_,h⟩:=aQ h;cases h;rfl
 ·split at h
  ·obtain⟨_,h⟩:=aQ h;cases h;rfl
  ·cases h
 ·cases h
theorem bN.oo (h:bN C n ops st st' rs ah){j:Nat}{r:Rec}(hr:rs[j]?=some r)(hs:fY r.o=true):r.d0.aj = []∧r.d.aj = []:=by
 obtain⟨_,_,hd,_,_,hrd⟩:=h.did hr
 have h0:r.d0.aj = []:=by
  unfold fY at hs
  unfold doS at hd
  split at hd
  ·rename_i c x y ho;rw[ho] at hs;cases hs
  ·rename_i hn
   cases ho:r.o.op with
   |indexAddr T x i=>
    unfold cY at hd
    rw[ho] at hd
    simp only at hd
    split at hd
    ·exact vv hd
    ·cases hd
   |_=>rw[ho] at hs;cases hs
 refine⟨h0,?_⟩
 have:=qj hrd
 rw[h0] at this
 simpa using this
theorem wZ {m:MF}{T:Nat}{x v:AT}{d:aE}{id s:Nat}{fz:Bool}{t:Ty}{ys:List t.den}(h:kq C m T x v=some d)(hu:d.aj = [(id,⟨s,fz,.rows t ys⟩)]):cI (m id)=cI (some ⟨s,fz,.rows t ys⟩):=by
 unfold kq at h
 split at h
 ·rename_i id' st p u hT
  split at h
  ·obtain⟨_,h⟩:=aQ h
   split at h
   ·cases h
    simp at hu
   ·cases h
  ·cases h
 ·rename_i id' st row p u hT
  split at h
  ·rename_i st' t' xs hc
   obtain⟨_,h⟩:=aQ h
   split at h
   ·rename_i sx y hv
    split at h
    ·rename_i rr hrr
     split at h
     ·rename_i z hz
      cases h
      simp only[List.cons.injEq,Prod.mk.injEq] at hu
      obtain⟨⟨e1,e2⟩,_⟩:=hu
      subst e1
      obtain⟨hm,hst⟩:=cp hc
      rw[hm,←e2]
      simp[cI,BC.kind]
      exact hst
     ·cases h
    ·cases h
   ·cases h
  ·rename_i st' rs t' xs hc
   obtain⟨_,h⟩:=aQ h
   split at h
   ·split at h
    ·split at h
     ·cases h
      simp only[List.cons.injEq,Prod.mk.injEq] at hu
      obtain⟨⟨e1,e2⟩,_⟩:=hu
      cases e2
     ·cases h
    ·cases h
   ·cases h
  ·cases h
 ·cases h
theorem vG {r:Rec}(h:j6 r=true):∃T x v id s fz t,∃(ys:List (Ty.den t)),r.o.op = .store T x v∧r.d.aj = [(id,⟨s,fz,.rows t ys⟩)]∧r.T = []:=by
 unfold j6 at h
 split at h
 ·rename_i T x v id s fz t ys h1 h2
  exact⟨T,x,v,id,s,fz,t,ys,h1,h2,by simpa using h⟩
 ·cases h
theorem bN.keeps (h:bN C n ops st st' rs ah){k:Nat}{f:Rec}(hk:rs[k]?=some f)(hks:j6 f=true){id:Nat}(hw:find f.d.aj id≠none) :
  cI (find (bw rs k st).mem id)=cI (find f.d.aj id)∧∃s fz t,∃(ys:List (Ty.den t)),find f.d.aj id=some ⟨s,fz,.rows t ys⟩:=by
 obtain⟨T,x,v,id',s,fz,t,ys,ho,hu,hT⟩:=vG hks
 obtain⟨_,_,hd,cS,_,hrd⟩:=h.did hk
 have e:id'=id:=by
  rw[hu] at hw
  simp only[aG] at hw
  by_cases e:id'=id
  ·exact e
  ·rw[if_neg e] at hw;exact absurd rfl hw
 subst e
 have hfu:find f.d.aj id'=some ⟨s,fz,.rows t ys⟩:=by rw[hu,aG,if_pos rfl]
 refine⟨?_,s,fz,t,ys,hfu⟩
 have hd0:f.d=f.d0:=by
  unfold kZ at hrd
  rw[hT] at hrd
  simp only[List.isEmpty_nil,Bool.true_or,cond_true,Option.some.injEq] at hrd
  exact hrd.symm
 rw[←hd0] at hd
 unfold doS at hd
 rw[ho] at hd
 simp only at hd
 unfold cY at hd
 rw[ho] at hd
 simp only at hd
 have h1:=wZ hd hu
 rw[hfu,←h1]
 unfold view
 have hin:cX f.D id'=true:=cS (id',_) (by rw[hu];exact List.mem_cons_self)
 rw[hin]
 rfl
theorem isVs_sh {r:Rec}(h:fY r.o=true):isVs r=false:=by
 unfold fY at h
 unfold isVs
 cases ho:r.o.op with
 |nilCheck x=>rw[ho] at h;cases h
 |fieldAddr T x f=>rw[ho] at h;cases h
 |move x=>rw[ho] at h;cases h
 |_=>rfl
theorem isSh_vs {r:Rec}(h:isVs r=true):fY r.o=false:=by
 cases hs:fY r.o with
 |false=>rfl
 |true=>rw[isVs_sh hs] at h;cases h
theorem nilCheck_upd {m:MF}{x:AT}{d:aE}(h:p9 m x=some d):d.aj = []:=by
 unfold p9 at h
 split at h
 ·split at h
  ·cases h;rfl
  ·cases h;rfl
  ·cases h
 ·split at h
  ·cases h;rfl
  ·cases h
 ·cases h;rfl
 ·cases h
theorem fieldAddr_upd {m:MF}{T:Nat}{x:AT}{f:Nat}{d:aE}(h:o8 C m T x f=some d):d.aj = []:=by
 unfold o8 at h
 split at h
 ·obtain⟨_,h⟩:=aQ h
  split at h
  ·obtain⟨_,h⟩:=aQ h;cases h;rfl
  ·cases h
 ·split at h
  ·obtain⟨_,h⟩:=aQ h;cases h;rfl
  ·cases h
 ·split at h
  ·obtain⟨_,h⟩:=aQ h;cases h;rfl
  ·obtain⟨_,h⟩:=aQ h;cases h;rfl
  ·cases h
 ·cases h
theorem bN.vs_upd (h:bN C n ops st st' rs ah){j:Nat}{r:Rec}(hr:rs[j]?=some r)(hs:isVs r=true):r.d0.aj = []∧r.d.aj = []:=by
 obtain⟨_,_,hd,_,_,hrd⟩:=h.did hr
 have h0:r.d0.aj = []:=by
  unfold isVs at hs
  unfold doS at hd
  split at hd
  ·rename_i c x y ho;rw[ho] at hs;cases hs
  ·cases ho:r.o.op with
   |move x=>
    unfold cY at hd
    rw[ho] at hd
    simp only[Option.some.injEq] at hd
    rw[←hd]
   |nilCheck x=>
    unfold cY at hd
    rw[ho] at hd
    exact nilCheck_upd hd
   |fieldAddr T x f=>
    unfold cY at hd
    rw[ho] at hd
    exact fieldAddr_upd hd
   |_=>rw[ho] at hs;cases hs
 refine⟨h0,?_⟩
 have:=qj hrd
 rw[h0] at this
 simpa using this
def nvR (x y:Option ag):Prop:=x=y∨(notVar x=true∧notVar y=true)
theorem nvR.trans {x y z:Option ag}(h:nvR x y)(k:nvR y z):nvR x z:=by
 rcases h with rfl|⟨h1,h2⟩
 ·exact k
 ·rcases k with rfl|⟨k1,k2⟩
  ·exact .inr ⟨h1,h2⟩
  ·exact .inr ⟨h1,k2⟩
theorem nvR.symm {x y:Option ag}(h:nvR x y):nvR y x:=h.imp Eq.symm And.symm
theorem cur_vs {m m':MF}{id st:Nat}{s:Nat}{fz:Bool}{t:Ty}{a:AT}(hs:nvR (m' id) (m id))(h:cur m id st=some ⟨s,fz,.var t a⟩):cur m' id st=some ⟨s,fz,.var t a⟩:=by
 rcases hs with e|⟨_,e⟩
 ·unfold cur at h ⊢;rw[e];exact h
 ·rw[(cp h).1] at e;cases e
theorem nilCheck_vs {m m':MF}{x:AT}{d:aE}{i s:Nat}{p:Path}(hs:∀id,nvR (m' id) (m id))(h:p9 m x=some d)(ha:d.av = .aZ i s p):p9 m' x=some d:=by
 unfold p9 at h ⊢
 split at h
 ·split at h
  ·cases h;cases ha
  ·cases h;cases ha
  ·cases h
 ·split at h
  ·rename_i hc
   simp only[cur_vs (hs _) hc]
   exact h
  ·cases h
 ·cases h;cases ha
 ·cases h
theorem fieldAddr_vs {m m':MF}{T:Nat}{x:AT}{f:Nat}{d:aE}{i s:Nat}{p:Path}(hs:∀id,nvR (m' id) (m id))(h:o8 C m T x f=some d)(ha:d.av = .aZ i s p):o8 C m' T x f=some d:=by
 unfold o8 at h ⊢
 split at h
 ·obtain⟨_,h⟩:=aQ h
  split at h
  ·obtain⟨_,h⟩:=aQ h;cases h;cases ha
  ·cases h
 ·rename_i hu
  split at h
  ·rename_i hc
   simp only[cur_vs (hs _) hc]
   exact h
  ·cases h
 ·split at h
  ·obtain⟨_,h⟩:=aQ h;cases h;cases ha
  ·obtain⟨_,h⟩:=aQ h;cases h;cases ha
  ·cases h
 ·cases h
theorem bN.kv (h:bN C n ops st st' rs ah){k:Nat}{f:Rec}(hk:rs[k]?=some f)(hkv:f.kv=true){id:Nat}(hw:find f.d.aj id≠none):notVar (find (bw rs k st).mem id)=true∧notVar (find f.d.aj id)=true:=by
 have h1:=h.runs.at hk
 have e:f.kv=notVars (find (bw rs k st).mem) f.d.aj:=by
  unfold kg at h1
  split at h1
  ·cases h1
  ·dsimp only at h1
   split at h1
   ·cases h1
   ·obtain⟨_,h1⟩:=aQ h1
    split at h1
    ·simp only[Option.some.injEq] at h1
     rw[←h1]
    ·cases h1
 rw[e] at hkv
 cases hf:find f.d.aj id with
 |none=>exact absurd hf hw
 |some b=>
  have:=eG hkv _ (d_ hf)
  simp only[Bool.and_eq_true] at this
  exact this
theorem bN.sK (h:bN C n ops st st' rs ah){j:Nat}{r:Rec}(hr:rs[j]?=some r)(hsh:fY r.o=true)(hL:L j=false)(bI:ir ah L)(eJ:∀i,ah i j→L i=true){id:Nat}(hid:cX r.D id=true) :
  cI (bJ L rs (find st.mem) id)=cI (find (bw rs j st).mem id)∧∀s fz t a,find (bw rs j st).mem id=some ⟨s,fz,.var t a⟩→bJ L rs (find st.mem) id=find (bw rs j st).mem id:=by
 have hjw:find r.d.aj id=none:=by rw[(h.oo hr hsh).2];rfl
 have hB:∀i k f g,i<k→rs[i]?=some f→rs[k]?=some g→find f.d.aj id≠none→find g.d.aj id≠none→L k=true→L i=true:=by
  intro i k f g hik hi hk hfi hgk eX
  have hgs:fY g.o=false:=by
   cases hs:fY g.o with
   |false=>rfl
   |true=>exact absurd (by rw[(h.oo hk hs).2];rfl) hgk
  have hgd:cX g.D id=true:=by
   cases hf:find g.d.aj id with
   |none=>exact absurd hf hgk
   |some b=>exact(h.did hk).2.2.2.1 _ (d_ hf)
  have hgv:isVs g=false:=by
   cases hs:isVs g with
   |false=>rfl
   |true=>exact absurd (by rw[(h.vs_upd hk hs).2];rfl) hgk
  rcases h.nD hi hk (by omega) hfi hgd (by rw[hgs,hgv,Bool.and_false,Bool.and_false];rfl) with h1|h1
  ·exact bI _ _ h1 eX
  ·have:=h.lt _ _ h1;omega
 have hW:∀k f,rs[k]?=some f→find f.d.aj id≠none→L k=decide (k<j)∨j6 f=true:=by
  intro k f hk hw
  cases hks:j6 f with
  |true=>exact .inr rfl
  |false=>
   left
   have hkj:k≠j:=by intro e;subst e;rw[hr] at hk;cases hk;exact hw hjw
   rcases h.nD hk hr hkj hw hid (by rw[hks,isVs_sh hsh,Bool.and_false];rfl) with h1|h1
   ·have:=h.lt _ _ h1
    simp[eJ k h1,this]
   ·have hlt:=h.lt _ _ h1
    have:¬k<j:=by omega
    simp only[this,decide_false]
    cases eX:L k with
    |false=>rfl
    |true=>have:=bI _ _ h1 eX;rw[hL] at this;cases this
 have hp:∀n,∃p,p≤n∧(∀i f,rs[i]?=some f→find f.d.aj id≠none→p≤i→i<n→L i=false)∧(p=0∨∃q f,p=q+1∧rs[q]?=some f∧find f.d.aj id≠none∧L q=true):=by
  intro n
  induction n with
  |zero=>exact⟨0,Nat.le_refl _,fun i f _ _ _ hi=>by omega,.inl rfl⟩
  |succ n ih=>
   obtain⟨p,h1,h2,h3⟩:=ih
   by_cases hq:∃f,rs[n]?=some f∧find f.d.aj id≠none∧L n=true
   ·obtain⟨f,k1,k2,k3⟩:=hq
    exact⟨n+1,Nat.le_refl _,fun i f _ _ hi hi'=>by omega,.inr ⟨n,f,rfl,k1,k2,k3⟩⟩
   ·refine⟨p,by omega,fun i f hi hw aO hin=>?_,h3⟩
    by_cases e:i=n
    ·subst e
     cases hLi:L i with
     |false=>rfl
     |true=>exact absurd ⟨f,hi,hw,hLi⟩ hq
    ·exact h2 i f hi hw aO (by omega)
 obtain⟨p,p1,p2,p3⟩:=hp rs.length
 have hpw:∀k f,rs[k]?=some f→find f.d.aj id≠none→L k=decide (k<p):=by
  intro k f hk hw
  have jf:k<rs.length:=(List.getElem?_eq_some_iff.1 hk).1
  by_cases hkp:k<p
  ·rcases p3 with p3|⟨q,g,e,q1,q2,q3⟩
   ·omega
   ·by_cases e':k=q
    ·subst e';simp[q3,hkp]
    ·rw[hB k q f g (by omega) hk q1 hw q2 q3]
     simp[hkp]
  ·rw[p2 k f hk hw (by omega) jf]
   simp[hkp]
 have hmem:bJ L rs (find st.mem) id=find (bw rs p st).mem id:=by
  rw[←jF]
  exact jE hpw rfl
 have hstep0:∀i,(∀f,rs[i]?=some f→find f.d.aj id=none)→find (bw rs (i+1) st).mem id=find (bw rs i st).mem id:=by
  intro i hn
  rw[←jF,←jF]
  refine jE (fun k f hk hw=>?_) rfl
  by_cases e:k=i
  ·subst e;exact absurd (hn f hk) hw
  ·have:(k<i+1)↔k<i:=by omega
   simp[this]
 have rS:∀i f,rs[i]?=some f→find f.d.aj id≠none→find (bw rs (i+1) st).mem id=find f.d.aj id:=by
  intro i f hi hw
  cases hf:find f.d.aj id with
  |none=>exact absurd hf hw
  |some b=>
   rw[←jF]
   exact pX hi (by simp) hf fun k r' hk hr' _=>by simp;omega
 have hstep:∀i,((p≤i∧i<j)∨(j≤i∧i<p))→cI (find (bw rs (i+1) st).mem id)=cI (find (bw rs i st).mem id):=by
  intro i hi
  by_cases hw:∃f,rs[i]?=some f∧find f.d.aj id≠none
  ·obtain⟨f,k1,k2⟩:=hw
   rcases hW i f k1 k2 with h1|h1
   ·rw[hpw i f k1 k2] at h1
    have:(i<p)↔(i<j):=by simpa using h1
    omega
   ·rw[rS i f k1 k2,←(h.keeps k1 h1 k2).1]
  ·rw[hstep0 i fun f hf=>by
    cases hx:find f.d.aj id with
    |none=>rfl
    |some b=>exact absurd ⟨f,hf,by rw[hx];simp⟩ hw]
 have hchain:∀d i,((p≤i∧i+d≤j)∨(j≤i∧i+d≤p))→cI (find (bw rs (i+d) st).mem id)=cI (find (bw rs i st).mem id):=by
  intro d
  induction d with
  |zero=>intro i _;rfl
  |succ d ih=>
   intro i hi
   rw[show i+(d+1)=(i+d)+1 by omega,hstep (i+d) (by omega),ih i (by omega)]
 have iH:∀i,((p≤i∧i≤j)∨(j≤i∧i≤p))→cI (find (bw rs i st).mem id)=cI (find (bw rs j st).mem id):=by
  intro i hi
  rcases Nat.le_total i j with hij|hij
  ·have:=hchain (j-i) i (by omega)
   rw[show i+(j-i)=j by omega] at this
   exact this.symm
  ·have:=hchain (i-j) j (by omega)
   rw[show j+(i-j)=i by omega] at this
   exact this
 refine⟨by rw[hmem];exact iH p (by omega),fun s fz t a hv=>?_⟩
 rw[←jF]
 refine jE (fun k f hk hw=>?_) rfl
 rcases hW k f hk hw with h0|hks
 ·exact h0
 ·by_cases hne:L k=decide (k<j)
  ·exact hne
  ·exfalso
   rw[hpw k f hk hw] at hne
   have hbt:(p≤k∧k<j)∨(j≤k∧k<p):=by
    by_cases h1:k<p<;>by_cases h2:k<j<;>simp[h1,h2] at hne<;>omega
   obtain⟨_,s',fz',t',ys',hrow⟩:=h.keeps hk hks hw
   have h1:=iH (k+1) (by omega)
   rw[rS k f hk hw,hrow,hv] at h1
   simp[cI,BC.kind] at h1
theorem bN.memVar (h:bN C n ops st st' rs ah){j:Nat}{r:Rec}(hr:rs[j]?=some r)(hv:isVs r=true)(hL:L j=false)(bI:ir ah L)(eJ:∀i,ah i j→L i=true){id:Nat}(hid:cX r.D id=true) :
  nvR (bJ L rs (find st.mem) id) (find (bw rs j st).mem id):=by
 have hjw:find r.d.aj id=none:=by rw[(h.vs_upd hr hv).2];rfl
 have hB:∀i k f g,i<k→rs[i]?=some f→rs[k]?=some g→find f.d.aj id≠none→find g.d.aj id≠none→L k=true→L i=true:=by
  intro i k f g hik hi hk hfi hgk eX
  have hgs:fY g.o=false:=by
   cases hs:fY g.o with
   |false=>rfl
   |true=>exact absurd (by rw[(h.oo hk hs).2];rfl) hgk
  have hgd:cX g.D id=true:=by
   cases hf:find g.d.aj id with
   |none=>exact absurd hf hgk
   |some b=>exact(h.did hk).2.2.2.1 _ (d_ hf)
  have hgv:isVs g=false:=by
   cases hs:isVs g with
   |false=>rfl
   |true=>exact absurd (by rw[(h.vs_upd hk hs).2];rfl) hgk
  rcases h.nD hi hk (by omega) hfi hgd (by rw[hgs,hgv,Bool.and_false,Bool.and_false];rfl) with h1|h1
  ·exact bI _ _ h1 eX
  ·have:=h.lt _ _ h1;omega
 have hW:∀k f,rs[k]?=some f→find f.d.aj id≠none→L k=decide (k<j)∨f.kv=true:=by
  intro k f hk hw
  cases hks:f.kv with
  |true=>exact .inr rfl
  |false=>
   left
   have hkj:k≠j:=by intro e;subst e;rw[hr] at hk;cases hk;exact hw hjw
   rcases h.nD hk hr hkj hw hid (by rw[hks,isSh_vs hv,Bool.and_false];rfl) with h1|h1
   ·have:=h.lt _ _ h1
    simp[eJ k h1,this]
   ·have hlt:=h.lt _ _ h1
    have:¬k<j:=by omega
    simp only[this,decide_false]
    cases eX:L k with
    |false=>rfl
    |true=>have:=bI _ _ h1 eX;rw[hL] at this;cases this
 have hp:∀n,∃p,p≤n∧(∀i f,rs[i]?=some f→find f.d.aj id≠none→p≤i→i<n→L i=false)∧(p=0∨∃q f,p=q+1∧rs[q]?=some f∧find f.d.aj id≠none∧L q=true):=by
  intro n
  induction n with
  |zero=>exact⟨0,Nat.le_refl _,fun i f _ _ _ hi=>by omega,.inl rfl⟩
  |succ n ih=>
   obtain⟨p,h1,h2,h3⟩:=ih
   by_cases hq:∃f,rs[n]?=some f∧find f.d.aj id≠none∧L n=true
   ·obtain⟨f,k1,k2,k3⟩:=hq
    exact⟨n+1,Nat.le_refl _,fun i f _ _ hi hi'=>by omega,.inr ⟨n,f,rfl,k1,k2,k3⟩⟩
   ·refine⟨p,by omega,fun i f hi hw aO hin=>?_,h3⟩
    by_cases e:i=n
    ·subst e
     cases hLi:L i with
     |false=>rfl
     |true=>exact absurd ⟨f,hi,hw,hLi⟩ hq
    ·exact h2 i f hi hw aO (by omega)
 obtain⟨p,p1,p2,p3⟩:=hp rs.length
 have hpw:∀k f,rs[k]?=some f→find f.d.aj id≠none→L k=decide (k<p):=by
  intro k f hk hw
  have jf:k<rs.length:=(List.getElem?_eq_some_iff.1 hk).1
  by_cases hkp:k<p
  ·rcases p3 with p3|⟨q,g,e,q1,q2,q3⟩
   ·omega
   ·by_cases e':k=q
    ·subst e';simp[q3,hkp]
    ·rw[hB k q f g (by omega) hk q1 hw q2 q3]
     simp[hkp]
  ·rw[p2 k f hk hw (by omega) jf]
   simp[hkp]
 have hmem:bJ L rs (find st.mem) id=find (bw rs p st).mem id:=by
  rw[←jF]
  exact jE hpw rfl
 have hstep0:∀i,(∀f,rs[i]?=some f→find f.d.aj id=none)→find (bw rs (i+1) st).mem id=find (bw rs i st).mem id:=by
  intro i hn
  rw[←jF,←jF]
  refine jE (fun k f hk hw=>?_) rfl
  by_cases e:k=i
  ·subst e;exact absurd (hn f hk) hw
  ·have:(k<i+1)↔k<i:=by omega
   simp[this]
 have rS:∀i f,rs[i]?=some f→find f.d.aj id≠none→find (bw rs (i+1) st).mem id=find f.d.aj id:=by
  intro i f hi hw
  cases hf:find f.d.aj id with
  |none=>exact absurd hf hw
  |some b=>
   rw[←jF]
   exact pX hi (by simp) hf fun k r' hk hr' _=>by simp;omega
 have hstep:∀i,((p≤i∧i<j)∨(j≤i∧i<p))→nvR (find (bw rs (i+1) st).mem id) (find (bw rs i st).mem id):=by
  intro i hi
  by_cases hw:∃f,rs[i]?=some f∧find f.d.aj id≠none
  ·obtain⟨f,k1,k2⟩:=hw
   rcases hW i f k1 k2 with h1|h1
   ·rw[hpw i f k1 k2] at h1
    have:(i<p)↔(i<j):=by simpa using h1
    omega
   ·rw[rS i f k1 k2]
    obtain⟨e1,e2⟩:=h.kv k1 h1 k2
    exact .inr ⟨e2,e1⟩
  ·rw[hstep0 i fun f hf=>by
    cases hx:find f.d.aj id with
    |none=>rfl
    |some b=>exact absurd ⟨f,hf,by rw[hx];simp⟩ hw]
   exact .inl rfl
 have hchain:∀d i,((p≤i∧i+d≤j)∨(j≤i∧i+d≤p))→nvR (find (bw rs (i+d) st).mem id) (find (bw rs i st).mem id):=by
  intro d
  induction d with
  |zero=>intro i _;exact .inl rfl
  |succ d ih=>
   intro i hi
   exact(show nvR (find (bw rs (i+d+1) st).mem id) _ from hstep (i+d) (by omega)).trans (ih i (by omega))
 rw[hmem]
 rcases Nat.le_total p j with hij|hij
 ·have:=hchain (j-p) p (by omega)
  rw[show p+(j-p)=j by omega] at this
  exact this.symm
 ·have:=hchain (p-j) j (by omega)
  rw[show j+(p-j)=p by omega] at this
  exact this
theorem bN.uF (h:bN C n ops st st' rs ah){j:Nat}{r:Rec}(hr:rs[j]?=some r)(hL:L j=false)(bI:ir ah L)(eJ:∀i,ah i j→L i=true){s:Nat}(hs:s∈looks ops r.o) :
  cR L rs (find st.env) s=find (bw rs j st).env s:=by
 rw[←lJ]
 refine kI (fun k f hk hw=>?_) rfl
 by_cases hkj:k=j
 ·subst hkj;simp[hL]
 ·rcases h.edgeS hk hr hkj hw hs with h1|h1
  ·have:=h.lt _ _ h1
   simp[eJ k h1,this]
  ·have hlt:=h.lt _ _ h1
   have:¬k<j:=by omega
   simp only[this,decide_false]
   cases eX:L k with
   |false=>rfl
   |true=>have:=bI _ _ h1 eX;rw[hL] at this;cases this
theorem bN.slot (h:bN C n ops st st' rs ah){k:Nat}{r:Rec}(hr:rs[k]?=some r)(hL:L k=true){s:Nat}(hs:r.o.dst=some s)(e:EF):cR L rs e s=some (gV r.T r.d.av):=
 rB hr hL hs fun k' r' hk hr' hs'=>by have:=h.nB _ _ _ _ _ hr hr' hs hs';omega
theorem bN.tags (h:bN C n ops st st' rs ah):∀(j:Nat) {r:Rec},rs[j]?=some r→∀t∈r.T,∃k r',k<j∧rs[k]?=some r'∧r'.o.dst=some t.1 ∧
  ∀L,ir ah L→(∀i,ah i j→L i=true)→L k=true:=by
 intro j
 induction j using Nat.strongRecOn with
 |_ j ih=>
 intro r hr t ht
 obtain⟨hg,_⟩:=h.did hr
 unfold guardOf at hg
 cases hgd:r.o.guard with
 |none=>rw[hgd] at hg;simp only[Option.some.injEq] at hg;rw[←hg] at ht;simp at ht
 |some gw=>
  obtain⟨g,b⟩:=gw
  rw[hgd] at hg
  simp only[Option.map_eq_some_iff] at hg
  obtain⟨s,hs,hT⟩:=hg
  have hgj:=h.back j r g b hr hgd
  have pL:=sH hgd hs
  rw[gL,←h.s6] at hs
  simp only[List.getElem?_map,Option.bind_map] at hs
  obtain⟨rg,hrg,hsg⟩:=Option.bind_eq_some_iff.1 hs
  simp only[Function.comp_apply] at hsg
  have hLg:∀L,ir ah L→(∀i,ah i j→L i=true)→L g=true:=by
   intro L bI eJ
   rcases h.edgeS hrg hr (by omega) hsg pL with h1|h1
   ·exact eJ g h1
   ·have:=h.lt _ _ h1;omega
  have hev:find (bw rs j st).env s=some (gV rg.T rg.d.av):=by
   rw[←lJ]
   exact h.slot hrg (by simp[hgj]) hsg _
  rw[←hT] at ht
  have first:t=(s,b)→∃k r',k<j∧rs[k]?=some r'∧r'.o.dst=some t.1∧∀L,ir ah L→(∀i,ah i j→L i=true)→L k=true:=
   fun e=>⟨g,rg,hgj,hrg,by rw[e];exact hsg,hLg⟩
  unfold jO at ht
  split at ht
  ·rename_i A e hf
   rcases List.mem_cons.1 ht with e1|ht
   ·exact first e1
   ·rw[hev] at hf
    have:A=rg.T:=by
     unfold gV at hf
     split at hf
     ·split at hf<;>simp at hf
      rename_i hn
      exact absurd hf (hn _ _)
     ·simp only[Option.some.injEq,AT.bC.injEq] at hf;exact hf.1.symm
    subst this
    obtain⟨k,r',h1,h2,h3,h4⟩:=ih g hgj hrg t ht
    exact⟨k,r',by omega,h2,h3,fun L bI eJ=>h4 L bI fun i hi=>bI i g hi (hLg L bI eJ)⟩
  ·rcases List.mem_cons.1 ht with e1|ht
   ·exact first e1
   ·simp at ht
end
end
end Go.Ab
namespace Go.Ab
section
variable {P:Program} {F:Fix} {C:Cx} {o:Oper} {a:Act} {w w':World} {m:MF} {I I':Nat→Prop} {ρ:Pl} {d:aE}
variable {n:Nat} {K:dF} {ops:List Oper} {st st':St} {rs:List Rec} {ah:Nat→Nat→Prop} {L:Nat→Bool}
theorem tq (a:Act)(s:Option Nat)(v:Value):(a.put s v).tmps.size=a.tmps.size:=by cases s<;>simp[Act.put]
theorem put_defers (a:Act)(s:Option Nat)(v:Value):(a.put s v).defers=a.defers:=by cases s<;>simp[Act.put]
theorem tj (a:Act)(s:Nat)(v:Value)(h:s<a.tmps.size):(a.put (some s) v).tmps.getD s Go.undef=v:=by simp[Act.put,h]
theorem oc (a:Act)(s:Option Nat)(t:Nat)(v:Value)(h:s≠some t):(a.put s v).tmps.getD t Go.undef=a.tmps.getD t Go.undef:=by
 cases s with
 |none=>rfl
 |some s=>
  have:s≠t:=fun e=>h (e▸rfl)
  simp[Act.put,Array.getElem?_setIfInBounds_ne this]
theorem fO.tmps {tmps tmps':Array Value}{av:AT}{v:Value}(h:fO w I m ρ tmps av v)(ht:∀T b,av = .bC T b→∀t∈T,tmps'.getD t.1 Go.undef=tmps.getD t.1 Go.undef) :
  fO w I m ρ tmps' av v:=by
 cases av with
 |bC T b=>
  have:dH tmps' T↔dH tmps T:=by
   constructor
   ·intro h1 t gG;rw[←ht T b rfl t gG];exact h1 t gG
   ·intro h1 t gG;rw[ht T b rfl t gG];exact h1 t gG
  exact⟨fun h1=>h.1 (this.1 h1),fun h1=>h.2 fun h2=>h1 (this.2 h2)⟩
 |_=>exact h
theorem tW (b:Bool):Go.undef ≠ .bool b:=by intro h;cases h
theorem xF {ops:Array Oper}{tmps:Array Value}{g s:Nat}{b:Bool}(hs:(ops[g]?).bind (·.dst)=some s):yielded ops tmps g=some b↔tmps.getD s Go.undef = .bool b:=by
 unfold yielded
 rw[hs]
 simp only[Option.bind_some]
 rw[Array.getD_eq_getD_getElem?]
 cases hv:tmps[s]? with
 |none=>simp only[Option.getD_none];constructor<;>intro h<;>cases h
 |some v=>
  simp only[Option.getD_some]
  constructor
  ·intro h
   split at h
   ·rename_i b' hb;cases h;cases hb;rfl
   ·cases h
  ·intro h;subst h;rfl
theorem bN.slots (h:bN C n ops st st' rs ah){j:Nat}{r:Rec}(hr:rs[j]?=some r)(hL:L j=false)(bI:ir ah L){tmps tmps':Array Value}
  (hold:∀t,r.o.dst≠some t→tmps'.getD t Go.undef=tmps.getD t Go.undef)
  (henv:∀s av,cR L rs (find st.env) s=some av→fO w I m ρ tmps av (tmps.getD s Go.undef))
  (hnew:∀s,r.o.dst=some s→fO w I m ρ tmps' (gV r.T r.d.av) (tmps'.getD s Go.undef)) :
  ∀s av,cR (fM L j) rs (find st.env) s=some av→fO w I m ρ tmps' av (tmps'.getD s Go.undef):=by
 intro s av bh
 by_cases hs:r.o.dst=some s
 ·rw[h.slot hr (by simp[fM]) hs] at bh
  cases bh
  exact hnew s hs
 ·have hsame:cR (fM L j) rs (find st.env) s=cR L rs (find st.env) s:=by
   refine kI (fun k f hk hw=>?_) rfl
   unfold fM
   by_cases hkj:k=j
   ·subst hkj;rw[hr] at hk;cases hk;exact absurd hw hs
   ·simp[hkj]
  rw[hsame] at bh
  have h1:=henv s av bh
  rw[hold s hs]
  refine h1.tmps fun T b e t ht=>hold t.1 fun hd=>?_
  subst e
  by_cases hex:∃k f,rs[k]?=some f∧L k=true∧f.o.dst=some s
  ·obtain⟨k,f,hk,eX,hf⟩:=hex
   rw[h.slot hk eX hf] at bh
   have hT:f.T=T:=by
    simp only[Option.some.injEq] at bh
    unfold gV at bh
    split at bh
    ·split at bh
     ·cases bh
     ·rename_i hn
      exact absurd bh (hn _ _)
    ·simp only[AT.bC.injEq] at bh;exact bh.1
   subst hT
   obtain⟨k2,f2,_,hk2,hf2,hin⟩:=h.tags k hk t ht
   have:=hin L bI fun i hi=>bI i k hi eX
   have e:=h.nB _ _ _ _ _ hk2 hr hf2 hd
   subst e
   rw[hL] at this
   cases this
  ·have:cR L rs (find st.env) s=find st.env s:=by
    have h2:cR L rs (find st.env) s=cR (fun _=>false) rs (find st.env) s:=by
     refine kI (fun k f hk hw=>?_) rfl
     cases eX:L k with
     |false=>rfl
     |true=>exact absurd ⟨k,f,hk,eX,hw⟩ hex
    rw[h2,lK]
   rw[this] at bh
   exact absurd bh (h.e0 s T b)
theorem bN.mems (h:bN C n ops st st' rs ah){j:Nat}{r:Rec}(hr:rs[j]?=some r)(hL:L j=false)(bI:ir ah L) :
  bJ (fM L j) rs (find st.mem)=MF.aj (bJ L rs (find st.mem)) r.d.aj:=by
 funext id
 cases hf:find r.d.aj id with
 |none=>
  have:MF.aj (bJ L rs (find st.mem)) r.d.aj id=bJ L rs (find st.mem) id:=by simp[MF.aj,hf]
  rw[this]
  refine jE (fun k f hk hw=>?_) rfl
  unfold fM
  by_cases hkj:k=j
  ·subst hkj;rw[hr] at hk;cases hk;exact absurd hf hw
  ·simp[hkj]
 |some b=>
  have:MF.aj (bJ L rs (find st.mem)) r.d.aj id=some b:=by simp[MF.aj,hf]
  rw[this]
  refine pX hr (by simp[fM]) hf fun k f hjk hk hw=>?_
  have hkj:k≠j:=by omega
  simp only[fM,hkj,decide_false,Bool.or_false]
  have kM:cX r.D id=true:=(h.did hr).2.2.2.1 _ (d_ hf)
  have hrs:fY r.o=false:=by
   cases hs:fY r.o with
   |false=>rfl
   |true=>rw[(h.oo hr hs).2] at hf;cases hf
  have hrv:isVs r=false:=by
   cases hs:isVs r with
   |false=>rfl
   |true=>rw[(h.vs_upd hr hs).2] at hf;cases hf
  rcases h.nD hk hr hkj hw kM (by rw[hrs,hrv,Bool.and_false,Bool.and_false];rfl) with h1|h1
  ·have:=h.lt _ _ h1;omega
  ·cases eX:L k with
   |false=>rfl
   |true=>have:=bI _ _ h1 eX;rw[hL] at this;cases this
theorem tM {env:List (Nat×AT)}{tmps:Array Value}:∀{T:dG},dH tmps T→(∀t∈T,Reads w I m ρ tmps env t.1)→gP env T=true:=by
 have one:∀{T:dG},dH tmps T→(∀t∈T,Reads w I m ρ tmps env t.1)→∀t∈T,jN env t.1 t.2=true:=by
  intro T hT hr t ht
  have hv:=hT t ht
  have h1:=hr t ht
  unfold jN
  split
  ·rename_i b hf
   have h2:=h1 _ hf
   rw[hv] at h2
   have:=eo.1 (show au w I m ρ (.leaf .bool b) (.bool t.2) from h2)
   cases this
   cases t.2<;>rfl
  ·rename_i A b hf
   have h2:=h1 _ hf
   rw[hv] at h2
   by_cases hA:dH tmps A
   ·have:=eo.1 (h2.1 hA)
    cases this
    cases t.2<;>rfl
   ·exact absurd (h2.2 hA).symm (tW _)
  ·rfl
 intro T hT hr
 have h1:=one hT hr
 induction T with
 |nil=>rfl
 |cons t T ih=>
  have h2:=h1 t (by simp)
  cases T with
  |nil=>exact h2
  |cons u T=>
   obtain⟨s,b⟩:=t
   show(jN env s b&&gP env (u::T))=true
   rw[show jN env s b=true from h2,ih (fun t ht=>hT t (by simp[ht])) (fun t ht=>hr t (by simp[ht])) (fun t ht=>h1 t (by simp[ht]))]
   rfl
theorem se {env:List (Nat×AT)}{tmps:Array Value}:∀{T:dG},l7 env T=true→(∀t∈T,Reads w I m ρ tmps env t.1)→gP env T=true→dH tmps T
 | [],_,_,_=>fun t ht=>by cases ht
 | (s,b)::T,hk,hr,hb=>by
  simp only[l7,Bool.and_eq_true] at hk
  obtain⟨hk1,hk2⟩:=hk
  have hb':jN env s b=true∧gP env T=true:=by
   cases T with
   |nil=>exact⟨hb,rfl⟩
   |cons u T=>simp only[gP,Bool.and_eq_true] at hb;exact hb
  have ih:=se hk2 (fun t ht=>hr t (List.mem_cons_of_mem _ ht)) hb'.2
  have h1:=hr (s,b) List.mem_cons_self
  simp only at h1
  intro t ht
  rcases List.mem_cons.1 ht with e|ht
  ·subst e
   have h3:=hb'.1
   unfold jN at h3
   split at hk1
   ·rename_i c hf
    have h2:=h1 _ hf
    have:=eo.1 (show au w I m ρ (.leaf .bool c) _ from h2)
    rw[hf] at h3
    simp only at h3 ⊢
    rw[this]
    cases b<;>cases c<;>simp at h3 ⊢
   ·rename_i A c hf
    have h2:=h1 _ hf
    have hA:dH tmps A:=qs hk1 ih
    have:=eo.1 (h2.1 hA)
    rw[hf] at h3
    simp only at h3 ⊢
    rw[this]
    cases b<;>cases c<;>simp at h3 ⊢
   ·cases hk1
  ·exact ih t ht
end
end Go.Ab
namespace Go.Ab
section
variable {P:Program} {F:Fix} {C:Cx} {o:Oper} {a:Act} {w w':World} {m:MF} {I I':Nat→Prop} {ρ:Pl} {d:aE}
variable {n:Nat} {K:dF} {ops:List Oper} {st st':St} {rs:List Rec} {ah:Nat→Nat→Prop} {L:Nat→Bool}
def ga (F:Fix)(n:Nat)(K:dF)(rs:List Rec)(st:St)(L:Nat→Bool)(a:Act)(w:World):Prop:=∃I ρ,RInv F n K rs st L a w I ρ
theorem wq {l:List Bool}(h:∀b∈n6 true l,b=true):∀b∈l,b=true:=by
 intro b hb
 have:(!true || b)∈n6 true l:=by unfold n6;rw[gJ];exact List.mem_map.2 ⟨b,hb,rfl⟩
 simpa using h _ this
theorem o4 {av:AT}{tmps:Array Value}{v:Value}(h:au w I m ρ av v)(hn:∀A b,av = .bC A b→False):fO w I m ρ tmps av v:=by
 cases av with
 |bC A b=>exact(hn A b rfl).elim
 |_=>exact h
theorem pF {β:Type}:∀{l:List (Nat×β)} {x:Nat×β},(l.map (·.1)).Nodup→x∈l→find l x.1=some x.2
 | [],x,_,h=>by cases h
 | (i,b)::l,x,hn,h=>by
  simp only[List.map_cons,List.nodup_cons] at hn
  rw[aG]
  rcases List.mem_cons.1 h with e|h
  ·subst e;simp
  ·have:i≠x.1:=fun e=>hn.1 (e▸List.mem_map.2 ⟨x,h,rfl⟩)
   rw[if_neg this]
   exact pF hn.2 h
theorem bN.step (h:bN C n ops st st' rs ah)(hC:bH P C)(hF:dD P F.G C){j:Nat}{r:Rec}(hr:rs[j]?=some r)(hL:L j=false)(bI:ir ah L)(eJ:∀i,ah i j→L i=true)
  (hok:∀b∈okT (bw rs j st).env r.T r.d.ok,b=true) {Q:Exit→Act→World→Prop} {Kt:Act→World→Prop} (hinv:ga F n K rs st L a w)
  (hK:∀a' w',ga F n K rs st (fM L j) a' w'→Kt a' w'):wpOp P ops.toArray Q j Kt a w:=by
 obtain⟨I,ρ,hi⟩:=hinv
 obtain⟨hg,hD,hd,cS,hclo,hrd⟩:=h.did hr
 obtain⟨bh,hokE,hmg⟩:=tu hrd
 rw[hokE] at hok
 have hup0:∀x∈r.d0.aj,cX r.D x.1=true:=by
  intro x hx
  have:x.1∈r.d.aj.map (·.1):=by rw[qj hrd];exact List.mem_map.2 ⟨x,hx,rfl⟩
  obtain⟨y,hy,he⟩:=List.mem_map.1 this
  rw[←he]
  exact cS y hy
 have hop:=h.op hr
 have rQ:∀s,s∈looks ops r.o→Reads w I (bJ L rs (find st.mem)) ρ a.tmps (bw rs j st).env s:=by
  intro s hs av bh
  exact hi.env s av (by rw[h.uF hr hL bI eJ hs];exact bh)
 have pO:∀t∈r.T,Reads w I (bJ L rs (find st.mem)) ρ a.tmps (bw rs j st).env t.1:=by
  intro t ht av bh
  obtain⟨k,f,hkj,hk,hf,hin⟩:=h.tags j hr t ht
  have eX:=hin L bI eJ
  refine hi.env t.1 av ?_
  rw[h.slot hk eX hf]
  rw[←lJ,h.slot hk (by simp[hkj]) hf] at bh
  exact bh
 have eY:doS C (bw rs j st).env r.T ((bJ L rs (find st.mem)).on (cX r.D)) r.o=some r.d0:=by
  cases hsh:fY r.o with
  |false=>
   cases hvs:isVs r with
   |false=>
    have hview:view (bw rs j st).mem r.D=(bJ L rs (find st.mem)).on (cX r.D):=by
     funext id
     unfold view MF.on
     cases hid:cX r.D id with
     |false=>rfl
     |true=>simp only[cond_true];exact(h.pY hr hL bI eJ hid hsh hvs).symm
    exact hview▸hd
   |true=>
    have hall:∀id,nvR ((bJ L rs (find st.mem)).on (cX r.D) id) (view (bw rs j st).mem r.D id):=by
     intro id
     unfold view MF.on
     cases hid:cX r.D id with
     |false=>exact .inl rfl
     |true=>simp only[cond_true];exact h.memVar hr hvs hL bI eJ hid
    unfold isVs at hvs
    unfold doS at hd ⊢
    split at hd
    ·rename_i ho;rw[ho] at hvs;cases hvs
    ·cases ho:r.o.op with
     |move x=>
      unfold cY at hd ⊢
      rw[ho] at hd ⊢
      exact hd
     |nilCheck x=>
      unfold cY at hd ⊢
      rw[ho] at hd ⊢
      rw[ho] at hvs
      cases ha:r.d0.av with
      |aZ i s p=>exact nilCheck_vs hall hd ha
      |_=>rw[ha] at hvs;cases hvs
     |fieldAddr T x f=>
      unfold cY at hd ⊢
      rw[ho] at hd ⊢
      rw[ho] at hvs
      cases ha:r.d0.av with
      |aZ i s p=>exact fieldAddr_vs hall hd ha
      |_=>rw[ha] at hvs;cases hvs
     |_=>rw[ho] at hvs;cases hvs
  |true=>
   have hall:∀id,cI (view (bw rs j st).mem r.D id)=cI ((bJ L rs (find st.mem)).on (cX r.D) id):=by
    intro id
    unfold view MF.on
    cases hid:cX r.D id with
    |false=>rfl
    |true=>simp only[cond_true];exact(h.sK hr hsh hL bI eJ hid).1.symm
   unfold fY at hsh
   unfold doS at hd ⊢
   split at hd
   ·rename_i ho;rw[ho] at hsh;cases hsh
   ·cases ho:r.o.op with
    |indexAddr T x i=>
     unfold cY at hd ⊢
     rw[ho] at hd ⊢
     simp only at hd ⊢
     split at hd
     ·rename_i k hk
      exact vu (fun id _=>hall id) hd
     ·cases hd
    |_=>rw[ho] at hsh;cases hsh
 have hclo':kA (bJ L rs (find st.mem)) (cX r.D):=by
  intro id b t x hid hb hc
  cases hsh:fY r.o with
  |false=>
   cases hvs:isVs r with
   |false=>
    rw[h.pY hr hL bI eJ hid hsh hvs] at hb
    exact hclo id b t x hid hb hc
   |true=>
    rcases h.memVar hr hvs hL bI eJ hid with e|⟨e,_⟩
    ·rw[e] at hb
     exact hclo id b t x hid hb hc
    ·rw[hb] at e
     obtain⟨s,fz,c⟩:=b
     simp only at hc
     subst hc
     cases e
  |true=>
   obtain⟨k1,k2⟩:=h.sK hr hsh hL bI eJ hid
   have hv:∃s fz a,find (bw rs j st).mem id=some ⟨s,fz,.var t a⟩:=by
    rw[hb] at k1
    obtain⟨s,fz,c⟩:=b
    simp only at hc
    subst hc
    unfold cI at k1
    cases hm:find (bw rs j st).mem id with
    |none=>rw[hm] at k1;cases k1
    |some b'=>
     rw[hm] at k1
     obtain⟨s',fz',c'⟩:=b'
     simp only[Option.map_some,Option.some.injEq,Prod.mk.injEq] at k1
     obtain⟨_,e2⟩:=k1
     cases c'<;>simp[BC.kind] at e2
     subst e2
     exact⟨_,_,_,rfl⟩
   obtain⟨s,fz,a,hv⟩:=hv
   rw[k2 s fz t a hv] at hb
   exact hclo id b t x hid hb hc
 have hwant:Region.wanted r.o (yielded ops.toArray a.tmps)=true↔dH a.tmps r.T:=by
  unfold guardOf at hg
  unfold Region.wanted
  cases hgd:r.o.guard with
  |none=>
   rw[hgd] at hg
   simp only[Option.some.injEq] at hg
   rw[←hg]
   simp[dH]
  |some gw=>
   obtain⟨g,b⟩:=gw
   rw[hgd] at hg
   simp only[Option.map_eq_some_iff] at hg
   obtain⟨s,hs,hT⟩:=hg
   have pL:=sH hgd hs
   have hs':(ops.toArray[g]?).bind (·.dst)=some s:=by rw[gL] at hs;simpa using hs
   have hin:(s,b)∈r.T:=by
    rw[←hT];unfold jO;split<;>simp
   simp only[beq_iff_eq]
   rw[xF hs']
   constructor
   ·intro hv t ht
    rw[←hT] at ht
    unfold jO at ht
    split at ht
    ·rename_i A e hf
     rcases List.mem_cons.1 ht with e1|ht
     ·subst e1;exact hv
     ·have h1:=rQ s pL _ hf
      by_cases hA:dH a.tmps A
      ·exact hA t ht
      ·have:=h1.2 hA
       rw[hv] at this
       exact absurd this.symm (tW _)
    ·rcases List.mem_cons.1 ht with e1|ht
     ·subst e1;exact hv
     ·simp at ht
   ·intro hT';exact hT' _ hin
 unfold wpOp
 simp only[List.getElem?_toArray,hop]
 by_cases hw:dH a.tmps r.T
 ·rw[if_pos (hwant.2 hw)]
  refine .inl ?_
  have hdok:∀b∈r.d0.ok,b=true:=by
   intro b hb
   unfold okT at hok
   split at hok
   ·exact hok b hb
   ·rw[tM hw pO] at hok
    exact wq hok b hb
  have hgives:aA P F r.o a w (bJ L rs (find st.mem)) I ρ r.d0:=by
   refine doS_ok (p:=cX r.D) hC hF hi.mem hclo' hup0 (fun s hs=>rQ s (vR hs)) hw ?_ eY hdok
   intro x hx id hid
   rw[hD]
   exact vr (vV (x:=fj C (bw rs j st).env r.T x) (by rw[gJ];exact List.mem_map.2 ⟨x,Array.mem_toList_iff.2 hx,rfl⟩) hid)
  refine hgives _ _ fun v w' I' ρ0 hdn0 hs0=>?_
  have hmrg:∃ρ',aC F (bJ L rs (find st.mem)) (MF.aj (bJ L rs (find st.mem)) r.d.aj) w w' I I' ρ ρ'∧au w' I' (MF.aj (bJ L rs (find st.mem)) r.d.aj) ρ' r.d.av v:=by
   rw[bh]
   rcases hmg with⟨e,_⟩|⟨_,hU⟩
   ·rw[e];exact⟨ρ0,hdn0,hs0⟩
   ·have gG:gP (bw rs j st).env r.T=true:=tM hw pO
    rw[gG] at hU
    obtain⟨hid,hnd⟩:=mj hU
    obtain⟨ρ',iF⟩:=p7 hU hdn0.mem fun x hx=>⟨fun e=>(by cases e),fun _=>(by simp[MF.aj,pF hnd hx])⟩
    have hup2:MF.aj (MF.aj (bJ L rs (find st.mem)) r.d0.aj) r.d.aj=MF.aj (bJ L rs (find st.mem)) r.d.aj:=by
     funext id
     simp only[MF.aj]
     cases hf:find r.d.aj id with
     |some b=>rfl
     |none=>
      have:find r.d0.aj id=none:=by
       cases hf0:find r.d0.aj id with
       |none=>rfl
       |some b0=>
        have h1:id∈r.d.aj.map (·.1):=by rw[hid];exact List.mem_map.2 ⟨_,d_ hf0,rfl⟩
        obtain⟨y,hy,he⟩:=List.mem_map.1 h1
        have:=pF (l:=r.d.aj) (by rw[hid];exact hnd) hy
        rw[he,hf] at this
        cases this
      simp[this]
    rw[hup2] at iF
    exact⟨ρ',hdn0.trans iF,hs0.mono iF.agree iF.keep⟩
  obtain⟨ρ',hdn,hs⟩:=hmrg
  refine hK _ _ ⟨I',ρ',?_⟩
  have hmm:=h.mems hr hL bI
  rw[←hmm] at hdn hs
  refine⟨hdn.mem,?_,by rw[tq];exact hi.size,by rw[put_defers];exact hi.defers,hi.kept.mono hdn.keep⟩
  refine h.slots hr hL bI (tmps:=a.tmps) (fun t ht=>oc _ _ _ _ ht) (fun s av bh=>(hi.env s av bh).mono hdn.agree hdn.keep) ?_
  intro s hs'
  have hput:(a.put r.o.dst v).tmps.getD s Go.undef=v:=by
   rw[hs'];exact tj _ _ _ (by rw[hi.size];exact h.tmps r s (List.mem_of_getElem? hr) hs')
  rw[hput]
  have htag:dH (a.put r.o.dst v).tmps r.T:=by
   intro t ht
   obtain⟨k,f,hkj,hk,hf,_⟩:=h.tags j hr t ht
   rw[oc]
   ·exact hw t ht
   ·intro e
    have:=h.nB _ _ _ _ _ hk hr hf e
    omega
  unfold gV
  split
  ·split
   ·trivial
   ·rename_i hn
    exact o4 hs hn
  ·exact⟨fun _=>hs,fun hn=>absurd htag hn⟩
 ·rw[if_neg (fun h=>hw (hwant.1 h))]
  have hTne:r.T ≠ []:=by intro e;rw[e] at hw;exact hw (by simp[dH])
  have hmrg:∃ρ',aC F (bJ L rs (find st.mem)) (MF.aj (bJ L rs (find st.mem)) r.d.aj) w w I I ρ ρ':=by
   rcases hmg with⟨e,hTu⟩|⟨hkn,hU⟩
   ·have hu:r.d.aj = []:=by rw[e];exact hTu.resolve_left hTne
    rw[hu,MF.xA]
    exact⟨ρ,aC.refl hi.mem⟩
   ·have gG:gP (bw rs j st).env r.T=false:=by
     cases hb:gP (bw rs j st).env r.T with
     |false=>rfl
     |true=>exact absurd (se hkn pO hb) hw
    rw[gG] at hU
    exact p7 hU hi.mem fun x hx=>⟨fun _=>h.pY hr hL bI eJ (hup0 x hx) (by
     cases hs:fY r.o with
     |false=>rfl
     |true=>rw[(h.oo hr hs).1] at hx;cases hx) (by
     cases hs:isVs r with
     |false=>rfl
     |true=>rw[(h.vs_upd hr hs).1] at hx;cases hx),fun e=>(by cases e)⟩
  obtain⟨ρ',hdn⟩:=hmrg
  refine hK _ _ ⟨I,ρ',?_⟩
  have hmm:=h.mems hr hL bI
  rw[←hmm] at hdn
  refine⟨hdn.mem,?_,by rw[tq];exact hi.size,by rw[put_defers];exact hi.defers,hi.kept.mono hdn.keep⟩
  refine h.slots hr hL bI (tmps:=a.tmps) (fun t ht=>oc _ _ _ _ ht) (fun s av bh=>(hi.env s av bh).mono hdn.agree hdn.keep) ?_
  intro s hs'
  have hput:(a.put r.o.dst Go.undef).tmps.getD s Go.undef=Go.undef:=by
   rw[hs'];exact tj _ _ _ (by rw[hi.size];exact h.tmps r s (List.mem_of_getElem? hr) hs')
  rw[hput]
  have htag:¬dH (a.put r.o.dst Go.undef).tmps r.T:=by
   intro hh
   refine hw fun t ht=>?_
   obtain⟨k,f,hkj,hk,hf,_⟩:=h.tags j hr t ht
   have:=hh t ht
   rw[oc] at this
   ·exact this
   ·intro e
    have:=h.nB _ _ _ _ _ hk hr hf e
    omega
  unfold gV
  split
  ·rename_i e;exact absurd e hTne
  ·exact⟨fun hh=>absurd hh htag,fun _=>rfl⟩
end
end Go.Ab
namespace Go.Ab
section
variable {P:Program} {F:Fix} {C:Cx} {o:Oper} {a:Act} {w w':World} {m:MF} {I I':Nat→Prop} {ρ:Pl} {d:aE}
variable {n:Nat} {K:dF} {ops:List Oper} {st st':St} {rs:List Rec} {ah:Nat→Nat→Prop} {L:Nat→Bool}
theorem qM:∀{l:List Bool},iy l=true↔∀b∈l,b=true
 | []=>by simp[iy]
 | [a]=>by simp[iy]
 |a::b::l=>by
  have ih:=qM (l:=b::l)
  show(a&&iy (b::l))=true↔_
  rw[Bool.and_eq_true,ih]
  simp
theorem fD.oks {ops:List Oper}:∀{st st':St} {rs:List Rec},fD C ops st rs st'→(∀b∈st'.ok,b=true)→(∀b∈st.ok,b=true)∧∀j r,rs[j]?=some r→∀b∈okT (bw rs j st).env r.T r.d.ok,b=true
 |_,_,_,.nil _,h=>⟨h,fun j r hr=>by simp at hr⟩
 |_,_,_,.cons (r:=r) h1 h2,h=>by
  obtain⟨e1,e2⟩:=h2.oks h
  refine⟨fun b hb=>e1 b (by unfold Rec.go;simp only;rw[bp];exact .inr hb),fun j r' hr=>?_⟩
  cases j with
  |zero=>
   simp only[List.getElem?_cons_zero,Option.some.injEq] at hr
   subst hr
   intro b hb
   exact e1 b (by unfold Rec.go;simp only;rw[bp];exact .inl hb)
  |succ j=>exact e2 j r' (by simpa using hr)
theorem qL:∀(l:List Oper) (acc:List Nat),∃t,dW l acc=acc++t
 | [],acc=>⟨[],by simp[dW]⟩
 |o::l,acc=>by
  obtain⟨t,ht⟩:=qL l (app acc [dI acc o.after.toList])
  refine⟨[dI acc o.after.toList]++t,?_⟩
  simp only[dW]
  rw[ht,bK]
  simp
theorem qK:∀(l:List Oper) (acc:List Nat) (k:Nat) (o:Oper),l[k]?=some o →
  ∃pre,pre.length=acc.length+k∧(∃t,dW l acc=pre++t)∧(dW l acc)[acc.length+k]?=some (dI pre o.after.toList)
 | [],acc,k,o,h=>by simp at h
 |x::l,acc,0,o,h=>by
  simp only[List.getElem?_cons_zero,Option.some.injEq] at h
  subst h
  obtain⟨t,ht⟩:=qL l (app acc [dI acc x.after.toList])
  refine⟨acc,rfl,⟨[dI acc x.after.toList]++t,?_⟩,?_⟩
  ·simp only[dW];rw[ht,bK];simp
  ·simp only[dW];rw[ht,bK];simp
 |x::l,acc,k+1,o,h=>by
  obtain⟨pre,h1,h2,h3⟩:=qK l (app acc [dI acc x.after.toList]) k o (by simpa using h)
  have hl:(app acc [dI acc x.after.toList]).length=acc.length+1:=by rw[bK];simp
  rw[hl] at h1 h3
  refine⟨pre,by omega,h2,?_⟩
  rw[show acc.length+(k+1)=acc.length+1+k by omega]
  exact h3
def iz (ops:List Oper)(i j:Nat):Prop:=Nat.testBit ((bP (dW ops []) j).getD 0) i=true
theorem qI {acc:List Nat}{i:Nat}:∀{es:List Edge},Nat.testBit (dI acc es) i=true→∃e∈es,Region.binds .any e=true∧(i=e.on∨Nat.testBit ((bP acc e.on).getD 0) i=true)
 | [],h=>by simp[dI] at h
 |e::es,h=>by
  have rest:Nat.testBit (dI acc es) i=true→∃x∈e::es,Region.binds .any x=true∧(i=x.on∨Nat.testBit ((bP acc x.on).getD 0) i=true):=fun h=>by
   obtain⟨x,h1,h2⟩:=qI h
   exact⟨x,by simp[h1],h2⟩
  simp only[dI] at h
  have main:Nat.testBit (Nat.lor (Nat.lor (2 ^ e.on) ((bP acc e.on).getD 0)) (dI acc es)) i=true→Region.binds .any e=true→∃x∈e::es,Region.binds .any x=true∧(i=x.on∨Nat.testBit ((bP acc x.on).getD 0) i=true):=by
   intro h hb
   change Nat.testBit ((2 ^ e.on ||| ((bP acc e.on).getD 0)) ||| (dI acc es)) i=true at h
   rw[Nat.testBit_or,Nat.testBit_or,Bool.or_eq_true,Bool.or_eq_true,Nat.testBit_two_pow] at h
   rcases h with(h|h)|h
   ·exact⟨e,by simp,hb,.inl (by simpa using(of_decide_eq_true h).symm)⟩
   ·exact⟨e,by simp,hb,.inr h⟩
   ·exact rest h
  split at h
  ·exact rest h
  ·exact rest h
  ·rename_i h1 h2
   refine main h ?_
   unfold Region.binds
   split<;>simp_all
theorem qJ {acc:List Nat}:∀{es:List Edge} {e:Edge},e∈es→Region.binds .any e=true→Nat.testBit (dI acc es) e.on=true
 |x::es,e,h,hb=>by
  simp only[dI]
  rcases List.mem_cons.1 h with he|h
  ·subst he
   unfold Region.binds at hb
   split
   ·simp_all
   ·simp_all
   ·change Nat.testBit ((2 ^ e.on ||| ((bP acc e.on).getD 0)) ||| (dI acc es)) e.on=true
    rw[Nat.testBit_or,Nat.testBit_or,Nat.testBit_two_pow]
    simp
  ·have:=qJ (acc:=acc) h hb
   split
   ·exact this
   ·exact this
   ·change Nat.testBit ((2 ^ x.on ||| ((bP acc x.on).getD 0)) ||| (dI acc es)) e.on=true
    rw[Nat.testBit_or,this]
    simp
def lu (ops:List Oper)(L:Nat→Bool)(j:Nat):Prop:=∀o,ops[j]?=some o→∀e∈o.after,Region.binds .any e=true→L e.on=true
theorem qW {j:Nat}{o:Oper}(ho:ops[j]?=some o):∃pre,pre.length=j∧(∃t,dW ops []=pre++t)∧(bP (dW ops []) j).getD 0=dI pre o.after.toList:=by
 obtain⟨pre,h1,h2,h3⟩:=qK ops [] j o ho
 refine⟨pre,by simpa using h1,h2,?_⟩
 rw[gL]
 simp only[List.length_nil,Nat.zero_add] at h3
 rw[h3]
 rfl
theorem oK:∀(l:List Oper) (acc:List Nat),(dW l acc).length=acc.length+l.length
 | [],acc=>by simp[dW]
 |o::l,acc=>by simp only[dW];rw[oK,bK];simp;omega
theorem qV (hL:∀j,L j=true→lu ops L j):∀(j:Nat) {i:Nat},iz ops i j→lu ops L j→L i=true:=by
 intro j
 induction j using Nat.strongRecOn with
 |_ j ih=>
 intro i h hj
 unfold iz at h
 cases ho:ops[j]? with
 |none=>
  have:bP (dW ops []) j=none:=by
   rw[gL]
   have h1:=oK ops []
   have h2:ops.length≤j:=by simpa using ho
   simp only[List.length_nil,Nat.zero_add] at h1
   exact List.getElem?_eq_none (by omega)
  rw[this] at h
  simp at h
 |some o=>
  obtain⟨pre,h1,⟨t,h2⟩,h3⟩:=qW ho
  rw[h3] at h
  obtain⟨e,he,hb,h4⟩:=qI h
  have hLe:=hj o ho e (Array.mem_toList_iff.1 he) hb
  rcases h4 with h4|h4
  ·rw[h4];exact hLe
  ·have hlt:e.on<j:=by
    rcases Nat.lt_or_ge e.on pre.length with hh|hh
    ·omega
    ·rw[gL,List.getElem?_eq_none hh] at h4
     simp at h4
   refine ih e.on hlt ?_ (hL _ hLe)
   unfold iz
   rw[h2,gL,List.getElem?_append_left (by omega),←gL]
   exact h4
theorem um (hL:∀j,L j=true→lu ops L j):ir (iz ops) L:=fun _ j h hj=>qV hL j h (hL j hj)
theorem pJ {bits:List Nat}{fs:List mW}:∀{n j:Nat},free bits fs n=true→j<n→Nat.ble ((bP bits j).getD 0+1) (2 ^ j)=true ∧
  cn (fun i=>Nat.testBit ((bP bits j).getD 0) i || (match bP fs i,bP fs j with | some f,some g=>gY f g|_,_=>false)) (upto j)=true
 |0,j,_,h=>by omega
 |n+1,j,h,hj=>by
  simp only[free,Bool.and_eq_true] at h
  by_cases e:j=n
  ·subst e;exact⟨h.1.2,h.2⟩
  ·exact pJ h.1.1 (by omega)
theorem sM:∀{n i:Nat},i<n→i∈upto n
 |0,i,h=>by omega
 |n+1,i,h=>by
  unfold upto
  rw[bp]
  by_cases e:i=n
  ·exact .inr (by simp[e])
  ·exact .inl (sM (by omega))
theorem rJ:∀{l:List Oper} {n i:Nat} {o:Oper} {g:Nat} {b:Bool},lO n l=true→l[i]?=some o→o.guard=some (g,b)→g<n+i
 | [],_,_,_,_,_,_,h,_=>by simp at h
 |x::l,n,0,o,g,b,hg,h,hh=>by
  simp only[List.getElem?_cons_zero,Option.some.injEq] at h
  subst h
  simp only[lO,hh,Bool.and_eq_true] at hg
  have:=Nat.le_of_ble_eq_true hg.1
  omega
 |x::l,n,i+1,o,g,b,hg,h,hh=>by
  simp only[lO,Bool.and_eq_true] at hg
  have:=rJ hg.2 (by simpa using h) hh
  omega
theorem rF {α β:Type}(f:α→Option β)(x:α)(l:List α):c_ f (x::l)=match f x with | some y=>y::c_ f l|none=>c_ f l:=rfl
theorem rz:∀{l:List Oper},(c_ (fun o=>o.dst) l).Nodup→∀{i j:Nat} {x y:Oper} {s:Nat},l[i]?=some x→l[j]?=some y→x.dst=some s→y.dst=some s→i=j
 | [],_,_,_,_,_,_,h,_,_,_=>by simp at h
 |z::l,hnd,i,j,x,y,s,hx,hy,hsx,hsy=>by
  have cF:(c_ (fun o=>o.dst) l).Nodup:=by
   rw[rF] at hnd
   split at hnd
   ·exact(List.nodup_cons.1 hnd).2
   ·exact hnd
  have head:∀{k:Nat} {u:Oper},z.dst=some s→l[k]?=some u→u.dst=some s→False:=by
   intro k u hz hu hs
   rw[rF,hz] at hnd
   exact(List.nodup_cons.1 hnd).1 (pZ.2 ⟨u,List.mem_of_getElem? hu,hs⟩)
  cases i with
  |zero=>
   simp only[List.getElem?_cons_zero,Option.some.injEq] at hx
   subst hx
   cases j with
   |zero=>rfl
   |succ j=>exact(head hsx (by simpa using hy) hsy).elim
  |succ i=>
   cases j with
   |zero=>
    simp only[List.getElem?_cons_zero,Option.some.injEq] at hy
    subst hy
    exact(head hsy (by simpa using hx) hsx).elim
   |succ j=>
    have hx':l[i]?=some x:=by simpa using hx
    have hy':l[j]?=some y:=by simpa using hy
    rw[rz cF hx' hy' hsx hsy]
theorem bN.of (hok:mA n ops=true)(hr:fD C ops st rs st')(ho:rs.map (·.o)=ops)(he:∀s A b,find st.env s≠some (.bC A b))(hlt:∀i j,ah i j→i<j)
  (hsep:∀(i j:Nat) (f g:Rec),i<j→rs[i]?=some f→rs[j]?=some g→ah i j∨gY (f.eI ops) (g.eI ops)=true):bN C n ops st st' rs ah:=by
 simp only[mA,Bool.and_eq_true,jI] at hok
 obtain⟨⟨h1,h2⟩,h3⟩:=hok
 have at_:∀{i:Nat} {r:Rec},rs[i]?=some r→ops[i]?=some r.o:=fun {i r} h=>by
  have:=congrArg (fun l=>l[i]?) ho
  simp only[List.getElem?_map,h,Option.map_some] at this
  exact this.symm
 refine⟨hr,ho,fun i j ri rj s hi hj hsi hsj=>rz h1 (at_ hi) (at_ hj) hsi hsj,fun i r g b hi hg=>by simpa using rJ h2 (at_ hi) hg,hlt,hsep,he,fun r s hr hs=>?_⟩
 have hm:r.o∈ops:=ho▸List.mem_map.2 ⟨r,hr,rfl⟩
 have:=eG h3 r.o hm
 rw[hs] at this
 have:=Nat.le_of_ble_eq_true this
 omega
end
end Go.Ab
namespace Go.Ab
section
variable {P:Program} {F:Fix} {C:Cx} {o:Oper} {a:Act} {w w':World} {m:MF} {I I':Nat→Prop} {ρ:Pl} {d:aE}
variable {n:Nat} {K:dF} {ops:List Oper} {st st':St} {rs:List Rec} {ah:Nat→Nat→Prop} {L:Nat→Bool}
structure mX (F:Fix) (n:Nat) (K:dF) (st:St) (a:Act) (w:World) (I:Nat→Prop) (ρ:Pl):Prop where
 mem:aD F (find st.mem) w I ρ
 env:∀s av,find st.env s=some av→au w I (find st.mem) ρ av (a.tmps.getD s Go.undef)
 size:a.tmps.size=n
 defers:a.defers = []
 kept:Kept K (find st.mem) ρ w
structure Inv (F:Fix) (n:Nat) (K:dF) (st:St) (a:Act) (w:World):Prop where
 any:∃I ρ,mX F n K st a w I ρ
 nw:∀s A b,find st.env s≠some (.bC A b)
theorem Inv.start (h:Inv F n K st a w)(rs:List Rec):ga F n K rs st (fun _=>false) a w:=by
 obtain⟨⟨I,ρ,h1⟩,hn⟩:=h
 refine⟨I,ρ,by rw[kU];exact h1.mem,fun s av bh=>?_,h1.size,h1.defers,by rw[kU];exact h1.kept⟩
 rw[lK] at bh
 rw[kU]
 exact o4 (h1.env s av bh) fun A b e=>hn s A b (e▸bh)
theorem ga.congr {L':Nat→Bool}(h:ga F n K rs st L a w)(hl:∀k,k<rs.length→L k=L' k):ga F n K rs st L' a w:=by
 obtain⟨I,ρ,h⟩:=h
 have hm:bJ L rs (find st.mem)=bJ L' rs (find st.mem):=by
  funext id
  exact jE (fun k r hk _=>hl k (List.getElem?_eq_some_iff.1 hk).1) rfl
 have he:cR L rs (find st.env)=cR L' rs (find st.env):=by
  funext s
  exact kI (fun k r hk _=>hl k (List.getElem?_eq_some_iff.1 hk).1) rfl
 exact⟨I,ρ,hm▸h.mem,fun s av bh=>hm▸h.env s av (he▸bh),h.size,h.defers,hm▸h.kept⟩
theorem Inv.drew (h:Inv F n K st a w):Inv F n K st a { w with drawn:=w.drawn+1 }:=by
 obtain⟨⟨I,ρ,h1⟩,hn⟩:=h
 have hd:=aC.drew h1.mem
 exact⟨⟨I,ρ,hd.mem,fun s av bh=>(h1.env s av bh).mono hd.agree hd.keep,h1.size,h1.defers,h1.kept.mono hd.keep⟩,hn⟩
theorem pE:∀(l:List (Nat×AT)) (s:Nat),find (iM l) s=(find l s).map fun a=>match a with | .bC _ _=>.any|a=>a
 | [],s=>rfl
 | (t,a)::l,s=>by
  have ih:=pE l s
  cases a<;>simp only[iM,aG]<;>by_cases h:t=s<;>simp[h,ih]
theorem ga.finish (h:ga F n K rs st (fun k=>decide (k<rs.length)) a w)(hr:fD C ops st rs st') :
  ∃I ρ,mX F n K st' a w I ρ:=by
 obtain⟨I,ρ,h⟩:=h
 have h1:=h.mem
 have h2:=h.env
 have h3:=h.kept
 rw[jF,hr.last] at h1 h2 h3
 rw[lJ,hr.last] at h2
 refine⟨I,ρ,h1,fun s av bh=>?_,h.size,h.defers,h3⟩
 have:=h2 s av bh
 cases av with
 |bC A b=>trivial
 |_=>exact this
theorem fD.iM:∀{st st':St} {rs:List Rec},fD C ops st rs st'→(∀r∈rs,r.T = [])→(∀s A b,find st.env s≠some (.bC A b))→∀s A b,find st'.env s≠some (.bC A b)
 |_,_,_,.nil _,_,h=>h
 |_,_,_,.cons (r:=r) h1 h2,hT,h=>by
  refine h2.iM (fun r hr=>hT r (by simp[hr])) fun s A b hf=>?_
  rw[rC] at hf
  unfold EF.put at hf
  have hTr:=hT r (by simp)
  cases hd:r.o.dst with
  |none=>rw[hd] at hf;exact h s A b hf
  |some t=>
   rw[hd] at hf
   simp only at hf
   split at hf
   ·rw[hTr,Option.some.injEq] at hf
    exact xC _ _ _ hf
   ·exact h s A b hf
theorem tv {draw:Bool}{r:St}(hd:mI C ops draw st=some r):∃st' rs,j_ C ops ops st=some (st',rs) ∧
  (r=if bF (fun o=>o.guard.isSome) ops=true then { st' with env:=iM st'.env } else st')∧(draw=true→free (dW ops []) (bf (Rec.eI ops) rs) ops.length=true):=by
 unfold mI at hd
 split at hd
 ·cases hd
 ·rename_i st' rs jh
  refine⟨st',rs,jh,?_⟩
  dsimp only at hd
  cases draw with
  |false=>
   simp only[cond_false,Option.some.injEq] at hd
   refine⟨?_,by simp⟩
   rw[←hd]
   cases bF (fun o=>o.guard.isSome) ops<;>rfl
  |true=>
   cases hf:free (dW ops []) (bf (Rec.eI ops) rs) ops.length with
   |false=>simp[hf] at hd
   |true=>
    simp only[cond_true,hf,Option.some.injEq] at hd
    refine⟨?_,fun _=>rfl⟩
    rw[←hd]
    cases bF (fun o=>o.guard.isSome) ops<;>rfl
theorem tA {r:St}(hinv:Inv F n K st a w){a':Act}{w':World}(jh:j_ C ops ops st=some (st',rs))(hr:r=if bF (fun o=>o.guard.isSome) ops=true then { st' with env:=iM st'.env } else st')
  (h:ga F n K rs st (fun k=>decide (k<rs.length)) a' w'):Inv F n K r a' w':=by
 obtain⟨hrun,hmap⟩:=n8 jh
 obtain⟨I,ρ,h1⟩:=h.finish hrun
 cases hg:bF (fun o=>o.guard.isSome) ops with
 |true=>
  rw[hg,if_pos rfl] at hr
  subst hr
  refine⟨⟨I,ρ,h1.mem,fun s av bh=>?_,h1.size,h1.defers,h1.kept⟩,fun s A b hf=>?_⟩
  ·simp only[pE,Option.map_eq_some_iff] at bh
   obtain⟨b,hb,e⟩:=bh
   have:=h1.env s b hb
   subst e
   cases b<;>first|exact this|trivial
  ·simp only[pE,Option.map_eq_some_iff] at hf
   obtain⟨b',hb,e⟩:=hf
   cases b'<;>simp at e
 |false=>
  rw[hg,if_neg (by simp)] at hr
  subst hr
  refine⟨⟨I,ρ,h1⟩,hrun.iM (fun x hx=>?_) hinv.nw⟩
  obtain⟨k,hk⟩:=List.getElem?_of_mem hx
  have h2:=hrun.at hk
  have hxo:x.o∈ops:=hmap▸List.mem_map.2 ⟨x,hx,rfl⟩
  have hng:x.o.guard=none:=by
   cases hgg:x.o.guard with
   |none=>rfl
   |some g=>
    have:=nh (p:=fun o:Oper=>o.guard.isSome) hxo (by simp[hgg])
    rw[hg] at this
    cases this
  unfold kg guardOf at h2
  rw[hng] at h2
  simp only at h2
  split at h2
  ·cases h2
  ·obtain⟨_,h2⟩:=aQ h2
   split at h2
   ·simp only[Option.some.injEq] at h2;rw[←h2]
   ·cases h2
theorem xD (k:Nat):fM (fun i=>decide (i<k)) k=fun i=>decide (i<k+1):=by
 funext i
 unfold fM
 by_cases h:i<k
 ·have:i<k+1:=by omega
  simp[h,this]
 ·by_cases e:i=k
  ·subst e;simp
  ·have:¬i<k+1:=by omega
   simp[h,e,this]
theorem wI {r:St}(hC:bH P C)(hF:dD P F.G C){ops:Array Oper}{id:Nat}(hok:mA n ops.toList=true)(hd:mI C ops.toList false st=some r)(hro:∀b∈r.ok,b=true)(hinv:Inv F n K st a w)
  {Q:Exit→Act→World→Prop} (hQ:∀a' w',Inv F n K r a' w'→Q .normal a' w'):(Code.region id ops false).wp P Q a w:=by
 obtain⟨st',rs,jh,hr,_⟩:=tv hd
 obtain⟨hrun,hmap⟩:=n8 jh
 have hlen:rs.length=ops.size:=by have:=congrArg List.length hmap;simpa using this
 have lT:bN C n ops.toList st st' rs (fun i j=>i<j):=bN.of hok hrun hmap hinv.nw (fun _ _ h=>h) (fun i j f g h _ _=>.inl h)
 have hst:∀b∈st'.ok,b=true:=by
  intro b hb
  refine hro b ?_
  rw[hr]
  split<;>exact hb
 obtain⟨_,lS⟩:=hrun.oks hst
 refine wp_region ?_
 have main:∀(d k:Nat) (a:Act) (w:World),k+d=ops.size→ga F n K rs st (fun i=>decide (i<k)) a w→wpOps P ops Q (List.range' k d) a w:=by
  intro d
  induction d with
  |zero=>
   intro k a w hk h
   simp only[List.range'_zero,wpOps]
   have:k=rs.length:=by omega
   subst this
   exact hQ _ _ (tA hinv jh hr h)
  |succ d ih=>
   intro k a w hk h
   rw[List.range'_succ,wpOps_cons]
   have jf:k<rs.length:=by omega
   have hrk:rs[k]?=some rs[k]:=by simp[jf]
   have:=lT.step hC hF hrk (L:=fun i=>decide (i<k)) (by simp) (by intro i j hij hj;simp at hj ⊢;omega) (by intro i hi;simpa using hi) (lS k _ hrk) (Q:=Q) (Kt:=wpOps P ops Q (List.range' (k+1) d)) h
    (fun a' w' h'=>ih (k+1) a' w' (by omega) (by rw[xD] at h';exact h'))
   simpa using this
 have:=main ops.size 0 a w (by omega) ((hinv.start rs).congr (fun k _=>by simp))
 rwa[List.range_eq_range']
end
end Go.Ab
namespace Go.Ab
section
variable {P:Program} {F:Fix} {C:Cx} {o:Oper} {a:Act} {w w':World} {m:MF} {I I':Nat→Prop} {ρ:Pl} {d:aE}
variable {n:Nat} {K:dF} {ops:List Oper} {st st':St} {rs:List Rec} {ah:Nat→Nat→Prop} {L:Nat→Bool}
def gS:List Bool→Nat
 | []=>0
 |b::l=>(if b then 0 else 1)+gS l
theorem tZ:∀{l:List Bool} {i:Nat},l[i]?=some false→gS (l.set i true)+1=gS l
 | [],i,h=>by simp at h
 |b::l,0,h=>by simp only[List.getElem?_cons_zero,Option.some.injEq] at h;subst h;simp[gS];omega
 |b::l,i+1,h=>by
  have:=tZ (l:=l) (i:=i) (by simpa using h)
  simp only[List.set_cons_succ,gS]
  omega
theorem tY:∀n:Nat,gS (List.replicate n false)=n
 |0=>rfl
 |n+1=>by simp[List.replicate_succ,gS,tY n];omega
theorem tX:∀{l:List Bool} {k:Nat},l[k]?=some false→0<gS l
 | [],k,h=>by simp at h
 |b::l,0,h=>by simp only[List.getElem?_cons_zero,Option.some.injEq] at h;subst h;simp[gS];omega
 |b::l,k+1,h=>by
  have:=tX (l:=l) (k:=k) (by simpa using h)
  simp only[gS]
  omega
theorem rG {listed:Array Bool}{k:Nat}(h:k<listed.size):listed.getD k true=listed.getD k false:=by simp[h]
theorem wG {ops:Array Oper}{listed:Array Bool}(hs:listed.size=ops.size)(g_:∀j o,ops[j]?=some o→∀e∈o.after,Region.binds .any e=true→e.on<j) :
  ∀(j:Nat),j<ops.size→listed.getD j false=false→Region.ready .any ops listed ≠ []:=by
 intro j
 induction j using Nat.strongRecOn with
 |_ j ih=>
 intro hj hl hr
 by_cases hex:∃k,k<j∧listed.getD k false=false
 ·obtain⟨k,hk,jf⟩:=hex
  exact ih k hk (by omega) jf hr
 ·have hmem:j∈Region.ready .any ops listed:=by
   rw[mem_ready]
   refine⟨by rw[rG (by omega)];exact hl,ops[j],by simp[hj],fun e he hb=>?_⟩
   have:=g_ j ops[j] (by simp[hj]) e he hb
   cases hv:listed.getD e.on false with
   |true=>rfl
   |false=>exact absurd ⟨e.on,this,hv⟩ hex
  rw[hr] at hmem
  simp at hmem
theorem any_ok (hC:bH P C)(hF:dD P F.G C){ops:Array Oper}(lT:bN C n ops.toList st st' rs (iz ops.toList))(hlen:rs.length=ops.size)
  (lS:∀j r,rs[j]?=some r→∀b∈okT (bw rs j st).env r.T r.d.ok,b=true) (g_:∀j o,ops[j]?=some o→∀e∈o.after,Region.binds .any e=true→e.on<j)
  {Q:Exit→Act→World→Prop} (hQ:∀a' w',ga F n K rs st (fun k=>decide (k<rs.length)) a' w'→Q .normal a' w') :
  ∀(fuel:Nat) (listed:Array Bool) (a:Act) (w:World),listed.size=ops.size→gS listed.toList≤fuel→(∀j,listed.getD j false=true→lu ops.toList (fun k=>listed.getD k false) j) →
   ga F n K rs st (fun k=>listed.getD k false) a w→wpAny P .any ops Q fuel listed a w:=by
 have done:∀(listed:Array Bool) (a:Act) (w:World),listed.size=ops.size→ga F n K rs st (fun k=>listed.getD k false) a w→Region.ready .any ops listed = []→Q .normal a w:=by
  intro listed a w hs h hr
  refine hQ a w (h.congr fun k hk=>?_)
  have hk':k<ops.size:=by omega
  cases hv:listed.getD k false with
  |true=>simp[hk]
  |false=>exact absurd hr (wG hs g_ k hk' hv)
 intro fuel
 induction fuel with
 |zero=>
  intro listed a w hs hu _ h
  have hr:Region.ready .any ops listed = []:=by
   refine Classical.byContradiction fun hne=>?_
   obtain⟨j,hj⟩:=List.exists_mem_of_ne_nil _ hne
   obtain⟨h1,o,h2,_⟩:=mem_ready.1 hj
   have je:j<listed.size:=by rw[hs];exact(Array.getElem?_eq_some_iff.1 h2).1
   have:0<gS listed.toList:=tX (k:=j) (by simp[je] at h1 ⊢;exact h1)
   omega
  exact⟨hr,done listed a w hs h hr⟩
 |succ fuel ih=>
  intro listed a w hs hu hE h
  refine⟨done listed a w hs h,fun j hj=>?_⟩
  obtain⟨h1,o,h2,h3⟩:=mem_ready.1 hj
  have je:j<listed.size:=by rw[hs];exact(Array.getElem?_eq_some_iff.1 h2).1
  have hjf:listed.getD j false=false:=by rw[←rG je];exact h1
  have hjr:j<rs.length:=by omega
  have hrj:rs[j]?=some rs[j]:=by simp[hjr]
  have hlj:lu ops.toList (fun k=>listed.getD k false) j:=by
   intro o' ho' e he hb
   have:o'=o:=by have h4:ops[j]?=some o':=by simpa using ho'
                 rw[h2] at h4;cases h4;rfl
   subst this
   exact h3 e he hb
  have hstep:=lT.step hC hF hrj (L:=fun k=>listed.getD k false) hjf (um hE) (fun i hi=>qV hE j hi hlj) (lS j _ hrj) (Q:=Q)
   (Kt:=wpAny P .any ops Q fuel (listed.setIfInBounds j true)) h (fun a' w' h'=>?_)
  ·simpa using hstep
  ·have hset:∀k,(listed.setIfInBounds j true).getD k false=fM (fun k=>listed.getD k false) j k:=by
    intro k
    unfold fM
    by_cases e:k=j
    ·subst e;simp[je]
    ·simp[Array.getElem?_setIfInBounds_ne (Ne.symm e),e]
   refine ih _ a' w' (by simpa using hs) ?_ ?_ ?_
   ·have hset':(listed.setIfInBounds j true).toList=listed.toList.set j true:=by simp
    have:=tZ (l:=listed.toList) (i:=j) (by simp[je] at hjf ⊢;exact hjf)
    rw[hset']
    omega
   ·intro k hk o' ho' e he hb
    rw[hset] at hk
    show(listed.setIfInBounds j true).getD e.on false=true
    rw[hset]
    unfold fM at hk ⊢
    simp only[Bool.or_eq_true,decide_eq_true_eq] at hk ⊢
    rcases hk with hk|hk
    ·exact .inl (hE k hk o' ho' e he hb)
    ·subst hk
     exact .inl (hlj o' ho' e he hb)
   ·have:(fun k=>(listed.setIfInBounds j true).getD k false)=fM (fun k=>listed.getD k false) j:=funext hset
    rw[this];exact h'
theorem wH (hm:P.follows .mixedOrders=true){r:St}(hC:bH P C)(hF:dD P F.G C){ops:Array Oper}{id:Nat}(hok:mA n ops.toList=true)(hd:mI C ops.toList true st=some r)(hro:∀b∈r.ok,b=true)(hinv:Inv F n K st a w)
  {Q:Exit→Act→World→Prop} (hQ:∀a' w',Inv F n K r a' w'→Q .normal a' w'):(Code.region id ops true).wp P Q a w:=by
 obtain⟨st',rs,jh,hr,hfree⟩:=tv hd
 have hfree:=hfree rfl
 obtain⟨hrun,hmap⟩:=n8 jh
 have hlen:rs.length=ops.size:=by have:=congrArg List.length hmap;simpa using this
 have hbit:∀i j,iz ops.toList i j→i<j:=by
  intro i j h
  unfold iz at h
  by_cases hj:j<ops.toList.length
  ·have h1:=Nat.le_of_ble_eq_true (pJ hfree hj).1
   have h2:=Nat.ge_two_pow_of_testBit h
   exact(Nat.pow_lt_pow_iff_right (by omega:1<2)).1 (by omega)
  ·have:bP (dW ops.toList []) j=none:=by
    rw[gL]
    have h1:=oK ops.toList []
    simp only[List.length_nil,Nat.zero_add] at h1
    exact List.getElem?_eq_none (by omega)
   rw[this] at h
   simp at h
 have hsep:∀(i j:Nat) (f g:Rec),i<j→rs[i]?=some f→rs[j]?=some g→iz ops.toList i j∨gY (f.eI ops.toList) (g.eI ops.toList)=true:=by
  intro i j f g hij hf hg
  have hj:j<ops.toList.length:=by
   have:=(List.getElem?_eq_some_iff.1 hg).1
   simp;omega
  have h1:=eG (pJ hfree hj).2 i (sM hij)
  rw[Bool.or_eq_true] at h1
  rcases h1 with h1|h1
  ·exact .inl h1
  ·refine .inr ?_
   simp only[gL,gJ,List.getElem?_map,hf,hg,Option.map_some] at h1
   exact h1
 have lT:bN C n ops.toList st st' rs (iz ops.toList):=bN.of hok hrun hmap hinv.nw hbit hsep
 have hst:∀b∈st'.ok,b=true:=by
  intro b hb
  refine hro b ?_
  rw[hr]
  split<;>exact hb
 obtain⟨_,lS⟩:=hrun.oks hst
 have g_:∀j o,ops[j]?=some o→∀e∈o.after,Region.binds .any e=true→e.on<j:=by
  intro j o ho e he hb
  refine hbit e.on j ?_
  have ho':ops.toList[j]?=some o:=by simpa using ho
  obtain⟨pre,h1,h2,h3⟩:=qW ho'
  unfold iz
  rw[h3]
  exact qJ (Array.mem_toList_iff.2 he) hb
 refine wp_region_any hm ?_
 have hz:∀k,(Array.replicate ops.size false).getD k false=false:=by intro k;by_cases h:k<ops.size<;>simp[h]
 refine any_ok hC hF lT hlen lS g_ (fun a' w' h=>hQ a' w' (tA hinv jh hr h)) ops.size _ a _ (by simp) ?_ ?_ ?_
 ·simp[tY]
 ·intro j hj;rw[hz] at hj;cases hj
 ·exact(hinv.drew.start rs).congr fun k _=>(hz k).symm
end
end Go.Ab
namespace Go.Ab
section
variable {P:Program} {F:Fix} {C:Cx} {o:Oper} {a:Act} {w w':World} {m:MF} {I I':Nat→Prop} {ρ:Pl} {d:aE}
variable {n:Nat} {K:dF} {st st':St}
structure eU (l:List (Nat×ag)) (n e:Nat):Prop where
 le:n≤e
 all:∀x∈l,n≤x.1∧x.1<e∧∃t,x.2=⟨0,false,.rows t []⟩
 fnd:∀x∈l,find l x.1=some x.2
theorem eU.nil (n:Nat):eU [] n n:=⟨Nat.le_refl _,fun x h=>by simp at h,fun x h=>by simp at h⟩
theorem eU.app {l l':List (Nat×ag)}{n k e:Nat}(h:eU l n k)(h':eU l' k e):eU (app l l') n e:=by
 refine⟨Nat.le_trans h.le h'.le,fun x hx=>?_,fun x hx=>?_⟩
 ·rw[bp] at hx
  have:=h.le
  have:=h'.le
  rcases hx with hx|hx
  ·obtain⟨h1,h2,h3⟩:=h.all x hx;exact⟨h1,by omega,h3⟩
  ·obtain⟨h1,h2,h3⟩:=h'.all x hx;exact⟨by omega,h2,h3⟩
 ·rw[b9]
  rw[bp] at hx
  rcases hx with hx|hx
  ·rw[h.fnd x hx]
  ·cases hf:find l x.1 with
   |none=>exact h'.fnd x hx
   |some b=>
    have h1:=(h.all _ (d_ hf)).2.1
    have h2:=(h'.all x hx).1
    simp only at h1
    omega
def gD (l:List (Nat×ag))(m:MF)(ρ:Pl):Prop:=∀x∈l,m x.1=some x.2∧ρ x.1=none
theorem gD.left {l l':List (Nat×ag)}(h:gD (app l l') m ρ):gD l m ρ:=fun x hx=>h x (bp.2 (.inl hx))
theorem gD.right {l l':List (Nat×ag)}(h:gD (app l l') m ρ):gD l' m ρ:=fun x hx=>h x (bp.2 (.inr hx))
theorem sX:∀(a:AT) (n:Nat),eU (cG a n).2.1 n (cG a n).2.2:=by
 intro a
 induction a with
 |nil t=>intro n;exact⟨by simp[cG],fun x hx=>by simp only[cG,List.mem_singleton] at hx;subst hx;simp only[cG];exact⟨Nat.le_refl _,by omega,t,rfl⟩,fun x hx=>by simp only[cG,List.mem_singleton] at hx;subst hx;simp[cG,aG]⟩
 |pair l r ihl ihr=>intro n;exact(ihl n).app (ihr _)
 |bB l r ihl ihr=>intro n;exact(ihl n).app (ihr _)
 |fn f c ih=>intro n;exact ih n
 |_=>intro n;exact eU.nil n
theorem p_:∀{x:AT} {n:Nat} {vs:List Value},gD (cG x n).2.1 m ρ→af w I m ρ x vs→af w I m ρ (cG x n).1 vs:=by
 intro x
 induction x with
 |nil t=>
  intro n vs ht h
  simp only[af] at h
  subst h
  obtain⟨h1,h2⟩:=ht (n,⟨0,false,.rows t []⟩) (by simp[cG])
  simp only[cG,af]
  refine⟨⟨_,rfl,rfl⟩,⟨_,h1,Nat.le_refl _⟩,fun b hb _ u xs hc=>?_⟩
  simp only at h1 h2
  rw[h1] at hb
  cases hb
  cases hc
  exact⟨none,0,rfl,Nat.le_refl _,.inl ⟨rfl,rfl,h2⟩⟩
 |pair l r ihl ihr=>
  intro n vs ht h
  simp only[af] at h
  obtain⟨v1,v2,e,h1,h2⟩:=h
  exact⟨v1,v2,e,ihl ht.left h1,ihr ht.right h2⟩
 |bB l r ihl ihr=>
  intro n vs ht h
  simp only[af] at h
  obtain⟨v1,v2,e,h1,h2⟩:=h
  exact⟨v1,v2,e,ihl ht.left h1,ihr ht.right h2⟩
 |fn f c ih=>
  intro n vs ht h
  simp only[af] at h
  obtain⟨caps,e,h1⟩:=h
  exact⟨caps,e,ih ht h1⟩
 |_=>intro n vs _ h;exact h
theorem wg:∀{x:AT} {n:Nat} {t:Ty},Typed x t→Typed (cG x n).1 t:=by
 intro x
 induction x with
 |pair l r ihl ihr=>
  intro n t h
  simp only[Typed] at h
  obtain⟨a,b,e,h1,h2⟩:=h
  exact⟨a,b,e,ihl h1,ihr h2⟩
 |_=>intro n t h;exact h
theorem v7 (x:AT)(n:Nat):(cG x n).1.isAgg=x.isAgg:=by cases x<;>rfl
theorem nY {x:AT}{n:Nat}{v:Value}(ht:gD (cG x n).2.1 m ρ)(h:aB w I m ρ x v):aB w I m ρ (cG x n).1 v:=by
 unfold aB at h ⊢
 rw[v7]
 split
 ·rename_i hh
  rw[if_pos hh] at h
  obtain⟨arr,e,h1⟩:=h
  exact⟨arr,e,p_ ht h1⟩
 ·rename_i hh
  rw[if_neg hh] at h
  exact p_ ht h
theorem v_:∀{x:AT} {n:Nat} {vs:List Value},gD (cG x n).2.1 m ρ→cD w I m ρ x vs→cD w I m ρ (cG x n).1 vs:=by
 intro x
 induction x with
 |bB l r ihl ihr=>
  intro n vs ht h
  simp only[cD] at h
  obtain⟨v,vs',e,h1,h2⟩:=h
  exact⟨v,vs',e,nY ht.left h1,ihr ht.right h2⟩
 |b7=>intro n vs _ h;exact h
 |_=>intro n vs _ h;simp[cD] at h
theorem v8 {x:AT}{n:Nat}{v:Value}(ht:gD (cG x n).2.1 m ρ)(h:au w I m ρ x v):au w I m ρ (cG x n).1 v:=by
 cases x with
 |bB l r=>
  obtain⟨arr,e,h1⟩:=h
  exact⟨arr,e,v_ (x:=.bB l r) ht h1⟩
 |b7=>exact h
 |any=>trivial
 |bC _ _=>trivial
 |leaf t y=>exact h
 |nil t=>exact nY (x:=.nil t) ht h
 |pair l r=>exact nY (x:=.pair l r) ht h
 |fn f c=>exact nY (x:=.fn f c) ht h
 |_=>exact h
theorem sR:∀(l:List (Nat×AT)) (n:Nat),eU (gr l n).2.1 n (gr l n).2.2
 | [],n=>eU.nil n
 | (_s,x)::l,n=>(sX x n).app (sR l _)
theorem sQ:∀{l:List (Nat×AT)} {n s:Nat} {x':AT},find (gr l n).1 s=some x'→∃x k,find l s=some x∧x'=(cG x k).1∧∀y∈(cG x k).2.1,y∈(gr l n).2.1
 | [],n,s,x',h=>by simp[gr,find] at h
 | (t,x)::l,n,s,x',h=>by
  simp only[gr,aG] at h
  by_cases e:t=s
  ·rw[if_pos e] at h
   cases h
   exact⟨x,n,by simp[aG,e],rfl,fun y hy=>bp.2 (.inl hy)⟩
  ·rw[if_neg e] at h
   obtain⟨z,k,h1,h2,h3⟩:=sQ h
   exact⟨z,k,by simp[aG,e,h1],h2,fun y hy=>bp.2 (.inr (h3 y hy))⟩
theorem vY (b:ag)(n:Nat):eU (ek b n).2.1 n (ek b n).2.2:=by
 obtain⟨st,fz,c⟩:=b
 cases c with
 |var t x=>exact sX x n
 |_=>exact eU.nil n
theorem sV:∀(l:Mem) (n:Nat),eU (gu l n).2.1 n (gu l n).2.2
 | [],n=>eU.nil n
 | (_s,x)::l,n=>(vY x n).app (sV l _)
theorem sU:∀{l:Mem} {n s:Nat} {x':ag},find (gu l n).1 s=some x'→∃x k,find l s=some x∧x'=(ek x k).1∧∀y∈(ek x k).2.1,y∈(gu l n).2.1
 | [],n,s,x',h=>by simp[gu,find] at h
 | (t,x)::l,n,s,x',h=>by
  simp only[gu,aG] at h
  by_cases e:t=s
  ·rw[if_pos e] at h
   cases h
   exact⟨x,n,by simp[aG,e],rfl,fun y hy=>bp.2 (.inl hy)⟩
  ·rw[if_neg e] at h
   obtain⟨z,k,h1,h2,h3⟩:=sU h
   exact⟨z,k,by simp[aG,e,h1],h2,fun y hy=>bp.2 (.inr (h3 y hy))⟩
theorem sW:∀{l:Mem} {n s:Nat} {x:ag},find l s=some x→∃x',find (gu l n).1 s=some x'
 | [],n,s,x',h=>by simp[find] at h
 | (t,x)::l,n,s,x',h=>by
  simp only[gu,aG] at h ⊢
  by_cases e:t=s
  ·simp[e]
  ·rw[if_neg e] at h ⊢
   exact sW h
theorem pH:∀(l:Mem) (seen:List Nat) (i:Nat),find (uniq l seen) i=if i∈seen then none else find l i
 | [],seen,i=>by simp[uniq,find]
 | (j,b)::l,seen,i=>by
  simp only[uniq]
  by_cases hj:j∈seen
  ·rw[jw.2 hj]
   simp only[cond_true,pH l seen i,aG]
   by_cases hi:i∈seen
   ·simp[hi]
   ·have:j≠i:=fun e=>hi (e▸hj)
    simp[hi,this]
  ·have:bF (Nat.beq j) seen=false:=by
    cases h:bF (Nat.beq j) seen with
    |false=>rfl
    |true=>exact absurd (jw.1 h) hj
   rw[this]
   simp only[cond_false,aG,pH l (j::seen) i,List.mem_cons]
   by_cases e:j=i
   ·subst e;simp[hj]
   ·have:¬i=j:=fun h=>e h.symm
    simp[e,this]
theorem pq:∀{l:List Nat} {env:List (Nat×AT)} {s:Nat} {x:AT},find (h_ env l) s=some x→find env s=some x
 | [],env,s,x,h=>by simp[h_,find] at h
 |t::l,env,s,x,h=>by
  simp only[h_] at h
  split at h
  ·rename_i y hy
   rw[aG] at h
   split at h
   ·rename_i e;subst e;rw[hy];exact h
   ·exact pq h
  ·exact pq h
theorem sP (b:ag)(n:Nat):(ek b n).1.st=b.st∧(ek b n).1.fz=b.fz∧bt b.c (ek b n).1.c:=by
 obtain⟨st,fz,c⟩:=b
 cases c with
 |var t x=>exact⟨rfl,rfl,rfl⟩
 |rows t xs=>exact⟨rfl,rfl,rfl,rfl⟩
 |deep rs t xs=>exact⟨rfl,rfl,bt.refl _⟩
 |dead=>exact⟨rfl,rfl,trivial⟩
theorem vZ {id:Nat}{b:ag}{k:Nat}(ht:gD (ek b k).2.1 m ρ)(h:aS w I m ρ id b):aS w I m ρ id (ek b k).1:=by
 obtain⟨st,fz,c⟩:=b
 cases c with
 |var t x=>
  obtain⟨h1,B,cs,h2,h3,h4,h5⟩:=h
  exact⟨wg h1,B,cs,h2,h3,p_ (x:=x) (n:=k) ht h4,h5⟩
 |rows t xs=>exact h
 |deep rs t xs=>exact h
 |dead=>exact h
theorem vX {b:ag}{k:Nat}(h:(ek b k).1.bq):(ek b k).1=b:=by
 obtain⟨st,fz,c⟩:=b
 cases c with
 |var t x=>simp[ek,ag.bq] at h
 |rows t xs=>rfl
 |deep rs t xs=>rfl
 |dead=>rfl
theorem wA {keep:List Nat}(hb:cn (fun x=>Nat.ble (x.1+1) dy) st.mem=true)(h:Inv F n K st a w) :
  ∃I ρ,mX F n K (qe keep st) a w I ρ:=by
 obtain⟨⟨I,ρ,hi⟩,hn⟩:=h
 have hA:qe keep st=⟨(gr (h_ st.env keep) dy).1,app (gu (uniq st.mem []) (gr (h_ st.env keep) dy).2.2).1 (app (gr (h_ st.env keep) dy).2.1 (gu (uniq st.mem []) (gr (h_ st.env keep) dy).2.2).2.1),st.ok⟩:=rfl
 rw[hA]
 generalize hE:gr (h_ st.env keep) dy=E
 generalize hM:gu (uniq st.mem []) E.2.2=M
 have hfe:eU E.2.1 dy E.2.2:=hE▸sR _ _
 have hfm:eU M.2.1 E.2.2 M.2.2:=hM▸sV _ _
 have hfr:=hfe.app hfm
 have hlt:∀id b,find st.mem id=some b→id<dy:=fun id b hb'=>by
  have:=eG hb _ (d_ hb')
  have:=Nat.le_of_ble_eq_true this
  omega
 have huniq:∀i,find (uniq st.mem []) i=find st.mem i:=fun i=>by rw[pH];simp
 have hold:∀id b',find M.1 id=some b'→∃b k,find st.mem id=some b∧b'=(ek b k).1∧∀y∈(ek b k).2.1,y∈M.2.1:=by
  intro id b' hf
  rw[←hM] at hf
  obtain⟨b,k,h1,h2,h3⟩:=sU hf
  rw[huniq] at h1
  exact⟨b,k,h1,h2,hM▸h3⟩
 let m1:MF:=find (app M.1 (app E.2.1 M.2.1))
 let jv:Pl:=⟨fun i=>if i<dy then ρ i else none,fun i=>if i<dy then ρ.d i else []⟩
 have hfind:∀id b',m1 id=some b'→(∃b k,find st.mem id=some b∧b'=(ek b k).1∧∀y∈(ek b k).2.1,y∈M.2.1)∨(dy≤id∧∃t,b'=⟨0,false,.rows t []⟩):=by
  intro id b' hf
  change find (app M.1 (app E.2.1 M.2.1)) id=some b' at hf
  rw[b9] at hf
  split at hf
  ·rename_i b hb'
   cases hf
   exact .inl (hold id _ hb')
  ·obtain⟨h1,_,h3⟩:=hfr.all _ (d_ hf)
   exact .inr ⟨h1,h3⟩
 have hold1:∀id b,find st.mem id=some b→∃k,m1 id=some (ek b k).1:=by
  intro id b hb'
  obtain⟨b',bZ⟩:=sW (l:=uniq st.mem []) (n:=E.2.2) (by rw[huniq];exact hb')
  rw[hM] at bZ
  obtain⟨b0,k,h1,h2,h3⟩:=hold id b' bZ
  rw[hb'] at h1
  cases h1
  refine⟨k,?_⟩
  show find (app M.1 (app E.2.1 M.2.1)) id=_
  rw[b9,bZ,h2]
 have rT:gD (app E.2.1 M.2.1) m1 jv:=by
  intro x hx
  obtain⟨h1,_,_⟩:=hfr.all x hx
  refine⟨?_,by show(if x.1<dy then ρ x.1 else none)=none;rw[if_neg (by omega)]⟩
  show find (app M.1 (app E.2.1 M.2.1)) x.1=_
  rw[b9]
  cases hf:find M.1 x.1 with
  |none=>exact hfr.fnd x hx
  |some b=>
   obtain⟨b0,k,h2,_⟩:=hold _ _ hf
   have:=hlt _ _ h2
   omega
 have hkeep:cC (find st.mem) m1 ρ jv w w:=by
  refine⟨fun id b hb'=>?_,fun _ _ _ _ _ _ _ _ _ _ _ _ _ _ _ _=>rfl⟩
  obtain⟨k,hk⟩:=hold1 id b hb'
  obtain⟨e1,e2,e3⟩:=sP b k
  exact⟨_,hk,.inr ⟨e1.symm,e3,by show(if id<dy then ρ id else none)=_;rw[if_pos (hlt id b hb')],fun _ _ _ _ cs hc=>⟨cs,hc,Nat.le_refl _⟩⟩⟩
 have hag:=bD.refl I w
 have hρ:∀id B o,jv id=some (B,o)→ρ id=some (B,o):=by
  intro id B o h
  change (if id<dy then ρ id else none)=_ at h
  split at h
  ·exact h
  ·cases h
 have cL:∀{id:Nat} {b':ag},m1 id=some b'→b'.live→∀{B o},jv id=some (B,o)→∃b,find st.mem id=some b∧b.live:=by
  intro id b' hb' hl B o hr
  rcases hfind id b' hb' with⟨b,k,h1,h2,_⟩|⟨h1,_⟩
  ·refine⟨b,h1,?_⟩
   obtain⟨_,_,e3⟩:=sP b k
   rw[h2] at hl
   unfold ag.live at hl ⊢
   revert e3 hl
   cases b.c<;>cases (ek b k).1.c<;>simp[bt]
  ·change (if id<dy then ρ id else none)=_ at hr
   rw[if_neg (by omega)] at hr
   cases hr
 refine⟨I,jv,⟨?_,?_,hi.size,hi.defers,hi.kept.mono hkeep⟩⟩
 ·refine⟨fun id b' hb'=>?_,fun id id' b b' B o o' h1 h2 h3 h4 h5 h6=>?_,hi.mem.aV,hi.mem.fX,hi.mem.fI,fun id b B o h1 h2 h3=>?_,fun id b hb' bL=>?_,hi.mem.frame,hi.mem.size,hi.mem.os,hi.mem.tape,hi.mem.output,hi.mem.ez⟩
  ·rcases hfind id b' hb' with⟨b,k,h1,h2,h3⟩|⟨h1,t,h2⟩
   ·subst h2
    refine vZ (m:=m1) (ρ:=jv) (fun y hy=>rT y (bp.2 (.inr (h3 y hy)))) ?_
    refine(hi.mem.blk id b h1).mono hag hkeep ?_ ?_ (fun _ _ _ _=>⟨rfl,fun h=>h⟩) (fun _ _ _=>⟨rfl,fun h=>h⟩)
    ·show(if id<dy then ρ id else none)=_
     rw[if_pos (hlt id b h1)]
    ·show(if id<dy then ρ.d id else [])=_
     rw[if_pos (hlt id b h1)]
   ·subst h2
    refine⟨trivial,.inl ⟨rfl,?_⟩⟩
    show(if id<dy then ρ id else none)=none
    rw[if_neg (by omega)]
  ·obtain⟨c,eK,fU⟩:=cL h1 h3 h5
   obtain⟨c',jY,jZ⟩:=cL h2 h4 h6
   exact hi.mem.inj id id' c c' B o o' eK jY fU jZ (hρ _ _ _ h5) (hρ _ _ _ h6)
  ·obtain⟨c,eK,fU⟩:=cL h1 h2 h3
   exact hi.mem.mine id c B o eK fU (hρ _ _ _ h3)
  ·have g_:∀{i:Nat} {c:ag},m1 i=some c→c.bq→find st.mem i=some c∧jv.d i=ρ.d i:=by
    intro i c hc hd
    rcases hfind i c hc with⟨b0,k,h1,h2,_⟩|⟨_,t,h2⟩
    ·rw[h2] at hd
     have:=vX hd
     rw[h2,this]
     refine⟨h1,?_⟩
     show(if i<dy then ρ.d i else [])=_
     rw[if_pos (hlt i b0 h1)]
    ·rw[h2] at hd;simp[ag.bq] at hd
   obtain⟨h1,h2⟩:=g_ hb' bL
   obtain⟨q1,q2⟩:=hi.mem.dp id b h1 bL
   rw[h2]
   refine⟨q1,fun B hB=>⟨(q2 B hB).1,fun id' b' o g1 g2 g3=>?_,fun id' b' g1 g2 g3=>?_⟩⟩
   ·obtain⟨c,eK,fU⟩:=cL g1 g2 g3
    exact(q2 B hB).2.1 id' c o eK fU (hρ _ _ _ g3)
   ·obtain⟨k1,k2⟩:=g_ g1 g2
    rw[k2] at g3
    exact(q2 B hB).2.2 id' b' k1 g2 g3
 ·intro s av bh
  rw[←hE] at bh
  obtain⟨x,k,h1,h2,h3⟩:=sQ bh
  subst h2
  refine v8 (m:=m1) (ρ:=jv) (fun y hy=>rT y (bp.2 (.inl (hE▸h3 y hy)))) ?_
  exact(hi.env s x (pq h1)).mono hag hkeep
end
end Go.Ab
namespace Go.Ab
section
variable {P:Program} {F:Fix} {C:Cx} {o:Oper} {a:Act} {w w':World} {m m':MF} {I I':Nat→Prop} {ρ ρ':Pl} {d:aE}
variable {n:Nat} {K:dF} {st st':St} {μ:List (Nat×Nat)}
def lz:BC→BC→Prop
 |c,.rows u xs=>c = .rows u xs
 |c,.deep _ u xs=>∃r,c = .deep r u xs
 |c,.var t _=>∃x,c = .var t x
 |_,.dead=>True
theorem lz.arr {c c':BC}{x:Ty×Nat}(h:lz c c')(e:c'.arr=some x):c.arr=some x:=by
 cases c' with
 |rows u xs=>simp only[lz] at h;subst h;exact e
 |deep r u xs=>obtain⟨r',h⟩:=h;subst h;exact e
 |var _ _=>cases e
 |dead=>cases e
structure kB (m m':MF) (ρ ρ':Pl) (μ:List (Nat×Nat)):Prop where
 to:∀id j b,find μ id=some j→m id=some b→∃b',m' j=some b'∧(0<b'.st∨(b'.st=0∧lz b.c b'.c))∧ρ' j=ρ id
theorem k8 {id st:Nat}{f:Nat→AT}:gO m μ id st f = .undef 1∨∃b j,m id=some b∧b.st=st∧find μ id=some j∧gO m μ id st f=f j:=by
 unfold gO
 split
 ·rename_i b hb
  split
  ·rename_i j hj
   exact .inr ⟨b,j,(cp hb).1,(cp hb).2,hj,rfl⟩
  ·exact .inl rfl
 ·exact .inl rfl
theorem wo {vs:List Value}(h:eV vs):af w I m ρ (.undef 1) vs:=by
 obtain⟨v,e,h1⟩:=h
 subst e
 exact⟨rfl,fun u hu=>by simp only[List.mem_singleton] at hu;subst hu;exact h1⟩
theorem f_.to {id j sz off:Nat}{ad:Option Addr}{cap:Nat}(h:f_ w ρ id sz off ad cap)(e:ρ' j=ρ id):f_ w ρ' j sz off ad cap:=by
 unfold f_ eu at *
 rw[e];exact h
theorem eu.to {id j sz:Nat}{ad:Option Addr}{cap:Nat}(h:eu w ρ id sz ad cap)(e:ρ' j=ρ id):eu w ρ' j sz ad cap:=by
 unfold eu at *
 rw[e];exact h
theorem mkPair_cases (a b:AT):mkPair a b = .pair a b∨∃s x t y,a = .leaf s x∧b = .leaf t y∧mkPair a b = .leaf (.pair s t) (x,y):=by
 unfold mkPair
 split
 ·exact .inr ⟨_,_,_,_,rfl,rfl,rfl⟩
 ·exact .inl rfl
theorem mkPair_atr {a b:AT}{v1 v2:List Value}(h1:af w I m ρ a v1)(h2:af w I m ρ b v2):af w I m ρ (mkPair a b) (v1++v2):=by
 rcases mkPair_cases a b with e|⟨s,x,t,y,rfl,rfl,e⟩
 ·rw[e];exact⟨v1,v2,rfl,h1,h2⟩
 ·rw[e];exact⟨v1,v2,rfl,h1,h2⟩
theorem qk (ff:kB m m' ρ ρ' μ):∀{x:AT} {vs:List Value},af w I m ρ x vs→af w I m' ρ' (dR m μ x) vs:=by
 intro x
 have ref:∀{id st:Nat} {f:Nat→AT} {vs:List Value},eV vs →
   (∀b j b',m id=some b→b.st=st→m' j=some b'→(b'.st=0→lz b.c b'.c)→ρ' j=ρ id→af w I m' ρ' (f j) vs)→af w I m' ρ' (gO m μ id st f) vs:=by
  intro id st f vs h1 h
  rcases k8 (m:=m) (μ:=μ) (id:=id) (st:=st) (f:=f) with e|⟨b,j,e1,e2,e3,e4⟩
  ·rw[e];exact wo h1
  ·rw[e4]
   obtain⟨b',k1,k2,k3⟩:=ff.to id j b e3 e1
   refine h b j b' e1 e2 k1 (fun hz=>?_) k3
   rcases k2 with k2|k2
   ·omega
   ·exact k2.2
 induction x with
 |leaf t x=>intro vs h;exact h
 |whole id st t=>
  intro vs h
  simp only[af] at h
  refine ref h.1 fun b j b' e1 e2 k1 k2 k3=>⟨h.1,⟨b',k1,Nat.zero_le _⟩,fun b2 bZ hst u xs hc=>?_⟩
  rw[k1] at bZ;cases bZ
  obtain⟨ad,cap,q1,q2,q3⟩:=h.2.2 b e1 e2 u xs ((k2 hst).arr hc)
  exact⟨ad,cap,q1,q2,q3.to k3⟩
 |piece id st off len t=>
  intro vs h
  simp only[af] at h
  refine ref h.1 fun b j b' e1 e2 k1 k2 k3=>⟨h.1,⟨b',k1,Nat.zero_le _⟩,fun b2 bZ hst u xs hc=>?_⟩
  rw[k1] at bZ;cases bZ
  obtain⟨ad,cap,q1,q2,q3,q4⟩:=h.2.2 b e1 e2 u xs ((k2 hst).arr hc)
  exact⟨ad,cap,q1,q2,q3,q4.to k3⟩
 |nil t=>intro vs h;exact h
 |cy=>intro vs h;exact h
 |pair l r ihl ihr=>intro vs h;obtain⟨v1,v2,e,h1,h2⟩:=h;rw[e];exact mkPair_atr (ihl h1) (ihr h2)
 |undef n=>intro vs h;exact h
 |aZ id st p=>
  intro vs h
  simp only[af] at h
  refine ref h.1 fun b j b' e1 e2 k1 k2 k3=>⟨h.1,⟨b',k1,Nat.zero_le _⟩,fun b2 bZ hst t x hc=>?_⟩
  rw[k1] at bZ;cases bZ
  have:=k2 hst
  rw[hc] at this
  obtain⟨x',hx'⟩:=this
  rw[k3]
  exact h.2.2 b e1 e2 t x' hx'
 |ptr id st row p=>
  intro vs h
  simp only[af] at h
  refine ref h.1 fun b j b' e1 e2 k1 k2 k3=>⟨h.1,⟨b',k1,Nat.zero_le _⟩,fun b2 bZ hst t xs hc=>?_⟩
  rw[k1] at bZ;cases bZ
  rw[k3]
  exact h.2.2 b e1 e2 t xs ((k2 hst).arr hc)
 |nest id st rs row p u=>intro vs h;simp only[af] at h;exact⟨h.1,h.2.1⟩
 |fn f c ih=>intro vs h;obtain⟨caps,e,h1⟩:=h;exact⟨caps,e,ih h1⟩
 |bB l r ihl ihr=>intro vs h;obtain⟨v1,v2,e,h1,h2⟩:=h;exact⟨v1,v2,e,ihl h1,ihr h2⟩
 |b7=>intro vs h;exact h
 |bC g b=>intro vs h;simp[af] at h
 |any=>intro vs h;exact h
theorem wJ:∀(x:AT),x.dJ=true→(dR m μ x).isAgg=x.isAgg:=by
 intro x hnn
 have ref:∀{id st:Nat} {f:Nat→AT},(∀j,(f j).isAgg=false)→(gO m μ id st f).isAgg=false:=by
  intro id st f h
  rcases k8 (m:=m) (μ:=μ) (id:=id) (st:=st) (f:=f) with e|⟨b,j,_,_,_,e⟩<;>rw[e]
  ·rfl
  ·exact h j
 cases x<;>first|rfl|exact ref fun _=>rfl|(simp[AT.dJ] at hnn;done)|(rename_i l r;rcases mkPair_cases (dR m μ l) (dR m μ r) with e|⟨_,_,_,_,_,_,e⟩<;>simp only[dR,e]<;>rfl)
theorem wN:∀{x:AT} {t:Ty},x.dJ=true→Typed x t→Typed (dR m μ x) t:=by
 intro x
 induction x with
 |whole id st u=>
  intro t _ h
  simp only[Typed] at h
  subst h
  simp only[dR]
  rcases k8 (m:=m) (μ:=μ) (id:=id) (st:=st) (f:=fun j=>AT.whole j 0 u) with e|⟨b,j,_,_,_,e⟩<;>rw[e]
  ·exact⟨rfl,rfl⟩
  ·rfl
 |piece id st off len u=>
  intro t _ h
  simp only[Typed] at h
  subst h
  simp only[dR]
  rcases k8 (m:=m) (μ:=μ) (id:=id) (st:=st) (f:=fun j=>AT.piece j 0 off len u) with e|⟨b,j,_,_,_,e⟩<;>rw[e]
  ·exact⟨rfl,rfl⟩
  ·rfl
 |pair l r ihl ihr=>intro t hn h;simp only[AT.dJ,Bool.and_eq_true] at hn;obtain⟨a,b,e,h1,h2⟩:=h;have k1:=ihl hn.1 h1;have k2:=ihr hn.2 h2;rcases mkPair_cases (dR m μ l) (dR m μ r) with e'|⟨s,x,u,y,e1,e2,e'⟩<;>simp only[dR,e'];exact⟨a,b,e,k1,k2⟩;rw[e1] at k1;rw[e2] at k2;simp only[Typed] at k1 k2 ⊢;rw[e,k1,k2]
 |nest _ _ _ _ _ _=>intro t hn h;simp[AT.dJ] at hn
 |aZ id st p=>intro t _ h;simp[Typed] at h
 |ptr id st row p=>intro t _ h;simp[Typed] at h
 |fn f c ih=>intro t _ h;simp[Typed] at h
 |bB l r ihl ihr=>intro t _ h;simp[Typed] at h
 |bC g b=>intro t _ h;simp[Typed] at h
 |_=>intro t _ h;exact h
theorem kj (ff:kB m m' ρ ρ' μ){x:AT}{v:Value}(hn:x.dJ=true)(h:aB w I m ρ x v):aB w I m' ρ' (dR m μ x) v:=by
 unfold aB at h ⊢
 rw[wJ x hn]
 split
 ·rename_i hh
  rw[if_pos hh] at h
  obtain⟨arr,e,h1⟩:=h
  exact⟨arr,e,qk ff h1⟩
 ·rename_i hh
  rw[if_neg hh] at h
  exact qk ff h
theorem wM (ff:kB m m' ρ ρ' μ):∀{x:AT} {vs:List Value},x.dJ=true→cD w I m ρ x vs→cD w I m' ρ' (dR m μ x) vs:=by
 intro x
 induction x with
 |bB l r ihl ihr=>intro vs hn h;simp only[AT.dJ,Bool.and_eq_true] at hn;obtain⟨v,vs',e,h1,h2⟩:=h;exact⟨v,vs',e,kj ff hn.1 h1,ihr hn.2 h2⟩
 |b7=>intro vs _ h;exact h
 |_=>intro vs _ h;simp[cD] at h
theorem wV {x:AT}{v:Value}(h:aB w I m ρ x v)(hn:∀l r,x ≠ .bB l r)(h1:x ≠ .b7):au w I m ρ x v:=by
 cases x<;>first|exact h|trivial|exact absurd rfl (hn _ _)|exact absurd rfl h1
theorem wL (ff:kB m m' ρ ρ' μ){x:AT}{v:Value}(hn:x.dJ=true)(h:au w I m ρ x v):au w I m' ρ' (dR m μ x) v:=by
 have ref:∀{id st:Nat} {f:Nat→AT},(∀j,(∀l r,f j ≠ .bB l r)∧f j ≠ .b7)→aB w I m' ρ' (gO m μ id st f) v→au w I m' ρ' (gO m μ id st f) v:=by
  intro id st f hf hv
  refine wV hv ?_ ?_<;>rcases k8 (m:=m) (μ:=μ) (id:=id) (st:=st) (f:=f) with e|⟨b,j,_,_,_,e⟩<;>rw[e]
  ·intro l r;simp
  ·exact(hf j).1
  ·simp
  ·exact(hf j).2
 cases x with
 |bB l r=>obtain⟨arr,e,h1⟩:=h;exact⟨arr,e,wM ff (x:=.bB l r) hn h1⟩
 |b7=>exact h
 |any=>trivial
 |bC _ _=>trivial
 |whole id st t=>exact ref (fun j=>⟨by intro l r;simp,by simp⟩) (kj ff (x:=.whole id st t) hn h)
 |piece id st off len t=>exact ref (fun j=>⟨by intro l r;simp,by simp⟩) (kj ff (x:=.piece id st off len t) hn h)
 |ptr id st row p=>exact ref (fun j=>⟨by intro l r;simp,by simp⟩) (kj ff (x:=.ptr id st row p) hn h)
 |aZ id st p=>exact ref (fun j=>⟨by intro l r;simp,by simp⟩) (kj ff (x:=.aZ id st p) hn h)
 |leaf t y=>exact h
 |nil t=>exact h
 |cy=>exact h
 |pair l r=>have k:=kj ff (x:=.pair l r) hn h;simp only[dR] at k ⊢;rcases mkPair_cases (dR m μ l) (dR m μ r) with e|⟨_,_,_,_,_,_,e⟩<;>(rw[e] at k ⊢;exact k)
 |undef k=>exact h
 |fn f c=>exact kj ff (x:=.fn f c) hn h
 |nest _ _ _ _ _ _=>simp[AT.dJ] at hn
theorem wP (ff:kB m m' ρ ρ' μ){x:AT}{v:Value}(h:au w I m ρ x v):au w I m' ρ' (k7 m μ x) v:=by
 have main:au w I m' ρ' (bif x.dJ then dR m μ x else .any) v:=by
  cases hn:x.dJ with
  |true=>exact wL ff hn h
  |false=>trivial
 cases x<;>first|exact main|trivial
theorem rE {i:Nat}{b:ag}:∀{l:Mem} (j:Nat),find (kY i b l) j=if i=j then some b else find l j
 | [],j=>by simp[kY,aG]
 | (k,c)::l,j=>by
  simp only[kY]
  cases h:Nat.ble i k with
  |true=>simp only[cond_true,aG]
  |false=>
   have hik:i≠k:=by intro e;subst e;rw[Nat.ble_eq_true_of_le (Nat.le_refl _)] at h;cases h
   simp only[cond_false,aG,rE (l:=l)]
   by_cases e:i=j
   ·subst e
    have:¬k=i:=fun e=>hik e.symm
    simp[this]
   ·simp[e]
theorem pG:∀(l:Mem) (j:Nat),find (ko l) j=find l j
 | [],_=>rfl
 | (i,b)::l,j=>by
  show find (kY i b (ko l)) j=_
  rw[rE,aG,pG l]
theorem jx {α:Type}:∀{l:List (Nat×α)} {i:Nat} {x:α},(l.map (·.1)).Nodup→(i,x)∈l→find l i=some x
 | [],i,x,_,h=>by simp at h
 | (j,y)::l,i,x,hn,h=>by
  simp only[List.map_cons,List.nodup_cons] at hn
  rw[aG]
  rcases List.mem_cons.1 h with e|h
  ·cases e;simp
  ·have:j≠i:=by intro e;subst e;exact hn.1 (List.mem_map.2 ⟨_,h,rfl⟩)
   rw[if_neg this]
   exact jx hn.2 h
theorem mJ {i:Nat}{b:ag}(h:m i=some b):(dU m μ i=⟨1,false,.dead⟩∧0<b.st∧eN i=true) ∨
  ((eN i=false∨b.st=0)∧(dU m μ i).st=0∧(dU m μ i).fz=b.fz∧((∃t x,b.c = .var t x∧(dU m μ i).c = .var t (dR m μ x))∨(∃t xs,b.c = .rows t xs∧(dU m μ i).c = .rows t xs)∨(∃r t xs,b.c = .deep r t xs∧(dU m μ i).c = .deep 0 t xs)∨(b.c = .dead∧(dU m μ i).c = .dead))):=by
 obtain⟨st,fz,c⟩:=b
 unfold dU
 rw[h]
 simp only
 cases hp:eN i && !(Nat.beq st 0) with
 |true=>
  simp only[cond_true,true_and]
  simp only[Bool.and_eq_true,Bool.not_eq_true'] at hp
  refine .inl ⟨Nat.pos_of_ne_zero fun e=>?_,hp.1⟩
  subst e
  simp at hp
 |false=>
  simp only[cond_false]
  refine .inr ⟨?_,?_⟩
  ·rw[Bool.and_eq_false_iff] at hp
   rcases hp with hp|hp
   ·exact .inl hp
   ·refine .inr ?_
    simp only[Bool.not_eq_false'] at hp
    exact Nat.eq_of_beq_eq_true hp
  ·cases c with
   |var t x=>exact⟨rfl,rfl,.inl ⟨t,x,rfl,rfl⟩⟩
   |rows t xs=>exact⟨rfl,rfl,.inr (.inl ⟨t,xs,rfl,rfl⟩)⟩
   |deep r t xs=>exact⟨rfl,rfl,.inr (.inr (.inl ⟨r,t,xs,rfl,rfl⟩))⟩
   |dead=>exact⟨rfl,rfl,.inr (.inr (.inr ⟨rfl,rfl⟩))⟩
theorem wK (x:AT):∀A b,dR m μ x ≠ .bC A b:=by
 intro A b
 cases x<;>simp only[dR]<;>first
  | (intro h;cases h;done)
  | (rename_i id st _;rcases k8 (m:=m) (μ:=μ) (id:=id) (st:=st) with e|⟨_,j,_,_,_,e⟩<;>rw[e]<;>simp;done)
  | (rename_i l r;rcases mkPair_cases (dR m μ l) (dR m μ r) with e|⟨_,_,_,_,_,_,e⟩<;>rw[e]<;>simp;done)
  |skip
 all_goals (intro h;unfold gO at h;split at h<;>(try split at h)<;>cases h)
theorem wO (x:AT):∀A b,k7 m μ x ≠ .bC A b:=by
 intro A b
 have main:(bif x.dJ then dR m μ x else .any) ≠ .bC A b:=by
  cases x.dJ with
  |true=>exact wK x A b
  |false=>simp
 cases x<;>first|exact main|simp[k7]
theorem pz (m:MF)(μ:List (Nat×Nat)):∀(env:List (Nat×AT)) (s:Nat),find (bf (fun x=>(x.1,k7 m μ x.2)) env) s=(find env s).map (k7 m μ)
 | [],s=>rfl
 | (t,x)::l,s=>by
  simp only[bf,aG,pz m μ l]
  by_cases e:t=s<;>simp[e]
theorem wB {p:St}(hb:qf st=some p)(h:∃I ρ,mX F n K st a w I ρ):Inv F n K p a w:=by
 obtain⟨I,ρ,hi⟩:=h
 unfold qf at hb
 dsimp only at hb
 generalize od st.mem 100 _=μ at hb
 obtain⟨hok,hb⟩:=aQ hb
 cases hb
 rw[Bool.and_eq_true] at hok
 obtain⟨hok,hnn⟩:=hok
 have hnn':∀i fz s t x,find st.mem i=some ⟨s,fz,.var t x⟩→x.dJ=true:=fun i fz s t x h=>eG hnn _ (d_ h)
 simp only[renOk,Bool.and_eq_true,jI,gJ] at hok
 obtain⟨⟨⟨n1,n2⟩,hpid⟩,hpm⟩:=hok
 let m:MF:=find st.mem
 let m':MF:=find (ko (bf (fun x=>(x.2,dU (find st.mem) μ x.1)) μ))
 let sw:List (Nat×Nat):=μ.map fun x=>(x.2,x.1)
 let ρ':Pl:=⟨fun j=>match find sw j with | some i=>ρ i|none=>none,fun j=>match find sw j with | some i=>ρ.d i|none=>[]⟩
 have nsw:(sw.map (·.1)).Nodup:=by simpa[sw,Function.comp_def] using n2
 have ji:∀i j,(i,j)∈μ→ρ' j=ρ i:=by
  intro i j hij
  show(match find sw j with | some i=>ρ i|none=>none)=_
  rw[jx nsw (List.mem_map.2 ⟨(i,j),hij,rfl⟩)]
 have hswd:∀i j,(i,j)∈μ→ρ'.d j=ρ.d i:=by
  intro i j hij
  show(match find sw j with | some i=>ρ.d i|none=>[])=_
  rw[jx nsw (List.mem_map.2 ⟨(i,j),hij,rfl⟩)]
 have nm:(((bf (fun x:Nat×Nat=>(x.2,dU (find st.mem) μ x.1)) μ)).map (·.1)).Nodup:=by
  rw[gJ]
  simpa[Function.comp_def] using n2
 have hto:∀i j,(i,j)∈μ→m' j=some (dU m μ i):=by
  intro i j hij
  show find (ko _) j=_
  rw[pG]
  exact jx nm (by rw[gJ];exact List.mem_map.2 ⟨(i,j),hij,rfl⟩)
 have j4:∀j b',m' j=some b'→∃i,(i,j)∈μ∧b'=dU m μ i:=by
  intro j b' h
  change find (ko _) j=_ at h
  rw[pG,gJ] at h
  obtain⟨⟨i,k⟩,h1,h2⟩:=List.mem_map.1 (d_ h)
  cases h2
  exact⟨i,h1,rfl⟩
 have hmv:kB m m' ρ ρ' μ:=by
  refine⟨fun id j b hf hb=>?_⟩
  have hin:=d_ hf
  refine⟨_,hto id j hin,?_,ji id j hin⟩
  rcases mJ (μ:=μ) hb with⟨e,_,_⟩|⟨_,e1,_,e2⟩
  ·rw[e];exact .inl (by decide)
  ·refine .inr ⟨e1,?_⟩
   rcases e2 with⟨t,x,k1,k2⟩|⟨t,xs,k1,k2⟩|⟨r,t,xs,k1,k2⟩|⟨k1,k2⟩<;>rw[k2,k1]
   ·exact⟨x,rfl⟩
   ·rfl
   ·exact⟨r,rfl⟩
   ·trivial
 have cL:∀i j,(i,j)∈μ→(dU m μ i).live→∃b,m i=some b∧b.live:=by
  intro i j hij hl
  cases hb:m i with
  |none=>
   have:dU m μ i=⟨0,false,.dead⟩:=by unfold dU;rw[hb]
   rw[this] at hl
   exact hl.elim
  |some b=>
   refine⟨b,rfl,?_⟩
   rcases mJ (μ:=μ) hb with⟨e,_,_⟩|⟨_,_,_,e2⟩
   ·rw[e] at hl;exact hl.elim
   ·rcases e2 with⟨t,x,k1,k2⟩|⟨t,xs,k1,k2⟩|⟨r,t,xs,k1,k2⟩|⟨k1,k2⟩
    ·exact iL k1
    ·exact dP k1
    ·unfold ag.live;rw[k1];trivial
    ·unfold ag.live at hl;rw[k2] at hl;exact hl.elim
 have iG:∀i j,(i,j)∈μ→(dU m μ i).bq→∃b,m i=some b∧b.bq:=by
  intro i j hij hd
  obtain⟨b,hb,_⟩:=cL i j hij (dL hd)
  refine⟨b,hb,?_⟩
  unfold ag.bq at hd ⊢
  rcases mJ (μ:=μ) hb with⟨e,_,_⟩|⟨_,_,_,e2⟩
  ·rw[e] at hd;exact hd.elim
  ·rcases e2 with⟨t,x,k1,k2⟩|⟨t,xs,k1,k2⟩|⟨r,t,xs,k1,k2⟩|⟨k1,k2⟩<;>rw[k2] at hd
   ·exact hd.elim
   ·exact hd.elim
   ·rw[k1];trivial
   ·exact hd.elim
 have hsame:∀{i j j':Nat},(i,j)∈μ→(i,j')∈μ→j=j':=by
  intro i j j' h h'
  have f1:=jx n1 h
  rw[jx n1 h'] at f1
  cases f1
  rfl
 refine⟨⟨I,ρ',⟨?_,?_,hi.size,hi.defers,?_⟩⟩,?_⟩
 ·refine⟨fun j b' hb'=>?_,fun j j' b b' B o o' h1 h2 h3 h4 h5 h6=>?_,hi.mem.aV,hi.mem.fX,hi.mem.fI,fun j b B o h1 h2 h3=>?_,fun j b hb' hd=>?_,hi.mem.frame,hi.mem.size,hi.mem.os,hi.mem.tape,hi.mem.output,hi.mem.ez⟩
  ·obtain⟨i,hij,e⟩:=j4 j b' hb'
   subst e
   cases hb:m i with
   |none=>
    have:dU m μ i=⟨0,false,.dead⟩:=by unfold dU;rw[hb]
    rw[this];trivial
   |some b=>
    have az:=hi.mem.blk i b hb
    rcases mJ (μ:=μ) hb with⟨e,_,_⟩|⟨_,_,e1,e2⟩
    ·rw[e];trivial
    ·unfold aS at az ⊢
     rcases e2 with⟨t,x,k1,k2⟩|⟨t,xs,k1,k2⟩|⟨r,t,xs,k1,k2⟩|⟨k1,k2⟩
     ·rw[k1] at az
      rw[k2]
      simp only at az ⊢
      obtain⟨q1,B,cs,q2,q3,q4,q5⟩:=az
      exact⟨wN (hnn' i b.fz b.st t x (by show m i=_;rw[hb,←k1])) q1,B,cs,by rw[ji i j hij];exact q2,q3,qk hmv q4,by rw[e1];exact q5⟩
     ·rw[k1] at az
      rw[k2]
      simp only at az ⊢
      rw[ji i j hij,e1]
      exact az
     ·rw[k1] at az
      rw[k2]
      simp only at az ⊢
      rw[ji i j hij,hswd i j hij,e1]
      exact az
     ·rw[k2];trivial
  ·obtain⟨i,hij,e⟩:=j4 j b h1
   obtain⟨i',iI,e'⟩:=j4 j' b' h2
   subst e e'
   obtain⟨c,eK,fU⟩:=cL i j hij h3
   obtain⟨c',jY,jZ⟩:=cL i' j' iI h4
   have:=hi.mem.inj i i' c c' B o o' eK jY fU jZ (by rw[←ji i j hij];exact h5) (by rw[←ji i' j' iI];exact h6)
   subst this
   have f1:=jx n1 hij
   have f2:=jx n1 iI
   rw[f1] at f2
   cases f2
   rfl
  ·obtain⟨i,hij,e⟩:=j4 j b h1
   subst e
   obtain⟨c,eK,fU⟩:=cL i j hij h2
   exact hi.mem.mine i c B o eK fU (by rw[←ji i j hij];exact h3)
  ·obtain⟨i,hij,e⟩:=j4 j b hb'
   subst e
   obtain⟨c,eK,fU⟩:=iG i j hij hd
   obtain⟨q1,q2⟩:=hi.mem.dp i c eK fU
   rw[hswd i j hij]
   refine⟨q1,fun B hB=>⟨(q2 B hB).1,fun j' b' o g1 g2 g3=>?_,fun j' b' g1 g2 g3=>?_⟩⟩
   ·obtain⟨i',iI,e'⟩:=j4 j' b' g1
    subst e'
    obtain⟨c',jY,jZ⟩:=cL i' j' iI g2
    exact(q2 B hB).2.1 i' c' o jY jZ (by rw[←ji i' j' iI];exact g3)
   ·obtain⟨i',iI,e'⟩:=j4 j' b' g1
    subst e'
    obtain⟨c',jY,jZ⟩:=iG i' j' iI g2
    have:=(q2 B hB).2.2 i' c' jY jZ (by rw[←hswd i' j' iI];exact g3)
    subst this
    exact hsame iI hij
 ·intro s av bh
  simp only[pz,Option.map_eq_some_iff] at bh
  obtain⟨x,hx,e⟩:=bh
  subst e
  exact wP hmv (hi.env s x hx)
 ·intro id b0 hb0
  obtain⟨b,hb,h1⟩:=hi.kept id b0 hb0
  have hp:=K.pid id b0 hb0
  have:=eG hpm _ (d_ hb)
  simp only[hp,Bool.not_true,Bool.false_or] at this
  split at this
  ·rename_i j hj
   have:=Nat.eq_of_beq_eq_true this
   subst this
   have hin:=d_ hj
   refine⟨_,hto _ _ hin,?_⟩
   rcases mJ (μ:=μ) hb with⟨e,_,_⟩|⟨e0,e1,_,e2⟩
   ·rw[e];exact .inl (by decide)
   ·refine .inr ⟨e1,?_⟩
    have hz:b.st=0:=by
     rcases e0 with e0|e0
     ·rw[hp] at e0;cases e0
     ·exact e0
    rcases h1 with h1|⟨_,k2,k3,k4⟩
    ·omega
    ·refine⟨k2.trans ?_,(ji _ _ hin).trans k3,k4⟩
     rcases e2 with⟨t,x,q1,q2⟩|⟨t,xs,q1,q2⟩|⟨r,t,xs,q1,q2⟩|⟨q1,q2⟩<;>(show dK b.c (dU m μ _).c)<;>rw[q1,q2]
     ·exact rfl
     ·exact⟨rfl,rfl⟩
     ·exact⟨rfl,rfl⟩
     ·trivial
  ·cases this
 ·intro s A b hf
  simp only[pz,Option.map_eq_some_iff] at hf
  obtain⟨x,hx,e⟩:=hf
  exact wO x A b e
theorem wC {keep:List Nat}{p:St}(hp:plain keep st=some p)(h:Inv F n K st a w):Inv F n K p a w:=by
 unfold plain at hp
 cases hb:cn (fun x=>Nat.ble (x.1+1) dy) st.mem with
 |false=>rw[hb] at hp;cases hp
 |true=>
  rw[hb] at hp
  exact wB hp (wA hb h)
end
end Go.Ab
namespace Go.Ab
section
variable {P:Program} {F:Fix} {C:Cx} {o:Oper} {a:Act} {w w':World} {m m':MF} {I I':Nat→Prop} {ρ ρ':Pl} {d:aE}
variable {n:Nat} {K:dF} {st st':St}
theorem mE:∀{p q:Path},eP p q=true→p=q
 | [],[],_=>rfl
 |.fst::p,.fst::q,h=>by rw[mE (p:=p) (q:=q) h]
 |.snd::p,.snd::q,h=>by rw[mE (p:=p) (q:=q) h]
 |.idx i::p,.idx j::q,h=>by
  simp only[eP,Bool.and_eq_true] at h
  rw[Nat.eq_of_beq_eq_true h.1,mE (p:=p) (q:=q) h.2]
 | [],_::_,h=>by simp[eP] at h
 |.fst::_,[],h=>by simp[eP] at h
 |.snd::_,[],h=>by simp[eP] at h
 |.idx _::_,[],h=>by simp[eP] at h
 |.fst::_,.snd::_,h=>by simp[eP] at h
 |.fst::_,.idx _::_,h=>by simp[eP] at h
 |.snd::_,.fst::_,h=>by simp[eP] at h
 |.snd::_,.idx _::_,h=>by simp[eP] at h
 |.idx _::_,.fst::_,h=>by simp[eP] at h
 |.idx _::_,.snd::_,h=>by simp[eP] at h
theorem AS.kH:∀{s:AS} {x:AT} {y:s.den},s.data x=some y→s.of y=x:=by
 intro s
 induction s with
 |leaf t=>
  intro x y h
  cases x<;>simp only[AS.data,reduceCtorEq] at h
  have:=bT h
  cases this
  rfl
 |whole id t=>
  intro x y h
  cases x<;>(try simp only[AS.data,reduceCtorEq] at h)
  rename_i jd st u
  cases st with
  |succ k=>cases h
  |zero=>
   simp only[AS.data] at h
   obtain⟨e1,_⟩:=aQ h
   simp only[Bool.and_eq_true] at e1
   have:=Nat.eq_of_beq_eq_true e1.1
   have:=Ty.cA e1.2
   subst_vars
   rfl
 |piece id t=>
  intro x y h
  cases x<;>(try simp only[AS.data,reduceCtorEq] at h)
  rename_i jd st off len u
  cases st with
  |succ k=>cases h
  |zero=>
   simp only[AS.data] at h
   obtain⟨e1,e2⟩:=aQ h
   simp only[Bool.and_eq_true] at e1
   have:=Nat.eq_of_beq_eq_true e1.1
   have:=Ty.cA e1.2
   subst_vars
   cases e2
   rfl
 |cy=>intro x y h;cases x<;>simp only[AS.data,reduceCtorEq] at h;rfl
 |pair l r ihl ihr=>
  intro x y h
  cases x<;>simp only[AS.data,reduceCtorEq] at h
  split at h
  ·rename_i u v hu hv
   cases h
   simp only[AS.of,ihl hu,ihr hv]
  ·cases h
 |undef k=>
  intro x y h
  cases x<;>simp only[AS.data,reduceCtorEq] at h
  obtain⟨e1,_⟩:=aQ h
  have:=Nat.eq_of_beq_eq_true e1
  subst_vars
  rfl
 |ptr id p=>
  intro x y h
  cases x<;>(try simp only[AS.data,reduceCtorEq] at h)
  rename_i jd st row q
  cases st with
  |succ k=>cases h
  |zero=>
   simp only[AS.data] at h
   obtain⟨e1,e2⟩:=aQ h
   simp only[Bool.and_eq_true] at e1
   have:=Nat.eq_of_beq_eq_true e1.1
   have:=mE e1.2
   subst_vars
   cases e2
   rfl
 |aZ id p=>
  intro x y h
  cases x<;>(try simp only[AS.data,reduceCtorEq] at h)
  rename_i jd st q
  cases st with
  |succ k=>cases h
  |zero=>
   simp only[AS.data] at h
   obtain⟨e1,e2⟩:=aQ h
   simp only[Bool.and_eq_true] at e1
   have:=Nat.eq_of_beq_eq_true e1.1
   have:=mE e1.2
   subst_vars
   rfl
 |fn f c ih=>
  intro x y h
  cases x<;>simp only[AS.data,reduceCtorEq] at h
  obtain⟨e1,e2⟩:=aQ h
  have:=Nat.eq_of_beq_eq_true e1
  subst this
  simp only[AS.of,ih e2]
 |bB l r ihl ihr=>
  intro x y h
  cases x<;>simp only[AS.data,reduceCtorEq] at h
  split at h
  ·rename_i u v hu hv
   cases h
   simp only[AS.of,ihl hu,ihr hv]
  ·cases h
 |b7=>intro x y h;cases x<;>simp only[AS.data,reduceCtorEq] at h;rfl
 |any=>intro x y h;cases x<;>simp only[AS.data,reduceCtorEq] at h;rfl
theorem BS.kH {s:BS}{x:BC}{y:s.den}(h:s.data x=some y):s.of y=x:=by
 cases s with
 |var t a=>
  cases x<;>simp only[BS.data,reduceCtorEq] at h
  obtain⟨e1,e2⟩:=aQ h
  have:=Ty.cA e1
  subst this
  simp only[BS.of,AS.kH e2]
 |rows t=>
  cases x<;>simp only[BS.data,reduceCtorEq] at h
  have:=bT h
  cases this
  rfl
 |deep t=>
  cases x with
  |deep r u xs=>
   cases r with
   |zero=>
    simp only[BS.data] at h
    have:=bT h
    cases this
    rfl
   |succ r=>simp[BS.data] at h
  |_=>simp[BS.data] at h
theorem rA:∀{l:List (Nat×AS)} {e:List (Nat×AT)} {y:lI l},ja l e=some y→lM l y=e
 | [],[],y,_=>rfl
 | [],_::_,y,h=>by simp[ja] at h
 | [(s,a)],[],y,h=>by simp[ja] at h
 | [(s,a)],[(s',b)],y,h=>by
  simp only[ja] at h
  obtain⟨e1,e2⟩:=aQ h
  have:=Nat.eq_of_beq_eq_true e1
  subst this
  simp only[lM,AS.kH e2]
 | [(s,a)],_::_::_,y,h=>by simp[ja] at h
 | (s,a)::a'::l,[],y,h=>by simp[ja] at h
 | (s,a)::a'::l,(s',b)::l',y,h=>by
  simp only[ja] at h
  obtain⟨e1,e2⟩:=aQ h
  have:=Nat.eq_of_beq_eq_true e1
  subst this
  split at e2
  ·rename_i u v hu hv
   cases e2
   simp only[lM,AS.kH hu,rA hv]
  ·cases e2
theorem sJ:∀{l:List (Nat×Bool×BS)} {e:Mem} {y:mg l},ia l e=some y→mh l y=e
 | [],[],y,_=>rfl
 | [],_::_,y,h=>by simp[ia] at h
 | [(s,f,a)],[],y,h=>by simp[ia] at h
 | [(s,f,a)],[(s',⟨st,f',b⟩)],y,h=>by
  cases st with
  |succ k=>simp[ia] at h
  |zero=>
   simp only[ia] at h
   obtain⟨e1,e2⟩:=aQ h
   simp only[Bool.and_eq_true] at e1
   have:=Nat.eq_of_beq_eq_true e1.1
   have:=oR e1.2
   subst_vars
   simp only[mh,BS.kH e2]
 | [(s,f,a)],_::_::_,y,h=>by simp[ia] at h
 | (s,f,a)::a'::l,[],y,h=>by simp[ia] at h
 | (s,f,a)::a'::l,(s',⟨st,f',b⟩)::l',y,h=>by
  cases st with
  |succ k=>simp[ia] at h
  |zero=>
   simp only[ia] at h
   obtain⟨e1,e2⟩:=aQ h
   simp only[Bool.and_eq_true] at e1
   have:=Nat.eq_of_beq_eq_true e1.1
   have:=oR e1.2
   subst_vars
   split at e2
   ·rename_i u v hu hv
    cases e2
    simp only[mh,BS.kH hu,sJ hv]
   ·cases e2
theorem Inv.s5 {e:List (Nat×AT)}{m:Mem}{k k':List Bool}(h:Inv F n K ⟨e,m,k⟩ a w):Inv F n K ⟨e,m,k'⟩ a w:=by
 obtain⟨⟨I,ρ,h1⟩,h2⟩:=h
 exact⟨⟨I,ρ,h1.mem,h1.env,h1.size,h1.defers,h1.kept⟩,h2⟩
theorem wpA_ok {m:MF}{x:AS}{a:AT}{v:Value}(h:au w I m ρ a v):au w I m ρ (wpA m x a) v:=by
 unfold wpA
 split
 ·rename_i id st t
  split
  ·rename_i b hb
   split
   ·rename_i y ha
    obtain⟨u,n⟩:=y
    obtain⟨h1,h2⟩:=cp hb
    have hx':=bQ (a:=.whole id st t) rfl h (by simp) (by simp) (by simp) (by simp)
    simp only[af] at hx'
    obtain⟨k1,k2,k3⟩:=hx'
    show aB _ _ _ _ _ _
    unfold aB
    simp only[AT.isAgg,Bool.false_eq_true,if_false,af]
    refine⟨k1,k2,fun b' hb' hs u' n' hc=>?_⟩
    obtain⟨a,cap,e1,e2,e3⟩:=k3 b' hb' hs u' n' hc
    rw[h1] at hb'
    cases hb'
    rw[ha] at hc
    cases hc
    exact⟨a,cap,e1,e2,by omega,e3.weak⟩
   ·exact h
  ·exact h
 ·exact h
theorem xE {m:MF}{x:AS}{a:AT}(h:∀A b,a ≠ .bC A b):∀A b,wpA m x a ≠ .bC A b:=by
 intro A b
 unfold wpA
 split
 ·split
  ·split<;>simp
  ·simp
 ·exact h A b
theorem qD {m:MF}:∀{l:List (Nat×AS)} {e:List (Nat×AT)} {s:Nat} {av:AT},find (wpE m l e) s=some av→∃x a,find e s=some a∧(av=a∨av=wpA m x a)
 | [],e,s,av,h=>by
  have:wpE m [] e=e:=by cases e<;>rfl
  rw[this] at h
  exact⟨.any,av,h,.inl rfl⟩
 |x::l,[],s,av,h=>by cases h
 |x::l,(k,a)::e,s,av,h=>by
  simp only[wpE,aG] at h
  by_cases hk:k=s
  ·rw[if_pos hk] at h
   cases h
   exact⟨x.2,a,by rw[aG,if_pos hk],.inr rfl⟩
  ·rw[if_neg hk] at h
   obtain⟨y,b,h1,h2⟩:=qD h
   exact⟨y,b,by rw[aG,if_neg hk];exact h1,h2⟩
theorem Inv.wp {l:List (Nat×AS)}{e:List (Nat×AT)}{m:Mem}{k:List Bool}(h:Inv F n K ⟨e,m,k⟩ a w):Inv F n K ⟨wpE (find m) l e,m,k⟩ a w:=by
 obtain⟨⟨I,ρ,h1⟩,h2⟩:=h
 refine⟨⟨I,ρ,h1.mem,fun s av bh=>?_,h1.size,h1.defers,h1.kept⟩,fun s A b hf=>?_⟩
 ·obtain⟨x,a0,e1,e2⟩:=qD bh
  have h0:=h1.env s a0 e1
  rcases e2 with e2|e2
  ·subst e2;exact h0
  ·subst e2;exact wpA_ok h0
 ·obtain⟨x,a0,e1,e2⟩:=qD hf
  have hw:∀A b,a0 ≠ .bC A b:=fun A b e=>h2 s A b (e▸e1)
  rcases e2 with e2|e2
  ·exact hw A b e2.symm
  ·exact xE hw A b e2.symm
theorem mL {s:Sh}{x:s.den}{ok:List Bool}(hd:s.data st=some x)(h:Inv F n K st a w):Inv F n K { s.of x with ok:=ok } a w:=by
 unfold Sh.data at hd
 split at hd
 ·cases hd
 ·rename_i p hp
  split at hd
  ·rename_i u v hu hv
   cases hd
   have h1:=wC hp h
   obtain⟨pe,pm,pk⟩:=p
   have h1':=h1.wp (l:=s.env)
   have e1:=rA hu
   have e2:=sJ hv
   simp only at e1 e2
   unfold Sh.of
   rw[e1,e2]
   exact h1'.s5
  ·cases hd
def exOf:Ex→Exit
 |.norm=>.normal
 |.exit i=>.exit i
 |.ret=>.ret
theorem Ex.cA:∀{e f:Ex},e.is f=true→e=f
 |.norm,.norm,_=>rfl
 |.exit i,.exit j,h=>by rw[Nat.eq_of_beq_eq_true (show Nat.beq i j=true from h)]
 |.ret,.ret,_=>rfl
 |.norm,.exit _,h=>by simp[Ex.is] at h
 |.norm,.ret,h=>by simp[Ex.is] at h
 |.exit _,.norm,h=>by simp[Ex.is] at h
 |.exit _,.ret,h=>by simp[Ex.is] at h
 |.ret,.norm,h=>by simp[Ex.is] at h
 |.ret,.exit _,h=>by simp[Ex.is] at h
theorem o6 {α:Type}{Kt:Ex→St→Option α}{ok:List Bool}{r:α}{f:Ex}:∀{l:dB} {y:l.den},l.data f st=some y→dB.go Kt ok l y=some r →
  ∃(s:Sh) (z:s.den),s.data st=some z∧Kt f { s.of z with ok:=ok }=some r
 | [],y,h,_=>by simp[dB.data] at h
 | [(e,s)],y,h,hg=>by
  simp only[dB.data] at h
  obtain⟨e1,e2⟩:=aQ h
  have:=Ex.cA e1
  subst this
  exact⟨s,y,e2,hg⟩
 | (e,s)::b::l,y,h,hg=>by
  simp only[dB.data] at h
  split at h
  ·rename_i x hx
   cases h
   obtain⟨e1,e2⟩:=aQ hx
   have:=Ex.cA e1
   subst this
   exact⟨s,x,e2,hg⟩
  ·rw[Option.map_eq_some_iff] at h
   obtain⟨z,hz,e⟩:=h
   subst e
   exact o6 hz hg
def oI (P:Program)(c:Code)(Q:Exit→Act→World→Prop)(a:Act)(w:World):Prop:=
 ∀(b:Frame) (k:List Item) (cs:List Frame),∃e a' w',Q e a' w'∧Arrives P (lone (b.at a (.code c :: .inLoop c::k)) cs w) b k cs e a' w'
theorem vS {c:Code}{Q:Exit→Act→World→Prop}(h:oI P c Q a w):(Code.loop c).wp P Q a w:=fun b k cs=>by
 obtain⟨e,a',w',hq,bU⟩:=h b k cs
 exact⟨e,a',w',hq,.of_steps (.one step_loop) bU⟩
theorem sI {c:Code}{Q:Exit→Act→World→Prop}(h:c.wp P (Exit.then (oI P c Q) Q) a w):oI P c Q a w:=by
 intro b k cs
 obtain⟨e,a₁,w₁,hq,bU⟩:=h b (.inLoop c::k) cs
 cases e with
 |normal=>
  obtain⟨e₂,a₂,w₂,hq₂,vk⟩:=hq b k cs
  exact⟨e₂,a₂,w₂,hq₂,.of_steps (Steps.trans bU (.one step_inLoop)) vk⟩
 |exit id=>exact⟨_,a₁,w₁,hq,.pass (x:=.inLoop c) rfl (fun _ _=>.inl (by simp)) bU⟩
 |goto l=>exact⟨_,a₁,w₁,hq,.pass (x:=.inLoop c) rfl (fun _ _=>.inl (by simp)) bU⟩
 |ret=>exact⟨_,a₁,w₁,hq,.pass (x:=.inLoop c) rfl (fun _ _=>.inl (by simp)) bU⟩
 |panic ch=>exact⟨_,a₁,w₁,hq,.pass (x:=.inLoop c) rfl (fun _ _=>.inl (by simp)) bU⟩
 |outgrown=>exact⟨_,a₁,w₁,hq,.pass (x:=.inLoop c) rfl (fun _ _=>.inl (by simp)) bU⟩
def fP (C:Cx)(lt:List (Nat×b8)):Code→Prop
 |.seq a b=>fP C lt a∧fP C lt b∧∀L,jU lt a=some L→∀x,L.dom x=true→boxR C lt a L x=some (L.val x)
 |.cond _ a b=>fP C lt a∧fP C lt b
 |.block _ c=>fP C lt c
 |.scope c=>fP C lt c
 |.loop c=>fP C lt c∧∀L,(find lt (iC c)=some L∨find lt (iC c+500000)=some L)→∀x,L.dom x=true→Comes (round C lt c L) x (L.val x)
 |_=>True
end
end Go.Ab
namespace Go.Ab
section
variable {P:Program} {F:Fix} {C:Cx} {o:Oper} {a:Act} {w w':World} {m m':MF} {I I':Nat→Prop} {ρ ρ':Pl} {d:aE}
variable {n:Nat} {K:dF} {st st':St}
theorem loopAt_some {lt:List (Nat×b8)}{k:Nat}{st:St}{L:b8}(h:loopAt lt k st=some L):find lt k=some L∨find lt (k+500000)=some L:=by
 unfold loopAt at h
 split at h
 ·split at h
  ·cases h;exact .inl (by assumption)
  ·exact .inr h
 ·cases h
theorem uy (hF:dD P F.G C){c:Operand}{g:Bool}(h:oY st.env C c=some g)(hi:Inv F n K st a w):a.eval c = .bool g:=by
 obtain⟨⟨I,ρ,h1⟩,h2⟩:=hi
 have h3:au w I (find st.mem) ρ (fj C st.env [] c) (a.eval c):=by
  refine n7 hF h1.mem.ez (fun s _ av bh=>?_) (by intro t ht;simp at ht)
  exact o4 (h1.env s av bh) fun A b e=>h2 s A b (e▸bh)
 have h4:fj C st.env [] c = .leaf .bool g:=by
  unfold oY at h
  unfold fj
  split at h
  ·rename_i g' hg
   cases h
   rw[hg]
  ·cases h
 rw[h4] at h3
 exact eo.1 h3
theorem evC_ok (hm:P.follows .mixedOrders=true)(hC:bH P C)(hF:dD P F.G C){lt:List (Nat×b8)}:∀(c:Code) {α:Type} {r:α} {Kt:Ex→St→Option α} {st:St} {a:Act} {w:World} {Q:Exit→Act→World→Prop},
  codeOk n c=true→fP C lt c→Inv F n K st a w→dZ C lt c Kt st=some r →
  (∀e st' a' w',Kt e st'=some r→Inv F n K st' a' w'→Q (exOf e) a' w')→c.wp P Q a w:=by
 intro c
 induction c with
 |skip=>intro α r Kt st a w Q _ _ hi h hQ;exact wp_skip (hQ _ _ _ _ h hi)
 |region id ops draw=>
  intro α r Kt st a w Q dc _ hi h hQ
  simp only[dZ] at h
  split at h
  ·rename_i st' hst
   obtain⟨h1,h2⟩:=aQ h
   have hok:=qM.1 h1
   have hn:∀a' w',Inv F n K st' a' w'→Q .normal a' w':=fun a' w' h'=>by
    obtain⟨e,m,k⟩:=st'
    exact hQ .norm _ _ _ h2 h'.s5
   cases draw with
   |false=>exact wI hC hF dc hst hok hi hn
   |true=>exact wH hm hC hF dc hst hok hi hn
  ·cases h
 |seq x y fW gH=>
  intro α r Kt st a w Q dc hl hi h hQ
  simp only[codeOk,Bool.and_eq_true] at dc
  simp only[dZ] at h
  split at h
  ·rename_i L hL
   unfold goBox at h
   split at h
   ·rename_i x0 hx
    obtain⟨kM,h2⟩:=aQ h
    have hbox:=hl.2.2 L hL x0 kM
    have hix:Inv F n K (L.sh.of x0) a w:=(mL (ok:=[]) hx hi)
    refine wp_seq (fW dc.1 hl.1 hix hbox ?_)
    intro e st' a' w' he hi'
    obtain⟨s,v,k1,k2⟩:=o6 (aQ he).2 h2
    have hi2:=mL (ok:=st.ok) k1 hi'
    split at k2
    ·exact gH dc.2 hl.2.1 hi2 k2 hQ
    ·rename_i hne
     have:=hQ e _ a' w' k2 hi2
     cases e with
     |norm=>exact absurd rfl hne
     |exit i=>exact this
     |ret=>exact this
   ·cases h
  ·refine wp_seq (fW dc.1 hl.1 hi h ?_)
   intro e st' a' w' he hi'
   split at he
   ·exact gH dc.2 hl.2.1 hi' he hQ
   ·rename_i hne
    have:=hQ e st' a' w' he hi'
    cases e with
    |norm=>exact absurd rfl hne
    |exit i=>exact this
    |ret=>exact this
 |cond c x y fW gH=>
  intro α r Kt st a w Q dc hl hi h hQ
  simp only[codeOk,Bool.and_eq_true] at dc
  simp only[dZ] at h
  split at h
  ·rename_i g hcg
   have hc:=uy hF hcg hi
   cases g with
   |true=>exact wp_cond_true hc (fW dc.1 hl.1 hi h hQ)
   |false=>exact wp_cond_false hc (gH dc.2 hl.2 hi h hQ)
  ·cases h
 |block id c ih=>
  intro α r Kt st a w Q dc hl hi h hQ
  simp only[dZ] at h
  refine wp_block (ih dc hl hi h ?_)
  intro e st' a' w' he hi'
  split at he
  ·rename_i i
   cases hb:Nat.beq i id with
   |true=>
    rw[hb] at he
    have:=Nat.eq_of_beq_eq_true hb
    subst this
    have h1:=hQ _ _ _ _ he hi'
    simp only[exOf,Exit.inBlock,if_true]
    exact h1
   |false=>
    rw[hb] at he
    have hne:i≠id:=by intro e;subst e;simp at hb
    have h1:=hQ _ _ _ _ he hi'
    simp only[exOf,Exit.inBlock,hne,if_false]
    exact h1
  ·rename_i hne
   have h1:=hQ _ _ _ _ he hi'
   cases e with
   |norm=>exact h1
   |exit i=>exact absurd rfl (hne i)
   |ret=>exact h1
 |loop c ih=>
  intro α r Kt st a w Q dc hl hi h hQ
  simp only[dZ] at h
  split at h
  ·rename_i L hL
   split at h
   ·rename_i x hx
    obtain⟨kM,h2⟩:=aQ h
    have rK:=hl.2 L (loopAt_some hL) x kM
    have hix:Inv F n K (L.sh.of x) a w:=(mL (ok:=[]) hx hi)
    clear kM h hx hi
    refine vS ?_
    generalize L.val x=y at rK h2
    induction rK generalizing a w with
    |out hr=>
     rename_i x' y'
     refine sI (ih (r:=Sum.inr y') dc hl.1 hix hr ?_)
     intro e st' a' w' he hi'
     have hY:=(aQ he).2
     split at hY
     ·rw[Option.map_eq_some_iff] at hY
      obtain⟨_,_,e⟩:=hY
      cases e
     ·rename_i hne
      rw[Option.map_eq_some_iff] at hY
      obtain⟨z,hz,e2⟩:=hY
      cases e2
      obtain⟨s,v,k1,k2⟩:=o6 hz h2
      have h3:=hQ _ _ _ _ k2 (mL k1 hi')
      cases e with
      |norm=>exact absurd rfl hne
      |exit i=>exact h3
      |ret=>exact h3
    |again hr _ ihc=>
     rename_i x' x'' y' _
     refine sI (ih (r:=Sum.inl x'') dc hl.1 hix hr ?_)
     intro e st' a' w' he hi'
     have hY:=(aQ he).2
     split at hY
     ·rw[Option.map_eq_some_iff] at hY
      obtain⟨z,hz,e⟩:=hY
      cases e
      exact ihc (mL (ok:=[]) hz hi') h2
     ·rw[Option.map_eq_some_iff] at hY
      obtain⟨_,_,e⟩:=hY
      cases e
   ·cases h
  ·cases h
 |exit id=>intro α r Kt st a w Q _ _ hi h hQ;exact wp_exit (hQ _ _ _ _ h hi)
 |scope c ih=>
  intro α r Kt st a w Q dc hl hi h hQ
  refine wp_scope_straight (ih dc hl hi h fun e st' a' w' he hi'=>?_)
  have:=hQ e st' a' w' he hi'
  cases e<;>exact this
 |label l=>intro α r Kt st a w Q _ _ hi h hQ;exact wp_label (hQ _ _ _ _ h hi)
 |ret=>intro α r Kt st a w Q _ _ hi h hQ;exact wp_ret (hQ _ _ _ _ h hi)
 |_=>intro α r Kt st a w Q _ _ _ h;simp[dZ] at h
end
end Go.Ab
namespace Go.Ab
section
variable {P:Program} {F:Fix} {C:Cx} {o:Oper} {a:Act} {w w':World} {m m':MF} {I I':Nat→Prop} {ρ ρ':Pl} {d:aE}
variable {n:Nat} {K:dF} {st st':St}
theorem wQ {t:Ty}{x:AT}{y:t.den}{k:aT}(h:(bif t.di then none else match ck m (bY (some t) x) with
  |some d=>match d.as t with
   |some x'=>some (x',(⟨[],cT m x.ids⟩:aT))
   |none=>none
  |none=>none)=some (y,k)):t.di=false∧ck m (bY (some t) x)=some ⟨t,y⟩∧k=⟨[],cT m x.ids⟩:=by
 cases ho:t.di with
 |true=>rw[ho] at h;cases h
 |false=>
  rw[ho] at h
  simp only[cond_false] at h
  split at h
  ·rename_i d hd
   split at h
   ·rename_i x' hx'
    cases h
    have:=bT hx'
    subst this
    exact⟨rfl,hd,rfl⟩
   ·cases h
  ·cases h
inductive iu (m:MF):(t:Ty)→AT→t.den→aT→Prop where
 |whole {id st:Nat} {u:Ty} {xs:List u.den}:rowsOf m id st u=some (false,xs)→iu m (.own u) (.whole id st u) xs ⟨[id],[]⟩
 |front {id st len:Nat} {u:Ty} {xs:List u.den}:rowsOf m id st u=some (false,xs)→iu m (.own u) (.piece id st 0 len u) (xs.take len) ⟨[id],[]⟩
 |nil {u:Ty} {x:AT}:(x = .nil u∨x = .cy)→iu m (.own u) x [] {}
 |pair {a b:Ty} {l r:AT} {ya:a.den} {yb:b.den} {ka kb:aT}:iu m a l ya ka→iu m b r yb kb→iu m (.pair a b) (.pair l r) (ya,yb) (ka.app kb)
 |rest {t:Ty} {x:AT} {y:t.den}:t.di=false→ck m (bY (some t) x)=some ⟨t,y⟩→iu m t x y ⟨[],cT m x.ids⟩
theorem oA {t:Ty}{x:AT}{y:t.den}{k:aT}(h:(bif t.di then none else match ck m (bY (some t) x) with
  |some d=>match d.as t with
   |some x'=>some (x',(⟨[],cT m x.ids⟩:aT))
   |none=>none
  |none=>none)=some (y,k)):iu m t x y k:=by
 obtain⟨h1,h2,h3⟩:=wQ h
 subst h3
 exact .rest h1 h2
theorem oz:∀{t:Ty} {x:AT} {y:t.den} {k:aT},eT m t x=some (y,k)→iu m t x y k:=by
 intro t
 induction t with
 |own u _=>
  intro x y k h
  cases x with
  |whole id st u'=>
   simp only[eT] at h
   split at h
   ·rename_i xs hr
    split at h
    ·rename_i ys hys
     cases h
     have:=bT hys
     cases this
     exact .whole hr
    ·cases h
   ·cases h
  |piece id st off len u'=>
   cases off with
   |zero=>
    simp only[eT] at h
    split at h
    ·rename_i xs hr
     split at h
     ·rename_i ys hys
      cases h
      have:=bT hys
      cases this
      exact .front hr
     ·cases h
    ·cases h
   |succ off=>exact oA (t:=.own u) h
  |nil u'=>
   simp only[eT] at h
   split at h
   ·rename_i ys hys
    cases h
    have:=bT hys
    cases this
    exact .nil (.inl rfl)
   ·cases h
  |cy=>
   simp only[eT] at h
   cases h
   exact .nil (.inr rfl)
  |_=>exact oA (t:=.own u) h
 |pair ta tb aI aH=>
  intro x y k h
  cases x with
  |pair l r=>
   simp only[eT] at h
   split at h
   ·rename_i x1 i x2 j h1 h2
    cases h
    exact .pair (aI h1) (aH h2)
   ·cases h
  |_=>exact oA (t:=.pair ta tb) h
 |_=>intro x y k h;cases x<;>exact oA h
theorem ux {t:Ty}{x:AT}{d:DV}(h:ck m (bY (some t) x)=some d)(ht:d.t=t):x.slot=true∧x.isAgg=t.isAgg:=by
 have h1:=xw h
 rw[ht] at h1
 cases t<;>cases x<;>simp_all [bY,AT.slot,AT.one,AT.isAgg,Ty.isAgg]
theorem xu {t:Ty}{x:AT}{y:t.den}{k:aT}(h:eT m t x=some (y,k)):x.slot=true∧x.isAgg=t.isAgg:=by
 cases oz h with
 |whole _=>exact⟨rfl,rfl⟩
 |front _=>exact⟨rfl,rfl⟩
 |nil e=>rcases e with e|e<;>subst e<;>exact⟨rfl,rfl⟩
 |pair _ _=>exact⟨rfl,rfl⟩
 |rest _ h2=>exact ux h2 rfl
theorem uw {t:Ty}{x:AT}{vs:List Value}(h:af w I m ρ x vs):af w I m ρ (bY (some t) x) vs:=by
 unfold bY
 split
 ·exact h
 ·exact h
theorem rf {t:Ty}{x:AT}{id:Nat}(h:id∈(bY (some t) x).ids):id∈x.ids:=by
 unfold bY at h
 split at h
 ·simp[AT.ids] at h
 ·exact h
theorem qu {I':Nat→Prop}(hm:aD F m w I ρ)(hI:∀B,I B→I' B){t:Ty}{x:AT}{y:t.den}{k:aT}(h:iu m t x y k):∀{vs:List Value},af w I m ρ x vs →
  (∀id∈k.aV,∀b B o,m id=some b→b.live→ρ id=some (B,o)→I' B)→(∀id∈k.own,∀B,aM m ρ id B→¬I' B)→k.own.Nodup →
  ∃Bs,bX w I' t y vs Bs∧Bs.Nodup∧∀B∈Bs,∃id∈k.own,aM m ρ id B:=by
 induction h with
 |whole h1=>
  rename_i id st u xs
  intro vs hr hi ho hn
  obtain⟨Bs,q1,q2⟩:=qc hm hr h1 hI (ho id (by simp))
  refine⟨Bs,q1,?_,?_⟩
  ·rcases q2 with rfl|⟨B,rfl,_⟩<;>simp
  ·rcases q2 with rfl|⟨B,rfl,q2⟩
   ·simp
   ·intro B' aY
    simp only[List.mem_singleton] at aY
    subst aY
    exact⟨id,by simp,q2⟩
 |front h1=>
  rename_i id st len u xs
  intro vs hr hi ho hn
  have hb:=eR h1
  simp only[af] at hr
  obtain⟨_,_,h3⟩:=hr
  obtain⟨ad,cap,e1,e2,i_,e3⟩:=h3 _ hb rfl u xs.length rfl
  have hlen:(xs.take len).length=len:=by simp;omega
  have az:=hm.blk id _ hb
  simp only[aS] at az
  rcases e3.2 rfl with⟨q1,q2,q3⟩|⟨B,o,cs,q1,q2,q3,q4⟩
  ·refine⟨[],⟨ad,cap,by rw[hlen];exact e1,by rw[hlen];exact e2,.inl ⟨q1,q2,rfl⟩⟩,by simp,by simp⟩
  ·rcases az.2 with⟨_,hno⟩|⟨B',o',cs',k1,k2,k3,k4,k5⟩
   ·rw[q1] at hno;cases hno
   ·rw[q1] at k1
    cases k1
    have bG:aM m ρ id B:=⟨_,hb,dP rfl,rfl,.inl ⟨_,q1⟩⟩
    refine⟨[B],⟨ad,cap,by rw[hlen];exact e1,by rw[hlen];exact e2,.inr ⟨B,o,cs,q2,q3,q4,?_,ho id (by simp) B bG,rfl⟩⟩,by simp,fun B' aY=>?_⟩
    ·intro j x hj
     rw[List.getElem?_take] at hj
     split at hj
     ·obtain⟨es,r1,r2,r3⟩:=k4 j x hj
      exact⟨es,r1,r2,aa.mono ⟨hI,fun _ _=>rfl⟩ r3⟩
     ·cases hj
    ·simp only[List.mem_singleton] at aY
     subst aY
     exact⟨id,by simp,bG⟩
 |nil e2=>
  intro vs hr hi ho hn
  have:vs = [.slice none 0 0]:=by rcases e2 with e2|e2<;>subst e2<;>exact hr
  subst this
  exact⟨[],⟨none,0,by simp,by simp,.inl ⟨rfl,rfl,rfl⟩⟩,by simp,by simp⟩
 |pair h1 h2 aI aH=>
  intro vs hr hi ho hn
  obtain⟨v1,v2,e3,r1,r2⟩:=hr
  simp only[aT.app,bp] at hi ho
  simp only[aT.app,bK] at hn
  have hn':=List.nodup_append.1 hn
  obtain⟨B1,q1,q2,q3⟩:=aI r1 (fun id h=>hi id (.inl h)) (fun id h=>ho id (.inl h)) hn'.1
  obtain⟨B2,p1,p2,p3⟩:=aH r2 (fun id h=>hi id (.inr h)) (fun id h=>ho id (.inr h)) hn'.2.1
  refine⟨B1++B2,⟨v1,v2,B1,B2,e3,rfl,q1,p1⟩,gK hm hn q2 p2 q3 p3,fun B hB=>?_⟩
  simp only[aT.app,bK]
  rcases List.mem_append.1 hB with hB|hB
  ·obtain⟨i,hi,h⟩:=q3 B hB;exact⟨i,by simp[hi],h⟩
  ·obtain⟨i,hi,h⟩:=p3 B hB;exact⟨i,by simp[hi],h⟩
 |rest h1 h2=>
  intro vs hr hi ho hn
  exact⟨[],bX.eF (oB (d:=⟨_,_⟩) hm hI (fun id h=>hi id (p5 (rf h))) h2 (uw hr)),by simp,by simp⟩
theorem xq {I':Nat→Prop}(hm:aD F m w I ρ)(hI:∀B,I B→I' B){t:Ty}{x:AT}{y:t.den}{k:aT}{v:Value}(h:oy m t x=some (y,k))(hs:au w I m ρ x v)
  (ho:∀id∈k.own,∀B,aM m ρ id B→¬I' B) (hn:k.own.Nodup):∃cs,v=aL t cs∧∃Bs,aq w I' t y cs Bs∧Bs.Nodup∧∀B∈Bs,∃id∈k.own,aM m ρ id B:=by
 unfold oy at h
 split at h
 ·rename_i d0 hd
  split at h
  ·rename_i y' hy
   cases h
   have:=bT hy
   subst this
   have hs':au w I m ρ (bY (some t) x) v:=lE (u:=some t) hs
   obtain⟨e1,e2⟩:=tN hd
   obtain⟨cs,hv,hr⟩:=ow e1 e2 hs'
   have jy:∀id∈(bY (some t) x).ids,id∈x.ids:=fun id hi=>rf hi
   have hnd:(bY (some t) x).ids.Nodup:=by
    unfold bY
    split
    ·simp[AT.ids]
    ·exact hn
   obtain⟨Bs,Ks,q1,q2,q3,_⟩:=ox (I':=I') hm hI hd hr (fun id hi=>ho id (jy id hi)) hnd
   exact⟨cs,hv,Bs,q1,(List.nodup_append.1 q2).1,fun B hB=>by obtain⟨i,hi,h⟩:=q3 B (List.mem_append_left _ hB);exact⟨i,jy i hi,h⟩⟩
  ·cases h
 ·cases h
end
end Go.Ab
namespace Go.Ab
section
variable {P:Program} {F:Fix} {C:Cx} {o:Oper} {a:Act} {w w':World} {m m':MF} {I I':Nat→Prop} {ρ ρ':Pl} {d:aE}
variable {n:Nat} {K:dF} {st st':St}
def mK (tmps:Array Value):ResultVar→Sem Value
 |.tmp t=>pure (tmps.getD t Go.undef)
 |.cell a t=>do loadVar t (←asAddr (tmps.getD a Go.undef))
theorem vP {C:Cx}{tmps:Array Value}(hC:bH P C)(hm:aD F (find st.mem) w I ρ)(he:∀s av,find st.env s=some av→au w I (find st.mem) ρ av (tmps.getD s Go.undef))
  {r:ResultVar} {x:AT} (h:kR C st r=some x):∃v,(mK tmps r).run P w = .ok v w∧au w I (find st.mem) ρ x v:=by
 cases r with
 |tmp s=>exact⟨_,rfl,he s x h⟩
 |cell s T=>
  simp only[kR] at h
  split at h
  ·rename_i id s0 u hs hu
   split at h
   ·rename_i st0 fz t a hcur
    obtain⟨h1,h2⟩:=aQ h
    cases h2
    have:=Ty.cA h1
    subst this
    have hT:=hC.ty hu
    obtain⟨hb,hst⟩:=cp hcur
    have hx':=bQ (a:=.aZ id s0 []) rfl (he s _ hs) (by simp) (by simp) (by simp) (by simp)
    simp only[af] at hx'
    obtain⟨_,B,hρ,hv⟩:=hx'.2.2 _ hb hst t x rfl
    simp only[List.cons.injEq,and_true,Ty.off] at hv
    have az:=hm.blk id _ hb
    simp only[aS] at az
    obtain⟨ht,B',cs,f1,f2,f3,_⟩:=az
    rw[hρ] at f1
    cases f1
    have hlen:=ht.length f3
    have hload:=hT.tC (w:=w) (B:=B) (o:=0) hlen (fun j _=>by rw[Nat.zero_add];exact f2.cell j)
    refine⟨_,?_,(fo ht).2 (aB.unpack ht hT f3)⟩
    simp only[mK,hv]
    simpa[asAddr] using hload
   ·cases h
  ·cases h
theorem n9 {C:Cx}{tmps:Array Value}(hC:bH P C)(hm:aD F (find st.mem) w I ρ)(hI:∀B,I B→I' B)(he:∀s av,find st.env s=some av→au w I (find st.mem) ρ av (tmps.getD s Go.undef)) :
  ∀{rs:List ResultVar} {ws:List Want} {l:List RV} {k:aT},gy C st rs ws=some (l,k) →
   (∀id∈k.aV,∀b B o,find st.mem id=some b→b.live→ρ id=some (B,o)→I' B)→(∀id∈k.own,∀B,aM (find st.mem) ρ id B→¬I' B)→k.own.Nodup →
   rs.length=ws.length∧∃vals,cB (fun r v=>(mK tmps r).run P w = .ok v w) rs vals∧∃Bs,fC w I' l vals Bs∧Bs.Nodup∧∀B∈Bs,∃id∈k.own,aM (find st.mem) ρ id B
 | [],[],l,k,h,_,_,_=>by
  simp only[gy] at h
  cases h
  exact⟨rfl,[],.nil,[],rfl,by simp,by simp⟩
 | [],_::_,l,k,h,_,_,_=>by simp[gy] at h
 |_::_,[],l,k,h,_,_,_=>by simp[gy] at h
 |r::rs,wt::ws,l,k,h,hi,ho,hn=>by
  simp only[gy] at h
  split at h
  ·rename_i x l' k' hx dj
   obtain⟨v,hrun,pN⟩:=vP hC hm he hx
   split at h
   ·
    rename_i t x2
    split at h
    ·rename_i y i hy
     cases h
     simp only[aT.app,bp] at hi ho
     simp only[aT.app,bK] at hn
     have hn':=List.nodup_append.1 hn
     obtain⟨e1,e2⟩:=xu hy
     obtain⟨cs,hv,hr⟩:=ow e1 e2 pN
     obtain⟨B1,q1,q2,q3⟩:=qu hm hI (oz hy) hr (fun id h=>hi id (.inl h)) (fun id h=>ho id (.inl h)) hn'.1
     obtain⟨p1,vs,p0,B2,p2,p3,p4⟩:=n9 hC hm hI he dj (fun id h=>hi id (.inr h)) (fun id h=>ho id (.inr h)) hn'.2.1
     refine⟨by simp[p1],v::vs,.cons hrun p0,B1++B2,⟨B1,B2,rfl,⟨cs,hv,q1⟩,p2⟩,gK hm hn q2 p3 q3 p4,fun B hB=>?_⟩
     simp only[aT.app,bK]
     rcases List.mem_append.1 hB with hB|hB
     ·obtain⟨i,hi,h⟩:=q3 B hB;exact⟨i,by simp[hi],h⟩
     ·obtain⟨i,hi,h⟩:=p4 B hB;exact⟨i,by simp[hi],h⟩
    ·cases h
   ·
    rename_i t x2
    split at h
    ·rename_i y i hy
     cases h
     simp only[aT.app,bp] at hi ho
     simp only[aT.app,bK] at hn
     have hn':=List.nodup_append.1 hn
     obtain⟨cs,hv,B1,q1,q2,q3⟩:=xq hm hI hy pN (fun id h=>ho id (.inl h)) hn'.1
     obtain⟨p1,vs,p0,B2,p2,p3,p4⟩:=n9 hC hm hI he dj (fun id h=>hi id (.inr h)) (fun id h=>ho id (.inr h)) hn'.2.1
     refine⟨by simp[p1],v::vs,.cons hrun p0,B1++B2,⟨B1,B2,rfl,⟨cs,hv,q1⟩,p2⟩,gK hm hn q2 p3 q3 p4,fun B hB=>?_⟩
     simp only[aT.app,bK]
     rcases List.mem_append.1 hB with hB|hB
     ·obtain⟨i,hi,h⟩:=q3 B hB;exact⟨i,by simp[hi],h⟩
     ·obtain⟨i,hi,h⟩:=p4 B hB;exact⟨i,by simp[hi],h⟩
    ·cases h
   ·
    rename_i t id sd
    split at h
    ·rename_i st0 vt b hcur
     split at h
     ·rename_i y i hy
      cases h
      obtain⟨hb,hst⟩:=cp hcur
      simp only at hst
      subst hst
      simp only[aT.app,app,bp,List.mem_cons] at hi ho
      simp only[aT.app,app,bK] at hn
      have hnc:=List.nodup_cons.1 hn
      have hn':=List.nodup_append.1 hnc.2
      have dO:=bQ (a:=.aZ id st0 []) rfl pN (by simp) (by simp) (by simp) (by simp)
      simp only[af] at dO
      obtain⟨_,B,hρ,hv⟩:=dO.2.2 _ hb rfl vt b rfl
      simp only[List.cons.injEq,and_true,Ty.off] at hv
      have az:=hm.blk id _ hb
      simp only[aS] at az
      obtain⟨_,B',cs,f1,f2,f3,f4⟩:=az
      rw[hρ] at f1
      cases f1
      have bG:aM (find st.mem) ρ id B:=⟨_,hb,iL rfl,rfl,.inl ⟨0,hρ⟩⟩
      obtain⟨B1,q1,q2,q3⟩:=qu hm hI (oz hy) f3 (fun id h=>hi id (.inl h)) (fun id h=>ho id (.inr (.inl h))) hn'.1
      obtain⟨p1,vs,p0,B2,p2,p3,p4⟩:=n9 hC hm hI he dj (fun id h=>hi id (.inr h)) (fun id h=>ho id (.inr (.inr h))) hn'.2.1
      have hall:∀B'∈B1++B2,∃id'∈app i.own k'.own,aM (find st.mem) ρ id' B':=by
       intro B' aY
       rw[bK]
       rcases List.mem_append.1 aY with aY|aY
       ·obtain⟨i,hi,h⟩:=q3 B' aY;exact⟨i,by simp[hi],h⟩
       ·obtain⟨i,hi,h⟩:=p4 B' aY;exact⟨i,by simp[hi],h⟩
      refine⟨by simp[p1],v::vs,.cons hrun p0,B::(B1++B2),⟨B::B1,B2,rfl,⟨B,cs,B1,hv,f2,ho id (.inl rfl) B bG,q1,rfl⟩,p2⟩,?_,?_⟩
      ·rw[List.nodup_cons]
       refine⟨fun hin=>?_,gK hm hnc.2 q2 p3 q3 p4⟩
       obtain⟨j,hj,cQ⟩:=hall B hin
       have:=cQ.inj hm bG
       subst this
       rw[bK] at hj
       exact hnc.1 hj
      ·intro B' aY
       simp only[aT.app,app]
       rcases List.mem_cons.1 aY with e|aY
       ·subst e;exact⟨id,by simp,bG⟩
       ·obtain⟨j,hj,cQ⟩:=hall B' aY;exact⟨j,by simp only[List.mem_cons];exact .inr hj,cQ⟩
     ·cases h
    ·cases h
   ·cases h
  ·cases h
theorem aa.free:∀{t:Ty} {x:t.den} {vs:List Value} {w w':World} {I I':Nat→Prop},t.aK=false→aa w I t x vs→aa w' I' t x vs:=by
 intro t
 induction t with
 |lst t _=>intro x vs w w' I I' h;simp[Ty.aK] at h
 |ref t _=>intro x vs w w' I I' h;simp[Ty.aK] at h
 |own t _=>intro x vs w w' I I' _ h;simp only[aa] at h
 |pair a b aI aH=>
  intro x vs w w' I I' h hr
  simp only[Ty.aK,Bool.or_eq_false_iff] at h
  simp only[aa] at hr ⊢
  obtain⟨v1,v2,e,h1,h2⟩:=hr
  exact⟨v1,v2,e,aI h.1 h1,aH h.2 h2⟩
 |arr n t ih=>
  intro x vs w w' I I' h hr
  simp only[aa] at hr ⊢
  exact⟨hr.1,aR.mono (fun x vs hh=>ih (by simpa[Ty.aK] using h) hh) hr.2⟩
 |_=>intro x vs w w' I I' _ h;exact h
def fy (w0:World)(m0:MF)(pl:Pl):(t:Ty)→t.den→Nat→List Value→Prop
 |.lst t,xs,n,vs=>m0 n=some ⟨0,false,jG t xs⟩∧∃ad cap,vs = [.slice ad xs.length cap]∧xs.length≤cap∧eu w0 pl n t.size ad cap
 |.pair a b,x,n,vs=>match(Ty.pair a b).aK with
  |true=>∃v1 v2,vs=v1++v2∧fy w0 m0 pl a x.1 n v1∧fy w0 m0 pl b x.2 (aP (fun _=>none) a x.1 n).2.2 v2
  |false=>∃J,aa w0 J (.pair a b) x vs
 |t,x,_,vs=>t.aK=false∧∃J,aa w0 J t x vs
theorem injD_num (m m':MF):∀(t:Ty) (x y:t.den) (n:Nat),(aP m t x n).2.2=(aP m' t y n).2.2:=by
 intro t
 induction t with
 |pair a b aI aH=>
  intro x y n
  simp only[aP]
  cases (Ty.pair a b).aK with
  |true=>simp only[cond_true];rw[aI x.1 y.1 n];exact aH x.2 y.2 _
  |false=>rfl
 |_=>intro x y n;rfl
theorem xy {m:MF}:∀{t:Ty} {x y:t.den} {n e:Nat} {l:List Nat},gU m t x n=some (y,l,e)→e=(aP (fun _=>none) t x n).2.2:=by
 intro t
 induction t with
 |lst t _=>
  intro x y n e l h
  simp only[gU] at h
  obtain⟨_,h⟩:=aQ h
  split at h
  ·cases h;rfl
  ·cases h
 |pair a b aI aH=>
  intro x y n e l h
  simp only[gU] at h
  simp only[aP]
  cases hl:(Ty.pair a b).aK with
  |false=>rw[hl] at h;cases h;rfl
  |true=>
   rw[hl] at h
   simp only[cond_true] at h ⊢
   split at h
   ·rename_i y1 l1 k h1
    split at h
    ·rename_i z l2 e2 h2
     cases h
     have:=aI h1
     rw[←this]
     exact aH h2
    ·cases h
   ·cases h
 |_=>intro x y n e l h;simp only[gU,Option.some.injEq,Prod.mk.injEq] at h;exact h.2.2.symm
theorem wU {t:Ty}{x:List t.den}{c:BC}{k:Nat}(h:dK (jG t x) c)(ha:c.arr=some (t,k)):x.length=k:=by
 unfold jG at h
 cases hl:t.aK<;>rw[hl] at h<;>cases c<;>simp only[BC.arr,reduceCtorEq,Option.some.injEq,Prod.mk.injEq] at ha<;>simp only[cond_true,cond_false,dK] at h
 ·exact h.2.trans ha.2
 ·exact h.2.trans ha.2
theorem xz {w0:World}{m0 m:MF}{pl:Pl}(hm:aD F m w I ρ)(hI:∀B,I B→I' B)
  (hk:∀id b0,eN id=true→m0 id=some b0→∃b,m id=some b∧(0<b.st∨(b.st=0∧dK b0.c b.c∧ρ id=pl id ∧
   (b0.live→∀B o,pl id=some (B,o)→∀cs,Cells w0 B cs→∃cs',Cells w B cs'∧cs.length≤cs'.length)))) :
  ∀{t:Ty} {x y:t.den} {n e:Nat} {l:List Nat} {cs:List Value},gU m t x n=some (y,l,e)→fy w0 m0 pl t x n cs→(∀id∈l,∀B,aM m ρ id B→¬I' B)→l.Nodup →
   ∃Bs,aq w I' t y cs Bs∧Bs.Nodup∧(∀B∈Bs,∃id∈l,aM m ρ id B)∧Grown w0 w cs:=by
 intro t
 have scal:∀{t:Ty} {y:t.den} {cs:List Value},t.aK=false→(∃J,aa w0 J t y cs)→∃Bs,aq w I' t y cs Bs∧Bs.Nodup∧(∀B∈Bs,∃id∈([]:List Nat),aM m ρ id B)∧Grown w0 w cs:=by
  rintro t y cs hl ⟨J,hr⟩
  refine⟨[],aq.eF hl (aa.free hl hr),by simp,by simp,?_⟩
  have none:∀{t:Ty} {y:t.den} {cs:List Value},t.aK=false→aa w0 J t y cs→∀a n c,¬Value.slice a n c∈cs:=by
   intro t
   induction t with
   |lst t _=>intro y cs h;simp[Ty.aK] at h
   |ref t _=>intro y cs h;simp[Ty.aK] at h
   |own t _=>intro y cs _ h;simp only[aa] at h
   |pair a b aI aH=>
    intro y cs h hr a' n c hin
    simp only[Ty.aK,Bool.or_eq_false_iff] at h
    simp only[aa] at hr
    obtain⟨v1,v2,e,h1,h2⟩:=hr
    subst e
    rcases List.mem_append.1 hin with hin|hin
    ·exact aI h.1 h1 a' n c hin
    ·exact aH h.2 h2 a' n c hin
   |arr k t ih=>
    intro y cs h hr a' n c hin
    simp only[aa] at hr
    have:∀{xs:List t.den} {vs:List Value},aR (aa w0 J t) xs vs→¬Value.slice a' n c∈vs:=by
     intro xs
     induction xs with
     |nil=>intro vs h;cases h;simp
     |cons x xs fW=>
      rintro vs ⟨v1,v2,e,h1,h2⟩ hin
      subst e
      rcases List.mem_append.1 hin with hin|hin
      ·exact ih (by simpa[Ty.aK] using h) h1 a' n c hin
      ·exact fW h2 hin
    exact this hr.2 hin
   |unit=>intro y cs _ hr a' n c hin;simp only[aa] at hr;subst hr;simp at hin
   |bool=>intro y cs _ hr a' n c hin;simp only[aa] at hr;subst hr;simp at hin
   |int k=>intro y cs _ hr a' n c hin;simp only[aa] at hr;subst hr;simp at hin
   |str=>intro y cs _ hr a' n c hin;simp only[aa] at hr;subst hr;simp at hin
  intro B o n cap hin
  exact absurd hin (none hl hr _ _ _)
 induction t with
 |lst t _=>
  intro x y n e l cs h hh ho hn
  simp only[gU] at h
  obtain⟨hp,h⟩:=aQ h
  split at h
  ·rename_i ys hown
   cases h
   obtain⟨hm0,ad,cap,hv,hcap,nM⟩:=hh
   obtain⟨b,hb,eC⟩:=hk n _ hp hm0
   have hb0:b.st=0∧b.c.arr=some (t,y.length):=by
    rcases oa hown with⟨h1,_⟩|⟨fz,rs,h1⟩<;>(rw[hb] at h1;cases h1;exact⟨rfl,rfl⟩)
   rcases eC with eC|⟨_,hsh,hρ,hgrow⟩
   ·omega
   ·have hlen:x.length=y.length:=wU hsh hb0.2
    have cL:(⟨0,false,jG t x⟩:ag).live:=by unfold ag.live jG;cases t.aK<;>trivial
    have hatr:af w I m ρ (.whole n 0 t) cs:=by
     simp only[af]
     refine⟨⟨_,hv,rfl⟩,bR.of hb hb0.1,fun b' hb' hs u k bU=>?_⟩
     rw[hb] at hb'
     cases hb'
     rw[hb0.2] at bU
     cases bU
     refine⟨ad,cap,by rw[hv,hlen],by omega,?_⟩
     rcases nM with⟨e1,e2,e3⟩|⟨B,o0,cs0,e1,e2,e3,e4⟩
     ·exact .inl ⟨e1,e2,hρ.trans e3⟩
     ·obtain⟨cs2,g1,g2⟩:=hgrow cL B o0 e1 cs0 e3
      exact .inr ⟨B,o0,cs2,hρ.trans e1,e2,g1,by omega⟩
    obtain⟨Bs,q1,q2,q3⟩:=tf hm hatr hown hI (ho n (by simp))
    refine⟨Bs,q1,q2,fun B hB=>⟨n,by simp,q3 B hB⟩,?_⟩
    intro B o k c hin ds hds
    rw[hv] at hin
    simp only[List.mem_singleton,Value.slice.injEq] at hin
    rcases nM with⟨e1,e2,e3⟩|⟨B',o0,cs0,e1,e2,e3,e4⟩
    ·rw[e1] at hin;cases hin.1
    ·rw[e2] at hin
     simp only[Option.some.injEq,Addr.mk.injEq,and_true] at hin
     obtain⟨⟨rfl,rfl⟩,_⟩:=hin
     exact hgrow cL B o e1 ds hds
  ·cases h
 |pair a b aI aH=>
  intro x y n e l cs h hh ho hn
  simp only[gU] at h
  unfold fy at hh
  cases hl:(Ty.pair a b).aK with
  |false=>
   rw[hl] at h hh
   cases h
   exact scal hl hh
  |true=>
   rw[hl] at h hh
   simp only[cond_true] at h hh
   split at h
   ·rename_i y1 l1 k h1
    split at h
    ·rename_i z l2 e2 h2
     cases h
     obtain⟨v1,v2,rfl,g1,g2⟩:=hh
     have hnum:=xy h1
     rw[←hnum] at g2
     simp only[bK] at hn ho
     have hn':=List.nodup_append.1 hn
     obtain⟨B1,q1,q2,q3,q4⟩:=aI h1 g1 (fun id hi=>ho id (by simp[hi])) hn'.1
     obtain⟨B2,p1,p2,p3,p4⟩:=aH h2 g2 (fun id hi=>ho id (by simp[hi])) hn'.2.1
     refine⟨B1++B2,by simp only[aq];exact⟨v1,v2,B1,B2,rfl,rfl,q1,p1⟩,gK hm hn q2 p2 q3 p3,fun B hB=>?_,fun B o k c hin=>?_⟩
     ·simp only[bK]
      rcases List.mem_append.1 hB with hB|hB
      ·obtain⟨i,hi,h⟩:=q3 B hB;exact⟨i,by simp[hi],h⟩
      ·obtain⟨i,hi,h⟩:=p3 B hB;exact⟨i,by simp[hi],h⟩
     ·rcases List.mem_append.1 hin with hin|hin
      ·exact q4 B o k c hin
      ·exact p4 B o k c hin
    ·cases h
   ·cases h
 |_=>
  intro x y n e l cs h hh ho hn
  simp only[gU,Option.some.injEq,Prod.mk.injEq] at h
  obtain⟨h1,rfl,rfl⟩:=h
  have hxy:x=y:=by first|exact h1|rfl
  subst hxy
  simp only[fy] at hh
  exact scal hh.1 hh.2
theorem r7 {s:Nat}(h:s<50):eN (pid s)=true:=by
 unfold eN pid
 rw[Bool.and_eq_true]
 exact⟨Nat.ble_eq_true_of_le (by omega),Nat.ble_eq_true_of_le (by omega)⟩
def mT (w0:World)(m0:MF)(pl:Pl)(s:Nat):Arg→Value→Prop
 |.p d,v=>∃B,pl (pid s)=some (B,0)∧v = .pointer (some ⟨B,0,none⟩)∧∃x,m0 (pid s)=some ⟨0,false,.var d.t.aV x⟩
 |.d y,v=>∃cs,v=aL y.t cs∧fy w0 m0 pl y.t y.x (lH s) cs
 |.m t xs,v=>m0 (pid s)=some ⟨0,false,.rows t xs⟩∧∃ad cap,v = .slice ad xs.length cap∧xs.length≤cap∧eu w0 pl (pid s) t.size ad cap
 |_,_=>True
def lq (w0:World)(m0:MF)(pl:Pl):Nat→List Arg→List Value→Prop
 |_,[],[]=>True
 |s,x::l,v::vs=>mT w0 m0 pl s x v∧lq w0 m0 pl (s+1) l vs
 |_,_,_=>False
theorem lf {w0:World}{m0:MF}{pl:Pl}(hm:aD F (find st.mem) w I ρ)(hI:∀B,I B→I' B)
  (hk:∀id b0,eN id=true→m0 id=some b0→∃b,find st.mem id=some b∧(0<b.st∨(b.st=0∧dK b0.c b.c∧ρ id=pl id ∧
   (b0.live→∀B o,pl id=some (B,o)→∀cs,Cells w0 B cs→∃cs',Cells w B cs'∧cs.length≤cs'.length)))) :
  ∀{args:List Arg} {s:Nat} {vals:List Value} {us:List DV} {k:aT},s+args.length≤50→fq st s args=some (us,k)→lq w0 m0 pl s args vals →
   (∀id∈k.aV,∀b B o,find st.mem id=some b→b.live→ρ id=some (B,o)→I' B)→(∀id∈k.own,∀B,aM (find st.mem) ρ id B→¬I' B)→k.own.Nodup →
   ∃Bs,bS w0 w I' args vals us Bs∧Bs.Nodup∧∀B∈Bs,∃id∈k.own,aM (find st.mem) ρ id B
 | [],s,[],us,k,_,h,_,_,_,_=>by
  simp only[fq] at h
  cases h
  exact⟨[],rfl,by simp,by simp⟩
 | [],s,_::_,us,k,_,h,hf,_,_,_=>hf.elim
 |_::_,s,[],us,k,_,h,hf,_,_,_=>by cases hf
 |.v d::l,s,v::vs,us,k,hs,h,hf,hi,ho,hn=>by
  simp only[fq] at h
  obtain⟨Bs,q⟩:=lf hm hI hk (by simp only[List.length_cons] at hs;omega) h hf.2 hi ho hn
  exact⟨Bs,q⟩
 |.f g d::l,s,v::vs,us,k,hs,h,hf,hi,ho,hn=>by
  simp only[fq] at h
  obtain⟨Bs,q⟩:=lf hm hI hk (by simp only[List.length_cons] at hs;omega) h hf.2 hi ho hn
  exact⟨Bs,q⟩
 |.d y::l,s,v::vs,us,k,hs,h,hf,hi,ho,hn=>by
  simp only[List.length_cons] at hs
  simp only[fq] at h
  split at h
  ·rename_i x i e r ids hx dj
   cases h
   obtain⟨⟨cs,hv,hh⟩,hf'⟩:=hf
   simp only[aT.app,app,bp] at hi ho
   simp only[aT.app,app,bK] at hn
   have hn':=List.nodup_append.1 hn
   obtain⟨B1,q1,q2,q3,q4⟩:=xz hm hI hk hx hh (fun id h=>ho id (.inl h)) hn'.1
   obtain⟨B2,p2,p3,p4⟩:=lf hm hI hk (by omega) dj hf' hi (fun id h=>ho id (.inr h)) hn'.2.1
   refine⟨B1++B2,⟨cs,B1,B2,hv,rfl,q1,rfl,q4,p2⟩,gK hm hn q2 p3 q3 p4,fun B hB=>?_⟩
   simp only[aT.app,bK]
   rcases List.mem_append.1 hB with hB|hB
   ·obtain⟨i,hi,h⟩:=q3 B hB;exact⟨i,by simp[hi],h⟩
   ·obtain⟨i,hi,h⟩:=p4 B hB;exact⟨i,by simp[hi],h⟩
  ·cases h
 |.p d::l,s,v::vs,us,k,hs,h,hf,hi,ho,hn=>by
  simp only[List.length_cons] at hs
  simp only[fq] at h
  split at h
  ·rename_i vt x r ids hb dj
   split at h
   ·rename_i y i hy
    cases h
    obtain⟨⟨B,hpl,hv,x0,hm0⟩,hf'⟩:=hf
    obtain⟨b,hb',eC⟩:=hk (pid s) _ (r7 (by omega)) hm0
    rw[hb] at hb'
    cases hb'
    rcases eC with eC|⟨_,hsh,hρ,_⟩
    ·simp at eC
    ·rw[hpl] at hρ
     have az:=hm.blk _ _ hb
     simp only[aS] at az
     obtain⟨_,B',cs,f1,f2,f3,f4⟩:=az
     rw[hρ] at f1
     cases f1
     have bG:aM (find st.mem) ρ (pid s) B:=⟨_,hb,iL rfl,rfl,.inl ⟨0,hρ⟩⟩
     simp only[aT.app,app,bp,List.mem_cons] at hi ho
     simp only[aT.app,app,bK] at hn
     have hnc:=List.nodup_cons.1 hn
     have hn':=List.nodup_append.1 hnc.2
     obtain⟨B1,q1,q2,q3⟩:=qu hm hI (oz hy) f3 (fun id h=>hi id (.inl h)) (fun id h=>ho id (.inr (.inl h))) hn'.1
     obtain⟨B2,p2,p3,p4⟩:=lf hm hI hk (by omega) dj hf' (fun id h=>hi id (.inr h)) (fun id h=>ho id (.inr (.inr h))) hn'.2.1
     have hall:∀B'∈B1++B2,∃id'∈app i.own ids.own,aM (find st.mem) ρ id' B':=by
      intro B' aY
      rw[bK]
      rcases List.mem_append.1 aY with aY|aY
      ·obtain⟨i,hi,h⟩:=q3 B' aY;exact⟨i,by simp[hi],h⟩
      ·obtain⟨i,hi,h⟩:=p4 B' aY;exact⟨i,by simp[hi],h⟩
     refine⟨B::(B1++B2),⟨B,cs,B1,B2,hv,f2,ho (pid s) (.inl rfl) B bG,rfl,q1,rfl,p2⟩,?_,?_⟩
     ·rw[List.nodup_cons]
      refine⟨fun hin=>?_,gK hm hnc.2 q2 p3 q3 p4⟩
      obtain⟨j,hj,cQ⟩:=hall B hin
      have:=cQ.inj hm bG
      subst this
      rw[bK] at hj
      exact hnc.1 hj
     ·intro B' aY
      simp only[aT.app,app]
      rcases List.mem_cons.1 aY with e|aY
      ·subst e;exact⟨pid s,by simp,bG⟩
      ·obtain⟨j,hj,cQ⟩:=hall B' aY;exact⟨j,by simp only[List.mem_cons];exact .inr hj,cQ⟩
   ·cases h
  ·cases h
 |.m t xs::l,s,v::vs,us,k,hs,h,hf,hi,ho,hn=>by
  simp only[List.length_cons] at hs
  simp only[fq] at h
  split at h
  ·rename_i ys r ids hr dj
   cases h
   obtain⟨⟨hm0,ad,cap,hv,hcap,nM⟩,hf'⟩:=hf
   have hb:=eR hr
   obtain⟨b,hb',eC⟩:=hk (pid s) _ (r7 (by omega)) hm0
   rw[hb] at hb'
   cases hb'
   rcases eC with eC|⟨_,hsh,hρ,hgrow⟩
   ·simp at eC
   ·have hlen:xs.length=ys.length:=hsh.2
    have az:=hm.blk _ _ hb
    simp only[aS] at az
    obtain⟨_,az⟩:=az
    simp only[aT.app,app,List.mem_cons] at hi ho
    simp only[aT.app,app] at hn
    have hnc:=List.nodup_cons.1 hn
    obtain⟨B2,p2,p3,p4⟩:=lf hm hI hk (by omega) dj hf' hi (fun id h=>ho id (.inr h)) hnc.2
    rcases nM with⟨e1,e2,e3⟩|⟨B,o0,cs,e1,e2,e3,e4⟩
    ·
     refine⟨B2,⟨ys,[],B2,rfl,hlen.symm,⟨ad,cap,by rw[hv,hlen],by omega,.inl ⟨e1,e2,rfl⟩⟩,rfl,by simp,p2⟩,p3,fun B hB=>?_⟩
     obtain⟨j,hj,h⟩:=p4 B hB
     exact⟨j,by simp only[aT.app,app,List.mem_cons];exact .inr hj,h⟩
    ·rw[e1] at hρ
     obtain⟨cs2,g1,g2⟩:=hgrow (dP rfl) B o0 e1 cs e3
     rcases az with⟨_,hno⟩|⟨B',o',cs',f1,f2,f3,f4,f5⟩
     ·rw[hno] at hρ;cases hρ
     ·rw[hρ] at f1
      cases f1
      have bG:aM (find st.mem) ρ (pid s) B:=⟨_,hb,dP rfl,rfl,.inl ⟨o0,hρ⟩⟩
      have hlen2:cs'.length=cs2.length:=by rw[f2.unique g1]
      refine⟨B::B2,⟨ys,[B],B2,rfl,hlen.symm,⟨ad,cap,by rw[hv,hlen],by omega,.inr ⟨B,o0,cs',e2,f2,by omega,f4.mono (fun _=>rfl) (fun x vs h=>aa.mono ⟨hI,fun _ _=>rfl⟩ h),ho (pid s) (.inl rfl) B bG,rfl⟩⟩,rfl,?_,p2⟩,?_,?_⟩
      ·intro B' aY cs3 hcs3
       simp only[List.mem_singleton] at aY
       subst aY
       have:cs3.length=cs.length:=by rw[hcs3.unique e3]
       exact⟨cs2,g1,by omega⟩
      ·rw[List.nodup_cons]
       refine⟨fun hin=>?_,p3⟩
       obtain⟨j,hj,cQ⟩:=p4 B hin
       have:=cQ.inj hm bG
       subst this
       exact hnc.1 hj
      ·intro B' aY
       simp only[aT.app,app]
       rcases List.mem_cons.1 aY with e|aY
       ·subst e;exact⟨pid s,by simp,bG⟩
       ·obtain⟨j,hj,cQ⟩:=p4 B' aY;exact⟨j,by simp only[List.mem_cons];exact .inr hj,cQ⟩
  ·cases h
end
end Go.Ab
namespace Go.Ab
section
variable {P:Program} {F:Fix} {C:Cx} {o:Oper} {a:Act} {w w':World} {m m':MF} {I I':Nat→Prop} {ρ ρ':Pl} {d:aE}
variable {n:Nat} {K:dF} {st st':St}
def iX:Nat→List Arg→List (Nat×AT)
 |_,[]=>[]
 |s,x::l=>(s,(cV s x).1)::iX (s+1) l
def dX:Nat→List Arg→Mem
 |_,[]=>[]
 |s,x::l=>app (cV s x).2 (dX (s+1) l)
theorem ug {α:Type}(x y z:List α):app (app x y) z=app x (app y z):=by simp[bK]
theorem qO {α:Type}(x:List α):app x []=x:=by simp[bK]
theorem qT:∀(args:List Arg) (s:Nat) (st:St),jT s args st=⟨app st.env (iX s args),app st.mem (dX s args),st.ok⟩
 | [],s,st=>by simp[jT,iX,dX,qO]
 |x::l,s,st=>by
  simp only[jT,iX,dX]
  rw[qT l]
  simp only[ug,app]
theorem r6:∀{t:Ty} {x:t.den} {n i:Nat} {b:ag},(i,b)∈(aW (fun _=>none) t x n).2.1→b.st=0:=by
 intro t
 induction t with
 |own u ih=>intro x n i b h;simp only[aW,List.mem_singleton,Prod.mk.injEq] at h;obtain⟨_,rfl⟩:=h;rfl
 |pair u v ihu ihv=>
  intro x n i b h
  simp only[aW] at h
  cases hh:(Ty.pair u v).di with
  |false=>rw[hh] at h;simp at h
  |true=>
   rw[hh] at h
   simp only[cond_true,bp] at h
   rcases h with h|h
   ·exact ihu h
   ·exact ihv h
 |_=>intro x n i b h;simp[aW] at h
theorem vB:∀{t:Ty} {x:t.den} {n i:Nat} {b:ag},(i,b)∈(aP (fun _=>none) t x n).2.1→b.st=0:=by
 intro t
 induction t with
 |lst u ih=>intro x n i b h;simp only[aP,List.mem_singleton,Prod.mk.injEq] at h;obtain⟨_,rfl⟩:=h;rfl
 |pair u v ihu ihv=>
  intro x n i b h
  simp only[aP] at h
  cases hh:(Ty.pair u v).aK with
  |false=>rw[hh] at h;simp at h
  |true=>
   rw[hh] at h
   simp only[cond_true,bp] at h
   rcases h with h|h
   ·exact ihu h
   ·exact ihv h
 |_=>intro x n i b h;simp[aP] at h
theorem qS:∀{args:List Arg} {s i:Nat} {b:ag},(i,b)∈dX s args→b.st=0
 | [],s,i,b,h=>by simp[dX] at h
 |x::l,s,i,b,h=>by
  simp only[dX,bp] at h
  rcases h with h|h
  ·cases x with
   |v d=>exact r6 h
   |d y=>exact vB h
   |p d=>
    simp only[cV,List.mem_cons,Prod.mk.injEq] at h
    rcases h with⟨_,rfl⟩|h
    ·rfl
    ·exact r6 h
   |m t xs=>simp only[cV,List.mem_singleton,Prod.mk.injEq] at h;obtain⟨_,rfl⟩:=h;rfl
   |f g d=>simp[cV] at h
  ·exact qS h
theorem vC:∀(t:Ty) (x:t.den) (n:Nat),∀A b,(aW m t x n).1 ≠ .bC A b:=by
 intro t x n A b h
 cases t with
 |pair u v=>
  simp only[aW] at h
  cases hh:(Ty.pair u v).di<;>rw[hh] at h<;>cases h
 |_=>cases h
theorem vw:∀(t:Ty) (x:t.den) (n:Nat),∀A b,(aP m t x n).1 ≠ .bC A b:=by
 intro t x n A b h
 cases t with
 |pair u v=>
  simp only[aP] at h
  cases hh:(Ty.pair u v).aK<;>rw[hh] at h<;>cases h
 |_=>cases h
theorem uk (s:Nat)(x:Arg):∀A b,(cV s x).1 ≠ .bC A b:=by
 intro A b h
 cases x with
 |v d=>exact vC _ _ _ A b h
 |d y=>exact vw _ _ _ A b h
 |_=>cases h
theorem oM:∀{args:List Arg} {s t:Nat} {x:AT},find (iX s args) t=some x→∃k y,args[k]?=some y∧t=s+k∧x=(cV t y).1
 | [],s,t,x,h=>by simp[iX,find] at h
 |y::l,s,t,x,h=>by
  simp only[iX,aG] at h
  split at h
  ·rename_i e
   cases h
   subst e
   exact⟨0,y,rfl,rfl,rfl⟩
  ·obtain⟨k,z,h1,h2,h3⟩:=oM h
   exact⟨k+1,z,by simpa using h1,by omega,h3⟩
theorem q8:∀{t:Ty} {x:t.den} {vs:List Value},kz w I t x vs→af w I m ρ (oV t x) vs
 |.pair a b,x,vs,h=>by
  simp only[kz] at h
  obtain⟨v,l,e,_,h1,h2⟩:=h
  exact⟨v,l,e,h1,q8 h2⟩
 |.unit,_,vs,h=>h
theorem vD {t:Ty}{x:t.den}{n:Nat}{cs:List Value}(h:af w I m ρ (aW m' t x n).1 cs)(hl:cs.length=t.size):au w I m ρ (aW m' t x n).1 (aL t cs):=by
 have ht:=lZ m' t x n
 refine(fo ht).2 ?_
 have ha:(aW m' t x n).1.isAgg=t.isAgg:=by
  cases t with
  |pair u v=>
   simp only[aW]
   cases hh:(Ty.pair u v).di<;>rfl
  |_=>rfl
 unfold aB aL
 rw[ha]
 cases hh:t.isAgg with
 |true=>exact⟨cs.toArray,rfl,h⟩
 |false=>
  simp only[Bool.false_eq_true,if_false]
  have hsz:t.size=1:=by cases t<;>simp_all [Ty.isAgg,Ty.size]
  rw[hsz] at hl
  obtain⟨v,rfl⟩:=List.length_eq_one_iff.1 hl
  exact h
theorem vA {t:Ty}{x:t.den}{n:Nat}{cs:List Value}(h:af w I m ρ (aP m' t x n).1 cs):au w I m ρ (aP m' t x n).1 (aL t cs):=
 (fo (pQ m' t x n)).2 (qB (pQ m' t x n) h rfl)
theorem vm:∀{t:Ty} {x:t.den} {vs:List Value} {Bs:List Nat} (n:Nat),aq w I t x vs Bs→Bs.Nodup →
  ∃pl:Pl,a_ w I (aP (fun _=>none) t x n).2.1 Bs pl∧(∀m' ρ',Fits (aP (fun _=>none) t x n).2.1 pl m' ρ'→af w I m' ρ' (aP (fun _=>none) t x n).1 vs) ∧
   (∀i b,find (aP (fun _=>none) t x n).2.1 i=some b→n≤i∧i<(aP (fun _=>none) t x n).2.2) ∧
   ∀m' dz,(∀i b,find (aP (fun _=>none) t x n).2.1 i=some b→m' i=some b∧dz i=pl i)→fy w m' dz t x n vs:=by
 intro t
 have j7:∀{t:Ty} {x:t.den} {vs:List Value} {Bs:List Nat} {n:Nat} {av:AT},Bs = []→aa w I t x vs→av = .leaf t x→(∀m' dz,fy w m' dz t x n vs) →
   ∃pl:Pl,a_ w I [] Bs pl∧(∀m' ρ',Fits [] pl m' ρ'→af w I m' ρ' av vs)∧(∀i b,find ([]:Mem) i=some b→n≤i∧i<n)∧∀m' dz,(∀i b,find ([]:Mem) i=some b→m' i=some b∧dz i=pl i)→fy w m' dz t x n vs:=by
  intro t x vs Bs n av e h1 h2 h3
  subst e h2
  exact⟨⟨fun _=>none,fun _=>[]⟩,a_.nil _,fun _ _ _=>h1,fun i b h=>by simp[find] at h,fun m' dz _=>h3 m' dz⟩
 induction t with
 |lst t _=>
  intro x vs Bs n h hnd
  obtain⟨pl,h1,h2,h3⟩:=a_.list (n:=n) (st:=aU (fun _=>none) n) (sO t x) h hnd
  refine⟨pl,h1,h3,fun i b hb=>?_,fun m' dz hp=>?_⟩
  ·simp only[aP,aG] at hb
   split at hb
   ·rename_i e
    subst e
    simp[aP]
   ·simp[find] at hb
  ·obtain⟨p1,p2⟩:=hp n _ (by simp only[aP];rw[aG,if_pos rfl])
   refine⟨p1,?_⟩
   simp only[aq] at h
   obtain⟨ad,cap,e,hl,eC⟩:=h
   refine⟨ad,cap,e,hl,?_⟩
   rw[h2,e] at p2
   rcases eC with⟨q1,q2,_⟩|⟨B,o',cs,Ds,q1,q2,q3,_⟩
   ·subst q1
    exact .inl ⟨rfl,q2,p2⟩
   ·subst q1
    exact .inr ⟨B,o',cs,p2,rfl,q2,q3⟩
 |pair a b aI aH=>
  intro x vs Bs n h hnd
  cases ho:(Ty.pair a b).aK with
  |false=>
   obtain⟨h1,h2⟩:=aq.rep ho h
   simp only[aP,ho,cond_false]
   exact j7 h2 h1 rfl fun m' dz=>by unfold fy;rw[ho];exact⟨I,h1⟩
  |true=>
   simp only[aq] at h
   obtain⟨v1,v2,B1,B2,e,eb,h1,h2⟩:=h
   subst eb
   simp only[aP,ho,cond_true]
   have cF:=List.nodup_append.1 hnd
   obtain⟨p1,k1,k2,k3,k4⟩:=aI n h1 cF.1
   obtain⟨p2,q1,q2,q3,q4⟩:=aH (aP (fun _=>none) a x.1 n).2.2 h2 cF.2.1
   have hle:=lX (fun _=>none) a x.1 n
   have nN:=lX (fun _=>none) b x.2 (aP (fun _=>none) a x.1 n).2.2
   have fG:∀i b' c,find (aP (fun _=>none) a x.1 n).2.1 i=some b'→find (aP (fun _=>none) b x.2 (aP (fun _=>none) a x.1 n).2.2).2.1 i=some c→False:=by
    intro i b' c hb hc
    have:=(k3 i b' hb).2
    have:=(q3 i c hc).1
    omega
   refine⟨bA (aP (fun _=>none) a x.1 n).2.1 p1 p2,a_.app k1 q1 cF.2.2 fG,fun m' ρ' hf=>?_,fun i b' hb=>?_,fun m' dz hp=>?_⟩
   ·simp only[af]
    exact⟨v1,v2,e,k2 m' ρ' hf.left,q2 m' ρ' (hf.right fG)⟩
   ·rw[b9] at hb
    split at hb
    ·rename_i c hc
     cases hb
     obtain⟨r1,r2⟩:=k3 i _ hc
     exact⟨r1,by omega⟩
    ·obtain⟨r1,r2⟩:=q3 i b' hb
     exact⟨by omega,r2⟩
   ·unfold fy
    rw[ho]
    refine⟨v1,v2,e,k4 m' dz fun i c hc=>?_,q4 m' dz fun i c hc=>?_⟩
    ·obtain⟨r1,r2⟩:=hp i c (by rw[b9,hc])
     exact⟨r1,r2.trans (iP hc).1⟩
    ·have hno:find (aP (fun _=>none) a x.1 n).2.1 i=none:=by
      cases hf:find (aP (fun _=>none) a x.1 n).2.1 i with
      |none=>rfl
      |some c'=>exact(fG i c' c hf hc).elim
     obtain⟨r1,r2⟩:=hp i c (by rw[b9,hno];exact hc)
     exact⟨r1,r2.trans (iO hno).1⟩
 |own t _=>intro x vs Bs n h;simp only[aq] at h
 |ref t _=>intro x vs Bs n h;simp only[aq] at h
 |arr k t _=>
  intro x vs Bs n h hnd
  simp only[aq] at h
  simp only[aP]
  exact j7 h.1 h.2.2 rfl fun m' dz=>⟨by simpa[Ty.aK] using h.2.1,I,h.2.2⟩
 |_=>intro x vs Bs n h hnd;simp only[aq] at h;simp only[aP];exact j7 h.1 h.2 rfl fun m' dz=>⟨rfl,I,h.2⟩
theorem arg_ok {x:Arg}{s:Nat}{v:Value}{Bs:List Nat}(h:ArgO w I x v Bs)(hn:Bs.Nodup)(hI:∀B∈Bs,¬I B)(hk:((cV s x).2.map (·.1)).Nodup) :
  ∃pl,a_ w I (cV s x).2 Bs pl∧(∀m' ρ',Fits (cV s x).2 pl m' ρ'→au w I m' ρ' (cV s x).1 v)∧mT w (find (cV s x).2) pl s x v:=by
 cases x with
 |v d=>
  obtain⟨cs,hv,hr⟩:=h
  obtain⟨pl,h1,h2⟩:=lY (fun _=>none) ((pid s+1)*1000) hr hn
  refine⟨pl,h1.new,fun m' ρ' hf=>?_,trivial⟩
  subst hv
  exact vD (h2 m' ρ' fun i b h=>⟨(hf i b h).1,(hf i b h).2.1⟩) hr.length
 |d y=>
  obtain⟨cs,hv,hr⟩:=h
  obtain⟨pl,h1,h2,_,h4⟩:=vm (lH s) hr hn
  refine⟨pl,h1,fun m' ρ' hf=>?_,cs,hv,h4 _ _ fun i b hb=>⟨hb,rfl⟩⟩
  subst hv
  exact vA (h2 m' ρ' hf)
 |p d=>
  obtain⟨B,cs,B1,hv,hc,hB,hr,e⟩:=h
  subst e hv
  have hn':=List.nodup_cons.1 hn
  obtain⟨pl,h1,h2⟩:=lY (fun _=>none) ((pid s+1)*1000) hr hn'.2
  have hno:find (aW (fun _=>none) d.t d.x ((pid s+1)*1000)).2.1 (pid s)=none:=by
   cases hf:find (aW (fun _=>none) d.t d.x ((pid s+1)*1000)).2.1 (pid s) with
   |none=>rfl
   |some b=>
    have:=(h1.fm _ _ hf).1
    have:pid s<(pid s+1)*1000:=by unfold pid;omega
    omega
  have hnew:=a_.var (st:=0) h1.new hc hB hn'.1 hno (lZ _ _ _ _) fun m' ρ' hf=>h2 m' ρ' fun i b h=>⟨(hf i b h).1,(hf i b h).2.1⟩
  refine⟨_,hnew,fun m' ρ' hf=>?_,B,?_,rfl,(aW (fun _=>none) d.t d.x ((pid s+1)*1000)).1,?_⟩
  ·have hb:=hf (pid s) ⟨0,false,.var d.t.aV (aW (fun _=>none) d.t d.x ((pid s+1)*1000)).1⟩ (by simp only[cV,aG,if_true])
   obtain⟨cq,bZ,_⟩:=hb
   have hp:(Pl.put pl (pid s) (some (B,0))) (pid s)=some (B,0):=by simp[Pl.put]
   rw[hp] at bZ
   refine⟨⟨_,rfl,rfl⟩,⟨_,cq,Nat.le_refl _⟩,fun b hb' hst t x hx=>?_⟩
   rw[cq] at hb'
   cases hb'
   cases hx
   exact⟨trivial,B,bZ,by simp[Ty.off]⟩
  ·simp[Pl.put]
  ·simp only[cV,aG,if_true]
 |m t xs=>
  obtain⟨ad,cap,hv,hcap,eC⟩:=h
  simp only[List.cons.injEq,and_true] at hv
  subst hv
  have hfind:find (cV s (.m t xs)).2 (pid s)=some ⟨0,false,.rows t xs⟩:=by simp only[cV,aG,if_true]
  rcases eC with⟨e1,e2,e3⟩|⟨B,o',cs,e1,e2,e3,e4,e5,e6⟩
  ·have hx:xs = []:=by
    cases xs with
    |nil=>rfl
    |cons y ys=>simp at hcap;omega
   subst hx e1 e2 e3
   refine⟨⟨fun _=>none,fun _=>[]⟩,a_.single rfl (dP rfl) (fun m' ρ' hp=>⟨trivial,.inl ⟨rfl,hp⟩⟩) (fun B o h=>by cases h),fun m' ρ' hf=>?_,?_,_,_,rfl,Nat.le_refl _,.inl ⟨rfl,rfl,rfl⟩⟩
   ·obtain⟨cq,bZ,_⟩:=hf (pid s) _ hfind
    refine⟨⟨_,rfl,rfl⟩,⟨_,cq,Nat.zero_le _⟩,fun b hb' hst u ys hy=>?_⟩
    rw[cq] at hb'
    cases hb'
    cases hy
    exact⟨none,0,rfl,Nat.le_refl _,.inl ⟨rfl,rfl,bZ⟩⟩
   ·simp only[cV,aG,if_true]
  ·subst e1 e6
   have hmul:xs.length*t.size≤cap*t.size:=Nat.mul_le_mul_right _ hcap
   refine⟨⟨fun _=>some (B,o'),fun _=>[]⟩,a_.single rfl (dP rfl) (fun m' ρ' hp=>⟨trivial,.inr ⟨B,o',cs,hp,e2,by omega,e4,by simp[e5]⟩⟩) (fun B' cH h=>by cases h;simp),fun m' ρ' hf=>?_,?_,_,_,rfl,hcap,.inr ⟨B,o',cs,rfl,rfl,e2,e3⟩⟩
   ·obtain⟨cq,bZ,_⟩:=hf (pid s) _ hfind
    refine⟨⟨_,rfl,rfl⟩,⟨_,cq,Nat.zero_le _⟩,fun b hb' hst u ys hy=>?_⟩
    rw[cq] at hb'
    cases hb'
    cases hy
    exact⟨_,cap,rfl,hcap,.inr ⟨B,o',cs,bZ,rfl,e2,e3⟩⟩
   ·simp only[cV,aG,if_true]
 |f g d=>
  obtain⟨e,caps,hv,hc⟩:=h
  subst e hv
  refine⟨⟨fun _=>none,fun _=>[]⟩,a_.nil _,fun m' ρ' _=>?_,trivial⟩
  simp only[cV,au,aB,AT.isAgg]
  exact⟨caps,rfl,q8 hc⟩
theorem fy.mono {m1 m2:MF}{p1 p2:Pl}(hm:∀i b,m1 i=some b→m2 i=some b∧p2 i=p1 i):∀{t:Ty} {x:t.den} {n:Nat} {vs:List Value},fy w m1 p1 t x n vs→fy w m2 p2 t x n vs:=by
 intro t
 induction t with
 |lst t _=>
  rintro x n vs ⟨h1,ad,cap,h2,h3,h4⟩
  obtain⟨k1,k2⟩:=hm n _ h1
  exact⟨k1,ad,cap,h2,h3,h4.to k2⟩
 |pair a b aI aH=>
  intro x n vs h
  unfold fy at h ⊢
  cases hl:(Ty.pair a b).aK with
  |true=>rw[hl] at h;obtain⟨v1,v2,e,h1,h2⟩:=h;exact⟨v1,v2,e,aI h1,aH h2⟩
  |false=>rw[hl] at h;exact h
 |_=>intro x n vs h;exact h
theorem qQ {m1 m2:MF}{p1 p2:Pl}{s:Nat}{x:Arg}{v:Value}(h:mT w m1 p1 s x v)(hm0:∀i b,m1 i=some b→m2 i=some b∧p2 i=p1 i):mT w m2 p2 s x v:=by
 have hm:=hm0 (pid s)
 cases x with
 |d y=>
  obtain⟨cs,h1,h2⟩:=h
  exact⟨cs,h1,h2.mono hm0⟩
 |p d=>
  obtain⟨B,h1,h2,y,h3⟩:=h
  obtain⟨k1,k2⟩:=hm _ h3
  exact⟨B,k2.trans h1,h2,y,k1⟩
 |m t xs=>
  obtain⟨h3,ad,cap,e1,e2,e3⟩:=h
  obtain⟨k1,k2⟩:=hm _ h3
  exact⟨k1,ad,cap,e1,e2,e3.to k2⟩
 |_=>trivial
theorem qR {m1 m2:MF}{p1 p2:Pl}(hm:∀i b,m1 i=some b→m2 i=some b∧p2 i=p1 i):∀{l:List Arg} {s:Nat} {vs:List Value},lq w m1 p1 s l vs→lq w m2 p2 s l vs
 | [],_,[],_=>trivial
 | [],_,_::_,h=>h.elim
 |_::_,_,[],h=>by cases h
 |_::_,_,_::_,h=>⟨qQ h.1 hm,qR hm h.2⟩
theorem qU:∀{args:List Arg} {s:Nat} {vals:List Value} {Bs:List Nat},ku w I args vals Bs→Bs.Nodup→(∀B∈Bs,¬I B)→((dX s args).map (·.1)).Nodup →
  ∃pl,a_ w I (dX s args) Bs pl∧(∀m' ρ',Fits (dX s args) pl m' ρ'→∀k x v,args[k]?=some x→vals[k]?=some v→au w I m' ρ' (cV (s+k) x).1 v)∧lq w (find (dX s args)) pl s args vals∧args.length=vals.length
 | [],s,[],Bs,h,_,_,_=>by
  cases h
  exact⟨⟨fun _=>none,fun _=>[]⟩,a_.nil _,fun m' ρ' _ k x v hx=>by simp at hx,trivial,rfl⟩
 | [],s,_::_,Bs,h,_,_,_=>h.elim
 |_::_,s,[],Bs,h,_,_,_=>by cases h
 |x::l,s,v::vs,Bs,h,hn,hI,hk=>by
  obtain⟨B1,B2,e,h1,h2⟩:=h
  subst e
  have hn':=List.nodup_append.1 hn
  obtain⟨k1,k2,k3⟩:=nR (l1:=(cV s x).2) (l2:=dX (s+1) l) hk
  obtain⟨p1,q1,q2,q3⟩:=arg_ok (s:=s) h1 hn'.1 (fun B hB=>hI B (by simp[hB])) k1
  obtain⟨p2,r1,r2,r3,r4⟩:=qU (s:=s+1) h2 hn'.2.1 (fun B hB=>hI B (by simp[hB])) k2
  have hnew:=a_.app q1 r1 hn'.2.2 k3
  refine⟨_,hnew,fun m' ρ' hf k y u hy hu=>?_,⟨?_,?_⟩,by simp[r4]⟩
  ·cases k with
   |zero=>
    simp only[List.getElem?_cons_zero,Option.some.injEq] at hy hu
    subst hy hu
    exact q2 m' ρ' (Fits.left hf)
   |succ k=>
    have:=r2 m' ρ' (Fits.right k3 hf) k y u (by simpa using hy) (by simpa using hu)
    rw[show s+(k+1)=s+1+k by omega]
    exact this
  ·refine qQ q3 fun i b hb=>?_
   exact⟨by simp only[dX,b9,hb],(iP hb).1⟩
  ·refine qR (fun i b hb=>?_) r3
   have:find (cV s x).2 i=none:=by
    cases hf:find (cV s x).2 i with
    |none=>rfl
    |some c=>exact(k3 i c b hf hb).elim
   exact⟨by simp only[dX,b9,this];exact hb,(iO this).1⟩
end
end Go.Ab
namespace Go.Ab
section
variable {P:Program} {F:Fix} {C:Cx} {o:Oper} {a:Act} {w w':World} {m m':MF} {I I':Nat→Prop} {ρ ρ':Pl} {d:aE}
variable {n:Nat} {K:dF} {st st':St}
def jK:List Value→Value
 | [v]=>v
 |l=>.tuple l.toArray
theorem wT {fn:Func}{tmps:Array Value}{vals:List Value}(hr:cB (fun r v=>(mK tmps r).run P w = .ok v w) fn.results.toList vals)(hl:fn.results.toList.length≤3) :
  (results fn tmps).run P w = .ok (jK vals) w:=by
 have hres:results fn tmps=(do let vs ←fn.results.mapM (mK tmps);pure (if h:vs.size=1 then vs[0] else .tuple vs)):=by
  unfold results
  congr 1
 rw[hres]
 generalize hx:fn.results.toList=l at hr hl
 have he:fn.results=l.toArray:=by apply Array.ext';simp[hx]
 rw[he]
 cases hr with
 |nil=>simp[jK]
 |cons h1 hr=>
  cases hr with
  |nil=>simp[jK,h1]
  |cons h2 hr=>
   cases hr with
   |nil=>simp[jK,h1,h2]
   |cons h3 hr=>
    cases hr with
    |nil=>simp[jK,h1,h2,h3]
    |cons _ _=>simp at hl
theorem s7 {outs:List RV}{vals:List Value}{Bs:List Nat}(h:fC w I outs vals Bs):jR w I outs (jK vals) Bs:=by
 rcases outs with _|⟨x,_|⟨y,l⟩⟩
 ·cases vals with
  |nil=>exact⟨#[],rfl,h⟩
  |cons _ _=>exact h.elim
 ·rcases vals with _|⟨v,_|⟨u,vs⟩⟩
  ·exact h.elim
  ·obtain⟨B1,B2,e,h1,h2⟩:=h
   cases h2
   simp only[List.append_nil] at e
   subst e
   exact h1
  ·obtain⟨B1,B2,e,h1,h2⟩:=h
   exact h2.elim
 ·rcases vals with _|⟨v,_|⟨u,vs⟩⟩
  ·exact h.elim
  ·obtain⟨B1,B2,e,h1,h2⟩:=h
   exact h2.elim
  ·exact⟨(v::u::vs).toArray,rfl,h⟩
theorem evK_ok {α:Type}{r:α}{Kt:Ex→St→Option α}{c:Code}{fn:Func}{f:FuncId}{lt:List (Nat×b8)}{args:List Arg}{ws:List Want}{outs:List RV}{iU:List DV}{ok:List Bool}(hm:P.follows .mixedOrders=true)(hC:bH P C){G:gC}(hF:dD P G C)
  (hf:P.funcs[f]?=some fn) (hbody:fn.body=some c) (hlo:fP C lt c) (dc:codeOk fn.ntmps c=true) (hlen:args.length≤fn.ntmps) (rO:args.length≤50) (hws:ws.length≤3) (hnd:((dX 0 args).map (·.1)).Nodup)
  (hev:dZ C lt c Kt ⟨iX 0 args,dX 0 args,[]⟩=some r) (hK:∀e st,Kt e st=some r→(∀i,e ≠ .exit i)∧finish C fn args ws st=some (outs,iU)):Holds P G f args ⟨outs,iU,ok⟩:=by
 intro w I vals Bs hI hG hargs hBn hBI
 ·obtain⟨pl,hnew,hslots,hfs,hlv⟩:=qU hargs hBn hBI hnd
  let F:Fix:=⟨w,I,fun B=>B∈Bs,G⟩
  let m0:MF:=find (dX 0 args)
  let K:dF:=⟨fun i=>bif eN i then m0 i else none,pl,w,fun id b hb=>by
   cases hp:eN id with
   |true=>rfl
   |false=>rw[hp] at hb;cases hb⟩
  have hfits:Fits (dX 0 args) pl m0 pl:=fun j c hc=>⟨hc,rfl,rfl⟩
  have hinv:Inv F fn.ntmps K ⟨iX 0 args,dX 0 args,[]⟩ { tmps:=vals.toArray++Array.replicate (fn.ntmps-vals.toArray.size) Go.undef,defers:=[] } w:=by
   refine⟨⟨I,pl,⟨?_,?_,?_,rfl,?_⟩⟩,?_⟩
   ·refine⟨fun id b hb=>(hnew.blk id b hb).2.2 m0 pl hfits,fun id id' b b' B o o' h1 h2 _ _ h5 h6=>hnew.one id id' b b' B h1 h2 (.inl ⟨_,h5⟩) (.inl ⟨_,h6⟩),hI,fun _ h=>h,fun _ h=>.inl h,
     fun id b B o h1 _ h3=>.inr (hnew.src id b B h1 (.inl ⟨_,h3⟩)),fun id b h1 h2=>⟨(hnew.dn id b h1 h2).1,fun B hB=>⟨.inr (hnew.src id b B h1 (.inr ⟨h2,hB⟩)),fun id' b' o k1 _ k3=>by
      have:=hnew.one id id' b b' B h1 k1 (.inr ⟨h2,hB⟩) (.inl ⟨_,k3⟩)
      subst this
      exact(hnew.dn id b h1 h2).2 B hB o k3,fun id' b' k1 k2 k3=>(hnew.one id id' b b' B h1 k1 (.inr ⟨h2,hB⟩) (.inr ⟨k2,k3⟩)).symm⟩⟩,fun _ _ _=>rfl,Nat.le_refl _,rfl,rfl,rfl,hG⟩
   ·intro s av bh
    obtain⟨k,x,h1,h2,h3⟩:=oM bh
    simp only[Nat.zero_add] at h2
    subst h2 h3
    have hk:s<args.length:=(List.getElem?_eq_some_iff.1 h1).1
    have hv:vals[s]?=some vals[s]:=by simp[show s<vals.length by omega]
    have:=hslots m0 pl hfits s x _ h1 hv
    simp only[Nat.zero_add] at this
    have j5:(vals.toArray++Array.replicate (fn.ntmps-vals.toArray.size) Go.undef).getD s Go.undef=vals[s]:=by
     simp[Array.getElem?_append,show s<vals.length by omega]
    rw[j5]
    exact this
   ·simp;omega
   ·intro id b0 hb0
    cases hp:eN id with
    |false=>simp only[K,hp] at hb0;cases hb0
    |true=>
     simp only[K,hp,cond_true] at hb0
     exact⟨b0,hb0,.inr ⟨qS (d_ hb0),dK.refl _,rfl,fun _ _ _ _ cs hc=>⟨cs,hc,Nat.le_refl _⟩⟩⟩
   ·intro s A b hf'
    obtain⟨k,x,_,_,h3⟩:=oM hf'
    exact uk _ _ A b h3.symm
  refine calls_of_wp hf hbody (evC_ok hm hC hF c dc hlo hinv hev ?_)
  ·intro e st' a' w' he hi'
   obtain⟨hne,iH⟩:=hK e st' he
   unfold finish at iH
   split at iH
   ·rename_i o i u j ho hu
    obtain⟨hb,h2⟩:=aQ iH
    obtain⟨_,h3⟩:=aQ h2
    cases h3
    simp only[Bool.and_eq_true,jI] at hb
    obtain⟨hown,himm⟩:=hb
    simp only[aT.app,bK] at hown himm
    have hown':=List.nodup_append.1 hown
    obtain⟨⟨I2,ρ2,hi⟩,_⟩:=hi'
    let I3:=cP (find st'.mem) ρ2 I2 (i.aV++j.aV)
    have hfz:=aC.freeze hi.mem (i.aV++j.aV)
    have hImm:∀id∈i.aV++j.aV,∀b B o,find st'.mem id=some b→b.live→ρ2 id=some (B,o)→I3 B:=fun id hid b B o h1 h2 h3=>.inr (.inl ⟨id,hid,b,o,h1,h2,h3⟩)
    have hOwn:∀id∈i.own++j.own,∀B,aM (find st'.mem) ρ2 id B→¬I3 B:=by
     rintro id hid B bG (hIB|⟨k,hk,bk,ok',k1,k2,k3⟩|⟨k,hk,bk,k1,k2,k3⟩)
     ·exact bG.gx hi.mem hIB
     ·obtain⟨b,h1,h2,h3,h4⟩:=bG
      have:=hi.mem.gM h1 h2 h4 k1 k2 (.inl ⟨_,k3⟩)
      subst this
      have:=eG himm id hk
      simp only[Bool.not_eq_true'] at this
      rw[jw.2 hid] at this
      cases this
     ·obtain⟨b,h1,h2,h3,h4⟩:=bG
      have:=hi.mem.gM h1 h2 h4 k1 (dL k2) (.inr ⟨k2,k3⟩)
      subst this
      have:=eG himm id hk
      simp only[Bool.not_eq_true'] at this
      rw[jw.2 hid] at this
      cases this
    obtain⟨p1,rvs,p0,Ys,p2,p3,p4⟩:=n9 (I':=I3) hC hi.mem (fun _ h=>.inl h) hi.env ho (fun id h=>hImm id (by simp[h])) (fun id h=>hOwn id (by simp[h])) hown'.1
    have hkept:∀id b0,eN id=true→m0 id=some b0→∃b,find st'.mem id=some b∧(0<b.st∨(b.st=0∧dK b0.c b.c∧ρ2 id=pl id ∧
      (b0.live→∀B o,pl id=some (B,o)→∀cs,Cells w B cs→∃cs',Cells w' B cs'∧cs.length≤cs'.length))):=by
     intro id b0 hp hb0
     refine hi.kept id b0 ?_
     simp only[K,hp,cond_true]
     exact hb0
    obtain⟨Zs,z1,z2,z3⟩:=lf (w0:=w) (m0:=m0) (pl:=pl) (I':=I3) hi.mem (fun _ h=>.inl h) hkept (s:=0) (by omega) hu hfs (fun id h=>hImm id (by simp[h])) (fun id h=>hOwn id (by simp[h])) hown'.2.1
    have bG:∀B∈Ys++Zs,∃id∈i.own++j.own,aM (find st'.mem) ρ2 id B:=by
     intro B hB
     rcases List.mem_append.1 hB with hB|hB
     ·obtain⟨k,hk,h⟩:=p4 B hB;exact⟨k,by simp[hk],h⟩
     ·obtain⟨k,hk,h⟩:=z3 B hB;exact⟨k,by simp[hk],h⟩
    have hres:=wT (fn:=fn) p0 (by rw[p1];exact hws)
    have hpost:a'.defers = []∧∃v,(results fn a'.tmps).run P w' = .ok v w'∧(fun e w'=>∃v I' Ys Zs,e=Ending.returned v∧jR w' I' outs v Ys∧bS w w' I' args vals iU Zs∧(Ys++Zs).Nodup ∧
      (∀B∈Ys++Zs,(B∈Bs∨w.heap.size≤B)∧¬I' B)∧bD I I' w w'∧(∀B,I' B→B<w'.heap.size∧(I B∨w.heap.size≤B∨B∈Bs)) ∧
      (∀B,B<w.heap.size→¬B∈Bs→w'.heap[B]?=w.heap[B]?)∧w.heap.size≤w'.heap.size∧w'.os=w.os∧w'.tape=w.tape∧w'.output=w.output) (.returned v) w':=by
     refine⟨hi.defers,_,hres,_,I3,Ys,Zs,rfl,s7 p2,z1,gK hi.mem hown p3 z2 p4 z3,fun B hB=>?_,⟨fun B h=>.inl (hi.mem.fX B h),fun B h=>?_⟩,fun B h=>⟨hfz.mem.aV B h,?_⟩,hi.mem.frame,hi.mem.size,hi.mem.os,hi.mem.tape,hi.mem.output⟩
     ·obtain⟨id,hid,hmn⟩:=bG B hB
      refine⟨?_,hOwn id hid B hmn⟩
      rcases hmn.up hi.mem with h|h
      ·exact .inr h
      ·exact .inl h
     ·exact hi.mem.frame B (hI B h) fun hB=>hBI B hB h
     ·rcases hfz.mem.fI B h with h|h|h
      ·exact .inl h
      ·exact .inr (.inl h)
      ·exact .inr (.inr h)
    cases e with
    |norm=>exact hpost
    |ret=>exact hpost
    |exit i=>exact absurd rfl (hne i)
   ·cases iH
end
end Go.Ab
