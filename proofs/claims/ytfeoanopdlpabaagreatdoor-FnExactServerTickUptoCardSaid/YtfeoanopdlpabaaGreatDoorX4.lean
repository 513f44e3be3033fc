import Derived.Test.YtfeoanopdlpabaaGreatDoorX3
import Derived.Scope
import Derived.Tactics
import Derived.OwnWalk
import Derived.Carry
import Derived.OpenShut
import Derived.JoinedCond
import Derived.KernelRfl
import Derived.Below
import Derived.WideKeyArgs
set_option linter.defProp false
namespace Go.Ab
section
variable {P:Program} {F:Fix} {C:Cx} {o:Oper} {a:Act} {w w':World} {m:MF} {I I':Nat→Prop} {ρ:Pl} {d:aE}
variable {n:Nat} {K:eX} {ops:List Oper} {st st':St} {rs:List Rec} {ah:Nat→Nat→Prop} {L:Nat→Bool}
def tv:∀{l:List Bool},jZ l=true↔∀b∈l,b=true
 | []=>by simp[jZ]
 | [a]=>by simp[jZ]
 |a::b::l=>by
  have ih:=tv (l:=b::l)
  show(a&&jZ (b::l))=true↔_
  rw[aF,ih]
  simp
def gW.oks {ops:List Oper}:∀{st st':St} {rs:List Rec},gW C ops st rs st'→(∀b∈st'.ok,b=true)→(∀b∈st.ok,b=true)∧∀j r,rs[j]?=some r→∀b∈okT (a_ rs j st).env r.T r.d.ok,b=true
 |_,_,_,.nil _,h=>⟨h,fun j r hr=>by simp at hr⟩
 |_,_,_,.cons (r:=r) h1 h2,h=>by
  obtain⟨e1,e2⟩:=h2.oks h
  refine⟨fun b hb=>e1 b (by unfold Rec.go;simp only;rw[bD];exact .inr hb),fun j r' hr=>?_⟩
  cases j with
  |zero=>
   simp only[ja,au] at hr
   subst hr
   intro b hb
   exact e1 b (by unfold Rec.go;simp only;rw[bD];exact .inl hb)
  |succ j=>exact e2 j r' (by simpa using hr)
def tu:∀(l:List Oper) (acc:List Nat),∃t,fK l acc=acc++t
 | [],acc=>⟨[],by simp[fK]⟩
 |o::l,acc=>by
  obtain⟨t,ht⟩:=tu l (app acc [ff acc o.after.toList])
  refine⟨[ff acc o.after.toList]++t,?_⟩
  simp only[fK]
  rw[ht,bZ]
  simp
def tq:∀(l:List Oper) (acc:List Nat) (k:Nat) (o:Oper),l[k]?=some o →
  ∃pre,pre.length=acc.length+k∧(∃t,fK l acc=pre++t)∧(fK l acc)[acc.length+k]?=some (ff pre o.after.toList)
 | [],acc,k,o,h=>by simp at h
 |x::l,acc,0,o,h=>by
  simp only[ja,au] at h
  subst h
  obtain⟨t,ht⟩:=tu l (app acc [ff acc x.after.toList])
  refine⟨acc,rfl,⟨[ff acc x.after.toList]++t,?_⟩,?_⟩
  ·simp only[fK];rw[ht,bZ];simp
  ·simp only[fK];rw[ht,bZ];simp
 |x::l,acc,k+1,o,h=>by
  obtain⟨pre,h1,h2,h3⟩:=tq l (app acc [ff acc x.after.toList]) k o (by simpa using h)
  have hl:(app acc [ff acc x.after.toList]).length=acc.length+1:=by rw[bZ];simp
  rw[hl] at h1 h3
  refine⟨pre,by omega,h2,?_⟩
  rw[show acc.length+(k+1)=acc.length+1+k by omega]
  exact h3
def j0 (ops:List Oper)(i j:Nat):Prop:=Nat.testBit ((cB (fK ops []) j).getD 0) i=true
def tg {acc:List Nat}{i:Nat}:∀{es:List Edge},Nat.testBit (ff acc es) i=true→∃e∈es,Region.binds .any e=true∧(i=e.on∨Nat.testBit ((cB acc e.on).getD 0) i=true)
 | [],h=>by simp[ff] at h
 |e::es,h=>by
  have rest:Nat.testBit (ff acc es) i=true→∃x∈e::es,Region.binds .any x=true∧(i=x.on∨Nat.testBit ((cB acc x.on).getD 0) i=true):=fun h=>by
   obtain⟨x,h1,h2⟩:=tg h
   exact⟨x,by simp[h1],h2⟩
  simp only[ff] at h
  have main:Nat.testBit (Nat.lor (Nat.lor (2 ^ e.on) ((cB acc e.on).getD 0)) (ff acc es)) i=true→Region.binds .any e=true→∃x∈e::es,Region.binds .any x=true∧(i=x.on∨Nat.testBit ((cB acc x.on).getD 0) i=true):=by
   intro h hb
   change Nat.testBit ((2 ^ e.on ||| ((cB acc e.on).getD 0)) ||| (ff acc es)) i=true at h
   rw[Nat.testBit_or,Nat.testBit_or,kE,kE,Nat.testBit_two_pow] at h
   rcases h with(h|h)|h
   ·exact⟨e,by simp,hb,.inl (by simpa using(zl79 h).symm)⟩
   ·exact⟨e,by simp,hb,.inr h⟩
   ·exact rest h
  split at h
  ·exact rest h
  ·exact rest h
  ·rename_i h1 h2
   refine main h ?_
   unfold Region.binds
   split<;>simp_all
def tj {acc:List Nat}:∀{es:List Edge} {e:Edge},e∈es→Region.binds .any e=true→Nat.testBit (ff acc es) e.on=true
 |x::es,e,h,hb=>by
  simp only[ff]
  rcases aX.1 h with he|h
  ·subst he
   unfold Region.binds at hb
   split
   ·simp_all
   ·simp_all
   ·change Nat.testBit ((2 ^ e.on ||| ((cB acc e.on).getD 0)) ||| (ff acc es)) e.on=true
    rw[Nat.testBit_or,Nat.testBit_or,Nat.testBit_two_pow]
    simp
  ·have:=tj (acc:=acc) h hb
   split
   ·exact this
   ·exact this
   ·change Nat.testBit ((2 ^ x.on ||| ((cB acc x.on).getD 0)) ||| (ff acc es)) e.on=true
    rw[Nat.testBit_or,this]
    simp
def nV (ops:List Oper)(L:Nat→Bool)(j:Nat):Prop:=∀o,ops[j]?=some o→∀e∈o.after,Region.binds .any e=true→L e.on=true
def tK {j:Nat}{o:Oper}(ho:ops[j]?=some o):∃pre,pre.length=j∧(∃t,fK ops []=pre++t)∧(cB (fK ops []) j).getD 0=ff pre o.after.toList:=by
 obtain⟨pre,h1,h2,h3⟩:=tq ops [] j o ho
 refine⟨pre,by simpa using h1,h2,?_⟩
 rw[jR]
 simp only[nQ,jE] at h3
 rw[h3]
 rfl
def qT:∀(l:List Oper) (acc:List Nat),(fK l acc).length=acc.length+l.length
 | [],acc=>by simp[fK]
 |o::l,acc=>by simp only[fK];rw[qT,bZ];simp;omega
def tJ (hL:∀j,L j=true→nV ops L j):∀(j:Nat) {i:Nat},j0 ops i j→nV ops L j→L i=true:=by
 intro j
 induction j using Nat.strongRecOn with
 |_ j ih=>
 intro i h hj
 unfold j0 at h
 cases ho:ops[j]? with
 |none=>
  have:cB (fK ops []) j=none:=by
   rw[jR]
   have h1:=qT ops []
   have h2:ops.length≤j:=by simpa using ho
   simp only[nQ,jE] at h1
   exact zl8 (by omega)
  rw[this] at h
  simp at h
 |some o=>
  obtain⟨pre,h1,⟨t,h2⟩,h3⟩:=tK ho
  rw[h3] at h
  obtain⟨e,he,hb,h4⟩:=tg h
  have hLe:=hj o ho e (mM.1 he) hb
  rcases h4 with h4|h4
  ·rw[h4];exact hLe
  ·have hlt:e.on<j:=by
    rcases Nat.lt_or_ge e.on pre.length with hh|hh
    ·omega
    ·rw[jR,zl8 hh] at h4
     simp at h4
   refine ih e.on hlt ?_ (hL _ hLe)
   unfold j0
   rw[h2,jR,cL (by omega),←jR]
   exact h4
def v8 (hL:∀j,L j=true→nV ops L j):jH (j0 ops) L:=fun _ j h hj=>tJ hL j h (hL j hj)
def rM {bits:List Nat}{fs:List pM}:∀{n j:Nat},free bits fs n=true→j<n→Nat.ble ((cB bits j).getD 0+1) (2 ^ j)=true ∧
  cN (fun i=>Nat.testBit ((cB bits j).getD 0) i || (match cB fs i,cB fs j with | some f,some g=>jI f g|_,_=>false)) (upto j)=true
 |0,j,_,h=>by omega
 |n+1,j,h,hj=>by
  simp only[free,aF] at h
  by_cases e:j=n
  ·subst e;exact⟨h.1.2,h.2⟩
  ·exact rM h.1.1 (by omega)
def uQ:∀{n i:Nat},i<n→i∈upto n
 |0,i,h=>by omega
 |n+1,i,h=>by
  unfold upto
  rw[bD]
  by_cases e:i=n
  ·exact .inr (by simp[e])
  ·exact .inl (uQ (by omega))
def uc:∀{l:List Oper} {n i:Nat} {o:Oper} {g:Nat} {b:Bool},oq n l=true→l[i]?=some o→o.guard=some (g,b)→g<n+i
 | [],_,_,_,_,_,_,h,_=>by simp at h
 |x::l,n,0,o,g,b,hg,h,hh=>by
  simp only[ja,au] at h
  subst h
  simp only[oq,hh,aF] at hg
  have:=fu hg.1
  omega
 |x::l,n,i+1,o,g,b,hg,h,hh=>by
  simp only[oq,aF] at hg
  have:=uc hg.2 (by simpa using h) hh
  omega
def tY {α β:Type}(f:α→Option β)(x:α)(l:List α):eg f (x::l)=match f x with | some y=>y::eg f l|none=>eg f l:=rfl
def tS:∀{l:List Oper},(eg (fun o=>o.dst) l).Nodup→∀{i j:Nat} {x y:Oper} {s:Nat},l[i]?=some x→l[j]?=some y→x.dst=some s→y.dst=some s→i=j
 | [],_,_,_,_,_,_,h,_,_,_=>by simp at h
 |z::l,hnd,i,j,x,y,s,hx,hy,hsx,hsy=>by
  have dw:(eg (fun o=>o.dst) l).Nodup:=by
   rw[tY] at hnd
   split at hnd
   ·exact(cX.1 hnd).2
   ·exact hnd
  have head:∀{k:Nat} {u:Oper},z.dst=some s→l[k]?=some u→u.dst=some s→False:=by
   intro k u hz hu hs
   rw[tY,hz] at hnd
   exact(cX.1 hnd).1 (r8.2 ⟨u,List.mem_of_getElem? hu,hs⟩)
  cases i with
  |zero=>
   simp only[ja,au] at hx
   subst hx
   cases j with
   |zero=>rfl
   |succ j=>exact(head hsx (by simpa using hy) hsy).elim
  |succ i=>
   cases j with
   |zero=>
    simp only[ja,au] at hy
    subst hy
    exact(head hsy (by simpa using hx) hsx).elim
   |succ j=>
    have hx':l[i]?=some x:=by simpa using hx
    have hy':l[j]?=some y:=by simpa using hy
    rw[tS dw hx' hy' hsx hsy]
def bS.of (hok:oR n ops=true)(hr:gW C ops st rs st')(ho:rs.map (·.o)=ops)(he:∀s A b,find st.env s≠some (.bM A b))(hlt:∀i j,ah i j→i<j)
  (hsep:∀(i j:Nat) (f g:Rec),i<j→rs[i]?=some f→rs[j]?=some g→ah i j∨jI (f.gi ops) (g.gi ops)=true):bS C n ops st st' rs ah:=by
 simp only[oR,aF,lQ] at hok
 obtain⟨⟨h1,h2⟩,h3⟩:=hok
 have at_:∀{i:Nat} {r:Rec},rs[i]?=some r→ops[i]?=some r.o:=fun {i r} h=>by
  have:=congrArg (fun l=>l[i]?) ho
  simp only[List.getElem?_map,h,iZ] at this
  exact this.symm
 refine⟨hr,ho,fun i j ri rj s hi hj hsi hsj=>tS h1 (at_ hi) (at_ hj) hsi hsj,fun i r g b hi hg=>by simpa using uc h2 (at_ hi) hg,hlt,hsep,he,fun r s hr hs=>?_⟩
 have hm:r.o∈ops:=ho▸eV.2 ⟨r,hr,rfl⟩
 have:=fW h3 r.o hm
 rw[hs] at this
 have:=fu this
 omega
end
section
variable {P:Program} {F:Fix} {C:Cx} {o:Oper} {a:Act} {w w':World} {m:MF} {I I':Nat→Prop} {ρ:Pl} {d:aE}
variable {n:Nat} {K:eX} {ops:List Oper} {st st':St} {rs:List Rec} {ah:Nat→Nat→Prop} {L:Nat→Bool}
structure pN (F:Fix) (n:Nat) (K:eX) (st:St) (a:Act) (w:World) (I:Nat→Prop) (ρ:Pl):Prop where
 mem:aD F (find st.mem) w I ρ
 env:∀s av,find st.env s=some av→az w I (find st.mem) ρ av (a.tmps.getD s Go.undef)
 size:a.tmps.size=n
 defers:a.defers = []
 kept:Kept K (find st.mem) ρ w
structure Inv (F:Fix) (n:Nat) (K:eX) (st:St) (a:Act) (w:World):Prop where
 any:∃I ρ,pN F n K st a w I ρ
 nw:∀s A b,find st.env s≠some (.bM A b)
def Inv.start (h:Inv F n K st a w)(rs:List Rec):iJ F n K rs st (fun _=>false) a w:=by
 obtain⟨⟨I,ρ,h1⟩,hn⟩:=h
 refine⟨I,ρ,by rw[nt];exact h1.mem,fun s av bC=>?_,h1.size,h1.defers,by rw[nt];exact h1.kept⟩
 rw[oh] at bC
 rw[nt]
 exact rz (h1.env s av bC) fun A b e=>hn s A b (e▸bC)
def iJ.congr {L':Nat→Bool}(h:iJ F n K rs st L a w)(hl:∀k,k<rs.length→L k=L' k):iJ F n K rs st L' a w:=by
 obtain⟨I,ρ,h⟩:=h
 have hm:bQ L rs (find st.mem)=bQ L' rs (find st.mem):=by
  funext id
  exact kg (fun k r hk _=>hl k (mN.1 hk).1) rfl
 have he:dQ L rs (find st.env)=dQ L' rs (find st.env):=by
  funext s
  exact mX (fun k r hk _=>hl k (mN.1 hk).1) rfl
 exact⟨I,ρ,hm▸h.mem,fun s av bC=>hm▸h.env s av (he▸bC),h.size,h.defers,hm▸h.kept⟩
def Inv.drew (h:Inv F n K st a w):Inv F n K st a { w with drawn:=w.drawn+1 }:=by
 obtain⟨⟨I,ρ,h1⟩,hn⟩:=h
 have hd:=aC.drew h1.mem
 exact⟨⟨I,ρ,hd.mem,fun s av bC=>(h1.env s av bC).mono hd.agree hd.keep,h1.size,h1.defers,h1.kept.mono hd.keep⟩,hn⟩
def rI:∀(l:List (Nat×AT)) (s:Nat),find (kj l) s=(find l s).map fun a=>match a with | .bM _ _=>.any|a=>a
 | [],s=>rfl
 | (t,a)::l,s=>by
  have ih:=rI l s
  cases a<;>simp only[kj,aI]<;>by_cases h:t=s<;>simp[h,ih]
def iJ.finish (h:iJ F n K rs st (fun k=>decide (k<rs.length)) a w)(hr:gW C ops st rs st') :
  ∃I ρ,pN F n K st' a w I ρ:=by
 obtain⟨I,ρ,h⟩:=h
 have h1:=h.mem
 have h2:=h.env
 have h3:=h.kept
 rw[jq,hr.last] at h1 h2 h3
 rw[og,hr.last] at h2
 refine⟨I,ρ,h1,fun s av bC=>?_,h.size,h.defers,h3⟩
 have:=h2 s av bC
 cases av with
 |bM A b=>trivial
 |_=>exact this
def gW.kj:∀{st st':St} {rs:List Rec},gW C ops st rs st'→(∀r∈rs,r.T = [])→(∀s A b,find st.env s≠some (.bM A b))→∀s A b,find st'.env s≠some (.bM A b)
 |_,_,_,.nil _,_,h=>h
 |_,_,_,.cons (r:=r) h1 h2,hT,h=>by
  refine h2.kj (fun r hr=>hT r (by simp[hr])) fun s A b hf=>?_
  rw[tV] at hf
  unfold EF.put at hf
  have hTr:=hT r (by simp)
  cases hd:r.o.dst with
  |none=>rw[hd] at hf;exact h s A b hf
  |some t=>
   rw[hd] at hf
   simp only at hf
   split at hf
   ·rw[hTr,au] at hf
    exact zo _ _ _ hf
   ·exact h s A b hf
def vk {draw:Bool}{r:St}(hd:oZ C ops draw st=some r):∃st' rs,mD C ops ops st=some (st',rs) ∧
  (r=if bT (fun o=>o.guard.isSome) ops=true then { st' with env:=kj st'.env } else st')∧(draw=true→free (fK ops []) (bu (Rec.gi ops) rs) ops.length=true):=by
 unfold oZ at hd
 split at hd
 ·cases hd
 ·rename_i st' rs kU
  refine⟨st',rs,kU,?_⟩
  dsimp only at hd
  cases draw with
  |false=>
   simp only[eF,au] at hd
   refine⟨?_,by simp⟩
   rw[←hd]
   cases bT (fun o=>o.guard.isSome) ops<;>rfl
  |true=>
   cases hf:free (fK ops []) (bu (Rec.gi ops) rs) ops.length with
   |false=>simp[hf] at hd
   |true=>
    simp only[aG,hf,au] at hd
    refine⟨?_,fun _=>rfl⟩
    rw[←hd]
    cases bT (fun o=>o.guard.isSome) ops<;>rfl
def vl {r:St}(hinv:Inv F n K st a w){a':Act}{w':World}(kU:mD C ops ops st=some (st',rs))(hr:r=if bT (fun o=>o.guard.isSome) ops=true then { st' with env:=kj st'.env } else st')
  (h:iJ F n K rs st (fun k=>decide (k<rs.length)) a' w'):Inv F n K r a' w':=by
 obtain⟨hrun,hmap⟩:=qp kU
 obtain⟨I,ρ,h1⟩:=h.finish hrun
 cases hg:bT (fun o=>o.guard.isSome) ops with
 |true=>
  rw[hg,bf rfl] at hr
  subst hr
  refine⟨⟨I,ρ,h1.mem,fun s av bC=>?_,h1.size,h1.defers,h1.kept⟩,fun s A b hf=>?_⟩
  ·simp only[rI,bE] at bC
   obtain⟨b,hb,e⟩:=bC
   have:=h1.env s b hb
   subst e
   cases b<;>first|exact this|trivial
  ·simp only[rI,bE] at hf
   obtain⟨b',hb,e⟩:=hf
   cases b'<;>simp at e
 |false=>
  rw[hg,bY (by simp)] at hr
  subst hr
  refine⟨⟨I,ρ,h1⟩,hrun.kj (fun x hx=>?_) hinv.nw⟩
  obtain⟨k,hk⟩:=List.getElem?_of_mem hx
  have h2:=hrun.at hk
  have hxo:x.o∈ops:=hmap▸eV.2 ⟨x,hx,rfl⟩
  have hng:x.o.guard=none:=by
   cases hgg:x.o.guard with
   |none=>rfl
   |some g=>
    have:=pQ (p:=fun o:Oper=>o.guard.isSome) hxo (by simp[hgg])
    rw[hg] at this
    cases this
  unfold lS guardOf at h2
  rw[hng] at h2
  simp only at h2
  split at h2
  ·cases h2
  ·obtain⟨_,h2⟩:=aH h2
   split at h2
   ·simp only[au] at h2;rw[←h2]
   ·cases h2
def zp (k:Nat):ij (fun i=>decide (i<k)) k=fun i=>decide (i<k+1):=by
 funext i
 unfold ij
 by_cases h:i<k
 ·have:i<k+1:=by omega
  simp[h,this]
 ·by_cases e:i=k
  ·subst e;simp
  ·have:¬i<k+1:=by omega
   simp[h,e,this]
def yN {r:St}(hC:bW P C)(hF:eW P F.G C){ops:Array Oper}{id:Nat}(hok:oR n ops.toList=true)(hd:oZ C ops.toList false st=some r)(hro:∀b∈r.ok,b=true)(hinv:Inv F n K st a w)
  {Q:Exit→Act→World→Prop} (hQ:∀a' w',Inv F n K r a' w'→Q .normal a' w'):(Code.region id ops false).wp P Q a w:=by
 obtain⟨st',rs,kU,hr,_⟩:=vk hd
 obtain⟨hrun,hmap⟩:=qp kU
 have hlen:rs.length=ops.size:=by have:=congrArg List.length hmap;simpa using this
 have oy:bS C n ops.toList st st' rs (fun i j=>i<j):=bS.of hok hrun hmap hinv.nw (fun _ _ h=>h) (fun i j f g h _ _=>.inl h)
 have hst:∀b∈st'.ok,b=true:=by
  intro b hb
  refine hro b ?_
  rw[hr]
  split<;>exact hb
 obtain⟨_,ox⟩:=hrun.oks hst
 refine wp_region ?_
 have main:∀(d k:Nat) (a:Act) (w:World),k+d=ops.size→iJ F n K rs st (fun i=>decide (i<k)) a w→wpOps P ops Q (List.range' k d) a w:=by
  intro d
  induction d with
  |zero=>
   intro k a w hk h
   simp only[List.range'_zero,wpOps]
   have:k=rs.length:=by omega
   subst this
   exact hQ _ _ (vl hinv kU hr h)
  |succ d ih=>
   intro k a w hk h
   rw[List.range'_succ,wpOps_cons]
   have jO:k<rs.length:=by omega
   have hrk:rs[k]?=some rs[k]:=by simp[jO]
   have:=oy.step hC hF hrk (L:=fun i=>decide (i<k)) (by simp) (by intro i j hij hj;simp at hj ⊢;omega) (by intro i hi;simpa using hi) (ox k _ hrk) (Q:=Q) (Kt:=wpOps P ops Q (List.range' (k+1) d)) h
    (fun a' w' h'=>ih (k+1) a' w' (by omega) (by rw[zp] at h';exact h'))
   simpa using this
 have:=main ops.size 0 a w (by omega) ((hinv.start rs).congr (fun k _=>by simp))
 rwa[List.range_eq_range']
end
section
variable {P:Program} {F:Fix} {C:Cx} {o:Oper} {a:Act} {w w':World} {m:MF} {I I':Nat→Prop} {ρ:Pl} {d:aE}
variable {n:Nat} {K:eX} {ops:List Oper} {st st':St} {rs:List Rec} {ah:Nat→Nat→Prop} {L:Nat→Bool}
def jz:List Bool→Nat
 | []=>0
 |b::l=>(if b then 0 else 1)+jz l
def vP:∀{l:List Bool} {i:Nat},l[i]?=some false→jz (l.set i true)+1=jz l
 | [],i,h=>by simp at h
 |b::l,0,h=>by simp only[ja,au] at h;subst h;simp[jz];omega
 |b::l,i+1,h=>by
  have:=vP (l:=l) (i:=i) (by simpa using h)
  simp only[List.set_cons_succ,jz]
  omega
def vM:∀n:Nat,jz (List.replicate n false)=n
 |0=>rfl
 |n+1=>by simp[mK,jz,vM n];omega
def vL:∀{l:List Bool} {k:Nat},l[k]?=some false→0<jz l
 | [],k,h=>by simp at h
 |b::l,0,h=>by simp only[ja,au] at h;subst h;simp[jz];omega
 |b::l,k+1,h=>by
  have:=vL (l:=l) (k:=k) (by simpa using h)
  simp only[jz]
  omega
def tZ {listed:Array Bool}{k:Nat}(h:k<listed.size):listed.getD k true=listed.getD k false:=by simp[h]
def yL {ops:Array Oper}{listed:Array Bool}(hs:listed.size=ops.size)(jL:∀j o,ops[j]?=some o→∀e∈o.after,Region.binds .any e=true→e.on<j) :
  ∀(j:Nat),j<ops.size→listed.getD j false=false→Region.ready .any ops listed ≠ []:=by
 intro j
 induction j using Nat.strongRecOn with
 |_ j ih=>
 intro hj hl hr
 by_cases hex:∃k,k<j∧listed.getD k false=false
 ·obtain⟨k,hk,jO⟩:=hex
  exact ih k hk (by omega) jO hr
 ·have hmem:j∈Region.ready .any ops listed:=by
   rw[mem_ready]
   refine⟨by rw[tZ (by omega)];exact hl,ops[j],by simp[hj],fun e he hb=>?_⟩
   have:=jL j ops[j] (by simp[hj]) e he hb
   cases hv:listed.getD e.on false with
   |true=>rfl
   |false=>exact absurd ⟨e.on,this,hv⟩ hex
  rw[hr] at hmem
  simp at hmem
def any_ok (hC:bW P C)(hF:eW P F.G C){ops:Array Oper}(oy:bS C n ops.toList st st' rs (j0 ops.toList))(hlen:rs.length=ops.size)
  (ox:∀j r,rs[j]?=some r→∀b∈okT (a_ rs j st).env r.T r.d.ok,b=true) (jL:∀j o,ops[j]?=some o→∀e∈o.after,Region.binds .any e=true→e.on<j)
  {Q:Exit→Act→World→Prop} (hQ:∀a' w',iJ F n K rs st (fun k=>decide (k<rs.length)) a' w'→Q .normal a' w') :
  ∀(fuel:Nat) (listed:Array Bool) (a:Act) (w:World),listed.size=ops.size→jz listed.toList≤fuel→(∀j,listed.getD j false=true→nV ops.toList (fun k=>listed.getD k false) j) →
   iJ F n K rs st (fun k=>listed.getD k false) a w→wpAny P .any ops Q fuel listed a w:=by
 have done:∀(listed:Array Bool) (a:Act) (w:World),listed.size=ops.size→iJ F n K rs st (fun k=>listed.getD k false) a w→Region.ready .any ops listed = []→Q .normal a w:=by
  intro listed a w hs h hr
  refine hQ a w (h.congr fun k hk=>?_)
  have hk':k<ops.size:=by omega
  cases hv:listed.getD k false with
  |true=>simp[hk]
  |false=>exact absurd hr (yL hs jL k hk' hv)
 intro fuel
 induction fuel with
 |zero=>
  intro listed a w hs hu _ h
  have hr:Region.ready .any ops listed = []:=by
   refine Classical.byContradiction fun hne=>?_
   obtain⟨j,hj⟩:=List.exists_mem_of_ne_nil _ hne
   obtain⟨h1,o,h2,_⟩:=mem_ready.1 hj
   have kR:j<listed.size:=by rw[hs];exact(Array.getElem?_eq_some_iff.1 h2).1
   have:0<jz listed.toList:=vL (k:=j) (by simp[kR] at h1 ⊢;exact h1)
   omega
  exact⟨hr,done listed a w hs h hr⟩
 |succ fuel ih=>
  intro listed a w hs hu hE h
  refine⟨done listed a w hs h,fun j hj=>?_⟩
  obtain⟨h1,o,h2,h3⟩:=mem_ready.1 hj
  have kR:j<listed.size:=by rw[hs];exact(Array.getElem?_eq_some_iff.1 h2).1
  have hjf:listed.getD j false=false:=by rw[←tZ kR];exact h1
  have hjr:j<rs.length:=by omega
  have hrj:rs[j]?=some rs[j]:=by simp[hjr]
  have hlj:nV ops.toList (fun k=>listed.getD k false) j:=by
   intro o' ho' e he hb
   have:o'=o:=by have h4:ops[j]?=some o':=by simpa using ho'
                 rw[h2] at h4;cases h4;rfl
   subst this
   exact h3 e he hb
  have hstep:=oy.step hC hF hrj (L:=fun k=>listed.getD k false) hjf (v8 hE) (fun i hi=>tJ hE j hi hlj) (ox j _ hrj) (Q:=Q)
   (Kt:=wpAny P .any ops Q fuel (listed.setIfInBounds j true)) h (fun a' w' h'=>?_)
  ·simpa using hstep
  ·have hset:∀k,(listed.setIfInBounds j true).getD k false=ij (fun k=>listed.getD k false) j k:=by
    intro k
    unfold ij
    by_cases e:k=j
    ·subst e;simp[kR]
    ·simp[Array.getElem?_setIfInBounds_ne (Ne.symm e),e]
   refine ih _ a' w' (by simpa using hs) ?_ ?_ ?_
   ·have hset':(listed.setIfInBounds j true).toList=listed.toList.set j true:=by simp
    have:=vP (l:=listed.toList) (i:=j) (by simp[kR] at hjf ⊢;exact hjf)
    rw[hset']
    omega
   ·intro k hk o' ho' e he hb
    rw[hset] at hk
    show(listed.setIfInBounds j true).getD e.on false=true
    rw[hset]
    unfold ij at hk ⊢
    simp only[kE,gQ] at hk ⊢
    rcases hk with hk|hk
    ·exact .inl (hE k hk o' ho' e he hb)
    ·subst hk
     exact .inl (hlj o' ho' e he hb)
   ·have:(fun k=>(listed.setIfInBounds j true).getD k false)=ij (fun k=>listed.getD k false) j:=funext hset
    rw[this];exact h'
def yM (hm:P.follows .mixedOrders=true){r:St}(hC:bW P C)(hF:eW P F.G C){ops:Array Oper}{id:Nat}(hok:oR n ops.toList=true)(hd:oZ C ops.toList true st=some r)(hro:∀b∈r.ok,b=true)(hinv:Inv F n K st a w)
  {Q:Exit→Act→World→Prop} (hQ:∀a' w',Inv F n K r a' w'→Q .normal a' w'):(Code.region id ops true).wp P Q a w:=by
 obtain⟨st',rs,kU,hr,hfree⟩:=vk hd
 have hfree:=hfree rfl
 obtain⟨hrun,hmap⟩:=qp kU
 have hlen:rs.length=ops.size:=by have:=congrArg List.length hmap;simpa using this
 have hbit:∀i j,j0 ops.toList i j→i<j:=by
  intro i j h
  unfold j0 at h
  by_cases hj:j<ops.toList.length
  ·have h1:=fu (rM hfree hj).1
   have h2:=Nat.ge_two_pow_of_testBit h
   exact(Nat.pow_lt_pow_iff_right (by omega:1<2)).1 (by omega)
  ·have:cB (fK ops.toList []) j=none:=by
    rw[jR]
    have h1:=qT ops.toList []
    simp only[nQ,jE] at h1
    exact zl8 (by omega)
   rw[this] at h
   simp at h
 have hsep:∀(i j:Nat) (f g:Rec),i<j→rs[i]?=some f→rs[j]?=some g→j0 ops.toList i j∨jI (f.gi ops.toList) (g.gi ops.toList)=true:=by
  intro i j f g hij hf hg
  have hj:j<ops.toList.length:=by
   have:=(mN.1 hg).1
   simp;omega
  have h1:=fW (rM hfree hj).2 i (uQ hij)
  rw[kE] at h1
  rcases h1 with h1|h1
  ·exact .inl h1
  ·refine .inr ?_
   simp only[jR,jm,List.getElem?_map,hf,hg,iZ] at h1
   exact h1
 have oy:bS C n ops.toList st st' rs (j0 ops.toList):=bS.of hok hrun hmap hinv.nw hbit hsep
 have hst:∀b∈st'.ok,b=true:=by
  intro b hb
  refine hro b ?_
  rw[hr]
  split<;>exact hb
 obtain⟨_,ox⟩:=hrun.oks hst
 have jL:∀j o,ops[j]?=some o→∀e∈o.after,Region.binds .any e=true→e.on<j:=by
  intro j o ho e he hb
  refine hbit e.on j ?_
  have ho':ops.toList[j]?=some o:=by simpa using ho
  obtain⟨pre,h1,h2,h3⟩:=tK ho'
  unfold j0
  rw[h3]
  exact tj (mM.2 he) hb
 refine wp_region_any hm ?_
 have hz:∀k,(Array.replicate ops.size false).getD k false=false:=by intro k;by_cases h:k<ops.size<;>simp[h]
 refine any_ok hC hF oy hlen ox jL (fun a' w' h=>hQ a' w' (vl hinv kU hr h)) ops.size _ a _ (by simp) ?_ ?_ ?_
 ·simp[vM]
 ·intro j hj;rw[hz] at hj;cases hj
 ·exact(hinv.drew.start rs).congr fun k _=>(hz k).symm
end
section
variable {P:Program} {F:Fix} {C:Cx} {o:Oper} {a:Act} {w w':World} {m:MF} {I I':Nat→Prop} {ρ:Pl} {d:aE}
variable {n:Nat} {K:eX} {st st':St}
structure gE (l:List (Nat×ag)) (n e:Nat):Prop where
 le:n≤e
 all:∀x∈l,n≤x.1∧x.1<e∧∃t,x.2=⟨0,false,.rows t []⟩
 fnd:∀x∈l,find l x.1=some x.2
def gE.nil (n:Nat):gE [] n n:=⟨bw _,fun x h=>by simp at h,fun x h=>by simp at h⟩
def gE.app {l l':List (Nat×ag)}{n k e:Nat}(h:gE l n k)(h':gE l' k e):gE (app l l') n e:=by
 refine⟨mL h.le h'.le,fun x hx=>?_,fun x hx=>?_⟩
 ·rw[bD] at hx
  have:=h.le
  have:=h'.le
  rcases hx with hx|hx
  ·obtain⟨h1,h2,h3⟩:=h.all x hx;exact⟨h1,by omega,h3⟩
  ·obtain⟨h1,h2,h3⟩:=h'.all x hx;exact⟨by omega,h2,h3⟩
 ·rw[cS]
  rw[bD] at hx
  rcases hx with hx|hx
  ·rw[h.fnd x hx]
  ·cases hf:find l x.1 with
   |none=>exact h'.fnd x hx
   |some b=>
    have h1:=(h.all _ (fh hf)).2.1
    have h2:=(h'.all x hx).1
    simp only at h1
    omega
def jc (l:List (Nat×ag))(m:MF)(ρ:Pl):Prop:=∀x∈l,m x.1=some x.2∧ρ x.1=none
def jc.left {l l':List (Nat×ag)}(h:jc (app l l') m ρ):jc l m ρ:=fun x hx=>h x (bD.2 (.inl hx))
def jc.right {l l':List (Nat×ag)}(h:jc (app l l') m ρ):jc l' m ρ:=fun x hx=>h x (bD.2 (.inr hx))
def uZ:∀(a:AT) (n:Nat),gE (dz a n).2.1 n (dz a n).2.2:=by
 intro a
 induction a with
 |nil t=>intro n;exact⟨by simp[dz],fun x hx=>by simp only[dz,eH] at hx;subst hx;simp only[dz];exact⟨bw _,by omega,t,rfl⟩,fun x hx=>by simp only[dz,eH] at hx;subst hx;simp[dz,aI]⟩
 |pair l r ihl ihr=>intro n;exact(ihl n).app (ihr _)
 |bL l r ihl ihr=>intro n;exact(ihl n).app (ihr _)
 |fn f c ih=>intro n;exact ih n
 |_=>intro n;exact gE.nil n
def su:∀{x:AT} {n:Nat} {vs:List Value},jc (dz x n).2.1 m ρ→aa w I m ρ x vs→aa w I m ρ (dz x n).1 vs:=by
 intro x
 induction x with
 |nil t=>
  intro n vs ht h
  simp only[aa] at h
  subst h
  obtain⟨h1,h2⟩:=ht (n,⟨0,false,.rows t []⟩) (by simp[dz])
  simp only[dz,aa]
  refine⟨⟨_,rfl,rfl⟩,⟨_,h1,bw _⟩,fun b hb _ u xs hc=>?_⟩
  simp only at h1 h2
  rw[h1] at hb
  cases hb
  cases hc
  exact⟨none,0,rfl,bw _,.inl ⟨rfl,rfl,h2⟩⟩
 |pair l r ihl ihr=>
  intro n vs ht h
  simp only[aa] at h
  obtain⟨v1,v2,e,h1,h2⟩:=h
  exact⟨v1,v2,e,ihl ht.left h1,ihr ht.right h2⟩
 |bL l r ihl ihr=>
  intro n vs ht h
  simp only[aa] at h
  obtain⟨v1,v2,e,h1,h2⟩:=h
  exact⟨v1,v2,e,ihl ht.left h1,ihr ht.right h2⟩
 |fn f c ih=>
  intro n vs ht h
  simp only[aa] at h
  obtain⟨caps,e,h1⟩:=h
  exact⟨caps,e,ih ht h1⟩
 |_=>intro n vs _ h;exact h
def yw:∀{x:AT} {n:Nat} {t:Ty},Typed x t→Typed (dz x n).1 t:=by
 intro x
 induction x with
 |pair l r ihl ihr=>
  intro n t h
  simp only[Typed] at h
  obtain⟨a,b,e,h1,h2⟩:=h
  exact⟨a,b,e,ihl h1,ihr h2⟩
 |_=>intro n t h;exact h
def yp (x:AT)(n:Nat):(dz x n).1.isAgg=x.isAgg:=by cases x<;>rfl
def qm {x:AT}{n:Nat}{v:Value}(ht:jc (dz x n).2.1 m ρ)(h:aB w I m ρ x v):aB w I m ρ (dz x n).1 v:=by
 unfold aB at h ⊢
 rw[yp]
 split
 ·rename_i hh
  rw[bf hh] at h
  obtain⟨arr,e,h1⟩:=h
  exact⟨arr,e,su ht h1⟩
 ·rename_i hh
  rw[bY hh] at h
  exact su ht h
def yu:∀{x:AT} {n:Nat} {vs:List Value},jc (dz x n).2.1 m ρ→de w I m ρ x vs→de w I m ρ (dz x n).1 vs:=by
 intro x
 induction x with
 |bL l r ihl ihr=>
  intro n vs ht h
  simp only[de] at h
  obtain⟨v,vs',e,h1,h2⟩:=h
  exact⟨v,vs',e,qm ht.left h1,ihr ht.right h2⟩
 |cJ=>intro n vs _ h;exact h
 |_=>intro n vs _ h;simp[de] at h
def yq {x:AT}{n:Nat}{v:Value}(ht:jc (dz x n).2.1 m ρ)(h:az w I m ρ x v):az w I m ρ (dz x n).1 v:=by
 cases x with
 |bL l r=>
  obtain⟨arr,e,h1⟩:=h
  exact⟨arr,e,yu (x:=.bL l r) ht h1⟩
 |cJ=>exact h
 |any=>trivial
 |bM _ _=>trivial
 |leaf t y=>exact h
 |nil t=>exact qm (x:=.nil t) ht h
 |pair l r=>exact qm (x:=.pair l r) ht h
 |fn f c=>exact qm (x:=.fn f c) ht h
 |_=>exact h
def uV:∀(l:List (Nat×AT)) (n:Nat),gE (iS l n).2.1 n (iS l n).2.2
 | [],n=>gE.nil n
 | (_s,x)::l,n=>(uZ x n).app (uV l _)
def uU:∀{l:List (Nat×AT)} {n s:Nat} {x':AT},find (iS l n).1 s=some x'→∃x k,find l s=some x∧x'=(dz x k).1∧∀y∈(dz x k).2.1,y∈(iS l n).2.1
 | [],n,s,x',h=>by simp[iS,find] at h
 | (t,x)::l,n,s,x',h=>by
  simp only[iS,aI] at h
  by_cases e:t=s
  ·rw[bf e] at h
   cases h
   exact⟨x,n,by simp[aI,e],rfl,fun y hy=>bD.2 (.inl hy)⟩
  ·rw[bY e] at h
   obtain⟨z,k,h1,h2,h3⟩:=uU h
   exact⟨z,k,by simp[aI,e,h1],h2,fun y hy=>bD.2 (.inr (h3 y hy))⟩
def yh (b:ag)(n:Nat):gE (fR b n).2.1 n (fR b n).2.2:=by
 obtain⟨st,fz,c⟩:=b
 cases c with
 |var t x=>exact uZ x n
 |_=>exact gE.nil n
def uX:∀(l:Mem) (n:Nat),gE (iT l n).2.1 n (iT l n).2.2
 | [],n=>gE.nil n
 | (_s,x)::l,n=>(yh x n).app (uX l _)
def uW:∀{l:Mem} {n s:Nat} {x':ag},find (iT l n).1 s=some x'→∃x k,find l s=some x∧x'=(fR x k).1∧∀y∈(fR x k).2.1,y∈(iT l n).2.1
 | [],n,s,x',h=>by simp[iT,find] at h
 | (t,x)::l,n,s,x',h=>by
  simp only[iT,aI] at h
  by_cases e:t=s
  ·rw[bf e] at h
   cases h
   exact⟨x,n,by simp[aI,e],rfl,fun y hy=>bD.2 (.inl hy)⟩
  ·rw[bY e] at h
   obtain⟨z,k,h1,h2,h3⟩:=uW h
   exact⟨z,k,by simp[aI,e,h1],h2,fun y hy=>bD.2 (.inr (h3 y hy))⟩
def uY:∀{l:Mem} {n s:Nat} {x:ag},find l s=some x→∃x',find (iT l n).1 s=some x'
 | [],n,s,x',h=>by simp[find] at h
 | (t,x)::l,n,s,x',h=>by
  simp only[iT,aI] at h ⊢
  by_cases e:t=s
  ·simp[e]
  ·rw[bY e] at h ⊢
   exact uY h
def rL:∀(l:Mem) (seen:List Nat) (i:Nat),find (uniq l seen) i=if i∈seen then none else find l i
 | [],seen,i=>by simp[uniq,find]
 | (j,b)::l,seen,i=>by
  simp only[uniq]
  by_cases hj:j∈seen
  ·rw[lC.2 hj]
   simp only[aG,rL l seen i,aI]
   by_cases hi:i∈seen
   ·simp[hi]
   ·have:j≠i:=fun e=>hi (e▸hj)
    simp[hi,this]
  ·have:bT (Nat.beq j) seen=false:=by
    cases h:bT (Nat.beq j) seen with
    |false=>rfl
    |true=>exact absurd (lC.1 h) hj
   rw[this]
   simp only[eF,aI,rL l (j::seen) i,aX]
   by_cases e:j=i
   ·subst e;simp[hj]
   ·have:¬i=j:=fun h=>e h.symm
    simp[e,this]
def rG:∀{l:List Nat} {env:List (Nat×AT)} {s:Nat} {x:AT},find (jP env l) s=some x→find env s=some x
 | [],env,s,x,h=>by simp[jP,find] at h
 |t::l,env,s,x,h=>by
  simp only[jP] at h
  split at h
  ·rename_i y hy
   rw[aI] at h
   split at h
   ·rename_i e;subst e;rw[hy];exact h
   ·exact rG h
  ·exact rG h
def uT (b:ag)(n:Nat):(fR b n).1.st=b.st∧(fR b n).1.fz=b.fz∧bJ b.c (fR b n).1.c:=by
 obtain⟨st,fz,c⟩:=b
 cases c with
 |var t x=>exact⟨rfl,rfl,rfl⟩
 |rows t xs=>exact⟨rfl,rfl,rfl,rfl⟩
 |deep rs t xs=>exact⟨rfl,rfl,bJ.refl _⟩
 |dead=>exact⟨rfl,rfl,trivial⟩
def yj {id:Nat}{b:ag}{k:Nat}(ht:jc (fR b k).2.1 m ρ)(h:aS w I m ρ id b):aS w I m ρ id (fR b k).1:=by
 obtain⟨st,fz,c⟩:=b
 cases c with
 |var t x=>
  obtain⟨h1,B,cs,h2,h3,h4,h5⟩:=h
  exact⟨yw h1,B,cs,h2,h3,su (x:=x) (n:=k) ht h4,h5⟩
 |rows t xs=>exact h
 |deep rs t xs=>exact h
 |dead=>exact h
def yg {b:ag}{k:Nat}(h:(fR b k).1.bH):(fR b k).1=b:=by
 obtain⟨st,fz,c⟩:=b
 cases c with
 |var t x=>simp[fR,ag.bH] at h
 |rows t xs=>rfl
 |deep rs t xs=>rfl
 |dead=>rfl
def yF {keep:List Nat}(hb:cN (fun x=>Nat.ble (x.1+1) eR) st.mem=true)(h:Inv F n K st a w) :
  ∃I ρ,pN F n K (sE keep st) a w I ρ:=by
 obtain⟨⟨I,ρ,hi⟩,hn⟩:=h
 have hA:sE keep st=⟨(iS (jP st.env keep) eR).1,app (iT (uniq st.mem []) (iS (jP st.env keep) eR).2.2).1 (app (iS (jP st.env keep) eR).2.1 (iT (uniq st.mem []) (iS (jP st.env keep) eR).2.2).2.1),st.ok⟩:=rfl
 rw[hA]
 generalize hE:iS (jP st.env keep) eR=E
 generalize hM:iT (uniq st.mem []) E.2.2=M
 have hfe:gE E.2.1 eR E.2.2:=hE▸uV _ _
 have hfm:gE M.2.1 E.2.2 M.2.2:=hM▸uX _ _
 have hfr:=hfe.app hfm
 have hlt:∀id b,find st.mem id=some b→id<eR:=fun id b hb'=>by
  have:=fW hb _ (fh hb')
  have:=fu this
  omega
 have huniq:∀i,find (uniq st.mem []) i=find st.mem i:=fun i=>by rw[rL];simp
 have hold:∀id b',find M.1 id=some b'→∃b k,find st.mem id=some b∧b'=(fR b k).1∧∀y∈(fR b k).2.1,y∈M.2.1:=by
  intro id b' hf
  rw[←hM] at hf
  obtain⟨b,k,h1,h2,h3⟩:=uW hf
  rw[huniq] at h1
  exact⟨b,k,h1,h2,hM▸h3⟩
 let m1:MF:=find (app M.1 (app E.2.1 M.2.1))
 let lB:Pl:=⟨fun i=>if i<eR then ρ i else none,fun i=>if i<eR then ρ.d i else []⟩
 have hfind:∀id b',m1 id=some b'→(∃b k,find st.mem id=some b∧b'=(fR b k).1∧∀y∈(fR b k).2.1,y∈M.2.1)∨(eR≤id∧∃t,b'=⟨0,false,.rows t []⟩):=by
  intro id b' hf
  change find (app M.1 (app E.2.1 M.2.1)) id=some b' at hf
  rw[cS] at hf
  split at hf
  ·rename_i b hb'
   cases hf
   exact .inl (hold id _ hb')
  ·obtain⟨h1,_,h3⟩:=hfr.all _ (fh hf)
   exact .inr ⟨h1,h3⟩
 have hold1:∀id b,find st.mem id=some b→∃k,m1 id=some (fR b k).1:=by
  intro id b hb'
  obtain⟨b',cH⟩:=uY (l:=uniq st.mem []) (n:=E.2.2) (by rw[huniq];exact hb')
  rw[hM] at cH
  obtain⟨b0,k,h1,h2,h3⟩:=hold id b' cH
  rw[hb'] at h1
  cases h1
  refine⟨k,?_⟩
  show find (app M.1 (app E.2.1 M.2.1)) id=_
  rw[cS,cH,h2]
 have um:jc (app E.2.1 M.2.1) m1 lB:=by
  intro x hx
  obtain⟨h1,_,_⟩:=hfr.all x hx
  refine⟨?_,by show(if x.1<eR then ρ x.1 else none)=none;rw[bY (by omega)]⟩
  show find (app M.1 (app E.2.1 M.2.1)) x.1=_
  rw[cS]
  cases hf:find M.1 x.1 with
  |none=>exact hfr.fnd x hx
  |some b=>
   obtain⟨b0,k,h2,_⟩:=hold _ _ hf
   have:=hlt _ _ h2
   omega
 have hkeep:dc (find st.mem) m1 ρ lB w w:=by
  refine⟨fun id b hb'=>?_,fun _ _ _ _ _ _ _ _ _ _ _ _ _ _ _ _=>rfl⟩
  obtain⟨k,hk⟩:=hold1 id b hb'
  obtain⟨e1,e2,e3⟩:=uT b k
  exact⟨_,hk,.inr ⟨e1.symm,e3,by show(if id<eR then ρ id else none)=_;rw[bf (hlt id b hb')],fun _ _ _ _ cs hc=>⟨cs,hc,bw _⟩⟩⟩
 have hag:=bN.refl I w
 have hρ:∀id B o,lB id=some (B,o)→ρ id=some (B,o):=by
  intro id B o h
  change (if id<eR then ρ id else none)=_ at h
  split at h
  ·exact h
  ·cases h
 have dJ:∀{id:Nat} {b':ag},m1 id=some b'→b'.live→∀{B o},lB id=some (B,o)→∃b,find st.mem id=some b∧b.live:=by
  intro id b' hb' hl B o hr
  rcases hfind id b' hb' with⟨b,k,h1,h2,_⟩|⟨h1,_⟩
  ·refine⟨b,h1,?_⟩
   obtain⟨_,_,e3⟩:=uT b k
   rw[h2] at hl
   unfold ag.live at hl ⊢
   revert e3 hl
   cases b.c<;>cases (fR b k).1.c<;>simp[bJ]
  ·change (if id<eR then ρ id else none)=_ at hr
   rw[bY (by omega)] at hr
   cases hr
 refine⟨I,lB,⟨?_,?_,hi.size,hi.defers,hi.kept.mono hkeep⟩⟩
 ·refine⟨fun id b' hb'=>?_,fun id id' b b' B o o' h1 h2 h3 h4 h5 h6=>?_,hi.mem.aY,hi.mem.iE,hi.mem.gZ,fun id b B o h1 h2 h3=>?_,fun id b hb' hdp=>?_,hi.mem.frame,hi.mem.size,hi.mem.os,hi.mem.tape,hi.mem.output,hi.mem.fY⟩
  ·rcases hfind id b' hb' with⟨b,k,h1,h2,h3⟩|⟨h1,t,h2⟩
   ·subst h2
    refine yj (m:=m1) (ρ:=lB) (fun y hy=>um y (bD.2 (.inr (h3 y hy)))) ?_
    refine(hi.mem.blk id b h1).mono hag hkeep ?_ ?_ (fun _ _ _ _=>⟨rfl,fun h=>h⟩) (fun _ _ _=>⟨rfl,fun h=>h⟩)
    ·show(if id<eR then ρ id else none)=_
     rw[bf (hlt id b h1)]
    ·show(if id<eR then ρ.d id else [])=_
     rw[bf (hlt id b h1)]
   ·subst h2
    refine⟨trivial,.inl ⟨rfl,?_⟩⟩
    show(if id<eR then ρ id else none)=none
    rw[bY (by omega)]
  ·obtain⟨c,hc1,iB⟩:=dJ h1 h3 h5
   obtain⟨c',mg,mh⟩:=dJ h2 h4 h6
   exact hi.mem.inj id id' c c' B o o' hc1 mg iB mh (hρ _ _ _ h5) (hρ _ _ _ h6)
  ·obtain⟨c,hc1,iB⟩:=dJ h1 h2 h3
   exact hi.mem.mine id c B o hc1 iB (hρ _ _ _ h3)
  ·have jL:∀{i:Nat} {c:ag},m1 i=some c→c.bH→find st.mem i=some c∧lB.d i=ρ.d i:=by
    intro i c hc hd
    rcases hfind i c hc with⟨b0,k,h1,h2,_⟩|⟨_,t,h2⟩
    ·rw[h2] at hd
     have:=yg hd
     rw[h2,this]
     refine⟨h1,?_⟩
     show(if i<eR then ρ.d i else [])=_
     rw[bf (hlt i b0 h1)]
    ·rw[h2] at hd;simp[ag.bH] at hd
   obtain⟨h1,h2⟩:=jL hb' hdp
   obtain⟨q1,q2⟩:=hi.mem.dp id b h1 hdp
   rw[h2]
   refine⟨q1,fun B hB=>⟨(q2 B hB).1,fun id' b' o g1 g2 g3=>?_,fun id' b' g1 g2 g3=>?_⟩⟩
   ·obtain⟨c,hc1,iB⟩:=dJ g1 g2 g3
    exact(q2 B hB).2.1 id' c o hc1 iB (hρ _ _ _ g3)
   ·obtain⟨k1,k2⟩:=jL g1 g2
    rw[k2] at g3
    exact(q2 B hB).2.2 id' b' k1 g2 g3
 ·intro s av bC
  rw[←hE] at bC
  obtain⟨x,k,h1,h2,h3⟩:=uU bC
  subst h2
  refine yq (m:=m1) (ρ:=lB) (fun y hy=>um y (bD.2 (.inl (hE▸h3 y hy)))) ?_
  exact(hi.env s x (rG h1)).mono hag hkeep
end
section
variable {P:Program} {F:Fix} {C:Cx} {o:Oper} {a:Act} {w w':World} {m m':MF} {I I':Nat→Prop} {ρ ρ':Pl} {d:aE}
variable {n:Nat} {K:eX} {st st':St} {μ:List (Nat×Nat)}
def nX:BC→BC→Prop
 |c,.rows u xs=>c = .rows u xs
 |c,.deep _ u xs=>∃r,c = .deep r u xs
 |c,.var t _=>∃x,c = .var t x
 |_,.dead=>True
def nX.arr {c c':BC}{x:Ty×Nat}(h:nX c c')(e:c'.arr=some x):c.arr=some x:=by
 cases c' with
 |rows u xs=>simp only[nX] at h;subst h;exact e
 |deep r u xs=>obtain⟨r',h⟩:=h;subst h;exact e
 |var _ _=>cases e
 |dead=>cases e
structure mR (m m':MF) (ρ ρ':Pl) (μ:List (Nat×Nat)):Prop where
 to:∀id j b,find μ id=some j→m id=some b→∃b',m' j=some b'∧(0<b'.st∨(b'.st=0∧nX b.c b'.c))∧ρ' j=ρ id
def nK {id st:Nat}{f:Nat→AT}:ju m μ id st f = .undef 1∨∃b j,m id=some b∧b.st=st∧find μ id=some j∧ju m μ id st f=f j:=by
 unfold ju
 split
 ·rename_i b hb
  split
  ·rename_i j hj
   exact .inr ⟨b,j,(cR hb).1,(cR hb).2,hj,rfl⟩
  ·exact .inl rfl
 ·exact .inl rfl
def yA {vs:List Value}(h:gF vs):aa w I m ρ (.undef 1) vs:=by
 obtain⟨v,e,h1⟩:=h
 subst e
 exact⟨rfl,fun u hu=>by simp only[eH] at hu;subst hu;exact h1⟩
def iI.to {id j sz off:Nat}{ad:Option Addr}{cap:Nat}(h:iI w ρ id sz off ad cap)(e:ρ' j=ρ id):iI w ρ' j sz off ad cap:=by
 unfold iI fU at *
 rw[e];exact h
def fU.to {id j sz:Nat}{ad:Option Addr}{cap:Nat}(h:fU w ρ id sz ad cap)(e:ρ' j=ρ id):fU w ρ' j sz ad cap:=by
 unfold fU at *
 rw[e];exact h
def oO (a b:AT):oN a b = .pair a b∨∃s x t y,a = .leaf s x∧b = .leaf t y∧oN a b = .leaf (.pair s t) (x,y):=by
 unfold oN
 split
 ·exact .inr ⟨_,_,_,_,rfl,rfl,rfl⟩
 ·exact .inl rfl
def ye {a b:AT}{v1 v2:List Value}(h1:aa w I m ρ a v1)(h2:aa w I m ρ b v2):aa w I m ρ (oN a b) (v1++v2):=by
 rcases oO a b with e|⟨s,x,t,y,rfl,rfl,e⟩
 ·rw[e];exact⟨v1,v2,rfl,h1,h2⟩
 ·rw[e];exact⟨v1,v2,rfl,h1,h2⟩
def sH (gJ:mR m m' ρ ρ' μ):∀{x:AT} {vs:List Value},aa w I m ρ x vs→aa w I m' ρ' (cT m μ x) vs:=by
 intro x
 have ref:∀{id st:Nat} {f:Nat→AT} {vs:List Value},gF vs →
   (∀b j b',m id=some b→b.st=st→m' j=some b'→(b'.st=0→nX b.c b'.c)→ρ' j=ρ id→aa w I m' ρ' (f j) vs)→aa w I m' ρ' (ju m μ id st f) vs:=by
  intro id st f vs h1 h
  rcases nK (m:=m) (μ:=μ) (id:=id) (st:=st) (f:=f) with e|⟨b,j,e1,e2,e3,e4⟩
  ·rw[e];exact yA h1
  ·rw[e4]
   obtain⟨b',k1,k2,k3⟩:=gJ.to id j b e3 e1
   refine h b j b' e1 e2 k1 (fun hz=>?_) k3
   rcases k2 with k2|k2
   ·omega
   ·exact k2.2
 induction x with
 |leaf t x=>intro vs h;exact h
 |whole id st t=>
  intro vs h
  simp only[aa] at h
  refine ref h.1 fun b j b' e1 e2 k1 k2 k3=>⟨h.1,⟨b',k1,lz _⟩,fun b2 cH hst u xs hc=>?_⟩
  rw[k1] at cH;cases cH
  obtain⟨ad,cap,q1,q2,q3⟩:=h.2.2 b e1 e2 u xs ((k2 hst).arr hc)
  exact⟨ad,cap,q1,q2,q3.to k3⟩
 |piece id st off len t=>
  intro vs h
  simp only[aa] at h
  refine ref h.1 fun b j b' e1 e2 k1 k2 k3=>⟨h.1,⟨b',k1,lz _⟩,fun b2 cH hst u xs hc=>?_⟩
  rw[k1] at cH;cases cH
  obtain⟨ad,cap,q1,q2,q3,q4⟩:=h.2.2 b e1 e2 u xs ((k2 hst).arr hc)
  exact⟨ad,cap,q1,q2,q3,q4.to k3⟩
 |nil t=>intro vs h;exact h
 |cW=>intro vs h;exact h
 |pair l r ihl ihr=>intro vs h;obtain⟨v1,v2,e,h1,h2⟩:=h;rw[e];exact ye (ihl h1) (ihr h2)
 |undef n=>intro vs h;exact h
 |aV id st p=>
  intro vs h
  simp only[aa] at h
  refine ref h.1 fun b j b' e1 e2 k1 k2 k3=>⟨h.1,⟨b',k1,lz _⟩,fun b2 cH hst t x hc=>?_⟩
  rw[k1] at cH;cases cH
  have:=k2 hst
  rw[hc] at this
  obtain⟨x',hx'⟩:=this
  rw[k3]
  exact h.2.2 b e1 e2 t x' hx'
 |ptr id st row p=>
  intro vs h
  simp only[aa] at h
  refine ref h.1 fun b j b' e1 e2 k1 k2 k3=>⟨h.1,⟨b',k1,lz _⟩,fun b2 cH hst t xs hc=>?_⟩
  rw[k1] at cH;cases cH
  rw[k3]
  exact h.2.2 b e1 e2 t xs ((k2 hst).arr hc)
 |nest id st rs row p u=>intro vs h;simp only[aa] at h;exact⟨h.1,h.2.1⟩
 |fn f c ih=>intro vs h;obtain⟨caps,e,h1⟩:=h;exact⟨caps,e,ih h1⟩
 |bL l r ihl ihr=>intro vs h;obtain⟨v1,v2,e,h1,h2⟩:=h;exact⟨v1,v2,e,ihl h1,ihr h2⟩
 |cJ=>intro vs h;exact h
 |bM g b=>intro vs h;simp[aa] at h
 |any=>intro vs h;exact h
def yO:∀(x:AT),x.fo=true→(cT m μ x).isAgg=x.isAgg:=by
 intro x hnn
 have ref:∀{id st:Nat} {f:Nat→AT},(∀j,(f j).isAgg=false)→(ju m μ id st f).isAgg=false:=by
  intro id st f h
  rcases nK (m:=m) (μ:=μ) (id:=id) (st:=st) (f:=f) with e|⟨b,j,_,_,_,e⟩<;>rw[e]
  ·rfl
  ·exact h j
 cases x<;>first|rfl|exact ref fun _=>rfl|(simp[AT.fo] at hnn;done)|(rename_i l r;rcases oO (cT m μ l) (cT m μ r) with e|⟨_,_,_,_,_,_,e⟩<;>simp only[cT,e]<;>rfl)
def yS:∀{x:AT} {t:Ty},x.fo=true→Typed x t→Typed (cT m μ x) t:=by
 intro x
 induction x with
 |whole id st u=>
  intro t _ h
  simp only[Typed] at h
  subst h
  simp only[cT]
  rcases nK (m:=m) (μ:=μ) (id:=id) (st:=st) (f:=fun j=>AT.whole j 0 u) with e|⟨b,j,_,_,_,e⟩<;>rw[e]
  ·exact⟨rfl,rfl⟩
  ·rfl
 |piece id st off len u=>
  intro t _ h
  simp only[Typed] at h
  subst h
  simp only[cT]
  rcases nK (m:=m) (μ:=μ) (id:=id) (st:=st) (f:=fun j=>AT.piece j 0 off len u) with e|⟨b,j,_,_,_,e⟩<;>rw[e]
  ·exact⟨rfl,rfl⟩
  ·rfl
 |pair l r ihl ihr=>intro t hn h;simp only[AT.fo,aF] at hn;obtain⟨a,b,e,h1,h2⟩:=h;have k1:=ihl hn.1 h1;have k2:=ihr hn.2 h2;rcases oO (cT m μ l) (cT m μ r) with e'|⟨s,x,u,y,e1,e2,e'⟩<;>simp only[cT,e'];exact⟨a,b,e,k1,k2⟩;rw[e1] at k1;rw[e2] at k2;simp only[Typed] at k1 k2 ⊢;rw[e,k1,k2]
 |nest _ _ _ _ _ _=>intro t hn h;simp[AT.fo] at hn
 |aV id st p=>intro t _ h;simp[Typed] at h
 |ptr id st row p=>intro t _ h;simp[Typed] at h
 |fn f c ih=>intro t _ h;simp[Typed] at h
 |bL l r ihl ihr=>intro t _ h;simp[Typed] at h
 |bM g b=>intro t _ h;simp[Typed] at h
 |_=>intro t _ h;exact h
def mF (gJ:mR m m' ρ ρ' μ){x:AT}{v:Value}(hn:x.fo=true)(h:aB w I m ρ x v):aB w I m' ρ' (cT m μ x) v:=by
 unfold aB at h ⊢
 rw[yO x hn]
 split
 ·rename_i hh
  rw[bf hh] at h
  obtain⟨arr,e,h1⟩:=h
  exact⟨arr,e,sH gJ h1⟩
 ·rename_i hh
  rw[bY hh] at h
  exact sH gJ h
def yR (gJ:mR m m' ρ ρ' μ):∀{x:AT} {vs:List Value},x.fo=true→de w I m ρ x vs→de w I m' ρ' (cT m μ x) vs:=by
 intro x
 induction x with
 |bL l r ihl ihr=>intro vs hn h;simp only[AT.fo,aF] at hn;obtain⟨v,vs',e,h1,h2⟩:=h;exact⟨v,vs',e,mF gJ hn.1 h1,ihr hn.2 h2⟩
 |cJ=>intro vs _ h;exact h
 |_=>intro vs _ h;simp[de] at h
def y5 {x:AT}{v:Value}(h:aB w I m ρ x v)(hn:∀l r,x ≠ .bL l r)(h1:x ≠ .cJ):az w I m ρ x v:=by
 cases x<;>first|exact h|trivial|exact absurd rfl (hn _ _)|exact absurd rfl h1
def yQ (gJ:mR m m' ρ ρ' μ){x:AT}{v:Value}(hn:x.fo=true)(h:az w I m ρ x v):az w I m' ρ' (cT m μ x) v:=by
 have ref:∀{id st:Nat} {f:Nat→AT},(∀j,(∀l r,f j ≠ .bL l r)∧f j ≠ .cJ)→aB w I m' ρ' (ju m μ id st f) v→az w I m' ρ' (ju m μ id st f) v:=by
  intro id st f hf hv
  refine y5 hv ?_ ?_<;>rcases nK (m:=m) (μ:=μ) (id:=id) (st:=st) (f:=f) with e|⟨b,j,_,_,_,e⟩<;>rw[e]
  ·intro l r;simp
  ·exact(hf j).1
  ·simp
  ·exact(hf j).2
 cases x with
 |bL l r=>obtain⟨arr,e,h1⟩:=h;exact⟨arr,e,yR gJ (x:=.bL l r) hn h1⟩
 |cJ=>exact h
 |any=>trivial
 |bM _ _=>trivial
 |whole id st t=>exact ref (fun j=>⟨by intro l r;simp,by simp⟩) (mF gJ (x:=.whole id st t) hn h)
 |piece id st off len t=>exact ref (fun j=>⟨by intro l r;simp,by simp⟩) (mF gJ (x:=.piece id st off len t) hn h)
 |ptr id st row p=>exact ref (fun j=>⟨by intro l r;simp,by simp⟩) (mF gJ (x:=.ptr id st row p) hn h)
 |aV id st p=>exact ref (fun j=>⟨by intro l r;simp,by simp⟩) (mF gJ (x:=.aV id st p) hn h)
 |leaf t y=>exact h
 |nil t=>exact h
 |cW=>exact h
 |pair l r=>have k:=mF gJ (x:=.pair l r) hn h;simp only[cT] at k ⊢;rcases oO (cT m μ l) (cT m μ r) with e|⟨_,_,_,_,_,_,e⟩<;>(rw[e] at k ⊢;exact k)
 |undef k=>exact h
 |fn f c=>exact mF gJ (x:=.fn f c) hn h
 |nest _ _ _ _ _ _=>simp[AT.fo] at hn
def yU (gJ:mR m m' ρ ρ' μ){x:AT}{v:Value}(h:az w I m ρ x v):az w I m' ρ' (nJ m μ x) v:=by
 have main:az w I m' ρ' (bif x.fo then cT m μ x else .any) v:=by
  cases hn:x.fo with
  |true=>exact yQ gJ hn h
  |false=>trivial
 cases x<;>first|exact main|trivial
def tX {i:Nat}{b:ag}:∀{l:Mem} (j:Nat),find (nD i b l) j=if i=j then some b else find l j
 | [],j=>by simp[nD,aI]
 | (k,c)::l,j=>by
  simp only[nD]
  cases h:Nat.ble i k with
  |true=>simp only[aG,aI]
  |false=>
   have hik:i≠k:=by intro e;subst e;rw[Nat.ble_eq_true_of_le (bw _)] at h;cases h
   simp only[eF,aI,tX (l:=l)]
   by_cases e:i=j
   ·subst e
    have:¬k=i:=fun e=>hik e.symm
    simp[this]
   ·simp[e]
def rK:∀(l:Mem) (j:Nat),find (mH l) j=find l j
 | [],_=>rfl
 | (i,b)::l,j=>by
  show find (nD i b (mH l)) j=_
  rw[tX,aI,rK l]
def lE {α:Type}:∀{l:List (Nat×α)} {i:Nat} {x:α},(l.map (·.1)).Nodup→(i,x)∈l→find l i=some x
 | [],i,x,_,h=>by simp at h
 | (j,y)::l,i,x,hn,h=>by
  simp only[kD,cX] at hn
  rw[aI]
  rcases aX.1 h with e|h
  ·cases e;simp
  ·have:j≠i:=by intro e;subst e;exact hn.1 (eV.2 ⟨_,h,rfl⟩)
   rw[bY this]
   exact lE hn.2 h
def o3 {i:Nat}{b:ag}(h:m i=some b):(fH m μ i=⟨1,false,.dead⟩∧0<b.st∧gu i=true) ∨
  ((gu i=false∨b.st=0)∧(fH m μ i).st=0∧(fH m μ i).fz=b.fz∧((∃t x,b.c = .var t x∧(fH m μ i).c = .var t (cT m μ x))∨(∃t xs,b.c = .rows t xs∧(fH m μ i).c = .rows t xs)∨(∃r t xs,b.c = .deep r t xs∧(fH m μ i).c = .deep 0 t xs)∨(b.c = .dead∧(fH m μ i).c = .dead))):=by
 obtain⟨st,fz,c⟩:=b
 unfold fH
 rw[h]
 simp only
 cases hp:gu i && !(Nat.beq st 0) with
 |true=>
  simp only[aG,true_and]
  simp only[aF,i_] at hp
  refine .inl ⟨Nat.pos_of_ne_zero fun e=>?_,hp.1⟩
  subst e
  simp at hp
 |false=>
  simp only[eF]
  refine .inr ⟨?_,?_⟩
  ·rw[zl81] at hp
   rcases hp with hp|hp
   ·exact .inl hp
   ·refine .inr ?_
    simp only[Bool.not_eq_false'] at hp
    exact cU hp
  ·cases c with
   |var t x=>exact⟨rfl,rfl,.inl ⟨t,x,rfl,rfl⟩⟩
   |rows t xs=>exact⟨rfl,rfl,.inr (.inl ⟨t,xs,rfl,rfl⟩)⟩
   |deep r t xs=>exact⟨rfl,rfl,.inr (.inr (.inl ⟨r,t,xs,rfl,rfl⟩))⟩
   |dead=>exact⟨rfl,rfl,.inr (.inr (.inr ⟨rfl,rfl⟩))⟩
def yP (x:AT):∀A b,cT m μ x ≠ .bM A b:=by
 intro A b
 cases x<;>simp only[cT]<;>first
  | (intro h;cases h;done)
  | (rename_i id st _;rcases nK (m:=m) (μ:=μ) (id:=id) (st:=st) with e|⟨_,j,_,_,_,e⟩<;>rw[e]<;>simp;done)
  | (rename_i l r;rcases oO (cT m μ l) (cT m μ r) with e|⟨_,_,_,_,_,_,e⟩<;>rw[e]<;>simp;done)
  |skip
 all_goals (intro h;unfold ju at h;split at h<;>(try split at h)<;>cases h)
def yT (x:AT):∀A b,nJ m μ x ≠ .bM A b:=by
 intro A b
 have main:(bif x.fo then cT m μ x else .any) ≠ .bM A b:=by
  cases x.fo with
  |true=>exact yP x A b
  |false=>simp
 cases x<;>first|exact main|simp[nJ]
def rH (m:MF)(μ:List (Nat×Nat)):∀(env:List (Nat×AT)) (s:Nat),find (bu (fun x=>(x.1,nJ m μ x.2)) env) s=(find env s).map (nJ m μ)
 | [],s=>rfl
 | (t,x)::l,s=>by
  simp only[bu,aI,rH m μ l]
  by_cases e:t=s<;>simp[e]
def yG {p:St}(hb:sF st=some p)(h:∃I ρ,pN F n K st a w I ρ):Inv F n K p a w:=by
 obtain⟨I,ρ,hi⟩:=h
 unfold sF at hb
 dsimp only at hb
 generalize qw st.mem 100 _=μ at hb
 obtain⟨hok,hb⟩:=aH hb
 cases hb
 rw[aF] at hok
 obtain⟨hok,hnn⟩:=hok
 have hnn':∀i fz s t x,find st.mem i=some ⟨s,fz,.var t x⟩→x.fo=true:=fun i fz s t x h=>fW hnn _ (fh h)
 simp only[renOk,aF,lQ,jm] at hok
 obtain⟨⟨⟨n1,n2⟩,hpid⟩,hpm⟩:=hok
 let m:MF:=find st.mem
 let m':MF:=find (mH (bu (fun x=>(x.2,fH (find st.mem) μ x.1)) μ))
 let sw:List (Nat×Nat):=μ.map fun x=>(x.2,x.1)
 let ρ':Pl:=⟨fun j=>match find sw j with | some i=>ρ i|none=>none,fun j=>match find sw j with | some i=>ρ.d i|none=>[]⟩
 have nsw:(sw.map (·.1)).Nodup:=by simpa[sw,Function.comp_def] using n2
 have hsw:∀i j,(i,j)∈μ→ρ' j=ρ i:=by
  intro i j hij
  show(match find sw j with | some i=>ρ i|none=>none)=_
  rw[lE nsw (eV.2 ⟨(i,j),hij,rfl⟩)]
 have hswd:∀i j,(i,j)∈μ→ρ'.d j=ρ.d i:=by
  intro i j hij
  show(match find sw j with | some i=>ρ.d i|none=>[])=_
  rw[lE nsw (eV.2 ⟨(i,j),hij,rfl⟩)]
 have nm:(((bu (fun x:Nat×Nat=>(x.2,fH (find st.mem) μ x.1)) μ)).map (·.1)).Nodup:=by
  rw[jm]
  simpa[Function.comp_def] using n2
 have hto:∀i j,(i,j)∈μ→m' j=some (fH m μ i):=by
  intro i j hij
  show find (mH _) j=_
  rw[rK]
  exact lE nm (by rw[jm];exact eV.2 ⟨(i,j),hij,rfl⟩)
 have mq:∀j b',m' j=some b'→∃i,(i,j)∈μ∧b'=fH m μ i:=by
  intro j b' h
  change find (mH _) j=_ at h
  rw[rK,jm] at h
  obtain⟨⟨i,k⟩,h1,h2⟩:=eV.1 (fh h)
  cases h2
  exact⟨i,h1,rfl⟩
 have hmv:mR m m' ρ ρ' μ:=by
  refine⟨fun id j b hf hb=>?_⟩
  have hin:=fh hf
  refine⟨_,hto id j hin,?_,hsw id j hin⟩
  rcases o3 (μ:=μ) hb with⟨e,_,_⟩|⟨_,e1,_,e2⟩
  ·rw[e];exact .inl (by decide)
  ·refine .inr ⟨e1,?_⟩
   rcases e2 with⟨t,x,k1,k2⟩|⟨t,xs,k1,k2⟩|⟨r,t,xs,k1,k2⟩|⟨k1,k2⟩<;>rw[k2,k1]
   ·exact⟨x,rfl⟩
   ·rfl
   ·exact⟨r,rfl⟩
   ·trivial
 have dJ:∀i j,(i,j)∈μ→(fH m μ i).live→∃b,m i=some b∧b.live:=by
  intro i j hij hl
  cases hb:m i with
  |none=>
   have:fH m μ i=⟨0,false,.dead⟩:=by unfold fH;rw[hb]
   rw[this] at hl
   exact hl.elim
  |some b=>
   refine⟨b,rfl,?_⟩
   rcases o3 (μ:=μ) hb with⟨e,_,_⟩|⟨_,_,_,e2⟩
   ·rw[e] at hl;exact hl.elim
   ·rcases e2 with⟨t,x,k1,k2⟩|⟨t,xs,k1,k2⟩|⟨r,t,xs,k1,k2⟩|⟨k1,k2⟩
    ·exact kf k1
    ·exact fF k1
    ·unfold ag.live;rw[k1];trivial
    ·unfold ag.live at hl;rw[k2] at hl;exact hl.elim
 have j8:∀i j,(i,j)∈μ→(fH m μ i).bH→∃b,m i=some b∧b.bH:=by
  intro i j hij hd
  obtain⟨b,hb,_⟩:=dJ i j hij (fA hd)
  refine⟨b,hb,?_⟩
  unfold ag.bH at hd ⊢
  rcases o3 (μ:=μ) hb with⟨e,_,_⟩|⟨_,_,_,e2⟩
  ·rw[e] at hd;exact hd.elim
  ·rcases e2 with⟨t,x,k1,k2⟩|⟨t,xs,k1,k2⟩|⟨r,t,xs,k1,k2⟩|⟨k1,k2⟩<;>rw[k2] at hd
   ·exact hd.elim
   ·exact hd.elim
   ·rw[k1];trivial
   ·exact hd.elim
 have hsame:∀{i j j':Nat},(i,j)∈μ→(i,j')∈μ→j=j':=by
  intro i j j' h h'
  have f1:=lE n1 h
  rw[lE n1 h'] at f1
  cases f1
  rfl
 refine⟨⟨I,ρ',⟨?_,?_,hi.size,hi.defers,?_⟩⟩,?_⟩
 ·refine⟨fun j b' hb'=>?_,fun j j' b b' B o o' h1 h2 h3 h4 h5 h6=>?_,hi.mem.aY,hi.mem.iE,hi.mem.gZ,fun j b B o h1 h2 h3=>?_,fun j b hb' hd=>?_,hi.mem.frame,hi.mem.size,hi.mem.os,hi.mem.tape,hi.mem.output,hi.mem.fY⟩
  ·obtain⟨i,hij,e⟩:=mq j b' hb'
   subst e
   cases hb:m i with
   |none=>
    have:fH m μ i=⟨0,false,.dead⟩:=by unfold fH;rw[hb]
    rw[this];trivial
   |some b=>
    have hblk:=hi.mem.blk i b hb
    rcases o3 (μ:=μ) hb with⟨e,_,_⟩|⟨_,_,e1,e2⟩
    ·rw[e];trivial
    ·unfold aS at hblk ⊢
     rcases e2 with⟨t,x,k1,k2⟩|⟨t,xs,k1,k2⟩|⟨r,t,xs,k1,k2⟩|⟨k1,k2⟩
     ·rw[k1] at hblk
      rw[k2]
      simp only at hblk ⊢
      obtain⟨q1,B,cs,q2,q3,q4,q5⟩:=hblk
      exact⟨yS (hnn' i b.fz b.st t x (by show m i=_;rw[hb,←k1])) q1,B,cs,by rw[hsw i j hij];exact q2,q3,sH hmv q4,by rw[e1];exact q5⟩
     ·rw[k1] at hblk
      rw[k2]
      simp only at hblk ⊢
      rw[hsw i j hij,e1]
      exact hblk
     ·rw[k1] at hblk
      rw[k2]
      simp only at hblk ⊢
      rw[hsw i j hij,hswd i j hij,e1]
      exact hblk
     ·rw[k2];trivial
  ·obtain⟨i,hij,e⟩:=mq j b h1
   obtain⟨i',hij',e'⟩:=mq j' b' h2
   subst e e'
   obtain⟨c,hc1,iB⟩:=dJ i j hij h3
   obtain⟨c',mg,mh⟩:=dJ i' j' hij' h4
   have:=hi.mem.inj i i' c c' B o o' hc1 mg iB mh (by rw[←hsw i j hij];exact h5) (by rw[←hsw i' j' hij'];exact h6)
   subst this
   have f1:=lE n1 hij
   have f2:=lE n1 hij'
   rw[f1] at f2
   cases f2
   rfl
  ·obtain⟨i,hij,e⟩:=mq j b h1
   subst e
   obtain⟨c,hc1,iB⟩:=dJ i j hij h2
   exact hi.mem.mine i c B o hc1 iB (by rw[←hsw i j hij];exact h3)
  ·obtain⟨i,hij,e⟩:=mq j b hb'
   subst e
   obtain⟨c,hc1,iB⟩:=j8 i j hij hd
   obtain⟨q1,q2⟩:=hi.mem.dp i c hc1 iB
   rw[hswd i j hij]
   refine⟨q1,fun B hB=>⟨(q2 B hB).1,fun j' b' o g1 g2 g3=>?_,fun j' b' g1 g2 g3=>?_⟩⟩
   ·obtain⟨i',hij',e'⟩:=mq j' b' g1
    subst e'
    obtain⟨c',mg,mh⟩:=dJ i' j' hij' g2
    exact(q2 B hB).2.1 i' c' o mg mh (by rw[←hsw i' j' hij'];exact g3)
   ·obtain⟨i',hij',e'⟩:=mq j' b' g1
    subst e'
    obtain⟨c',mg,mh⟩:=j8 i' j' hij' g2
    have:=(q2 B hB).2.2 i' c' mg mh (by rw[←hswd i' j' hij'];exact g3)
    subst this
    exact hsame hij' hij
 ·intro s av bC
  simp only[rH,bE] at bC
  obtain⟨x,hx,e⟩:=bC
  subst e
  exact yU hmv (hi.env s x hx)
 ·intro id b0 hb0
  obtain⟨b,hb,h1⟩:=hi.kept id b0 hb0
  have hp:=K.pid id b0 hb0
  have:=fW hpm _ (fh hb)
  simp only[hp,zl70,pH] at this
  split at this
  ·rename_i j hj
   have:=cU this
   subst this
   have hin:=fh hj
   refine⟨_,hto _ _ hin,?_⟩
   rcases o3 (μ:=μ) hb with⟨e,_,_⟩|⟨e0,e1,_,e2⟩
   ·rw[e];exact .inl (by decide)
   ·refine .inr ⟨e1,?_⟩
    have hz:b.st=0:=by
     rcases e0 with e0|e0
     ·rw[hp] at e0;cases e0
     ·exact e0
    rcases h1 with h1|⟨_,k2,k3,k4⟩
    ·omega
    ·refine⟨k2.trans ?_,(hsw _ _ hin).trans k3,k4⟩
     rcases e2 with⟨t,x,q1,q2⟩|⟨t,xs,q1,q2⟩|⟨r,t,xs,q1,q2⟩|⟨q1,q2⟩<;>(show fy b.c (fH m μ _).c)<;>rw[q1,q2]
     ·exact rfl
     ·exact⟨rfl,rfl⟩
     ·exact⟨rfl,rfl⟩
     ·trivial
  ·cases this
 ·intro s A b hf
  simp only[rH,bE] at hf
  obtain⟨x,hx,e⟩:=hf
  exact yT x A b e
def yH {keep:List Nat}{p:St}(hp:plain keep st=some p)(h:Inv F n K st a w):Inv F n K p a w:=by
 unfold plain at hp
 cases hb:cN (fun x=>Nat.ble (x.1+1) eR) st.mem with
 |false=>rw[hb] at hp;cases hp
 |true=>
  rw[hb] at hp
  exact yG hp (yF hb h)
end
section
variable {P:Program} {F:Fix} {C:Cx} {o:Oper} {a:Act} {w w':World} {m m':MF} {I I':Nat→Prop} {ρ ρ':Pl} {d:aE}
variable {n:Nat} {K:eX} {st st':St}
def oV:∀{p q:Path},gy p q=true→p=q
 | [],[],_=>rfl
 |.fst::p,.fst::q,h=>by rw[oV (p:=p) (q:=q) h]
 |.snd::p,.snd::q,h=>by rw[oV (p:=p) (q:=q) h]
 |.idx i::p,.idx j::q,h=>by
  simp only[gy,aF] at h
  rw[cU h.1,oV (p:=p) (q:=q) h.2]
 | [],_::_,h=>by simp[gy] at h
 |.fst::_,[],h=>by simp[gy] at h
 |.snd::_,[],h=>by simp[gy] at h
 |.idx _::_,[],h=>by simp[gy] at h
 |.fst::_,.snd::_,h=>by simp[gy] at h
 |.fst::_,.idx _::_,h=>by simp[gy] at h
 |.snd::_,.fst::_,h=>by simp[gy] at h
 |.snd::_,.idx _::_,h=>by simp[gy] at h
 |.idx _::_,.fst::_,h=>by simp[gy] at h
 |.idx _::_,.snd::_,h=>by simp[gy] at h
def AS.mV:∀{s:AS} {x:AT} {y:s.den},s.data x=some y→s.of y=x:=by
 intro s
 induction s with
 |leaf t=>
  intro x y h
  cases x<;>simp only[AS.data,reduceCtorEq] at h
  have:=cz h
  cases this
  rfl
 |whole id t=>
  intro x y h
  cases x<;>(try simp only[AS.data,reduceCtorEq] at h)
  rename_i jd st u
  cases st with
  |succ k=>cases h
  |zero=>
   simp only[AS.data] at h
   obtain⟨e1,_⟩:=aH h
   simp only[aF] at e1
   have:=cU e1.1
   have:=Ty.cZ e1.2
   subst_vars
   rfl
 |piece id t=>
  intro x y h
  cases x<;>(try simp only[AS.data,reduceCtorEq] at h)
  rename_i jd st off len u
  cases st with
  |succ k=>cases h
  |zero=>
   simp only[AS.data] at h
   obtain⟨e1,e2⟩:=aH h
   simp only[aF] at e1
   have:=cU e1.1
   have:=Ty.cZ e1.2
   subst_vars
   cases e2
   rfl
 |cW=>intro x y h;cases x<;>simp only[AS.data,reduceCtorEq] at h;rfl
 |pair l r ihl ihr=>
  intro x y h
  cases x<;>simp only[AS.data,reduceCtorEq] at h
  split at h
  ·rename_i u v hu hv
   cases h
   simp only[AS.of,ihl hu,ihr hv]
  ·cases h
 |undef k=>
  intro x y h
  cases x<;>simp only[AS.data,reduceCtorEq] at h
  obtain⟨e1,_⟩:=aH h
  have:=cU e1
  subst_vars
  rfl
 |ptr id p=>
  intro x y h
  cases x<;>(try simp only[AS.data,reduceCtorEq] at h)
  rename_i jd st row q
  cases st with
  |succ k=>cases h
  |zero=>
   simp only[AS.data] at h
   obtain⟨e1,e2⟩:=aH h
   simp only[aF] at e1
   have:=cU e1.1
   have:=oV e1.2
   subst_vars
   cases e2
   rfl
 |aV id p=>
  intro x y h
  cases x<;>(try simp only[AS.data,reduceCtorEq] at h)
  rename_i jd st q
  cases st with
  |succ k=>cases h
  |zero=>
   simp only[AS.data] at h
   obtain⟨e1,e2⟩:=aH h
   simp only[aF] at e1
   have:=cU e1.1
   have:=oV e1.2
   subst_vars
   rfl
 |fn f c ih=>
  intro x y h
  cases x<;>simp only[AS.data,reduceCtorEq] at h
  obtain⟨e1,e2⟩:=aH h
  have:=cU e1
  subst this
  simp only[AS.of,ih e2]
 |bL l r ihl ihr=>
  intro x y h
  cases x<;>simp only[AS.data,reduceCtorEq] at h
  split at h
  ·rename_i u v hu hv
   cases h
   simp only[AS.of,ihl hu,ihr hv]
  ·cases h
 |cJ=>intro x y h;cases x<;>simp only[AS.data,reduceCtorEq] at h;rfl
 |any=>intro x y h;cases x<;>simp only[AS.data,reduceCtorEq] at h;rfl
def BS.mV {s:BS}{x:BC}{y:s.den}(h:s.data x=some y):s.of y=x:=by
 cases s with
 |var t a=>
  cases x<;>simp only[BS.data,reduceCtorEq] at h
  obtain⟨e1,e2⟩:=aH h
  have:=Ty.cZ e1
  subst this
  simp only[BS.of,AS.mV e2]
 |rows t=>
  cases x<;>simp only[BS.data,reduceCtorEq] at h
  have:=cz h
  cases this
  rfl
 |deep t=>
  cases x with
  |deep r u xs=>
   cases r with
   |zero=>
    simp only[BS.data] at h
    have:=cz h
    cases this
    rfl
   |succ r=>simp[BS.data] at h
  |_=>simp[BS.data] at h
def tT:∀{l:List (Nat×AS)} {e:List (Nat×AT)} {y:oe l},kN l e=some y→om l y=e
 | [],[],y,_=>rfl
 | [],_::_,y,h=>by simp[kN] at h
 | [(s,a)],[],y,h=>by simp[kN] at h
 | [(s,a)],[(s',b)],y,h=>by
  simp only[kN] at h
  obtain⟨e1,e2⟩:=aH h
  have:=cU e1
  subst this
  simp only[om,AS.mV e2]
 | [(s,a)],_::_::_,y,h=>by simp[kN] at h
 | (s,a)::a'::l,[],y,h=>by simp[kN] at h
 | (s,a)::a'::l,(s',b)::l',y,h=>by
  simp only[kN] at h
  obtain⟨e1,e2⟩:=aH h
  have:=cU e1
  subst this
  split at e2
  ·rename_i u v hu hv
   cases e2
   simp only[om,AS.mV hu,tT hv]
  ·cases e2
def uM:∀{l:List (Nat×Bool×BS)} {e:Mem} {y:oK l},jQ l e=some y→oL l y=e
 | [],[],y,_=>rfl
 | [],_::_,y,h=>by simp[jQ] at h
 | [(s,f,a)],[],y,h=>by simp[jQ] at h
 | [(s,f,a)],[(s',⟨st,f',b⟩)],y,h=>by
  cases st with
  |succ k=>simp[jQ] at h
  |zero=>
   simp only[jQ] at h
   obtain⟨e1,e2⟩:=aH h
   simp only[aF] at e1
   have:=cU e1.1
   have:=qX e1.2
   subst_vars
   simp only[oL,BS.mV e2]
 | [(s,f,a)],_::_::_,y,h=>by simp[jQ] at h
 | (s,f,a)::a'::l,[],y,h=>by simp[jQ] at h
 | (s,f,a)::a'::l,(s',⟨st,f',b⟩)::l',y,h=>by
  cases st with
  |succ k=>simp[jQ] at h
  |zero=>
   simp only[jQ] at h
   obtain⟨e1,e2⟩:=aH h
   simp only[aF] at e1
   have:=cU e1.1
   have:=qX e1.2
   subst_vars
   split at e2
   ·rename_i u v hu hv
    cases e2
    simp only[oL,BS.mV hu,uM hv]
   ·cases e2
def Inv.u7 {e:List (Nat×AT)}{m:Mem}{k k':List Bool}(h:Inv F n K ⟨e,m,k⟩ a w):Inv F n K ⟨e,m,k'⟩ a w:=by
 obtain⟨⟨I,ρ,h1⟩,h2⟩:=h
 exact⟨⟨I,ρ,h1.mem,h1.env,h1.size,h1.defers,h1.kept⟩,h2⟩
def wpA_ok {m:MF}{x:AS}{a:AT}{v:Value}(h:az w I m ρ a v):az w I m ρ (wpA m x a) v:=by
 unfold wpA
 split
 ·rename_i id st t
  split
  ·rename_i b hb
   split
   ·rename_i y ha
    obtain⟨u,n⟩:=y
    obtain⟨h1,h2⟩:=cR hb
    have hx':=cn (a:=.whole id st t) rfl h (by simp) (by simp) (by simp) (by simp)
    simp only[aa] at hx'
    obtain⟨k1,k2,k3⟩:=hx'
    show aB _ _ _ _ _ _
    unfold aB
    simp only[AT.isAgg,dI,bI,aa]
    refine⟨k1,k2,fun b' hb' hs u' n' hc=>?_⟩
    obtain⟨a,cap,e1,e2,e3⟩:=k3 b' hb' hs u' n' hc
    rw[h1] at hb'
    cases hb'
    rw[ha] at hc
    cases hc
    exact⟨a,cap,e1,e2,by omega,e3.weak⟩
   ·exact h
  ·exact h
 ·exact h
def zq {m:MF}{x:AS}{a:AT}(h:∀A b,a ≠ .bM A b):∀A b,wpA m x a ≠ .bM A b:=by
 intro A b
 unfold wpA
 split
 ·split
  ·split<;>simp
  ·simp
 ·exact h A b
def s5 {m:MF}:∀{l:List (Nat×AS)} {e:List (Nat×AT)} {s:Nat} {av:AT},find (wpE m l e) s=some av→∃x a,find e s=some a∧(av=a∨av=wpA m x a)
 | [],e,s,av,h=>by
  have:wpE m [] e=e:=by cases e<;>rfl
  rw[this] at h
  exact⟨.any,av,h,.inl rfl⟩
 |x::l,[],s,av,h=>by cases h
 |x::l,(k,a)::e,s,av,h=>by
  simp only[wpE,aI] at h
  by_cases hk:k=s
  ·rw[bf hk] at h
   cases h
   exact⟨x.2,a,by rw[aI,bf hk],.inr rfl⟩
  ·rw[bY hk] at h
   obtain⟨y,b,h1,h2⟩:=s5 h
   exact⟨y,b,by rw[aI,bY hk];exact h1,h2⟩
def Inv.wp {l:List (Nat×AS)}{e:List (Nat×AT)}{m:Mem}{k:List Bool}(h:Inv F n K ⟨e,m,k⟩ a w):Inv F n K ⟨wpE (find m) l e,m,k⟩ a w:=by
 obtain⟨⟨I,ρ,h1⟩,h2⟩:=h
 refine⟨⟨I,ρ,h1.mem,fun s av bC=>?_,h1.size,h1.defers,h1.kept⟩,fun s A b hf=>?_⟩
 ·obtain⟨x,a0,e1,e2⟩:=s5 bC
  have h0:=h1.env s a0 e1
  rcases e2 with e2|e2
  ·subst e2;exact h0
  ·subst e2;exact wpA_ok h0
 ·obtain⟨x,a0,e1,e2⟩:=s5 hf
  have hw:∀A b,a0 ≠ .bM A b:=fun A b e=>h2 s A b (e▸e1)
  rcases e2 with e2|e2
  ·exact hw A b e2.symm
  ·exact zq hw A b e2.symm
def o5 {s:Sh}{x:s.den}{ok:List Bool}(hd:s.data st=some x)(h:Inv F n K st a w):Inv F n K { s.of x with ok:=ok } a w:=by
 unfold Sh.data at hd
 split at hd
 ·cases hd
 ·rename_i p hp
  split at hd
  ·rename_i u v hu hv
   cases hd
   have h1:=yH hp h
   obtain⟨pe,pm,pk⟩:=p
   have h1':=h1.wp (l:=s.env)
   have e1:=tT hu
   have e2:=uM hv
   simp only at e1 e2
   unfold Sh.of
   rw[e1,e2]
   exact h1'.u7
  ·cases hd
def exOf:Ex→Exit
 |.norm=>.normal
 |.exit i=>.exit i
 |.ret=>.ret
def Ex.cZ:∀{e f:Ex},e.is f=true→e=f
 |.norm,.norm,_=>rfl
 |.exit i,.exit j,h=>by rw[cU (show Nat.beq i j=true from h)]
 |.ret,.ret,_=>rfl
 |.norm,.exit _,h=>by simp[Ex.is] at h
 |.norm,.ret,h=>by simp[Ex.is] at h
 |.exit _,.norm,h=>by simp[Ex.is] at h
 |.exit _,.ret,h=>by simp[Ex.is] at h
 |.ret,.norm,h=>by simp[Ex.is] at h
 |.ret,.exit _,h=>by simp[Ex.is] at h
def rB {α:Type}{Kt:Ex→St→Option α}{ok:List Bool}{r:α}{f:Ex}:∀{l:fJ} {y:l.den},l.data f st=some y→fJ.go Kt ok l y=some r →
  ∃(s:Sh) (z:s.den),s.data st=some z∧Kt f { s.of z with ok:=ok }=some r
 | [],y,h,_=>by simp[fJ.data] at h
 | [(e,s)],y,h,hg=>by
  simp only[fJ.data] at h
  obtain⟨e1,e2⟩:=aH h
  have:=Ex.cZ e1
  subst this
  exact⟨s,y,e2,hg⟩
 | (e,s)::b::l,y,h,hg=>by
  simp only[fJ.data] at h
  split at h
  ·rename_i x hx
   cases h
   obtain⟨e1,e2⟩:=aH hx
   have:=Ex.cZ e1
   subst this
   exact⟨s,x,e2,hg⟩
  ·rw[bE] at h
   obtain⟨z,hz,e⟩:=h
   subst e
   exact rB hz hg
def qR (P:Program)(c:Code)(Q:Exit→Act→World→Prop)(a:Act)(w:World):Prop:=
 ∀(b:Frame) (k:List Item) (cs:List Frame),∃e a' w',Q e a' w'∧Arrives P (lone (b.at a (.code c :: .inLoop c::k)) cs w) b k cs e a' w'
def x8 {c:Code}{Q:Exit→Act→World→Prop}(h:qR P c Q a w):(Code.loop c).wp P Q a w:=fun b k cs=>by
 obtain⟨e,a',w',hq,cA⟩:=h b k cs
 exact⟨e,a',w',hq,.of_steps (.one step_loop) cA⟩
def uL {c:Code}{Q:Exit→Act→World→Prop}(h:c.wp P (Exit.then (qR P c Q) Q) a w):qR P c Q a w:=by
 intro b k cs
 obtain⟨e,a₁,w₁,hq,cA⟩:=h b (.inLoop c::k) cs
 cases e with
 |normal=>
  obtain⟨e₂,a₂,w₂,hq₂,xD⟩:=hq b k cs
  exact⟨e₂,a₂,w₂,hq₂,.of_steps (Steps.trans cA (.one step_inLoop)) xD⟩
 |exit id=>exact⟨_,a₁,w₁,hq,.pass (x:=.inLoop c) rfl (fun _ _=>.inl (by simp)) cA⟩
 |goto l=>exact⟨_,a₁,w₁,hq,.pass (x:=.inLoop c) rfl (fun _ _=>.inl (by simp)) cA⟩
 |ret=>exact⟨_,a₁,w₁,hq,.pass (x:=.inLoop c) rfl (fun _ _=>.inl (by simp)) cA⟩
 |panic ch=>exact⟨_,a₁,w₁,hq,.pass (x:=.inLoop c) rfl (fun _ _=>.inl (by simp)) cA⟩
 |outgrown=>exact⟨_,a₁,w₁,hq,.pass (x:=.inLoop c) rfl (fun _ _=>.inl (by simp)) cA⟩
def iw (C:Cx)(lt:List (Nat×cE)):Code→Prop
 |.seq a b=>iw C lt a∧iw C lt b∧∀L,pT lt a=some L→∀x,L.dom x=true→boxR C lt a L x=some (L.val x)
 |.cond _ a b=>iw C lt a∧iw C lt b
 |.block _ c=>iw C lt c
 |.scope c=>iw C lt c
 |.loop c=>iw C lt c∧∀L,(find lt (iA c)=some L∨find lt (iA c+500000)=some L)→∀x,L.dom x=true→Comes (round C lt c L) x (L.val x)
 |_=>True
end
section
variable {P:Program} {F:Fix} {C:Cx} {o:Oper} {a:Act} {w w':World} {m m':MF} {I I':Nat→Prop} {ρ ρ':Pl} {d:aE}
variable {n:Nat} {K:eX} {st st':St}
def x7 {lt:List (Nat×cE)}{k:Nat}{st:St}{L:cE}(h:r6 lt k st=some L):find lt k=some L∨find lt (k+500000)=some L:=by
 unfold r6 at h
 split at h
 ·split at h
  ·cases h;exact .inl (by assumption)
  ·exact .inr h
 ·cases h
def wu (hF:eW P F.G C){c:Operand}{g:Bool}(h:rq st.env C c=some g)(hi:Inv F n K st a w):a.eval c = .bool g:=by
 obtain⟨⟨I,ρ,h1⟩,h2⟩:=hi
 have h3:az w I (find st.mem) ρ (gL C st.env [] c) (a.eval c):=by
  refine qo hF h1.mem.fY (fun s _ av bC=>?_) (by intro t ht;simp at ht)
  exact rz (h1.env s av bC) fun A b e=>h2 s A b (e▸bC)
 have h4:gL C st.env [] c = .leaf .bool g:=by
  unfold rq at h
  unfold gL
  split at h
  ·rename_i g' hg
   cases h
   rw[hg]
  ·cases h
 rw[h4] at h3
 exact fS.1 h3
def evC_ok (hm:P.follows .mixedOrders=true)(hC:bW P C)(hF:eW P F.G C){lt:List (Nat×cE)}:∀(c:Code) {α:Type} {r:α} {Kt:Ex→St→Option α} {st:St} {a:Act} {w:World} {Q:Exit→Act→World→Prop},
  codeOk n c=true→iw C lt c→Inv F n K st a w→fX C lt c Kt st=some r →
  (∀e st' a' w',Kt e st'=some r→Inv F n K st' a' w'→Q (exOf e) a' w')→c.wp P Q a w:=by
 intro c
 induction c with
 |skip=>intro α r Kt st a w Q _ _ hi h hQ;exact wp_skip (hQ _ _ _ _ h hi)
 |region id ops draw=>
  intro α r Kt st a w Q eu _ hi h hQ
  simp only[fX] at h
  split at h
  ·rename_i st' hst
   obtain⟨h1,h2⟩:=aH h
   have hok:=tv.1 h1
   have hn:∀a' w',Inv F n K st' a' w'→Q .normal a' w':=fun a' w' h'=>by
    obtain⟨e,m,k⟩:=st'
    exact hQ .norm _ _ _ h2 h'.u7
   cases draw with
   |false=>exact yN hC hF eu hst hok hi hn
   |true=>exact yM hm hC hF eu hst hok hi hn
  ·cases h
 |seq x y iD jj=>
  intro α r Kt st a w Q eu hl hi h hQ
  simp only[codeOk,aF] at eu
  simp only[fX] at h
  split at h
  ·rename_i L hL
   unfold goBox at h
   split at h
   ·rename_i x0 hx
    obtain⟨hdom,h2⟩:=aH h
    have hbox:=hl.2.2 L hL x0 hdom
    have hix:Inv F n K (L.sh.of x0) a w:=(o5 (ok:=[]) hx hi)
    refine wp_seq (iD eu.1 hl.1 hix hbox ?_)
    intro e st' a' w' he hi'
    obtain⟨s,v,k1,k2⟩:=rB (aH he).2 h2
    have hi2:=o5 (ok:=st.ok) k1 hi'
    split at k2
    ·exact jj eu.2 hl.2.1 hi2 k2 hQ
    ·rename_i hne
     have:=hQ e _ a' w' k2 hi2
     cases e with
     |norm=>exact absurd rfl hne
     |exit i=>exact this
     |ret=>exact this
   ·cases h
  ·refine wp_seq (iD eu.1 hl.1 hi h ?_)
   intro e st' a' w' he hi'
   split at he
   ·exact jj eu.2 hl.2.1 hi' he hQ
   ·rename_i hne
    have:=hQ e st' a' w' he hi'
    cases e with
    |norm=>exact absurd rfl hne
    |exit i=>exact this
    |ret=>exact this
 |cond c x y iD jj=>
  intro α r Kt st a w Q eu hl hi h hQ
  simp only[codeOk,aF] at eu
  simp only[fX] at h
  split at h
  ·rename_i g hcg
   have hc:=wu hF hcg hi
   cases g with
   |true=>exact wp_cond_true hc (iD eu.1 hl.1 hi h hQ)
   |false=>exact wp_cond_false hc (jj eu.2 hl.2 hi h hQ)
  ·cases h
 |block id c ih=>
  intro α r Kt st a w Q eu hl hi h hQ
  simp only[fX] at h
  refine wp_block (ih eu hl hi h ?_)
  intro e st' a' w' he hi'
  split at he
  ·rename_i i
   cases hb:Nat.beq i id with
   |true=>
    rw[hb] at he
    have:=cU hb
    subst this
    have h1:=hQ _ _ _ _ he hi'
    simp only[exOf,Exit.inBlock,cj]
    exact h1
   |false=>
    rw[hb] at he
    have hne:i≠id:=by intro e;subst e;simp at hb
    have h1:=hQ _ _ _ _ he hi'
    simp only[exOf,Exit.inBlock,hne,bI]
    exact h1
  ·rename_i hne
   have h1:=hQ _ _ _ _ he hi'
   cases e with
   |norm=>exact h1
   |exit i=>exact absurd rfl (hne i)
   |ret=>exact h1
 |loop c ih=>
  intro α r Kt st a w Q eu hl hi h hQ
  simp only[fX] at h
  split at h
  ·rename_i L hL
   split at h
   ·rename_i x hx
    obtain⟨hdom,h2⟩:=aH h
    have ud:=hl.2 L (x7 hL) x hdom
    have hix:Inv F n K (L.sh.of x) a w:=(o5 (ok:=[]) hx hi)
    clear hdom h hx hi
    refine x8 ?_
    generalize L.val x=y at ud h2
    induction ud generalizing a w with
    |out hr=>
     rename_i x' y'
     refine uL (ih (r:=Sum.inr y') eu hl.1 hix hr ?_)
     intro e st' a' w' he hi'
     have jN:=(aH he).2
     split at jN
     ·rw[bE] at jN
      obtain⟨_,_,e⟩:=jN
      cases e
     ·rename_i hne
      rw[bE] at jN
      obtain⟨z,hz,e2⟩:=jN
      cases e2
      obtain⟨s,v,k1,k2⟩:=rB hz h2
      have h3:=hQ _ _ _ _ k2 (o5 k1 hi')
      cases e with
      |norm=>exact absurd rfl hne
      |exit i=>exact h3
      |ret=>exact h3
    |again hr _ ihc=>
     rename_i x' x'' y' _
     refine uL (ih (r:=Sum.inl x'') eu hl.1 hix hr ?_)
     intro e st' a' w' he hi'
     have jN:=(aH he).2
     split at jN
     ·rw[bE] at jN
      obtain⟨z,hz,e⟩:=jN
      cases e
      exact ihc (o5 (ok:=[]) hz hi') h2
     ·rw[bE] at jN
      obtain⟨_,_,e⟩:=jN
      cases e
   ·cases h
  ·cases h
 |exit id=>intro α r Kt st a w Q _ _ hi h hQ;exact wp_exit (hQ _ _ _ _ h hi)
 |scope c ih=>
  intro α r Kt st a w Q eu hl hi h hQ
  refine wp_scope_straight (ih eu hl hi h fun e st' a' w' he hi'=>?_)
  have:=hQ e st' a' w' he hi'
  cases e<;>exact this
 |label l=>intro α r Kt st a w Q _ _ hi h hQ;exact wp_label (hQ _ _ _ _ h hi)
 |ret=>intro α r Kt st a w Q _ _ hi h hQ;exact wp_ret (hQ _ _ _ _ h hi)
 |_=>intro α r Kt st a w Q _ _ _ h;simp[fX] at h
end
section
variable {P:Program} {F:Fix} {C:Cx} {o:Oper} {a:Act} {w w':World} {m m':MF} {I I':Nat→Prop} {ρ ρ':Pl} {d:aE}
variable {n:Nat} {K:eX} {st st':St}
def yV {t:Ty}{x:AT}{y:t.den}{k:aT}(h:(bif t.eM then none else match cQ m (cG (some t) x) with
  |some d=>match d.as t with
   |some x'=>some (x',(⟨[],dU m x.ids⟩:aT))
   |none=>none
  |none=>none)=some (y,k)):t.eM=false∧cQ m (cG (some t) x)=some ⟨t,y⟩∧k=⟨[],dU m x.ids⟩:=by
 cases ho:t.eM with
 |true=>rw[ho] at h;cases h
 |false=>
  rw[ho] at h
  simp only[eF] at h
  split at h
  ·rename_i d hd
   split at h
   ·rename_i x' hx'
    cases h
    have:=cz hx'
    subst this
    exact⟨rfl,hd,rfl⟩
   ·cases h
  ·cases h
inductive jX (m:MF):(t:Ty)→AT→t.den→aT→Prop where
 |whole {id st:Nat} {u:Ty} {xs:List u.den}:rowsOf m id st u=some (false,xs)→jX m (.own u) (.whole id st u) xs ⟨[id],[]⟩
 |front {id st len:Nat} {u:Ty} {xs:List u.den}:rowsOf m id st u=some (false,xs)→jX m (.own u) (.piece id st 0 len u) (xs.take len) ⟨[id],[]⟩
 |nil {u:Ty} {x:AT}:(x = .nil u∨x = .cW)→jX m (.own u) x [] {}
 |pair {a b:Ty} {l r:AT} {ya:a.den} {yb:b.den} {ka kb:aT}:jX m a l ya ka→jX m b r yb kb→jX m (.pair a b) (.pair l r) (ya,yb) (ka.app kb)
 |rest {t:Ty} {x:AT} {y:t.den}:t.eM=false→cQ m (cG (some t) x)=some ⟨t,y⟩→jX m t x y ⟨[],dU m x.ids⟩
def qI {t:Ty}{x:AT}{y:t.den}{k:aT}(h:(bif t.eM then none else match cQ m (cG (some t) x) with
  |some d=>match d.as t with
   |some x'=>some (x',(⟨[],dU m x.ids⟩:aT))
   |none=>none
  |none=>none)=some (y,k)):jX m t x y k:=by
 obtain⟨h1,h2,h3⟩:=yV h
 subst h3
 exact .rest h1 h2
def qH:∀{t:Ty} {x:AT} {y:t.den} {k:aT},gC m t x=some (y,k)→jX m t x y k:=by
 intro t
 induction t with
 |own u _=>
  intro x y k h
  cases x with
  |whole id st u'=>
   simp only[gC] at h
   split at h
   ·rename_i xs hr
    split at h
    ·rename_i ys hys
     cases h
     have:=cz hys
     cases this
     exact .whole hr
    ·cases h
   ·cases h
  |piece id st off len u'=>
   cases off with
   |zero=>
    simp only[gC] at h
    split at h
    ·rename_i xs hr
     split at h
     ·rename_i ys hys
      cases h
      have:=cz hys
      cases this
      exact .front hr
     ·cases h
    ·cases h
   |succ off=>exact qI (t:=.own u) h
  |nil u'=>
   simp only[gC] at h
   split at h
   ·rename_i ys hys
    cases h
    have:=cz hys
    cases this
    exact .nil (.inl rfl)
   ·cases h
  |cW=>
   simp only[gC] at h
   cases h
   exact .nil (.inr rfl)
  |_=>exact qI (t:=.own u) h
 |pair ta tb aL aK=>
  intro x y k h
  cases x with
  |pair l r=>
   simp only[gC] at h
   split at h
   ·rename_i x1 i x2 j h1 h2
    cases h
    exact .pair (aL h1) (aK h2)
   ·cases h
  |_=>exact qI (t:=.pair ta tb) h
 |_=>intro x y k h;cases x<;>exact qI h
def wq {t:Ty}{x:AT}{d:DV}(h:cQ m (cG (some t) x)=some d)(ht:d.t=t):x.slot=true∧x.isAgg=t.isAgg:=by
 have h1:=zh h
 rw[ht] at h1
 cases t<;>cases x<;>simp_all [cG,AT.slot,AT.one,AT.isAgg,Ty.isAgg]
def zg {t:Ty}{x:AT}{y:t.den}{k:aT}(h:gC m t x=some (y,k)):x.slot=true∧x.isAgg=t.isAgg:=by
 cases qH h with
 |whole _=>exact⟨rfl,rfl⟩
 |front _=>exact⟨rfl,rfl⟩
 |nil e=>rcases e with e|e<;>subst e<;>exact⟨rfl,rfl⟩
 |pair _ _=>exact⟨rfl,rfl⟩
 |rest _ h2=>exact wq h2 rfl
def wm {t:Ty}{x:AT}{vs:List Value}(h:aa w I m ρ x vs):aa w I m ρ (cG (some t) x) vs:=by
 unfold cG
 split
 ·exact h
 ·exact h
def tP {t:Ty}{x:AT}{id:Nat}(h:id∈(cG (some t) x).ids):id∈x.ids:=by
 unfold cG at h
 split at h
 ·simp[AT.ids] at h
 ·exact h
def sQ {I':Nat→Prop}(hm:aD F m w I ρ)(hI:∀B,I B→I' B){t:Ty}{x:AT}{y:t.den}{k:aT}(h:jX m t x y k):∀{vs:List Value},aa w I m ρ x vs →
  (∀id∈k.aY,∀b B o,m id=some b→b.live→ρ id=some (B,o)→I' B)→(∀id∈k.own,∀B,aN m ρ id B→¬I' B)→k.own.Nodup →
  ∃Bs,cF w I' t y vs Bs∧Bs.Nodup∧∀B∈Bs,∃id∈k.own,aN m ρ id B:=by
 induction h with
 |whole h1=>
  rename_i id st u xs
  intro vs hr hi ho hn
  obtain⟨Bs,q1,q2⟩:=sC hm hr h1 hI (ho id (by simp))
  refine⟨Bs,q1,?_,?_⟩
  ·rcases q2 with rfl|⟨B,rfl,_⟩<;>simp
  ·rcases q2 with rfl|⟨B,rfl,q2⟩
   ·simp
   ·intro B' bg
    simp only[eH] at bg
    subst bg
    exact⟨id,by simp,q2⟩
 |front h1=>
  rename_i id st len u xs
  intro vs hr hi ho hn
  have hb:=gA h1
  simp only[aa] at hr
  obtain⟨_,_,h3⟩:=hr
  obtain⟨ad,cap,e1,e2,kM,e3⟩:=h3 _ hb rfl u xs.length rfl
  have hlen:(xs.take len).length=len:=by simp;omega
  have hblk:=hm.blk id _ hb
  simp only[aS] at hblk
  rcases e3.2 rfl with⟨q1,q2,q3⟩|⟨B,o,cs,q1,q2,q3,q4⟩
  ·refine⟨[],⟨ad,cap,by rw[hlen];exact e1,by rw[hlen];exact e2,.inl ⟨q1,q2,rfl⟩⟩,by simp,by simp⟩
  ·rcases hblk.2 with⟨_,hno⟩|⟨B',o',cs',k1,k2,k3,k4,k5⟩
   ·rw[q1] at hno;cases hno
   ·rw[q1] at k1
    cases k1
    have bU:aN m ρ id B:=⟨_,hb,fF rfl,rfl,.inl ⟨_,q1⟩⟩
    refine⟨[B],⟨ad,cap,by rw[hlen];exact e1,by rw[hlen];exact e2,.inr ⟨B,o,cs,q2,q3,q4,?_,ho id (by simp) B bU,rfl⟩⟩,by simp,fun B' bg=>?_⟩
    ·intro j x hj
     rw[List.getElem?_take] at hj
     split at hj
     ·obtain⟨es,r1,r2,r3⟩:=k4 j x hj
      exact⟨es,r1,r2,af.mono ⟨hI,fun _ _=>rfl⟩ r3⟩
     ·cases hj
    ·simp only[eH] at bg
     subst bg
     exact⟨id,by simp,bU⟩
 |nil e2=>
  intro vs hr hi ho hn
  have:vs = [.slice none 0 0]:=by rcases e2 with e2|e2<;>subst e2<;>exact hr
  subst this
  exact⟨[],⟨none,0,by simp,by simp,.inl ⟨rfl,rfl,rfl⟩⟩,by simp,by simp⟩
 |pair h1 h2 aL aK=>
  intro vs hr hi ho hn
  obtain⟨v1,v2,e3,r1,r2⟩:=hr
  simp only[aT.app,bD] at hi ho
  simp only[aT.app,bZ] at hn
  have hn':=cM.1 hn
  obtain⟨B1,q1,q2,q3⟩:=aL r1 (fun id h=>hi id (.inl h)) (fun id h=>ho id (.inl h)) hn'.1
  obtain⟨B2,p1,p2,p3⟩:=aK r2 (fun id h=>hi id (.inr h)) (fun id h=>ho id (.inr h)) hn'.2.1
  refine⟨B1++B2,⟨v1,v2,B1,B2,e3,rfl,q1,p1⟩,jr hm hn q2 p2 q3 p3,fun B hB=>?_⟩
  simp only[aT.app,bZ]
  rcases bB.1 hB with hB|hB
  ·obtain⟨i,hi,h⟩:=q3 B hB;exact⟨i,by simp[hi],h⟩
  ·obtain⟨i,hi,h⟩:=p3 B hB;exact⟨i,by simp[hi],h⟩
 |rest h1 h2=>
  intro vs hr hi ho hn
  exact⟨[],cF.ga (qJ (d:=⟨_,_⟩) hm hI (fun id h=>hi id (r9 (tP h))) h2 (wm hr)),by simp,by simp⟩
def zf {I':Nat→Prop}(hm:aD F m w I ρ)(hI:∀B,I B→I' B){t:Ty}{x:AT}{y:t.den}{k:aT}{v:Value}(h:qG m t x=some (y,k))(hs:az w I m ρ x v)
  (ho:∀id∈k.own,∀B,aN m ρ id B→¬I' B) (hn:k.own.Nodup):∃cs,v=aQ t cs∧∃Bs,aq w I' t y cs Bs∧Bs.Nodup∧∀B∈Bs,∃id∈k.own,aN m ρ id B:=by
 unfold qG at h
 split at h
 ·rename_i d0 hd
  split at h
  ·rename_i y' hy
   cases h
   have:=cz hy
   subst this
   have hs':az w I m ρ (cG (some t) x) v:=n9 (u:=some t) hs
   obtain⟨e1,e2⟩:=vB hd
   obtain⟨cs,hv,hr⟩:=qE e1 e2 hs'
   have lF:∀id∈(cG (some t) x).ids,id∈x.ids:=fun id hi=>tP hi
   have hnd:(cG (some t) x).ids.Nodup:=by
    unfold cG
    split
    ·simp[AT.ids]
    ·exact hn
   obtain⟨Bs,Ks,q1,q2,q3,_⟩:=qF (I':=I') hm hI hd hr (fun id hi=>ho id (lF id hi)) hnd
   exact⟨cs,hv,Bs,q1,(cM.1 q2).1,fun B hB=>by obtain⟨i,hi,h⟩:=q3 B (dX _ hB);exact⟨i,lF i hi,h⟩⟩
  ·cases h
 ·cases h
end
section
variable {P:Program} {F:Fix} {C:Cx} {o:Oper} {a:Act} {w w':World} {m m':MF} {I I':Nat→Prop} {ρ ρ':Pl} {d:aE}
variable {n:Nat} {K:eX} {st st':St}
def o4 (tmps:Array Value):ResultVar→Sem Value
 |.tmp t=>pure (tmps.getD t Go.undef)
 |.cell a t=>do loadVar t (←asAddr (tmps.getD a Go.undef))
def x5 {C:Cx}{tmps:Array Value}(hC:bW P C)(hm:aD F (find st.mem) w I ρ)(he:∀s av,find st.env s=some av→az w I (find st.mem) ρ av (tmps.getD s Go.undef))
  {r:ResultVar} {x:AT} (h:nk C st r=some x):∃v,(o4 tmps r).run P w = .ok v w∧az w I (find st.mem) ρ x v:=by
 cases r with
 |tmp s=>exact⟨_,rfl,he s x h⟩
 |cell s T=>
  simp only[nk] at h
  split at h
  ·rename_i id s0 u hs hu
   split at h
   ·rename_i st0 fz t a hcur
    obtain⟨h1,h2⟩:=aH h
    cases h2
    have:=Ty.cZ h1
    subst this
    have hT:=hC.ty hu
    obtain⟨hb,hst⟩:=cR hcur
    have hx':=cn (a:=.aV id s0 []) rfl (he s _ hs) (by simp) (by simp) (by simp) (by simp)
    simp only[aa] at hx'
    obtain⟨_,B,hρ,hv⟩:=hx'.2.2 _ hb hst t x rfl
    simp only[eG,dY,Ty.off] at hv
    have hblk:=hm.blk id _ hb
    simp only[aS] at hblk
    obtain⟨ht,B',cs,f1,f2,f3,_⟩:=hblk
    rw[hρ] at f1
    cases f1
    have hlen:=ht.length f3
    have hload:=hT.vn (w:=w) (B:=B) (o:=0) hlen (fun j _=>by rw[jE];exact f2.cell j)
    refine⟨_,?_,(gN ht).2 (aB.unpack ht hT f3)⟩
    simp only[o4,hv]
    simpa[asAddr] using hload
   ·cases h
  ·cases h
def qq {C:Cx}{tmps:Array Value}(hC:bW P C)(hm:aD F (find st.mem) w I ρ)(hI:∀B,I B→I' B)(he:∀s av,find st.env s=some av→az w I (find st.mem) ρ av (tmps.getD s Go.undef)) :
  ∀{rs:List ResultVar} {ws:List Want} {l:List RV} {k:aT},iW C st rs ws=some (l,k) →
   (∀id∈k.aY,∀b B o,find st.mem id=some b→b.live→ρ id=some (B,o)→I' B)→(∀id∈k.own,∀B,aN (find st.mem) ρ id B→¬I' B)→k.own.Nodup →
   rs.length=ws.length∧∃vals,dN (fun r v=>(o4 tmps r).run P w = .ok v w) rs vals∧∃Bs,gV w I' l vals Bs∧Bs.Nodup∧∀B∈Bs,∃id∈k.own,aN (find st.mem) ρ id B
 | [],[],l,k,h,_,_,_=>by
  simp only[iW] at h
  cases h
  exact⟨rfl,[],.nil,[],rfl,by simp,by simp⟩
 | [],_::_,l,k,h,_,_,_=>by simp[iW] at h
 |_::_,[],l,k,h,_,_,_=>by simp[iW] at h
 |r::rs,wt::ws,l,k,h,hi,ho,hn=>by
  simp only[iW] at h
  split at h
  ·rename_i x l' k' hx eN
   obtain⟨v,hrun,rQ⟩:=x5 hC hm he hx
   split at h
   ·
    rename_i t x2
    split at h
    ·rename_i y i hy
     cases h
     simp only[aT.app,bD] at hi ho
     simp only[aT.app,bZ] at hn
     have hn':=cM.1 hn
     obtain⟨e1,e2⟩:=zg hy
     obtain⟨cs,hv,hr⟩:=qE e1 e2 rQ
     obtain⟨B1,q1,q2,q3⟩:=sQ hm hI (qH hy) hr (fun id h=>hi id (.inl h)) (fun id h=>ho id (.inl h)) hn'.1
     obtain⟨p1,vs,p0,B2,p2,p3,p4⟩:=qq hC hm hI he eN (fun id h=>hi id (.inr h)) (fun id h=>ho id (.inr h)) hn'.2.1
     refine⟨by simp[p1],v::vs,.cons hrun p0,B1++B2,⟨B1,B2,rfl,⟨cs,hv,q1⟩,p2⟩,jr hm hn q2 p3 q3 p4,fun B hB=>?_⟩
     simp only[aT.app,bZ]
     rcases bB.1 hB with hB|hB
     ·obtain⟨i,hi,h⟩:=q3 B hB;exact⟨i,by simp[hi],h⟩
     ·obtain⟨i,hi,h⟩:=p4 B hB;exact⟨i,by simp[hi],h⟩
    ·cases h
   ·
    rename_i t x2
    split at h
    ·rename_i y i hy
     cases h
     simp only[aT.app,bD] at hi ho
     simp only[aT.app,bZ] at hn
     have hn':=cM.1 hn
     obtain⟨cs,hv,B1,q1,q2,q3⟩:=zf hm hI hy rQ (fun id h=>ho id (.inl h)) hn'.1
     obtain⟨p1,vs,p0,B2,p2,p3,p4⟩:=qq hC hm hI he eN (fun id h=>hi id (.inr h)) (fun id h=>ho id (.inr h)) hn'.2.1
     refine⟨by simp[p1],v::vs,.cons hrun p0,B1++B2,⟨B1,B2,rfl,⟨cs,hv,q1⟩,p2⟩,jr hm hn q2 p3 q3 p4,fun B hB=>?_⟩
     simp only[aT.app,bZ]
     rcases bB.1 hB with hB|hB
     ·obtain⟨i,hi,h⟩:=q3 B hB;exact⟨i,by simp[hi],h⟩
     ·obtain⟨i,hi,h⟩:=p4 B hB;exact⟨i,by simp[hi],h⟩
    ·cases h
   ·
    rename_i t id sd
    split at h
    ·rename_i st0 vt b hcur
     split at h
     ·rename_i y i hy
      cases h
      obtain⟨hb,hst⟩:=cR hcur
      simp only at hst
      subst hst
      simp only[aT.app,app,bD,aX] at hi ho
      simp only[aT.app,app,bZ] at hn
      have hnc:=cX.1 hn
      have hn':=cM.1 hnc.2
      have fD:=cn (a:=.aV id st0 []) rfl rQ (by simp) (by simp) (by simp) (by simp)
      simp only[aa] at fD
      obtain⟨_,B,hρ,hv⟩:=fD.2.2 _ hb rfl vt b rfl
      simp only[eG,dY,Ty.off] at hv
      have hblk:=hm.blk id _ hb
      simp only[aS] at hblk
      obtain⟨_,B',cs,f1,f2,f3,f4⟩:=hblk
      rw[hρ] at f1
      cases f1
      have bU:aN (find st.mem) ρ id B:=⟨_,hb,kf rfl,rfl,.inl ⟨0,hρ⟩⟩
      obtain⟨B1,q1,q2,q3⟩:=sQ hm hI (qH hy) f3 (fun id h=>hi id (.inl h)) (fun id h=>ho id (.inr (.inl h))) hn'.1
      obtain⟨p1,vs,p0,B2,p2,p3,p4⟩:=qq hC hm hI he eN (fun id h=>hi id (.inr h)) (fun id h=>ho id (.inr (.inr h))) hn'.2.1
      have hall:∀B'∈B1++B2,∃id'∈app i.own k'.own,aN (find st.mem) ρ id' B':=by
       intro B' bg
       rw[bZ]
       rcases bB.1 bg with bg|bg
       ·obtain⟨i,hi,h⟩:=q3 B' bg;exact⟨i,by simp[hi],h⟩
       ·obtain⟨i,hi,h⟩:=p4 B' bg;exact⟨i,by simp[hi],h⟩
      refine⟨by simp[p1],v::vs,.cons hrun p0,B::(B1++B2),⟨B::B1,B2,rfl,⟨B,cs,B1,hv,f2,ho id (.inl rfl) B bU,q1,rfl⟩,p2⟩,?_,?_⟩
      ·rw[cX]
       refine⟨fun hin=>?_,jr hm hnc.2 q2 p3 q3 p4⟩
       obtain⟨j,hj,dO⟩:=hall B hin
       have:=dO.inj hm bU
       subst this
       rw[bZ] at hj
       exact hnc.1 hj
      ·intro B' bg
       simp only[aT.app,app]
       rcases aX.1 bg with e|bg
       ·subst e;exact⟨id,by simp,bU⟩
       ·obtain⟨j,hj,dO⟩:=hall B' bg;exact⟨j,by simp only[aX];exact .inr hj,dO⟩
     ·cases h
    ·cases h
   ·cases h
  ·cases h
def af.free:∀{t:Ty} {x:t.den} {vs:List Value} {w w':World} {I I':Nat→Prop},t.aO=false→af w I t x vs→af w' I' t x vs:=by
 intro t
 induction t with
 |lst t _=>intro x vs w w' I I' h;simp[Ty.aO] at h
 |ref t _=>intro x vs w w' I I' h;simp[Ty.aO] at h
 |own t _=>intro x vs w w' I I' _ h;simp only[af] at h
 |pair a b aL aK=>
  intro x vs w w' I I' h hr
  simp only[Ty.aO,jD] at h
  simp only[af] at hr ⊢
  obtain⟨v1,v2,e,h1,h2⟩:=hr
  exact⟨v1,v2,e,aL h.1 h1,aK h.2 h2⟩
 |arr n t ih=>
  intro x vs w w' I I' h hr
  simp only[af] at hr ⊢
  exact⟨hr.1,aR.mono (fun x vs hh=>ih (by simpa[Ty.aO] using h) hh) hr.2⟩
 |_=>intro x vs w w' I I' _ h;exact h
def gS (w0:World)(m0:MF)(pl:Pl):(t:Ty)→t.den→Nat→List Value→Prop
 |.lst t,xs,n,vs=>m0 n=some ⟨0,false,lM t xs⟩∧∃ad cap,vs = [.slice ad xs.length cap]∧xs.length≤cap∧fU w0 pl n t.size ad cap
 |.pair a b,x,n,vs=>match(Ty.pair a b).aO with
  |true=>∃v1 v2,vs=v1++v2∧gS w0 m0 pl a x.1 n v1∧gS w0 m0 pl b x.2 (aU (fun _=>none) a x.1 n).2.2 v2
  |false=>∃J,af w0 J (.pair a b) x vs
 |t,x,_,vs=>t.aO=false∧∃J,af w0 J t x vs
def zj {m:MF}:∀{t:Ty} {x y:t.den} {n e:Nat} {l:List Nat},jA m t x n=some (y,l,e)→e=(aU (fun _=>none) t x n).2.2:=by
 intro t
 induction t with
 |lst t _=>
  intro x y n e l h
  simp only[jA] at h
  obtain⟨_,h⟩:=aH h
  split at h
  ·cases h;rfl
  ·cases h
 |pair a b aL aK=>
  intro x y n e l h
  simp only[jA] at h
  simp only[aU]
  cases hl:(Ty.pair a b).aO with
  |false=>rw[hl] at h;cases h;rfl
  |true=>
   rw[hl] at h
   simp only[aG] at h ⊢
   split at h
   ·rename_i y1 l1 k h1
    split at h
    ·rename_i z l2 e2 h2
     cases h
     have:=aL h1
     rw[←this]
     exact aK h2
    ·cases h
   ·cases h
 |_=>intro x y n e l h;simp only[jA,au,eE] at h;exact h.2.2.symm
def yZ {t:Ty}{x:List t.den}{c:BC}{k:Nat}(h:fy (lM t x) c)(ha:c.arr=some (t,k)):x.length=k:=by
 unfold lM at h
 cases hl:t.aO<;>rw[hl] at h<;>cases c<;>simp only[BC.arr,reduceCtorEq,au,eE] at ha<;>simp only[aG,eF,fy] at h
 ·exact h.2.trans ha.2
 ·exact h.2.trans ha.2
def zk {w0:World}{m0 m:MF}{pl:Pl}(hm:aD F m w I ρ)(hI:∀B,I B→I' B)
  (hk:∀id b0,gu id=true→m0 id=some b0→∃b,m id=some b∧(0<b.st∨(b.st=0∧fy b0.c b.c∧ρ id=pl id ∧
   (b0.live→∀B o,pl id=some (B,o)→∀cs,Cells w0 B cs→∃cs',Cells w B cs'∧cs.length≤cs'.length)))) :
  ∀{t:Ty} {x y:t.den} {n e:Nat} {l:List Nat} {cs:List Value},jA m t x n=some (y,l,e)→gS w0 m0 pl t x n cs→(∀id∈l,∀B,aN m ρ id B→¬I' B)→l.Nodup →
   ∃Bs,aq w I' t y cs Bs∧Bs.Nodup∧(∀B∈Bs,∃id∈l,aN m ρ id B)∧Grown w0 w cs:=by
 intro t
 have scal:∀{t:Ty} {y:t.den} {cs:List Value},t.aO=false→(∃J,af w0 J t y cs)→∃Bs,aq w I' t y cs Bs∧Bs.Nodup∧(∀B∈Bs,∃id∈([]:List Nat),aN m ρ id B)∧Grown w0 w cs:=by
  rintro t y cs hl ⟨J,hr⟩
  refine⟨[],aq.ga hl (af.free hl hr),by simp,by simp,?_⟩
  have none:∀{t:Ty} {y:t.den} {cs:List Value},t.aO=false→af w0 J t y cs→∀a n c,¬Value.slice a n c∈cs:=by
   intro t
   induction t with
   |lst t _=>intro y cs h;simp[Ty.aO] at h
   |ref t _=>intro y cs h;simp[Ty.aO] at h
   |own t _=>intro y cs _ h;simp only[af] at h
   |pair a b aL aK=>
    intro y cs h hr a' n c hin
    simp only[Ty.aO,jD] at h
    simp only[af] at hr
    obtain⟨v1,v2,e,h1,h2⟩:=hr
    subst e
    rcases bB.1 hin with hin|hin
    ·exact aL h.1 h1 a' n c hin
    ·exact aK h.2 h2 a' n c hin
   |arr k t ih=>
    intro y cs h hr a' n c hin
    simp only[af] at hr
    have:∀{xs:List t.den} {vs:List Value},aR (af w0 J t) xs vs→¬Value.slice a' n c∈vs:=by
     intro xs
     induction xs with
     |nil=>intro vs h;cases h;simp
     |cons x xs iD=>
      rintro vs ⟨v1,v2,e,h1,h2⟩ hin
      subst e
      rcases bB.1 hin with hin|hin
      ·exact ih (by simpa[Ty.aO] using h) h1 a' n c hin
      ·exact iD h2 hin
    exact this hr.2 hin
   |unit=>intro y cs _ hr a' n c hin;simp only[af] at hr;subst hr;simp at hin
   |bool=>intro y cs _ hr a' n c hin;simp only[af] at hr;subst hr;simp at hin
   |int k=>intro y cs _ hr a' n c hin;simp only[af] at hr;subst hr;simp at hin
   |str=>intro y cs _ hr a' n c hin;simp only[af] at hr;subst hr;simp at hin
  intro B o n cap hin
  exact absurd hin (none hl hr _ _ _)
 induction t with
 |lst t _=>
  intro x y n e l cs h hh ho hn
  simp only[jA] at h
  obtain⟨hp,h⟩:=aH h
  split at h
  ·rename_i ys hown
   cases h
   obtain⟨hm0,ad,cap,hv,hcap,qb⟩:=hh
   obtain⟨b,hb,fZ⟩:=hk n _ hp hm0
   have hb0:b.st=0∧b.c.arr=some (t,y.length):=by
    rcases qs hown with⟨h1,_⟩|⟨fz,rs,h1⟩<;>(rw[hb] at h1;cases h1;exact⟨rfl,rfl⟩)
   rcases fZ with fZ|⟨_,hsh,hρ,hgrow⟩
   ·omega
   ·have hlen:x.length=y.length:=yZ hsh hb0.2
    have dJ:(⟨0,false,lM t x⟩:ag).live:=by unfold ag.live lM;cases t.aO<;>trivial
    have hatr:aa w I m ρ (.whole n 0 t) cs:=by
     simp only[aa]
     refine⟨⟨_,hv,rfl⟩,cq.of hb hb0.1,fun b' hb' hs u k cA=>?_⟩
     rw[hb] at hb'
     cases hb'
     rw[hb0.2] at cA
     cases cA
     refine⟨ad,cap,by rw[hv,hlen],by omega,?_⟩
     rcases qb with⟨e1,e2,e3⟩|⟨B,o0,cs0,e1,e2,e3,e4⟩
     ·exact .inl ⟨e1,e2,hρ.trans e3⟩
     ·obtain⟨cs2,g1,g2⟩:=hgrow dJ B o0 e1 cs0 e3
      exact .inr ⟨B,o0,cs2,hρ.trans e1,e2,g1,by omega⟩
    obtain⟨Bs,q1,q2,q3⟩:=vf hm hatr hown hI (ho n (by simp))
    refine⟨Bs,q1,q2,fun B hB=>⟨n,by simp,q3 B hB⟩,?_⟩
    intro B o k c hin ds hds
    rw[hv] at hin
    simp only[eH,Value.slice.injEq] at hin
    rcases qb with⟨e1,e2,e3⟩|⟨B',o0,cs0,e1,e2,e3,e4⟩
    ·rw[e1] at hin;cases hin.1
    ·rw[e2] at hin
     simp only[au,Addr.mk.injEq,dY] at hin
     obtain⟨⟨rfl,rfl⟩,_⟩:=hin
     exact hgrow dJ B o e1 ds hds
  ·cases h
 |pair a b aL aK=>
  intro x y n e l cs h hh ho hn
  simp only[jA] at h
  unfold gS at hh
  cases hl:(Ty.pair a b).aO with
  |false=>
   rw[hl] at h hh
   cases h
   exact scal hl hh
  |true=>
   rw[hl] at h hh
   simp only[aG] at h hh
   split at h
   ·rename_i y1 l1 k h1
    split at h
    ·rename_i z l2 e2 h2
     cases h
     obtain⟨v1,v2,rfl,g1,g2⟩:=hh
     have hnum:=zj h1
     rw[←hnum] at g2
     simp only[bZ] at hn ho
     have hn':=cM.1 hn
     obtain⟨B1,q1,q2,q3,q4⟩:=aL h1 g1 (fun id hi=>ho id (by simp[hi])) hn'.1
     obtain⟨B2,p1,p2,p3,p4⟩:=aK h2 g2 (fun id hi=>ho id (by simp[hi])) hn'.2.1
     refine⟨B1++B2,by simp only[aq];exact⟨v1,v2,B1,B2,rfl,rfl,q1,p1⟩,jr hm hn q2 p2 q3 p3,fun B hB=>?_,fun B o k c hin=>?_⟩
     ·simp only[bZ]
      rcases bB.1 hB with hB|hB
      ·obtain⟨i,hi,h⟩:=q3 B hB;exact⟨i,by simp[hi],h⟩
      ·obtain⟨i,hi,h⟩:=p3 B hB;exact⟨i,by simp[hi],h⟩
     ·rcases bB.1 hin with hin|hin
      ·exact q4 B o k c hin
      ·exact p4 B o k c hin
    ·cases h
   ·cases h
 |_=>
  intro x y n e l cs h hh ho hn
  simp only[jA,au,eE] at h
  obtain⟨h1,rfl,rfl⟩:=h
  have hxy:x=y:=by first|exact h1|rfl
  subst hxy
  simp only[gS] at hh
  exact scal hh.1 hh.2
def uv {s:Nat}(h:s<50):gu (pid s)=true:=by
 unfold gu pid
 rw[aF]
 exact⟨Nat.ble_eq_true_of_le (by omega),Nat.ble_eq_true_of_le (by omega)⟩
def pK (w0:World)(m0:MF)(pl:Pl)(s:Nat):Arg→Value→Prop
 |.p d,v=>∃B,pl (pid s)=some (B,0)∧v = .pointer (some ⟨B,0,none⟩)∧∃x,m0 (pid s)=some ⟨0,false,.var d.t.aY x⟩
 |.d y,v=>∃cs,v=aQ y.t cs∧gS w0 m0 pl y.t y.x (od s) cs
 |.m t xs,v=>m0 (pid s)=some ⟨0,false,.rows t xs⟩∧∃ad cap,v = .slice ad xs.length cap∧xs.length≤cap∧fU w0 pl (pid s) t.size ad cap
 |_,_=>True
def nR (w0:World)(m0:MF)(pl:Pl):Nat→List Arg→List Value→Prop
 |_,[],[]=>True
 |s,x::l,v::vs=>pK w0 m0 pl s x v∧nR w0 m0 pl (s+1) l vs
 |_,_,_=>False
def nN {w0:World}{m0:MF}{pl:Pl}(hm:aD F (find st.mem) w I ρ)(hI:∀B,I B→I' B)
  (hk:∀id b0,gu id=true→m0 id=some b0→∃b,find st.mem id=some b∧(0<b.st∨(b.st=0∧fy b0.c b.c∧ρ id=pl id ∧
   (b0.live→∀B o,pl id=some (B,o)→∀cs,Cells w0 B cs→∃cs',Cells w B cs'∧cs.length≤cs'.length)))) :
  ∀{args:List Arg} {s:Nat} {vals:List Value} {us:List DV} {k:aT},s+args.length≤50→gO st s args=some (us,k)→nR w0 m0 pl s args vals →
   (∀id∈k.aY,∀b B o,find st.mem id=some b→b.live→ρ id=some (B,o)→I' B)→(∀id∈k.own,∀B,aN (find st.mem) ρ id B→¬I' B)→k.own.Nodup →
   ∃Bs,cy w0 w I' args vals us Bs∧Bs.Nodup∧∀B∈Bs,∃id∈k.own,aN (find st.mem) ρ id B
 | [],s,[],us,k,_,h,_,_,_,_=>by
  simp only[gO] at h
  cases h
  exact⟨[],rfl,by simp,by simp⟩
 | [],s,_::_,us,k,_,h,hf,_,_,_=>hf.elim
 |_::_,s,[],us,k,_,h,hf,_,_,_=>by cases hf
 |.v d::l,s,v::vs,us,k,hs,h,hf,hi,ho,hn=>by
  simp only[gO] at h
  obtain⟨Bs,q⟩:=nN hm hI hk (by simp only[kF] at hs;omega) h hf.2 hi ho hn
  exact⟨Bs,q⟩
 |.f g d::l,s,v::vs,us,k,hs,h,hf,hi,ho,hn=>by
  simp only[gO] at h
  obtain⟨Bs,q⟩:=nN hm hI hk (by simp only[kF] at hs;omega) h hf.2 hi ho hn
  exact⟨Bs,q⟩
 |.d y::l,s,v::vs,us,k,hs,h,hf,hi,ho,hn=>by
  simp only[kF] at hs
  simp only[gO] at h
  split at h
  ·rename_i x i e r ids hx eN
   cases h
   obtain⟨⟨cs,hv,hh⟩,hf'⟩:=hf
   simp only[aT.app,app,bD] at hi ho
   simp only[aT.app,app,bZ] at hn
   have hn':=cM.1 hn
   obtain⟨B1,q1,q2,q3,q4⟩:=zk hm hI hk hx hh (fun id h=>ho id (.inl h)) hn'.1
   obtain⟨B2,p2,p3,p4⟩:=nN hm hI hk (by omega) eN hf' hi (fun id h=>ho id (.inr h)) hn'.2.1
   refine⟨B1++B2,⟨cs,B1,B2,hv,rfl,q1,rfl,q4,p2⟩,jr hm hn q2 p3 q3 p4,fun B hB=>?_⟩
   simp only[aT.app,bZ]
   rcases bB.1 hB with hB|hB
   ·obtain⟨i,hi,h⟩:=q3 B hB;exact⟨i,by simp[hi],h⟩
   ·obtain⟨i,hi,h⟩:=p4 B hB;exact⟨i,by simp[hi],h⟩
  ·cases h
 |.p d::l,s,v::vs,us,k,hs,h,hf,hi,ho,hn=>by
  simp only[kF] at hs
  simp only[gO] at h
  split at h
  ·rename_i vt x r ids hb eN
   split at h
   ·rename_i y i hy
    cases h
    obtain⟨⟨B,hpl,hv,x0,hm0⟩,hf'⟩:=hf
    obtain⟨b,hb',fZ⟩:=hk (pid s) _ (uv (by omega)) hm0
    rw[hb] at hb'
    cases hb'
    rcases fZ with fZ|⟨_,hsh,hρ,_⟩
    ·simp at fZ
    ·rw[hpl] at hρ
     have hblk:=hm.blk _ _ hb
     simp only[aS] at hblk
     obtain⟨_,B',cs,f1,f2,f3,f4⟩:=hblk
     rw[hρ] at f1
     cases f1
     have bU:aN (find st.mem) ρ (pid s) B:=⟨_,hb,kf rfl,rfl,.inl ⟨0,hρ⟩⟩
     simp only[aT.app,app,bD,aX] at hi ho
     simp only[aT.app,app,bZ] at hn
     have hnc:=cX.1 hn
     have hn':=cM.1 hnc.2
     obtain⟨B1,q1,q2,q3⟩:=sQ hm hI (qH hy) f3 (fun id h=>hi id (.inl h)) (fun id h=>ho id (.inr (.inl h))) hn'.1
     obtain⟨B2,p2,p3,p4⟩:=nN hm hI hk (by omega) eN hf' (fun id h=>hi id (.inr h)) (fun id h=>ho id (.inr (.inr h))) hn'.2.1
     have hall:∀B'∈B1++B2,∃id'∈app i.own ids.own,aN (find st.mem) ρ id' B':=by
      intro B' bg
      rw[bZ]
      rcases bB.1 bg with bg|bg
      ·obtain⟨i,hi,h⟩:=q3 B' bg;exact⟨i,by simp[hi],h⟩
      ·obtain⟨i,hi,h⟩:=p4 B' bg;exact⟨i,by simp[hi],h⟩
     refine⟨B::(B1++B2),⟨B,cs,B1,B2,hv,f2,ho (pid s) (.inl rfl) B bU,rfl,q1,rfl,p2⟩,?_,?_⟩
     ·rw[cX]
      refine⟨fun hin=>?_,jr hm hnc.2 q2 p3 q3 p4⟩
      obtain⟨j,hj,dO⟩:=hall B hin
      have:=dO.inj hm bU
      subst this
      rw[bZ] at hj
      exact hnc.1 hj
     ·intro B' bg
      simp only[aT.app,app]
      rcases aX.1 bg with e|bg
      ·subst e;exact⟨pid s,by simp,bU⟩
      ·obtain⟨j,hj,dO⟩:=hall B' bg;exact⟨j,by simp only[aX];exact .inr hj,dO⟩
   ·cases h
  ·cases h
 |.m t xs::l,s,v::vs,us,k,hs,h,hf,hi,ho,hn=>by
  simp only[kF] at hs
  simp only[gO] at h
  split at h
  ·rename_i ys r ids hr eN
   cases h
   obtain⟨⟨hm0,ad,cap,hv,hcap,qb⟩,hf'⟩:=hf
   have hb:=gA hr
   obtain⟨b,hb',fZ⟩:=hk (pid s) _ (uv (by omega)) hm0
   rw[hb] at hb'
   cases hb'
   rcases fZ with fZ|⟨_,hsh,hρ,hgrow⟩
   ·simp at fZ
   ·have hlen:xs.length=ys.length:=hsh.2
    have hblk:=hm.blk _ _ hb
    simp only[aS] at hblk
    obtain⟨_,hblk⟩:=hblk
    simp only[aT.app,app,aX] at hi ho
    simp only[aT.app,app] at hn
    have hnc:=cX.1 hn
    obtain⟨B2,p2,p3,p4⟩:=nN hm hI hk (by omega) eN hf' hi (fun id h=>ho id (.inr h)) hnc.2
    rcases qb with⟨e1,e2,e3⟩|⟨B,o0,cs,e1,e2,e3,e4⟩
    ·
     refine⟨B2,⟨ys,[],B2,rfl,hlen.symm,⟨ad,cap,by rw[hv,hlen],by omega,.inl ⟨e1,e2,rfl⟩⟩,rfl,by simp,p2⟩,p3,fun B hB=>?_⟩
     obtain⟨j,hj,h⟩:=p4 B hB
     exact⟨j,by simp only[aT.app,app,aX];exact .inr hj,h⟩
    ·rw[e1] at hρ
     obtain⟨cs2,g1,g2⟩:=hgrow (fF rfl) B o0 e1 cs e3
     rcases hblk with⟨_,hno⟩|⟨B',o',cs',f1,f2,f3,f4,f5⟩
     ·rw[hno] at hρ;cases hρ
     ·rw[hρ] at f1
      cases f1
      have bU:aN (find st.mem) ρ (pid s) B:=⟨_,hb,fF rfl,rfl,.inl ⟨o0,hρ⟩⟩
      have hlen2:cs'.length=cs2.length:=by rw[f2.unique g1]
      refine⟨B::B2,⟨ys,[B],B2,rfl,hlen.symm,⟨ad,cap,by rw[hv,hlen],by omega,.inr ⟨B,o0,cs',e2,f2,by omega,f4.mono (fun _=>rfl) (fun x vs h=>af.mono ⟨hI,fun _ _=>rfl⟩ h),ho (pid s) (.inl rfl) B bU,rfl⟩⟩,rfl,?_,p2⟩,?_,?_⟩
      ·intro B' bg cs3 hcs3
       simp only[eH] at bg
       subst bg
       have:cs3.length=cs.length:=by rw[hcs3.unique e3]
       exact⟨cs2,g1,by omega⟩
      ·rw[cX]
       refine⟨fun hin=>?_,p3⟩
       obtain⟨j,hj,dO⟩:=p4 B hin
       have:=dO.inj hm bU
       subst this
       exact hnc.1 hj
      ·intro B' bg
       simp only[aT.app,app]
       rcases aX.1 bg with e|bg
       ·subst e;exact⟨pid s,by simp,bU⟩
       ·obtain⟨j,hj,dO⟩:=p4 B' bg;exact⟨j,by simp only[aX];exact .inr hj,dO⟩
  ·cases h
end
section
variable {P:Program} {F:Fix} {C:Cx} {o:Oper} {a:Act} {w w':World} {m m':MF} {I I':Nat→Prop} {ρ ρ':Pl} {d:aE}
variable {n:Nat} {K:eX} {st st':St}
def kI:Nat→List Arg→List (Nat×AT)
 |_,[]=>[]
 |s,x::l=>(s,(dZ s x).1)::kI (s+1) l
def fL:Nat→List Arg→Mem
 |_,[]=>[]
 |s,x::l=>app (dZ s x).2 (fL (s+1) l)
def vX {α:Type}(x y z:List α):app (app x y) z=app x (app y z):=by simp[bZ]
def tB {α:Type}(x:List α):app x []=x:=by simp[bZ]
def tG:∀(args:List Arg) (s:Nat) (st:St),n7 s args st=⟨app st.env (kI s args),app st.mem (fL s args),st.ok⟩
 | [],s,st=>by simp[n7,kI,fL,tB]
 |x::l,s,st=>by
  simp only[n7,kI,fL]
  rw[tG l]
  simp only[vX,app]
def ur:∀{t:Ty} {x:t.den} {n i:Nat} {b:ag},(i,b)∈(aZ (fun _=>none) t x n).2.1→b.st=0:=by
 intro t
 induction t with
 |own u ih=>intro x n i b h;simp only[aZ,eH,eE] at h;obtain⟨_,rfl⟩:=h;rfl
 |pair u v ihu ihv=>
  intro x n i b h
  simp only[aZ] at h
  cases hh:(Ty.pair u v).eM with
  |false=>rw[hh] at h;simp at h
  |true=>
   rw[hh] at h
   simp only[aG,bD] at h
   rcases h with h|h
   ·exact ihu h
   ·exact ihv h
 |_=>intro x n i b h;simp[aZ] at h
def xR:∀{t:Ty} {x:t.den} {n i:Nat} {b:ag},(i,b)∈(aU (fun _=>none) t x n).2.1→b.st=0:=by
 intro t
 induction t with
 |lst u ih=>intro x n i b h;simp only[aU,eH,eE] at h;obtain⟨_,rfl⟩:=h;rfl
 |pair u v ihu ihv=>
  intro x n i b h
  simp only[aU] at h
  cases hh:(Ty.pair u v).aO with
  |false=>rw[hh] at h;simp at h
  |true=>
   rw[hh] at h
   simp only[aG,bD] at h
   rcases h with h|h
   ·exact ihu h
   ·exact ihv h
 |_=>intro x n i b h;simp[aU] at h
def tF:∀{args:List Arg} {s i:Nat} {b:ag},(i,b)∈fL s args→b.st=0
 | [],s,i,b,h=>by simp[fL] at h
 |x::l,s,i,b,h=>by
  simp only[fL,bD] at h
  rcases h with h|h
  ·cases x with
   |v d=>exact ur h
   |d y=>exact xR h
   |p d=>
    simp only[dZ,aX,eE] at h
    rcases h with⟨_,rfl⟩|h
    ·rfl
    ·exact ur h
   |m t xs=>simp only[dZ,eH,eE] at h;obtain⟨_,rfl⟩:=h;rfl
   |f g d=>simp[dZ] at h
  ·exact tF h
def xS:∀(t:Ty) (x:t.den) (n:Nat),∀A b,(aZ m t x n).1 ≠ .bM A b:=by
 intro t x n A b h
 cases t with
 |pair u v=>
  simp only[aZ] at h
  cases hh:(Ty.pair u v).eM<;>rw[hh] at h<;>cases h
 |_=>cases h
def xO:∀(t:Ty) (x:t.den) (n:Nat),∀A b,(aU m t x n).1 ≠ .bM A b:=by
 intro t x n A b h
 cases t with
 |pair u v=>
  simp only[aU] at h
  cases hh:(Ty.pair u v).aO<;>rw[hh] at h<;>cases h
 |_=>cases h
def v7 (s:Nat)(x:Arg):∀A b,(dZ s x).1 ≠ .bM A b:=by
 intro A b h
 cases x with
 |v d=>exact xS _ _ _ A b h
 |d y=>exact xO _ _ _ A b h
 |_=>cases h
def qU:∀{args:List Arg} {s t:Nat} {x:AT},find (kI s args) t=some x→∃k y,args[k]?=some y∧t=s+k∧x=(dZ t y).1
 | [],s,t,x,h=>by simp[kI,find] at h
 |y::l,s,t,x,h=>by
  simp only[kI,aI] at h
  split at h
  ·rename_i e
   cases h
   subst e
   exact⟨0,y,rfl,rfl,rfl⟩
  ·obtain⟨k,z,h1,h2,h3⟩:=qU h
   exact⟨k+1,z,by simpa using h1,by omega,h3⟩
def tM:∀{t:Ty} {x:t.den} {vs:List Value},mP w I t x vs→aa w I m ρ (q9 t x) vs
 |.pair a b,x,vs,h=>by
  simp only[mP] at h
  obtain⟨v,l,e,_,h1,h2⟩:=h
  exact⟨v,l,e,h1,tM h2⟩
 |.unit,_,vs,h=>h
def xT {t:Ty}{x:t.den}{n:Nat}{cs:List Value}(h:aa w I m ρ (aZ m' t x n).1 cs)(hl:cs.length=t.size):az w I m ρ (aZ m' t x n).1 (aQ t cs):=by
 have ht:=oD m' t x n
 refine(gN ht).2 ?_
 have ha:(aZ m' t x n).1.isAgg=t.isAgg:=by
  cases t with
  |pair u v=>
   simp only[aZ]
   cases hh:(Ty.pair u v).eM<;>rfl
  |_=>rfl
 unfold aB aQ
 rw[ha]
 cases hh:t.isAgg with
 |true=>exact⟨cs.toArray,rfl,h⟩
 |false=>
  simp only[dI,bI]
  have hsz:t.size=1:=by cases t<;>simp_all [Ty.isAgg,Ty.size]
  rw[hsz] at hl
  obtain⟨v,rfl⟩:=List.length_eq_one_iff.1 hl
  exact h
def xQ {t:Ty}{x:t.den}{n:Nat}{cs:List Value}(h:aa w I m ρ (aU m' t x n).1 cs):az w I m ρ (aU m' t x n).1 (aQ t cs):=
 (gN (rU m' t x n)).2 (sY (rU m' t x n) h rfl)
def xF:∀{t:Ty} {x:t.den} {vs:List Value} {Bs:List Nat} (n:Nat),aq w I t x vs Bs→Bs.Nodup →
  ∃pl:Pl,br w I (aU (fun _=>none) t x n).2.1 Bs pl∧(∀m' ρ',Fits (aU (fun _=>none) t x n).2.1 pl m' ρ'→aa w I m' ρ' (aU (fun _=>none) t x n).1 vs) ∧
   (∀i b,find (aU (fun _=>none) t x n).2.1 i=some b→n≤i∧i<(aU (fun _=>none) t x n).2.2) ∧
   ∀m' eS,(∀i b,find (aU (fun _=>none) t x n).2.1 i=some b→m' i=some b∧eS i=pl i)→gS w m' eS t x n vs:=by
 intro t
 have mA:∀{t:Ty} {x:t.den} {vs:List Value} {Bs:List Nat} {n:Nat} {av:AT},Bs = []→af w I t x vs→av = .leaf t x→(∀m' eS,gS w m' eS t x n vs) →
   ∃pl:Pl,br w I [] Bs pl∧(∀m' ρ',Fits [] pl m' ρ'→aa w I m' ρ' av vs)∧(∀i b,find ([]:Mem) i=some b→n≤i∧i<n)∧∀m' eS,(∀i b,find ([]:Mem) i=some b→m' i=some b∧eS i=pl i)→gS w m' eS t x n vs:=by
  intro t x vs Bs n av e h1 h2 h3
  subst e h2
  exact⟨⟨fun _=>none,fun _=>[]⟩,br.nil _,fun _ _ _=>h1,fun i b h=>by simp[find] at h,fun m' eS _=>h3 m' eS⟩
 induction t with
 |lst t _=>
  intro x vs Bs n h hnd
  obtain⟨pl,h1,h2,h3⟩:=br.list (n:=n) (st:=aW (fun _=>none) n) (uS t x) h hnd
  refine⟨pl,h1,h3,fun i b hb=>?_,fun m' eS hp=>?_⟩
  ·simp only[aU,aI] at hb
   split at hb
   ·rename_i e
    subst e
    simp[aU]
   ·simp[find] at hb
  ·obtain⟨p1,p2⟩:=hp n _ (by simp only[aU];rw[aI,bf rfl])
   refine⟨p1,?_⟩
   simp only[aq] at h
   obtain⟨ad,cap,e,hl,fZ⟩:=h
   refine⟨ad,cap,e,hl,?_⟩
   rw[h2,e] at p2
   rcases fZ with⟨q1,q2,_⟩|⟨B,o',cs,Ds,q1,q2,q3,_⟩
   ·subst q1
    exact .inl ⟨rfl,q2,p2⟩
   ·subst q1
    exact .inr ⟨B,o',cs,p2,rfl,q2,q3⟩
 |pair a b aL aK=>
  intro x vs Bs n h hnd
  cases ho:(Ty.pair a b).aO with
  |false=>
   obtain⟨h1,h2⟩:=aq.rep ho h
   simp only[aU,ho,eF]
   exact mA h2 h1 rfl fun m' eS=>by unfold gS;rw[ho];exact⟨I,h1⟩
  |true=>
   simp only[aq] at h
   obtain⟨v1,v2,B1,B2,e,eb,h1,h2⟩:=h
   subst eb
   simp only[aU,ho,aG]
   have dw:=cM.1 hnd
   obtain⟨p1,k1,k2,k3,k4⟩:=aL n h1 dw.1
   obtain⟨p2,q1,q2,q3,q4⟩:=aK (aU (fun _=>none) a x.1 n).2.2 h2 dw.2.1
   have hle:=oB (fun _=>none) a x.1 n
   have hle2:=oB (fun _=>none) b x.2 (aU (fun _=>none) a x.1 n).2.2
   have gX:∀i b' c,find (aU (fun _=>none) a x.1 n).2.1 i=some b'→find (aU (fun _=>none) b x.2 (aU (fun _=>none) a x.1 n).2.2).2.1 i=some c→False:=by
    intro i b' c hb hc
    have:=(k3 i b' hb).2
    have:=(q3 i c hc).1
    omega
   refine⟨bK (aU (fun _=>none) a x.1 n).2.1 p1 p2,br.app k1 q1 dw.2.2 gX,fun m' ρ' hf=>?_,fun i b' hb=>?_,fun m' eS hp=>?_⟩
   ·simp only[aa]
    exact⟨v1,v2,e,k2 m' ρ' hf.left,q2 m' ρ' (hf.right gX)⟩
   ·rw[cS] at hb
    split at hb
    ·rename_i c hc
     cases hb
     obtain⟨r1,r2⟩:=k3 i _ hc
     exact⟨r1,by omega⟩
    ·obtain⟨r1,r2⟩:=q3 i b' hb
     exact⟨by omega,r2⟩
   ·unfold gS
    rw[ho]
    refine⟨v1,v2,e,k4 m' eS fun i c hc=>?_,q4 m' eS fun i c hc=>?_⟩
    ·obtain⟨r1,r2⟩:=hp i c (by rw[cS,hc])
     exact⟨r1,r2.trans (kq hc).1⟩
    ·have hno:find (aU (fun _=>none) a x.1 n).2.1 i=none:=by
      cases hf:find (aU (fun _=>none) a x.1 n).2.1 i with
      |none=>rfl
      |some c'=>exact(gX i c' c hf hc).elim
     obtain⟨r1,r2⟩:=hp i c (by rw[cS,hno];exact hc)
     exact⟨r1,r2.trans (ko hno).1⟩
 |own t _=>intro x vs Bs n h;simp only[aq] at h
 |ref t _=>intro x vs Bs n h;simp only[aq] at h
 |arr k t _=>
  intro x vs Bs n h hnd
  simp only[aq] at h
  simp only[aU]
  exact mA h.1 h.2.2 rfl fun m' eS=>⟨by simpa[Ty.aO] using h.2.1,I,h.2.2⟩
 |_=>intro x vs Bs n h hnd;simp only[aq] at h;simp only[aU];exact mA h.1 h.2 rfl fun m' eS=>⟨rfl,I,h.2⟩
def arg_ok {x:Arg}{s:Nat}{v:Value}{Bs:List Nat}(h:ArgO w I x v Bs)(hn:Bs.Nodup)(hI:∀B∈Bs,¬I B)(hk:((dZ s x).2.map (·.1)).Nodup) :
  ∃pl,br w I (dZ s x).2 Bs pl∧(∀m' ρ',Fits (dZ s x).2 pl m' ρ'→az w I m' ρ' (dZ s x).1 v)∧pK w (find (dZ s x).2) pl s x v:=by
 cases x with
 |v d=>
  obtain⟨cs,hv,hr⟩:=h
  obtain⟨pl,h1,h2⟩:=oC (fun _=>none) ((pid s+1)*1000) hr hn
  refine⟨pl,h1.new,fun m' ρ' hf=>?_,trivial⟩
  subst hv
  exact xT (h2 m' ρ' fun i b h=>⟨(hf i b h).1,(hf i b h).2.1⟩) hr.length
 |d y=>
  obtain⟨cs,hv,hr⟩:=h
  obtain⟨pl,h1,h2,_,h4⟩:=xF (od s) hr hn
  refine⟨pl,h1,fun m' ρ' hf=>?_,cs,hv,h4 _ _ fun i b hb=>⟨hb,rfl⟩⟩
  subst hv
  exact xQ (h2 m' ρ' hf)
 |p d=>
  obtain⟨B,cs,B1,hv,hc,hB,hr,e⟩:=h
  subst e hv
  have hn':=cX.1 hn
  obtain⟨pl,h1,h2⟩:=oC (fun _=>none) ((pid s+1)*1000) hr hn'.2
  have hno:find (aZ (fun _=>none) d.t d.x ((pid s+1)*1000)).2.1 (pid s)=none:=by
   cases hf:find (aZ (fun _=>none) d.t d.x ((pid s+1)*1000)).2.1 (pid s) with
   |none=>rfl
   |some b=>
    have:=(h1.gM _ _ hf).1
    have:pid s<(pid s+1)*1000:=by unfold pid;omega
    omega
  have hnew:=br.var (st:=0) h1.new hc hB hn'.1 hno (oD _ _ _ _) fun m' ρ' hf=>h2 m' ρ' fun i b h=>⟨(hf i b h).1,(hf i b h).2.1⟩
  refine⟨_,hnew,fun m' ρ' hf=>?_,B,?_,rfl,(aZ (fun _=>none) d.t d.x ((pid s+1)*1000)).1,?_⟩
  ·have hb:=hf (pid s) ⟨0,false,.var d.t.aY (aZ (fun _=>none) d.t d.x ((pid s+1)*1000)).1⟩ (by simp only[dZ,aI,cj])
   obtain⟨cV,cH,_⟩:=hb
   have hp:(Pl.put pl (pid s) (some (B,0))) (pid s)=some (B,0):=by simp[Pl.put]
   rw[hp] at cH
   refine⟨⟨_,rfl,rfl⟩,⟨_,cV,bw _⟩,fun b hb' hst t x hx=>?_⟩
   rw[cV] at hb'
   cases hb'
   cases hx
   exact⟨trivial,B,cH,by simp[Ty.off]⟩
  ·simp[Pl.put]
  ·simp only[dZ,aI,cj]
 |m t xs=>
  obtain⟨ad,cap,hv,hcap,fZ⟩:=h
  simp only[eG,dY] at hv
  subst hv
  have hfind:find (dZ s (.m t xs)).2 (pid s)=some ⟨0,false,.rows t xs⟩:=by simp only[dZ,aI,cj]
  rcases fZ with⟨e1,e2,e3⟩|⟨B,o',cs,e1,e2,e3,e4,e5,e6⟩
  ·have hx:xs = []:=by
    cases xs with
    |nil=>rfl
    |cons y ys=>simp at hcap;omega
   subst hx e1 e2 e3
   refine⟨⟨fun _=>none,fun _=>[]⟩,br.single rfl (fF rfl) (fun m' ρ' hp=>⟨trivial,.inl ⟨rfl,hp⟩⟩) (fun B o h=>by cases h),fun m' ρ' hf=>?_,?_,_,_,rfl,bw _,.inl ⟨rfl,rfl,rfl⟩⟩
   ·obtain⟨cV,cH,_⟩:=hf (pid s) _ hfind
    refine⟨⟨_,rfl,rfl⟩,⟨_,cV,lz _⟩,fun b hb' hst u ys hy=>?_⟩
    rw[cV] at hb'
    cases hb'
    cases hy
    exact⟨none,0,rfl,bw _,.inl ⟨rfl,rfl,cH⟩⟩
   ·simp only[dZ,aI,cj]
  ·subst e1 e6
   have hmul:xs.length*t.size≤cap*t.size:=gD _ hcap
   refine⟨⟨fun _=>some (B,o'),fun _=>[]⟩,br.single rfl (fF rfl) (fun m' ρ' hp=>⟨trivial,.inr ⟨B,o',cs,hp,e2,by omega,e4,by simp[e5]⟩⟩) (fun B' dA h=>by cases h;simp),fun m' ρ' hf=>?_,?_,_,_,rfl,hcap,.inr ⟨B,o',cs,rfl,rfl,e2,e3⟩⟩
   ·obtain⟨cV,cH,_⟩:=hf (pid s) _ hfind
    refine⟨⟨_,rfl,rfl⟩,⟨_,cV,lz _⟩,fun b hb' hst u ys hy=>?_⟩
    rw[cV] at hb'
    cases hb'
    cases hy
    exact⟨_,cap,rfl,hcap,.inr ⟨B,o',cs,cH,rfl,e2,e3⟩⟩
   ·simp only[dZ,aI,cj]
 |f g d=>
  obtain⟨e,caps,hv,hc⟩:=h
  subst e hv
  refine⟨⟨fun _=>none,fun _=>[]⟩,br.nil _,fun m' ρ' _=>?_,trivial⟩
  simp only[dZ,az,aB,AT.isAgg]
  exact⟨caps,rfl,tM hc⟩
def gS.mono {m1 m2:MF}{p1 p2:Pl}(hm:∀i b,m1 i=some b→m2 i=some b∧p2 i=p1 i):∀{t:Ty} {x:t.den} {n:Nat} {vs:List Value},gS w m1 p1 t x n vs→gS w m2 p2 t x n vs:=by
 intro t
 induction t with
 |lst t _=>
  rintro x n vs ⟨h1,ad,cap,h2,h3,h4⟩
  obtain⟨k1,k2⟩:=hm n _ h1
  exact⟨k1,ad,cap,h2,h3,h4.to k2⟩
 |pair a b aL aK=>
  intro x n vs h
  unfold gS at h ⊢
  cases hl:(Ty.pair a b).aO with
  |true=>rw[hl] at h;obtain⟨v1,v2,e,h1,h2⟩:=h;exact⟨v1,v2,e,aL h1,aK h2⟩
  |false=>rw[hl] at h;exact h
 |_=>intro x n vs h;exact h
def tD {m1 m2:MF}{p1 p2:Pl}{s:Nat}{x:Arg}{v:Value}(h:pK w m1 p1 s x v)(hm0:∀i b,m1 i=some b→m2 i=some b∧p2 i=p1 i):pK w m2 p2 s x v:=by
 have hm:=hm0 (pid s)
 cases x with
 |d y=>
  obtain⟨cs,h1,h2⟩:=h
  exact⟨cs,h1,h2.mono hm0⟩
 |p d=>
  obtain⟨B,h1,h2,y,h3⟩:=h
  obtain⟨k1,k2⟩:=hm _ h3
  exact⟨B,k2.trans h1,h2,y,k1⟩
 |m t xs=>
  obtain⟨h3,ad,cap,e1,e2,e3⟩:=h
  obtain⟨k1,k2⟩:=hm _ h3
  exact⟨k1,ad,cap,e1,e2,e3.to k2⟩
 |_=>trivial
def tE {m1 m2:MF}{p1 p2:Pl}(hm:∀i b,m1 i=some b→m2 i=some b∧p2 i=p1 i):∀{l:List Arg} {s:Nat} {vs:List Value},nR w m1 p1 s l vs→nR w m2 p2 s l vs
 | [],_,[],_=>trivial
 | [],_,_::_,h=>h.elim
 |_::_,_,[],h=>by cases h
 |_::_,_,_::_,h=>⟨tD h.1 hm,tE hm h.2⟩
def tH:∀{args:List Arg} {s:Nat} {vals:List Value} {Bs:List Nat},mO w I args vals Bs→Bs.Nodup→(∀B∈Bs,¬I B)→((fL s args).map (·.1)).Nodup →
  ∃pl,br w I (fL s args) Bs pl∧(∀m' ρ',Fits (fL s args) pl m' ρ'→∀k x v,args[k]?=some x→vals[k]?=some v→az w I m' ρ' (dZ (s+k) x).1 v)∧nR w (find (fL s args)) pl s args vals∧args.length=vals.length
 | [],s,[],Bs,h,_,_,_=>by
  cases h
  exact⟨⟨fun _=>none,fun _=>[]⟩,br.nil _,fun m' ρ' _ k x v hx=>by simp at hx,trivial,rfl⟩
 | [],s,_::_,Bs,h,_,_,_=>h.elim
 |_::_,s,[],Bs,h,_,_,_=>by cases h
 |x::l,s,v::vs,Bs,h,hn,hI,hk=>by
  obtain⟨B1,B2,e,h1,h2⟩:=h
  subst e
  have hn':=cM.1 hn
  obtain⟨k1,k2,k3⟩:=qf (l1:=(dZ s x).2) (l2:=fL (s+1) l) hk
  obtain⟨p1,q1,q2,q3⟩:=arg_ok (s:=s) h1 hn'.1 (fun B hB=>hI B (by simp[hB])) k1
  obtain⟨p2,r1,r2,r3,r4⟩:=tH (s:=s+1) h2 hn'.2.1 (fun B hB=>hI B (by simp[hB])) k2
  have hnew:=br.app q1 r1 hn'.2.2 k3
  refine⟨_,hnew,fun m' ρ' hf k y u hy hu=>?_,⟨?_,?_⟩,by simp[r4]⟩
  ·cases k with
   |zero=>
    simp only[ja,au] at hy hu
    subst hy hu
    exact q2 m' ρ' (Fits.left hf)
   |succ k=>
    have:=r2 m' ρ' (Fits.right k3 hf) k y u (by simpa using hy) (by simpa using hu)
    rw[show s+(k+1)=s+1+k by omega]
    exact this
  ·refine tD q3 fun i b hb=>?_
   exact⟨by simp only[fL,cS,hb],(kq hb).1⟩
  ·refine tE (fun i b hb=>?_) r3
   have:find (dZ s x).2 i=none:=by
    cases hf:find (dZ s x).2 i with
    |none=>rfl
    |some c=>exact(k3 i c b hf hb).elim
   exact⟨by simp only[fL,cS,this];exact hb,(ko this).1⟩
end
section
variable {P:Program} {F:Fix} {C:Cx} {o:Oper} {a:Act} {w w':World} {m m':MF} {I I':Nat→Prop} {ρ ρ':Pl} {d:aE}
variable {n:Nat} {K:eX} {st st':St}
def lT:List Value→Value
 | [v]=>v
 |l=>.tuple l.toArray
def yY {fn:Func}{tmps:Array Value}{vals:List Value}(hr:dN (fun r v=>(o4 tmps r).run P w = .ok v w) fn.results.toList vals)(hl:fn.results.toList.length≤3) :
  (results fn tmps).run P w = .ok (lT vals) w:=by
 have hres:results fn tmps=(do let vs ←fn.results.mapM (o4 tmps);pure (if h:vs.size=1 then vs[0] else .tuple vs)):=by
  unfold results
  congr 1
 rw[hres]
 generalize hx:fn.results.toList=l at hr hl
 have he:fn.results=l.toArray:=by apply eU;simp[hx]
 rw[he]
 cases hr with
 |nil=>simp[lT]
 |cons h1 hr=>
  cases hr with
  |nil=>simp[lT,h1]
  |cons h2 hr=>
   cases hr with
   |nil=>simp[lT,h1,h2]
   |cons h3 hr=>
    cases hr with
    |nil=>simp[lT,h1,h2,h3]
    |cons _ _=>simp at hl
def u_ {outs:List RV}{vals:List Value}{Bs:List Nat}(h:gV w I outs vals Bs):l7 w I outs (lT vals) Bs:=by
 rcases outs with _|⟨x,_|⟨y,l⟩⟩
 ·cases vals with
  |nil=>exact⟨#[],rfl,h⟩
  |cons _ _=>exact h.elim
 ·rcases vals with _|⟨v,_|⟨u,vs⟩⟩
  ·exact h.elim
  ·obtain⟨B1,B2,e,h1,h2⟩:=h
   cases h2
   simp only[jV] at e
   subst e
   exact h1
  ·obtain⟨B1,B2,e,h1,h2⟩:=h
   exact h2.elim
 ·rcases vals with _|⟨v,_|⟨u,vs⟩⟩
  ·exact h.elim
  ·obtain⟨B1,B2,e,h1,h2⟩:=h
   exact h2.elim
  ·exact⟨(v::u::vs).toArray,rfl,h⟩
def evK_ok {α:Type}{r:α}{Kt:Ex→St→Option α}{c:Code}{fn:Func}{f:FuncId}{lt:List (Nat×cE)}{args:List Arg}{ws:List Want}{outs:List RV}{kB:List DV}{ok:List Bool}(hm:P.follows .mixedOrders=true)(hC:bW P C){G:jG}(hF:eW P G C)
  (hf:P.funcs[f]?=some fn) (hbody:fn.body=some c) (hlo:iw C lt c) (eu:codeOk fn.ntmps c=true) (hlen:args.length≤fn.ntmps) (ug:args.length≤50) (hws:ws.length≤3) (hnd:((fL 0 args).map (·.1)).Nodup)
  (hev:fX C lt c Kt ⟨kI 0 args,fL 0 args,[]⟩=some r) (hK:∀e st,Kt e st=some r→(∀i,e ≠ .exit i)∧finish C fn args ws st=some (outs,kB)):Holds P G f args ⟨outs,kB,ok⟩:=by
 intro w I vals Bs hI hG hargs hBn hBI
 ·obtain⟨pl,hnew,hslots,hfs,hlv⟩:=tH hargs hBn hBI hnd
  let F:Fix:=⟨w,I,fun B=>B∈Bs,G⟩
  let m0:MF:=find (fL 0 args)
  let K:eX:=⟨fun i=>bif gu i then m0 i else none,pl,w,fun id b hb=>by
   cases hp:gu id with
   |true=>rfl
   |false=>rw[hp] at hb;cases hb⟩
  have hfits:Fits (fL 0 args) pl m0 pl:=fun j c hc=>⟨hc,rfl,rfl⟩
  have hinv:Inv F fn.ntmps K ⟨kI 0 args,fL 0 args,[]⟩ { tmps:=vals.toArray++Array.replicate (fn.ntmps-vals.toArray.size) Go.undef,defers:=[] } w:=by
   refine⟨⟨I,pl,⟨?_,?_,?_,rfl,?_⟩⟩,?_⟩
   ·refine⟨fun id b hb=>(hnew.blk id b hb).2.2 m0 pl hfits,fun id id' b b' B o o' h1 h2 _ _ h5 h6=>hnew.one id id' b b' B h1 h2 (.inl ⟨_,h5⟩) (.inl ⟨_,h6⟩),hI,fun _ h=>h,fun _ h=>.inl h,
     fun id b B o h1 _ h3=>.inr (hnew.src id b B h1 (.inl ⟨_,h3⟩)),fun id b h1 h2=>⟨(hnew.dn id b h1 h2).1,fun B hB=>⟨.inr (hnew.src id b B h1 (.inr ⟨h2,hB⟩)),fun id' b' o k1 _ k3=>by
      have:=hnew.one id id' b b' B h1 k1 (.inr ⟨h2,hB⟩) (.inl ⟨_,k3⟩)
      subst this
      exact(hnew.dn id b h1 h2).2 B hB o k3,fun id' b' k1 k2 k3=>(hnew.one id id' b b' B h1 k1 (.inr ⟨h2,hB⟩) (.inr ⟨k2,k3⟩)).symm⟩⟩,fun _ _ _=>rfl,bw _,rfl,rfl,rfl,hG⟩
   ·intro s av bC
    obtain⟨k,x,h1,h2,h3⟩:=qU bC
    simp only[jE] at h2
    subst h2 h3
    have hk:s<args.length:=(mN.1 h1).1
    have hv:vals[s]?=some vals[s]:=by simp[show s<vals.length by omega]
    have:=hslots m0 pl hfits s x _ h1 hv
    simp only[jE] at this
    have mu:(vals.toArray++Array.replicate (fn.ntmps-vals.toArray.size) Go.undef).getD s Go.undef=vals[s]:=by
     simp[Array.getElem?_append,show s<vals.length by omega]
    rw[mu]
    exact this
   ·simp;omega
   ·intro id b0 hb0
    cases hp:gu id with
    |false=>simp only[K,hp] at hb0;cases hb0
    |true=>
     simp only[K,hp,aG] at hb0
     exact⟨b0,hb0,.inr ⟨tF (fh hb0),fy.refl _,rfl,fun _ _ _ _ cs hc=>⟨cs,hc,bw _⟩⟩⟩
   ·intro s A b hf'
    obtain⟨k,x,_,_,h3⟩:=qU hf'
    exact v7 _ _ A b h3.symm
  refine calls_of_wp hf hbody (evC_ok hm hC hF c eu hlo hinv hev ?_)
  ·intro e st' a' w' he hi'
   obtain⟨hne,j9⟩:=hK e st' he
   unfold finish at j9
   split at j9
   ·rename_i o i u j ho hu
    obtain⟨hb,h2⟩:=aH j9
    obtain⟨_,h3⟩:=aH h2
    cases h3
    simp only[aF,lQ] at hb
    obtain⟨hown,himm⟩:=hb
    simp only[aT.app,bZ] at hown himm
    have hown':=cM.1 hown
    obtain⟨⟨I2,ρ2,hi⟩,_⟩:=hi'
    let I3:=dP (find st'.mem) ρ2 I2 (i.aY++j.aY)
    have hfz:=aC.freeze hi.mem (i.aY++j.aY)
    have hImm:∀id∈i.aY++j.aY,∀b B o,find st'.mem id=some b→b.live→ρ2 id=some (B,o)→I3 B:=fun id hid b B o h1 h2 h3=>.inr (.inl ⟨id,hid,b,o,h1,h2,h3⟩)
    have hOwn:∀id∈i.own++j.own,∀B,aN (find st'.mem) ρ2 id B→¬I3 B:=by
     rintro id hid B bU (hIB|⟨k,hk,bk,ok',k1,k2,k3⟩|⟨k,hk,bk,k1,k2,k3⟩)
     ·exact bU.iU hi.mem hIB
     ·obtain⟨b,h1,h2,h3,h4⟩:=bU
      have:=hi.mem.js h1 h2 h4 k1 k2 (.inl ⟨_,k3⟩)
      subst this
      have:=fW himm id hk
      simp only[i_] at this
      rw[lC.2 hid] at this
      cases this
     ·obtain⟨b,h1,h2,h3,h4⟩:=bU
      have:=hi.mem.js h1 h2 h4 k1 (fA k2) (.inr ⟨k2,k3⟩)
      subst this
      have:=fW himm id hk
      simp only[i_] at this
      rw[lC.2 hid] at this
      cases this
    obtain⟨p1,rvs,p0,Ys,p2,p3,p4⟩:=qq (I':=I3) hC hi.mem (fun _ h=>.inl h) hi.env ho (fun id h=>hImm id (by simp[h])) (fun id h=>hOwn id (by simp[h])) hown'.1
    have hkept:∀id b0,gu id=true→m0 id=some b0→∃b,find st'.mem id=some b∧(0<b.st∨(b.st=0∧fy b0.c b.c∧ρ2 id=pl id ∧
      (b0.live→∀B o,pl id=some (B,o)→∀cs,Cells w B cs→∃cs',Cells w' B cs'∧cs.length≤cs'.length))):=by
     intro id b0 hp hb0
     refine hi.kept id b0 ?_
     simp only[K,hp,aG]
     exact hb0
    obtain⟨Zs,z1,z2,z3⟩:=nN (w0:=w) (m0:=m0) (pl:=pl) (I':=I3) hi.mem (fun _ h=>.inl h) hkept (s:=0) (by omega) hu hfs (fun id h=>hImm id (by simp[h])) (fun id h=>hOwn id (by simp[h])) hown'.2.1
    have bU:∀B∈Ys++Zs,∃id∈i.own++j.own,aN (find st'.mem) ρ2 id B:=by
     intro B hB
     rcases bB.1 hB with hB|hB
     ·obtain⟨k,hk,h⟩:=p4 B hB;exact⟨k,by simp[hk],h⟩
     ·obtain⟨k,hk,h⟩:=z3 B hB;exact⟨k,by simp[hk],h⟩
    have hres:=yY (fn:=fn) p0 (by rw[p1];exact hws)
    have hpost:a'.defers = []∧∃v,(results fn a'.tmps).run P w' = .ok v w'∧(fun e w'=>∃v I' Ys Zs,e=Ending.returned v∧l7 w' I' outs v Ys∧cy w w' I' args vals kB Zs∧(Ys++Zs).Nodup ∧
      (∀B∈Ys++Zs,(B∈Bs∨w.heap.size≤B)∧¬I' B)∧bN I I' w w'∧(∀B,I' B→B<w'.heap.size∧(I B∨w.heap.size≤B∨B∈Bs)) ∧
      (∀B,B<w.heap.size→¬B∈Bs→w'.heap[B]?=w.heap[B]?)∧w.heap.size≤w'.heap.size∧w'.os=w.os∧w'.tape=w.tape∧w'.output=w.output) (.returned v) w':=by
     refine⟨hi.defers,_,hres,_,I3,Ys,Zs,rfl,u_ p2,z1,jr hi.mem hown p3 z2 p4 z3,fun B hB=>?_,⟨fun B h=>.inl (hi.mem.iE B h),fun B h=>?_⟩,fun B h=>⟨hfz.mem.aY B h,?_⟩,hi.mem.frame,hi.mem.size,hi.mem.os,hi.mem.tape,hi.mem.output⟩
     ·obtain⟨id,hid,hmn⟩:=bU B hB
      refine⟨?_,hOwn id hid B hmn⟩
      rcases hmn.up hi.mem with h|h
      ·exact .inr h
      ·exact .inl h
     ·exact hi.mem.frame B (hI B h) fun hB=>hBI B hB h
     ·rcases hfz.mem.gZ B h with h|h|h
      ·exact .inl h
      ·exact .inr (.inl h)
      ·exact .inr (.inr h)
    cases e with
    |norm=>exact hpost
    |ret=>exact hpost
    |exit i=>exact absurd rfl (hne i)
   ·cases j9
end
open Go.ChangeShapes Go.WideShapes Go.ChangeAt Go.RowKit
section
variable {P:Program} {F:Fix} {C:Cx} {w w':World} {m m':MF} {I I':Nat→Prop} {ρ ρ':Pl}
structure UB {H:Type} (ub:DataW H→Nat) (dV:List (DataW H)→Nat):Prop where
 one:∀d,1≤ub d
 str:∀b,b.length+1≤ub (.lit (.string b))
 slice:∀e s,dV e+dV s+1≤ub (.slice e s)
 agg:∀p,dV p+1≤ub (.agg p)
 cons:∀d r,dV (d::r)=ub d+dV r
def iK:(t:Ty)→t.den→Nat
 |.unit,_=>0
 |.str,s=>s.length+1
 |.lst t,xs=>(xs.map (iK t)).sum+1
 |.pair a b,x=>iK a x.1+iK b x.2
 |_,_=>1
def lf:(t:Ty)→t.den→Prop
 |.int k,n=>k.min≤n∧n≤k.max
 |.lst t,xs=>∀x∈xs,lf t x
 |.pair a b,x=>lf a x.1∧lf b x.2
 |_,_=>True
def Ty.given:Ty→Bool
 |.unit | .bool | .int _ | .str=>true
 |.lst t=>t.given
 |.pair a b=>a.given&&b.given
 |_=>false
def pV {t:Ty}{T:TypeId}(h:aJ P t T):P.cellsOf T=t.size:=by
 obtain⟨i,h1,h2,_⟩:=h.info.info
 simp[Program.cellsOf,h1,h2]
def yD {t:Ty}{T:TypeId}{v:Value}{r:Reach}{base:Nat}(h:aJ P t T)(hg:t.given=true)(hv:Value.okWide P w r base T v):v=aQ t v.cells.toList:=by
 unfold aJ at h
 cases t with
 |unit=>
  simp only[TO] at h
  obtain⟨_,fs,hu,_⟩:=h
  obtain⟨cs,rfl,_⟩:=okWide_struct hu hv
  simp[aQ,Ty.isAgg,Value.cells]
 |bool=>
  simp only[TO] at h
  obtain⟨b,rfl⟩:=okWide_bool h.2 hv
  simp[aQ,Ty.isAgg,Value.cells]
 |int k=>
  simp only[TO] at h
  obtain⟨b,rfl⟩:=okWide_int h.2 hv
  simp[aQ,Ty.isAgg,Value.cells]
 |str=>
  simp only[TO] at h
  obtain⟨b,rfl⟩:=okWide_string h.2 hv
  simp[aQ,Ty.isAgg,Value.cells]
 |lst u=>
  simp only[TO] at h
  obtain⟨_,E,hu,_⟩:=h
  obtain⟨a,len,cap,rfl⟩:=okWide_slice hu hv
  simp[aQ,Ty.isAgg,Value.cells]
 |pair a b=>
  simp only[TO] at h
  obtain⟨_,fs,hu,_⟩:=h
  obtain⟨cs,rfl,_⟩:=okWide_struct hu hv
  simp[aQ,Ty.isAgg,Value.cells]
 |_=>simp[Ty.given] at hg
variable {H:Type} {enc:TypeId×Value→H} {ub:DataW H→Nat} {dV:List (DataW H)→Nat}
def za {α:Type}(l:List α)(o a b:Nat):(l.drop o).take (a+b)=(l.drop o).take a++(l.drop (o+a)).take b:=by
 rw[List.take_add,List.drop_drop]
def wj {base:Nat}{ad:Addr}{n:Nat}{cs:List Value}(h:w.cells? base ad n=some cs)(_hn:0<n)(hs:ad.spot=none):cs.length=n∧∀j,j<n→w.cell? ⟨ad.block,ad.off+j,none⟩=cs[j]? :=by
 obtain⟨h1,h2,h3⟩:=World.cells?_some h
 refine⟨h2,fun j hj=>?_⟩
 have:=h3 j hj
 rw[←this]
 congr 1
 unfold Addr.add
 obtain⟨b,o,s⟩:=ad
 simp only at hs
 subst hs
 by_cases e:j=0<;>simp[e]
def y7 {base:Nat}{ad:Addr}{n:Nat}{cs:List Value}(h:w.cells? base ad n=some cs)(hn:0<n):ad.spot=none∧ad.block<w.heap.size:=by
 obtain⟨h1,h2,h3⟩:=World.cells?_some h
 have h0:=h3 0 hn
 have hc:cs[0]?=some cs[0]:=by simp[show 0<cs.length by omega]
 rw[hc] at h0
 unfold World.cell? at h0
 have ha:ad.add 0=ad:=by simp[Addr.add]
 rw[ha] at h0
 split at h0
 ·rename_i c e fr hb
  refine⟨?_,?_⟩
  ·cases hs:ad.spot with
   |none=>rfl
   |some _=>simp[hs] at h0
  ·rcases Nat.lt_or_ge ad.block w.heap.size with hl|hl
   ·exact hl
   ·simp[Array.getElem?_eq_none hl] at hb
 ·cases h0
def vz {α:Type}{f:α→Nat}:∀{xs:List α} {ds:List (DataW H)},UB ub dV→xs.length=ds.length→(∀(i:Nat) (x:α) (d:DataW H),xs[i]?=some x→ds[i]?=some d→f x≤ub d)→(xs.map f).sum≤dV ds
 | [],[],_,_,_=>by simp
 |x::xs,d::ds,hu,hl,h=>by
  rw[hu.cons]
  simp only[kD,zl82]
  have h1:=h 0 x d rfl rfl
  have h2:=vz (xs:=xs) (ds:=ds) (f:=f) hu (by simpa using hl) fun i y e hy he=>h (i+1) y e (by simpa using hy) (by simpa using he)
  omega
 | [],_::_,_,h,_=>by simp at h
 |_::_,[],_,h,_=>by simp at h
def uB {α:Type}{Q:Nat→α→Prop}:∀(n:Nat),(∀i,i<n→∃x,Q i x)→∃xs:List α,xs.length=n∧∀(i:Nat) (x:α),xs[i]?=some x→Q i x
 |0,_=>⟨[],rfl,fun i x h=>by simp at h⟩
 |n+1,h=>by
  obtain⟨xs,h1,h2⟩:=uB n fun i hi=>h i (by omega)
  obtain⟨x,hx⟩:=h n (by omega)
  refine⟨xs ++ [x],by simp[h1],fun i y hy=>?_⟩
  by_cases e:i<n
  ·rw[cL (by omega)] at hy
   exact h2 i y hy
  ·rw[c_ (by omega)] at hy
   have:i-xs.length=0:=by
    rcases zl83 (i-xs.length) with h0|h0
    ·exact h0
    ·rw[zl8 (by simp;omega)] at hy;cases hy
   rw[this] at hy
   simp only[ja,au] at hy
   subst hy
   have:i=n:=by omega
   subst this
   exact hx
def yK (hu:UB ub dV):∀(t:Ty),t.given=true →
  (∀(T:TypeId) (cs:List Value) (fuel:Nat) (x:DataW H×List MemPlace),aJ P t T→DataW.trod enc P w 0 (fun _=>true) true fuel T cs=some x→∃y:t.den,af w (· < w.heap.size) t y cs∧lf t y∧iK t y≤ub x.1) ∧
  (∀(fs:List Field) (off:Nat) (cs:List Value) (k:Nat) (xs:List (DataW H×List MemPlace)),ck P t fs off→xs.length=fs.length →
   (∀(i:Nat) (f:Field),fs[i]?=some f→DataW.trod enc P w 0 (fun _=>true) true k f.type ((cs.drop f.offset).take (P.cellsOf f.type))=xs[i]?) →
   ∃y:t.den,af w (· < w.heap.size) t y ((cs.drop off).take t.size)∧lf t y∧iK t y≤dV (xs.map (·.1))):=by
 intro t
 induction t with
 |unit=>
  intro _
  refine⟨fun T cs fuel x hT h=>?_,fun fs off cs k xs hf hl h=>?_⟩
  ·have hc:=pV hT
   simp only[aJ,TO] at hT
   obtain⟨_,fs,hu1,hfs⟩:=hT
   obtain⟨xs,n,_,_,hl,_⟩:=DataW.trod_struct hu1 h
   rw[hc] at hl
   refine⟨(),?_,trivial,lz _⟩
   simp only[af]
   exact List.eq_nil_of_length_eq_zero (by simpa[Ty.size] using hl)
  ·exact⟨(),by simp[af,Ty.size],trivial,lz _⟩
 |bool=>
  intro _
  refine⟨fun T cs fuel x hT h=>?_,fun fs off cs k xs hf=>by simp[ck,TO] at hf⟩
  simp only[aJ,TO] at hT
  obtain⟨b,rfl,rfl⟩:=DataW.trod_bool hT.2 h
  exact⟨b,by simp[af],trivial,hu.one _⟩
 |int k=>
  intro _
  refine⟨fun T cs fuel x hT h=>?_,fun fs off cs k xs hf=>by simp[ck,TO] at hf⟩
  simp only[aJ,TO] at hT
  obtain⟨b,rfl,rfl,hw⟩:=DataW.trod_int hT.2 h
  simp only[Lit.wf,aF,gQ] at hw
  exact⟨b,by simp[af],hw,hu.one _⟩
 |str=>
  intro _
  refine⟨fun T cs fuel x hT h=>?_,fun fs off cs k xs hf=>by simp[ck,TO] at hf⟩
  simp only[aJ,TO] at hT
  obtain⟨b,rfl,rfl,hw⟩:=DataW.trod_string hT.2 h
  exact⟨b.data.toList,by simp[af],trivial,hu.str _⟩
 |lst u ih=>
  intro hg
  have ih:=(ih (by simpa[Ty.given] using hg)).1
  refine⟨fun T cs fuel x hT h=>?_,fun fs off cs k xs hf=>by simp[ck,TO] at hf⟩
  obtain⟨E,hE,hsz,hTE⟩:=jy hT
  have hcE:=pV hTE
  rcases DataW.trod_slice hE h with⟨rfl,rfl⟩|⟨ad,len,cap,elems,rest,n,_,rfl,rfl,_,hlc,hcap,hel,mu,_⟩
  ·refine⟨[],?_,by intro x hx;simp at hx,?_⟩
   ·simp only[af]
    exact⟨none,0,by simp,by simp,.inl trivial⟩
   ·simp only[iK,List.map_nil,List.sum_nil];exact hu.one _
  ·have hone:∀i,i<len→∃y:u.den,∃cs d,w.cells? 0 (ad.add (i*u.size)) u.size=some cs∧elems[i]?=some d∧af w (· < w.heap.size) u y cs∧lf u y∧iK u y≤ub d.1:=by
    intro i hi
    have h1:=mu i hi
    have h2:elems[i]?=some elems[i]:=by simp[show i<elems.length by omega]
    rw[h2,hcE,lZ] at h1
    obtain⟨cs,h3,h4⟩:=h1
    obtain⟨y,h5,h6,h7⟩:=ih E cs n _ hTE h4
    exact⟨y,cs,_,h3,h2,h5,h6,h7⟩
   obtain⟨ys,hyl,hys⟩:=uB len hone
   refine⟨ys,?_,?_,?_⟩
   ·simp only[af]
    refine⟨some ad,cap,by rw[hyl],by omega,?_⟩
    by_cases hz:len=0
    ·exact .inl (List.eq_nil_of_length_eq_zero (by omega))
    ·refine .inr ?_
     obtain⟨_,cs0,_,h0,_⟩:=hone 0 (by omega)
     have ha0:ad.add (0*u.size)=ad:=by simp[Addr.add]
     rw[ha0] at h0
     obtain⟨hsp,hbl⟩:=y7 h0 hsz
     obtain⟨B,off,sp⟩:=ad
     simp only at hsp hbl
     subst hsp
     refine⟨B,off,rfl,hbl,fun i y hy=>?_⟩
     obtain⟨cs,d,h1,h2,h3,_⟩:=hys i y hy
     have hadd:(⟨B,off,none⟩:Addr).add (i*u.size)=⟨B,off+i*u.size,none⟩:=Addr.jY _ _ _
     rw[hadd] at h1
     obtain⟨k1,k2⟩:=wj h1 hsz rfl
     exact⟨cs,k1,k2,h3⟩
   ·intro y hy
    obtain⟨i,hi⟩:=List.getElem?_of_mem hy
    obtain⟨_,_,_,_,_,h6,_⟩:=hys i y hi
    exact h6
   ·have hs:=hu.slice (elems.map (·.1)) (rest.map (·.1))
    have:(ys.map (iK u)).sum≤dV (elems.map (·.1)):=by
     refine vz hu (by simp[hyl,hel]) fun i y d hy hd=>?_
     obtain⟨_,d',_,h2,_,_,h7⟩:=hys i y hy
     simp only[List.getElem?_map,h2,iZ,au] at hd
     subst hd
     exact h7
    simp only[iK]
    omega
 |pair a b aL aK=>
  intro hg
  simp only[Ty.given,aF] at hg
  have aL:=(aL hg.1).1
  have aK:=(aK hg.2).2
  have main:∀(f:Field) (l:List Field) (off:Nat) (cs:List Value) (k:Nat) (xs:List (DataW H×List MemPlace)),f.offset=off→aJ P a f.type→ck P b l (off+a.size)→xs.length=(f::l).length →
    (∀(i:Nat) (g:Field),(f::l)[i]?=some g→DataW.trod enc P w 0 (fun _=>true) true k g.type ((cs.drop g.offset).take (P.cellsOf g.type))=xs[i]?) →
    ∃y:(Ty.pair a b).den,af w (· < w.heap.size) (.pair a b) y ((cs.drop off).take (a.size+b.size))∧lf (.pair a b) y∧iK (.pair a b) y≤dV (xs.map (·.1)):=by
   intro f l off cs k xs hfo hfT hl hlen h
   cases xs with
   |nil=>simp at hlen
   |cons x xs=>
    have h0:=h 0 f rfl
    simp only[ja] at h0
    rw[pV hfT,hfo] at h0
    obtain⟨ya,q1,q2,q3⟩:=aL _ _ _ _ hfT h0
    obtain⟨yb,p1,p2,p3⟩:=aK l (off+a.size) cs k xs hl (by simpa using hlen) fun i g hg=>by
     have:=h (i+1) g (by simpa using hg)
     simpa using this
    refine⟨(ya,yb),?_,⟨q2,p2⟩,?_⟩
    ·simp only[af]
     exact⟨_,_,za _ _ _ _,q1,p1⟩
    ·simp only[iK,kD,hu.cons]
     omega
  refine⟨fun T cs fuel x hT h=>?_,fun fs off cs k xs hf hl h=>?_⟩
  ·have hc:=pV hT
   simp only[aJ,TO] at hT
   obtain⟨_,fs,hu1,f,l,hfs,hf0,hfT,hfl⟩:=hT
   obtain⟨xs,n,_,rfl,hl,hxl,hx⟩:=DataW.trod_struct hu1 h
   rw[hc] at hl
   obtain⟨y,h1,h2,h3⟩:=main f l 0 cs n xs hf0 hfT (by simpa[ck] using hfl) (by rw[←hfs];simpa using hxl) (fun i g hg=>hx i g (by rw[←hfs] at hg;simpa using hg))
   refine⟨y,?_,h2,?_⟩
   ·rw[zl84] at h1
    have e:cs.take (a.size+b.size)=cs:=zl57 (by simp only[Ty.size] at hl;omega)
    rwa[e] at h1
   ·have:=hu.agg (xs.map (·.1))
    simp only at h3 ⊢
    omega
  ·simp only[ck,TO] at hf
   obtain⟨f,l,rfl,hfo,hfT,hfl⟩:=hf
   exact main f l off cs k xs hfo hfT hfl hl h
 |_=>intro hg;simp[Ty.given] at hg
end
open Go.ChangeShapes Go.WideShapes Go.ChangeAt Go.RowKit
section
variable {P:Program} {w w':World} {H:Type} {enc:TypeId×Value→H} {ub:DataW H→Nat} {dV:List (DataW H)→Nat}
def vi (hu:UB ub dV){base:Nat}{r:Reach}:∀{tys:List Ty} {ts:List TypeId} {vs:List Value} {ds:List (DataW H)} {ps:List MemPlace},dN (aJ P) tys ts→(∀t∈tys,t.given=true) →
  DataW.TrodAll enc P w 0 (fun _=>true) true ts vs ds ps→(∀(j:Nat) (t:TypeId) (v:Value),ts[j]?=some t→vs[j]?=some v→Value.okWide P w r base t v) →
  ∃iM:List DV,iM.map (·.t)=tys∧(∀d∈iM,lf d.t d.x)∧(iM.map fun d=>iK d.t d.x).sum≤dV ds∧mO w (· < w.heap.size) (iM.map .v) vs []
 | [],_,vs,ds,ps,hty,_,h,_=>by
  cases hty
  obtain⟨rfl,rfl,_⟩:=trodAll_nil h
  exact⟨[],rfl,by simp,by simp,rfl⟩
 |ty::tys,_,vs,ds,ps,hty,hg,h,hv=>by
  cases hty with
  |cons hT hTs=>
  rename_i T ts
  obtain⟨v,vs',d,ds',p,q,rfl,rfl,rfl,h1,h2⟩:=trodAll_cons h
  obtain⟨fuel,hf⟩:=h1
  have hg1:=hg ty (by simp)
  obtain⟨y,k1,k2,k3⟩:=(yK (P:=P) (w:=w) (enc:=enc) hu ty hg1).1 T _ fuel _ hT hf
  obtain⟨iM,q1,q2,q3,q4⟩:=vi hu hTs (fun t ht=>hg t (by simp[ht])) h2 fun j t v hj hjv=>hv (j+1) t v (by simpa using hj) (by simpa using hjv)
  have hp:=yD hT hg1 (hv 0 T v rfl rfl)
  refine⟨⟨ty,y⟩::iM,by simp[q1],?_,?_,?_⟩
  ·intro d hd
   rcases aX.1 hd with e|hd
   ·subst e;exact k2
   ·exact q2 d hd
  ·simp only[kD,zl82,hu.cons]
   simp only at k3
   omega
  ·exact⟨[],[],rfl,⟨_,hp,cF.ga k1⟩,q4⟩
def tI (hl:laidOutB P=true)(hb:Below w.heap.size w w'):∀{ts:List TypeId} {vs:List Value} {ds:List (DataW H)} {ps:List MemPlace},(∀t∈ts,P.readableRec t=true∧t<P.types.size) →
  DataW.TrodAll enc P w 0 (fun _=>true) true ts vs ds ps→(∀x∈ps,x.block<w.heap.size)→DataW.TrodAll enc P w' 0 (fun b=>decide (b<w.heap.size)) true ts vs ds ps
 | [],vs,ds,ps,_,h,_=>by
  obtain⟨rfl,rfl,rfl⟩:=trodAll_nil h
  exact rfl
 |T::ts,vs,ds,ps,hr,h,hlt=>by
  obtain⟨v,vs',d,ds',p,q,rfl,rfl,rfl,h1,h2⟩:=trodAll_cons h
  have:=hr T (by simp)
  exact trodAll_cons_mk (Below.trod hl this.1 this.2 h1 hb fun x hx=>hlt x (by simp[hx])) (tI hl hb (fun t ht=>hr t (by simp[ht])) h2 fun x hx=>hlt x (by simp[hx]))
end
section
variable {P:Program} {G:jG} {F:Fix} {C:Cx} {w w':World} {st:St} {lt:List (Nat×cE)}
def aT.ext' {a b:aT}(h1:a.own=b.own)(h2:a.aY=b.aY):a=b:=by cases a;cases b;simp_all
def va {r:ResultVar}{wt:Want}{x:wt.den}{i:aT}(h:mE C st r wt=some (x,i)){rs:List ResultVar}{ws:List Want}{l:List RV}{j:aT}(hr:iW C st rs ws=some (l,j)) :
  iW C st (r::rs) (wt::ws)=some (wt.rv x::l,i.app j):=by
 cases wt with
 |v t=>
  simp only[mE] at h
  split at h
  ·rename_i a ha
   simp only[iW,ha,hr,h,Want.rv]
  ·cases h
 |d t=>
  simp only[mE] at h
  split at h
  ·rename_i a ha
   simp only[iW,ha,hr,h,Want.rv]
  ·cases h
 |p t=>
  simp only[mE] at h
  split at h
  ·rename_i id s ha
   split at h
   ·rename_i st0 vt b hc
    split at h
    ·rename_i y k hy
     cases h
     simp only[iW,ha,hr,hc,hy,Want.rv]
     refine congrArg some (congrArg (Prod.mk _) (aT.ext' ?_ ?_))<;>simp[aT.app,app]
    ·cases h
   ·cases h
  ·cases h
def aT.vY (i:aT):i.app {}=i:=by refine aT.ext' ?_ ?_<;>simp[aT.app,tB]
def vb:∀{rs:List ResultVar} {ws:List Want} {y:k7 ws} {k:aT},nA C st rs ws=some (y,k)→iW C st rs ws=some (o_ ws y,k)
 | [],[],y,k,h=>by simp only[nA] at h;cases h;rfl
 | [],_::_,y,k,h=>by simp[nA] at h
 | [r],[w],y,k,h=>by
  have h':mE C st r w=some (y,k):=h
  have:=va h' (rs:=[]) (ws:=[]) (l:=[]) (j:={}) rfl
  rw[aT.vY] at this
  exact this
 | [_],[],y,k,h=>by cases h
 |_::_::_,[],y,k,h=>by cases h
 | [r],w::u::ws,y,k,h=>by cases h
 |r::r'::rs,[w],y,k,h=>by cases h
 |r::r'::rs,w::u::ws,y,k,h=>by
  simp only[nA] at h
  split at h
  ·rename_i x i y' j h1 h2
   cases h
   exact va h1 (vb h2)
  ·cases h
def nL (p:PT)(l:List PT)(x:jf (p::l)):∃(a:p.den) (as:jf l),iY (p::l) x=p.arg a::iY l as:=by
 cases l with
 |nil=>exact⟨x,(),rfl⟩
 |cons q l=>exact⟨x.1,x.2,rfl⟩
def mJ:∀{ps:List PT} {s:Nat} {xs:jf ps} {u:jU ps} {k:aT},kA st s ps (iY ps xs)=some (u,k)→gO st s (iY ps xs)=some (kr ps u,k)
 | [],s,xs,u,k,h=>by simp only[kA] at h;cases h;rfl
 |.v t::l,s,xs,u,k,h=>by
  obtain⟨a,as,e⟩:=nL (.v t) l xs
  rw[e] at h ⊢
  exact mJ (ps:=l) h
 |.k t::l,s,xs,u,k,h=>by
  obtain⟨a,as,e⟩:=nL (.k t) l xs
  rw[e] at h ⊢
  exact mJ (ps:=l) h
 |.f g t::l,s,xs,u,k,h=>by
  obtain⟨a,as,e⟩:=nL (.f g t) l xs
  rw[e] at h ⊢
  exact mJ (ps:=l) h
 |.d t::l,s,xs,u,k,h=>by
  obtain⟨a,as,e⟩:=nL (.d t) l xs
  rw[e] at h ⊢
  simp only[PT.arg,kA] at h
  split at h
  ·rename_i x0 hx0
   have:=cz hx0
   cases this
   split at h
   ·rename_i x i e r ids hx eN
    cases h
    have:=mJ (ps:=l) (xs:=as) eN
    simp only[PT.arg,gO,hx,this,kr]
   ·cases h
  ·cases h
 |.p t::l,s,xs,u,k,h=>by
  obtain⟨a,as,e⟩:=nL (.p t) l xs
  rw[e] at h ⊢
  simp only[kA] at h
  split at h
  ·rename_i vt b r ids hb eN
   split at h
   ·rename_i x i hx
    cases h
    have:=mJ (ps:=l) (xs:=as) eN
    simp only[PT.arg,gO,hb,this,hx,kr]
   ·cases h
  ·cases h
 |.m t::l,s,xs,u,k,h=>by
  obtain⟨a,as,e⟩:=nL (.m t) l xs
  rw[e] at h ⊢
  simp only[kA] at h
  split at h
  ·rename_i ys r ids hb eN
   cases h
   have:=mJ (ps:=l) (xs:=as) eN
   simp only[PT.arg,gO,hb,this,kr]
  ·cases h
def evT_ok {fn:Func}{f:FuncId}{ps:List PT}{ws:List Want}{xs:jf ps}{y:k7 ws×jU ps}{ok:List Bool}(hm:P.follows .mixedOrders=true)(hC:bW P C)(hF:eW P G C)
  (hf:P.funcs[f]?=some fn) (hlo:∀c,fn.body=some c→iw C lt c) (hev:evT C lt fn ps ws xs=some y):Holds P G f (iY ps xs) ⟨o_ ws y.1,kr ps y.2,ok⟩:=by
 unfold evT at hev
 split at hev
 ·cases hev
 ·rename_i c hbody
  obtain⟨hb,hev⟩:=aH hev
  simp only[aF,lQ,jm] at hb
  obtain⟨⟨⟨⟨eu,hlen⟩,ug⟩,hws⟩,hnd⟩:=hb
  rw[tG] at hev hnd
  simp only[app] at hev hnd
  refine evK_ok hm hC hF hf hbody (hlo c hbody) eu (fu hlen) (fu ug) (fu hws) hnd hev fun e st he=>?_
  have j9:(∀i,e ≠ .exit i)∧finT C fn ps (iY ps xs) ws st=some y:=by
   cases e with
   |norm=>exact⟨(by intro i h;cases h),he⟩
   |ret=>exact⟨(by intro i h;cases h),he⟩
   |exit i=>cases he
  refine⟨j9.1,?_⟩
  have h2:=j9.2
  unfold finT at h2
  split at h2
  ·rename_i o i u j ho hu
   obtain⟨q1,q2⟩:=aH h2
   obtain⟨q3,q4⟩:=aH q2
   cases q4
   unfold finish
   simp only[vb ho,mJ (xs:=xs) hu,q1,q3,aG]
  ·cases h2
def ConOk (P:Program)(G:jG)(c:jW):Prop:=∀xs y,c.fn xs=some y→∀ok,Holds P G c.id (iY c.ps xs) ⟨o_ c.ws y.1,kr c.ps y.2,ok⟩
def PT.of_ok {p:PT}{a:Arg}{x:p.den}(h:p.of a=some x):a=p.arg x:=by
 cases p with
 |v t=>cases a<;>first|(simp only[PT.of] at h;rw[cz h];rfl)|cases h
 |k t=>cases a<;>first|(simp only[PT.of] at h;rw[cz h];rfl)|cases h
 |p t=>cases a<;>first|(simp only[PT.of] at h;rw[cz h];rfl)|cases h
 |d t=>cases a<;>first|(simp only[PT.of] at h;rw[cz h];rfl)|cases h
 |m t=>
  cases a with
  |m u ys=>
   simp only[PT.of] at h
   have:=cz h
   cases this
   rfl
  |_=>cases h
 |f g t=>
  cases a with
  |f g' d=>
   simp only[PT.of] at h
   obtain⟨h1,h2⟩:=aH h
   rw[cz h2,cU h1]
   rfl
  |_=>cases h
def u5:∀{ps:List PT} {as:List Arg} {xs:jf ps},oQ ps as=some xs→as=iY ps xs
 | [],[],xs,_=>rfl
 | [],_::_,xs,h=>by cases h
 | [p],[a],xs,h=>by
  have:=PT.of_ok (p:=p) (a:=a) (x:=xs) h
  rw[this]
  rfl
 | [_],[],xs,h=>by cases h
 |_::_::_,[],xs,h=>by cases h
 | [p],_::_::_,xs,h=>by cases h
 |p::q::l,[a],xs,h=>by
  simp only[oQ] at h
  split at h
  ·rename_i x y h1 h2;cases h2
  ·cases h
 |p::q::l,a::b::as,xs,h=>by
  simp only[oQ] at h
  split at h
  ·rename_i x y h1 h2
   cases h
   rw[PT.of_ok h1]
   have:=u5 (ps:=q::l) (as:=b::as) h2
   rw[this]
   rfl
  ·cases h
def fnB (P:Program)(f:FuncId):Bool:=match P.funcs[f]? with
 |some fn=> !(fn.name == "runtime.NumGoroutine")&&fn.body.isSome
 |none=>false
def enters {f:FuncId}(h:fnB P f=true)(args:Array Value)(w:World):(callFunc f args).run P w = .ok (.enter f args) w:=by
 unfold fnB at h
 split at h
 ·rename_i fn hf
  simp only[aF,i_] at h
  have hb:fn.body≠none:=by
   intro hh
   simp[hh] at h
  have hn:¬fn.name = "runtime.NumGoroutine" :=by simpa using h.1
  simp[callFunc,hf,hn,hb]
 ·cases h
def eW.nil (gB:List (Nat×TI))(dp:Bool){gl:List (Nat×DV)}(hg:∀g d,find gl g=some d→∀w I,G.ok w I→af w I (.ref d.t) d.x [.pointer (some ⟨g,0,none⟩)]):eW P G ⟨gB,[],dp,gl⟩:=⟨fun f cI den h=>by simp[find] at h,hg⟩
def eW.dp {C:Cx}(h:eW P G C)(b:Bool):eW P G ⟨C.gB,C.fns,b,C.gl⟩:=⟨h.fns,h.gl⟩
def eW.cons {gB:List (Nat×TI)}{fns:List (Nat×List Mode×(List Arg→Option Res))}{dp:Bool}{gl:List (Nat×DV)}(h:eW P G ⟨gB,fns,dp,gl⟩)(c:jW)(he:fnB P c.id=true)(hv:∀x y,c.fn x=some y→c.val x=y)(hc:ConOk P G c):eW P G ⟨gB,c.entry::fns,dp,gl⟩:=by
 refine⟨fun f cI den hf=>?_,h.gl⟩
 simp only[jW.entry,aI] at hf
 split at hf
 ·rename_i e
  cases hf
  subst e
  refine⟨enters he,fun args r hr hok=>?_⟩
  simp only[bE] at hr
  obtain⟨xs,hx,e⟩:=hr
  have:=u5 hx
  subst this e
  have hs:=hok (isSm (c.fn xs)) (by simp[jW.res])
  cases hy:c.fn xs with
  |none=>rw[hy] at hs;cases hs
  |some y=>
   unfold jW.res
   rw[hv xs y hy]
   exact hc xs y hy _
 ·exact h.fns f cI den hf
def iR:Code→List Code
 |.seq a b=>app (iR a) (iR b)
 |.cond _ a b=>app (iR a) (iR b)
 |.block _ c=>iR c
 |.scope c=>iR c
 |.loop c=>c::iR c
 |_=>[]
def s8 (C:Cx)(lt:List (Nat×cE))(c:Code):Prop:=∀L,(find lt (iA c)=some L∨find lt (iA c+500000)=some L)→∀x,L.dom x=true→Comes (round C lt c L) x (L.val x)
def jh:Code→List Code
 |.seq a b=>a::app (jh a) (jh b)
 |.cond _ a b=>app (jh a) (jh b)
 |.block _ c=>jh c
 |.scope c=>jh c
 |.loop c=>jh c
 |_=>[]
def nU (C:Cx)(lt:List (Nat×cE))(c:Code):Prop:=∀L,pT lt c=some L→∀x,L.dom x=true→boxR C lt c L x=some (L.val x)
def iw.of:∀{c:Code},(∀b∈iR c,s8 C lt b)→(∀b∈jh c,nU C lt b)→iw C lt c:=by
 intro c
 induction c with
 |seq a b aL aK=>
  intro h k
  exact⟨aL (fun x hx=>h x (bD.2 (.inl hx))) (fun x hx=>k x (gP _ (bD.2 (.inl hx)))),aK (fun x hx=>h x (bD.2 (.inr hx))) (fun x hx=>k x (gP _ (bD.2 (.inr hx)))),k a (by simp[jh])⟩
 |cond _ a b aL aK=>intro h k;exact⟨aL (fun x hx=>h x (bD.2 (.inl hx))) (fun x hx=>k x (bD.2 (.inl hx))),aK (fun x hx=>h x (bD.2 (.inr hx))) (fun x hx=>k x (bD.2 (.inr hx)))⟩
 |block _ c ih=>intro h k;exact ih h k
 |scope c ih=>intro h k;exact ih h k
 |loop c ih=>intro h k;exact⟨ih (fun x hx=>h x (gP _ hx)) k,h c (by simp[iR])⟩
 |_=>intro _ _;trivial
def kJ (fn:Func):Code:=match fn.body with
 |some c=>c
 |none=>.skip
def iV (fn:Func)(k:Nat):Code:=match cB (iR (kJ fn)) k with
 |some c=>c
 |none=>.skip
def s7 (C:Cx)(lt:List (Nat×cE))(c:Code)(L:cE):Prop:=∀x,L.dom x=true→Comes (round C lt c L) x (L.val x)
def kH (C:Cx)(lt:List (Nat×cE))(fn:Func):Nat→List cE→Prop
 |k,[]=>Nat.beq (iR (kJ fn)).length k=true
 |k,L::l=>(((find lt (iA (iV fn k))=some L∧s7 C lt (iV fn k) L)∨find lt (iA (iV fn k))=none)∧∀L2,find lt (iA (iV fn k)+500000)=some L2→s7 C lt (iV fn k) L2)∧kH C lt fn (k+1) l
def notTwo {k:Nat}(h:(find lt k).isSome=false){p:cE→Prop}:∀L2,find lt k=some L2→p L2:=fun L2 h2=>by rw[h2] at h;cases h
def loopsL_nil {fn:Func}{k:Nat}(h:Nat.beq (iR (kJ fn)).length k=true:=by kernel_rfl):kH C lt fn k []:=h
def x9 {fn:Func}{k:Nat}{L:cE}{l:List cE}(h1:find lt (iA (iV fn k))=some L)(h2:∀x,L.dom x=true→Comes (round C lt (iV fn k) L) x (L.val x))(h3:kH C lt fn (k+1) l)
  (h4:(find lt (iA (iV fn k)+500000)).isSome=false:=by kernel_rfl):kH C lt fn k (L::l):=⟨⟨.inl ⟨h1,h2⟩,notTwo h4⟩,h3⟩
def loopsC {fn:Func}{k:Nat}{L:cE}{l:List cE}(h2:∀x,L.dom x=true→Comes (round C lt (iV fn k) L) x (L.val x))(h3:kH C lt fn (k+1) l)
  (h1:find lt (iA (iV fn k))=some L:=by kernel_rfl) (h4:(find lt (iA (iV fn k)+500000)).isSome=false:=by kernel_rfl):kH C lt fn k (L::l):=x9 h1 h2 h3 h4
def oP:List (Nat×cE)→Bool
 | []=>true
 | (k,_)::l=>Nat.ble k 999999&&oP l
def sA:∀{lt:List (Nat×cE)} {k:Nat},oP lt=true→1000000≤k→find lt k=none
 | [],_,_,_=>rfl
 | (j,L)::l,k,h,hk=>by
  simp only[oP,aF] at h
  have:=fu h.1
  rw[aI,bY (by omega)]
  exact sA h.2 hk
def yx {c:Code}(h:oP lt=true):nU C lt c:=by
 intro L hL
 unfold pT at hL
 split at hL
 ·rw[sA h (by simp only[keyOf];omega)] at hL;cases hL
 ·rw[sA h (by simp only[keyOf];omega)] at hL;cases hL
 ·cases hL
def boxesL_none {fn:Func}(h:oP lt=true:=by kernel_rfl):∀b∈jh (kJ fn),nU C lt b:=fun _ _=>yx h
def x_ {fn:Func}{Ls:List cE}(h:kH C lt fn 0 Ls)(hbx:∀b∈jh (kJ fn),nU C lt b):∀c,fn.body=some c→iw C lt c:=by
 intro c hc
 have hb:kJ fn=c:=by unfold kJ;rw[hc]
 refine iw.of (fun b hb'=>?_) (hb▸hbx)
 have main:∀(Ls:List cE) (k:Nat),kH C lt fn k Ls→∀j,k≤j→(iR (kJ fn))[j]?=some b→s8 C lt b:=by
  intro Ls
  induction Ls with
  |nil=>
   intro k h j hj hg
   have:=cU h
   have:=(mN.1 hg).1
   omega
  |cons L Ls ih=>
   intro k h j hj hg
   by_cases e:j=k
   ·subst e
    have hn:iV fn j=b:=by unfold iV;rw[jR,hg]
    obtain⟨⟨h,ht⟩,_⟩:=h
    rw[hn] at h ht
    rintro L' (hL'|hL')
    ·rcases h with⟨h1,h2⟩|h
     ·rw[h1] at hL'
      cases hL'
      exact h2
     ·rw[h] at hL';cases hL'
    ·exact ht L' hL'
   ·exact ih (k+1) h.2 j (by omega) hg
 obtain⟨j,hj⟩:=List.getElem?_of_mem hb'
 exact main Ls 0 h j (lz _) (by rw[hb];exact hj)
def loopD_ok {c:Code}{sh:Sh}{ex:fJ}{y0:ex.den}{r:sh.den→Option (sh.den⊕ex.den)}(h:∀x,round C lt c (nq sh ex y0 r) x=r x) :
  ∀x,(nq sh ex y0 r).dom x=true→Comes (round C lt c (nq sh ex y0 r)) x ((nq sh ex y0 r).val x):=by
 have e:round C lt c (nq sh ex y0 r)=r:=funext h
 intro x hx
 rw[e]
 simp only[nq,pY] at hx
 have hd:pL r x:=@zl79 _ (Classical.propDecidable _) hx
 show Comes r x (oa r y0 x)
 unfold oa
 rw[dif_pos hd]
 exact zl85 hd
def Comes.det {X Y:Type}{r:X→Option (X⊕Y)}{x:X}{y z:Y}(h:Comes r x y)(h':Comes r x z):y=z:=by
 induction h with
 |out h1=>
  cases h' with
  |out h2=>rw[h1] at h2;cases h2;rfl
  |again h2 _=>rw[h1] at h2;cases h2
 |again h1 _ ih=>
  cases h' with
  |out h2=>rw[h1] at h2;cases h2
  |again h2 h3=>rw[h1] at h2;cases h2;exact ih h3
def Comes.is {X Y:Type}{r:X→Option (X⊕Y)}{x:X}{y y0:Y}(h:Comes r x y):pY r x=true∧oa r y0 x=y:=by
 have hd:pL r x:=⟨y,h⟩
 refine⟨by unfold pY;exact @zl86 _ (Classical.propDecidable _) hd,?_⟩
 unfold oa
 rw[dif_pos hd]
 exact(zl85 hd).det h
def con_ok {fn:Func}{c:jW}{Ls:List cE}(hm:P.follows .mixedOrders=true)(hC:bW P C)(hF:eW P G C)(hf:P.funcs[c.id]?=some fn)(hlo:kH C lt fn 0 Ls)
  (hbx:∀b∈jh (kJ fn),nU C lt b) (hev:∀xs,evT C lt fn c.ps c.ws xs=c.fn xs):ConOk P G c:=
 fun xs _ hy _=>evT_ok hm hC hF hf (x_ hlo hbx) ((hev xs).trans hy)
end
section
variable {P:Program}
def fI:Ty→List Value→Option (List Value)
 |.unit,l=>some l
 |.bool,.bool false::l=>some l
 |.int k,.int k' 0::l=>bif lJ k k' then some l else none
 |.str,.string ⟨⟨[]⟩⟩::l=>some l
 |.lst _,.slice none 0 0::l=>some l
 |.own _,.slice none 0 0::l=>some l
 |.pair a b,l=>match fI a l with | some l'=>fI b l'|none=>none
 |.arr n t,l=>oF (fI t) n l
 |.ref _,.pointer none::l=>some l
 |_,_=>none
where
 oF (f:List Value→Option (List Value)):Nat→List Value→Option (List Value)
  |0,l=>some l
  |n+1,l=>match f l with | some l'=>oF f n l'|none=>none
def vU:∀{t:Ty} {l r:List Value},fI t l=some r→l=bh t++r:=by
 intro t
 induction t with
 |unit=>intro l r h;simp only[fI,au] at h;simp[bh,h]
 |pair a b aL aK=>
  intro l r h
  simp only[fI] at h
  split at h
  ·rename_i l' h1
   rw[aL h1,aK h]
   simp[bh]
  ·cases h
 |arr n t ih=>
  intro l r h
  simp only[fI] at h
  have main:∀(n:Nat) {l r:List Value},fI.oF (fI t) n l=some r→l=(List.replicate n (bh t)).flatten++r:=by
   intro n
   induction n with
   |zero=>intro l r h;simp only[fI.oF,au] at h;simp[h]
   |succ n ihn=>
    intro l r h
    simp only[fI.oF] at h
    split at h
    ·rename_i l' h1
     rw[ih h1,ihn h]
     simp[mK]
    ·cases h
  exact main n h
 |bool=>intro l r h;unfold fI at h;split at h<;>simp_all [bh]
 |int k=>
  intro l r h
  unfold fI at h
  split at h<;>first|(cases h;done)|skip
  all_goals simp_all
  obtain⟨e1,e2⟩:=aH h
  have:=qg e1
  cases e2
  simp_all [bh]
 |str=>intro l r h;unfold fI at h;split at h<;>simp_all [bh]
 |lst t _=>intro l r h;unfold fI at h;split at h<;>simp_all [bh]
 |own t _=>intro l r h;unfold fI at h;split at h<;>simp_all [bh]
 |ref t _=>intro l r h;unfold fI at h;split at h<;>simp_all [bh]
end
section
variable {P:Program}
def s6 (t:Ty):Value→Bool
 |.agg cs=>t.isAgg&&(match fI t cs.toList with | some []=>true|_=>false)
 |v=> !t.isAgg&&(match fI t [v] with | some []=>true|_=>false)
def zw {t:Ty}{v:Value}(h:s6 t v=true):v=aQ t (bh t):=by
 have one:∀v:Value,(!t.isAgg&&(match fI t [v] with | some []=>true|_=>false))=true→v=aQ t (bh t):=by
  intro v h
  simp only[aF,i_] at h
  obtain⟨h1,h2⟩:=h
  split at h2
  ·rename_i hz
   have:=vU hz
   rw[jV] at this
   simp[aQ,h1,←this]
  ·cases h2
 unfold s6 at h
 split at h
 ·rename_i cs
  simp only[aF] at h
  obtain⟨h1,h2⟩:=h
  split at h2
  ·rename_i hz
   have:=vU hz
   rw[jV] at this
   simp[aQ,h1,←this]
  ·cases h2
 ·exact one v h
def j_ (P:Program)(t:Ty)(T:TypeId):Bool:=match P.info? T with
 |some i=>Nat.beq i.size t.size&&(match i.zero with | some z=>s6 t z|none=>false)&&Nat.ble i.bytes 4096
 |none=>false
def lI {t:Ty}{T:TypeId}(h:j_ P t T=true):iu P t T:=by
 unfold j_ at h
 split at h
 ·rename_i i hi
  simp only[aF] at h
  obtain⟨⟨h1,h2⟩,h3⟩:=h
  split at h2
  ·rename_i z hz
   exact⟨i,hi,cU h1,by rw[hz,zw h2],fu h3⟩
  ·cases h2
 ·cases h
def dG (P:Program):Ty→(TypeId→Bool)×(List Field→Nat→Bool)
 |.unit=>(fun T=>j_ P .unit T&&(match P.underlying T with | some (.struct fs)=>fs.toList.isEmpty|_=>false),fun fs _=>fs.isEmpty)
 |.bool=>(fun T=>j_ P .bool T&&(match P.underlying T with | some .bool=>true|_=>false),fun _ _=>false)
 |.int k=>(fun T=>j_ P (.int k) T&&(match P.underlying T with | some (.int k')=>lJ k' k|_=>false),fun _ _=>false)
 |.str=>(fun T=>j_ P .str T&&(match P.underlying T with | some .string=>true|_=>false),fun _ _=>false)
 |.lst t=>(fun T=>j_ P (.lst t) T&&(match P.underlying T with | some (.slice E)=>Nat.ble 1 t.size&&(dG P t).1 E|_=>false),fun _ _=>false)
 |.own _=>(fun _=>false,fun _ _=>false)
 |.pair a b=>(fun T=>j_ P (.pair a b) T&&(match P.underlying T with
  |some (.struct fs)=>(match fs.toList with
   |f::l=>Nat.beq f.offset 0&&(dG P a).1 f.type&&(dG P b).2 l a.size
   | []=>false)
  |_=>false),
  fun fs off=>match fs with
   |f::l=>Nat.beq f.offset off&&(dG P a).1 f.type&&(dG P b).2 l (off+a.size)
   | []=>false)
 |.arr n t=>(fun T=>j_ P (.arr n t) T&&(match P.underlying T with | some (.array n' E)=>Nat.beq n n'&&Nat.ble 2 n&&(match t with | .int _=>true|_=>false)&&(dG P t).1 E|_=>false),fun _ _=>false)
 |.ref t=>(fun T=>j_ P (.ref t) T&&(match P.underlying T with | some (.pointer _)=>true|_=>false),fun _ _=>false)
def vI:∀{t:Ty},(∀T,(dG P t).1 T=true→(TO P t).1 T)∧(∀fs off,(dG P t).2 fs off=true→(TO P t).2 fs off):=by
 intro t
 induction t with
 |unit=>
  refine⟨fun T h=>?_,fun fs off h=>by simpa[dG,TO] using h⟩
  simp only[dG,aF] at h
  obtain⟨h1,h2⟩:=h
  split at h2
  ·rename_i fs hf
   exact⟨lI h1,fs,hf,by simpa using h2⟩
  ·cases h2
 |bool=>
  refine⟨fun T h=>?_,fun fs off h=>by simp[dG] at h⟩
  simp only[dG,aF] at h
  obtain⟨h1,h2⟩:=h
  split at h2
  ·rename_i hf;exact⟨lI h1,hf⟩
  ·cases h2
 |int k=>
  refine⟨fun T h=>?_,fun fs off h=>by simp[dG] at h⟩
  simp only[dG,aF] at h
  obtain⟨h1,h2⟩:=h
  split at h2
  ·rename_i k' hf;rw[qg h2] at hf;exact⟨lI h1,hf⟩
  ·cases h2
 |str=>
  refine⟨fun T h=>?_,fun fs off h=>by simp[dG] at h⟩
  simp only[dG,aF] at h
  obtain⟨h1,h2⟩:=h
  split at h2
  ·rename_i hf;exact⟨lI h1,hf⟩
  ·cases h2
 |lst t ih=>
  refine⟨fun T h=>?_,fun fs off h=>by simp[dG] at h⟩
  simp only[dG,aF] at h
  obtain⟨h1,h2⟩:=h
  split at h2
  ·rename_i E hf
   simp only[aF] at h2
   exact⟨lI h1,E,hf,fu h2.1,ih.1 E h2.2⟩
  ·cases h2
 |own t _=>exact⟨fun T h=>by simp[dG] at h,fun fs off h=>by simp[dG] at h⟩
 |pair a b aL aK=>
  refine⟨fun T h=>?_,fun fs off h=>?_⟩
  ·simp only[dG,aF] at h
   obtain⟨h1,h2⟩:=h
   split at h2
   ·rename_i fs hf
    split at h2
    ·rename_i f l hfl
     simp only[aF] at h2
     exact⟨lI h1,fs,hf,f,l,hfl,cU h2.1.1,aL.1 _ h2.1.2,aK.2 _ _ h2.2⟩
    ·cases h2
   ·cases h2
  ·simp only[dG] at h
   split at h
   ·rename_i f l
    simp only[aF] at h
    exact⟨f,l,rfl,cU h.1.1,aL.1 _ h.1.2,aK.2 _ _ h.2⟩
   ·cases h
 |arr n t ih=>
  refine⟨fun T h=>?_,fun fs off h=>by simp[dG] at h⟩
  simp only[dG,aF] at h
  obtain⟨h1,h2⟩:=h
  split at h2
  ·rename_i n' E hf
   simp only[aF] at h2
   obtain⟨⟨⟨q1,q2⟩,q3⟩,q4⟩:=h2
   have:=cU q1
   subst this
   refine⟨lI h1,E,hf,fu q2,?_,ih.1 E q4⟩
   split at q3
   ·exact⟨_,rfl⟩
   ·cases q3
  ·cases h2
 |ref t _=>
  refine⟨fun T h=>?_,fun fs off h=>by simp[dG] at h⟩
  simp only[dG,aF] at h
  obtain⟨h1,h2⟩:=h
  split at h2
  ·rename_i E hf;exact⟨lI h1,E,hf⟩
  ·cases h2
def eqB (P:Program)(T:TypeId):Bool:= !(P.stoodInHeld T) && !(P.eqGuardType P.depth T)&&cN (fun f=> !(f.name == "_")) (P.fieldsOf T).toList
def eqB_ok {T:TypeId}(h:eqB P T=true):EqOk P T:=by
 simp only[eqB,aF,i_] at h
 refine⟨h.1.1,h.1.2,fun f hf=>?_⟩
 have:=fW h.2 f hf
 simpa using this
def cxOk_of {C:Cx}(h:cN (fun x=>(dG P x.2.t).1 x.1&&(!(Nat.beq x.2.e 1) || eqB P x.1)) C.gB=true):bW P C:=by
 refine⟨fun T ti hf=>?_,fun T ti hf he=>?_⟩
 ·have:=fW h _ (fh hf)
  simp only[aF] at this
  exact vI.1 T this.1
 ·have:=fW h _ (fh hf)
  simp only[aF,he,show Nat.beq 1 1=true from rfl,zl70,pH] at this
  exact eqB_ok this.2
def tys_of {tys:List Ty}{ts:List TypeId}(h:tys.length=ts.length)(hh:cN (fun x=>(dG P x.1).1 x.2) (tys.zip ts)=true):dN (aJ P) tys ts:=by
 induction tys generalizing ts with
 |nil=>cases ts with
  |nil=>exact .nil
  |cons _ _=>simp at h
 |cons t tys ih=>
  cases ts with
  |nil=>simp at h
  |cons T ts=>
   simp only[List.zip_cons_cons,cN,aF] at hh
   exact .cons (vI.1 T hh.1) (ih (by simpa using h) hh.2)
end
section
variable {P:Program} {G:jG} {w w':World} {I:Nat→Prop}
def oI:DV→Option Value
 |⟨.str,s⟩=>some (.string ⟨List.toArray (α:=UInt8) s⟩)
 |⟨.int k,n⟩=>some (.int k n)
 |⟨.bool,b⟩=>some (.bool b)
 |_=>none
def eP:List Arg→Option (List Value)
 | []=>some []
 |.v d::l=>match oI d,eP l with
  |some v,some vs=>some (v::vs)
  |_,_=>none
 |_=>none
def mB:List RV→Option (List Value)
 | []=>some []
 |.v d::l=>match oI d,mB l with
  |some v,some vs=>some (v::vs)
  |_,_=>none
 |_=>none
def uI {d:DV}{v:Value}(h:oI d=some v):d.t.isAgg=false∧af w I d.t d.x [v]∧(∀cs Bs,cF w I d.t d.x cs Bs→cs = [v]∧Bs = []):=by
 obtain⟨t,x⟩:=d
 cases t<;>simp only[oI,au,reduceCtorEq] at h<;>subst h<;>refine⟨rfl,rfl,fun cs Bs h=>?_⟩<;>simp only[cF,af] at h<;>exact⟨h.2,h.1⟩
def uD:∀{args:List Arg} {vs vals:List Value} {Bs:List Nat},eP args=some vs→mO w I args vals Bs→vals=vs∧Bs = []
 | [],vs,vals,Bs,h,ha=>by
  simp only[eP,au] at h
  subst h
  cases vals with
  |nil=>exact⟨rfl,ha⟩
  |cons _ _=>exact ha.elim
 |.v d::l,vs,vals,Bs,h,ha=>by
  simp only[eP] at h
  split at h
  ·rename_i v vs' h1 h2
   cases h
   cases vals with
   |nil=>exact ha.elim
   |cons v0 vals=>
    obtain⟨B1,B2,e,⟨cs,e1,e2⟩,h4⟩:=ha
    obtain⟨k1,_,k3⟩:=uI (w:=w) (I:=I) h1
    obtain⟨q1,q2⟩:=k3 cs B1 e2
    obtain⟨q3,q4⟩:=uD h2 h4
    subst q1 q2 q3 q4
    refine⟨?_,by simp[e]⟩
    rw[e1]
    unfold aQ
    rw[k1]
    rfl
  ·cases h
 |.d _::_,_,_,_,h,_=>by simp[eP] at h
 |.p _::_,_,_,_,h,_=>by simp[eP] at h
 |.m _ _::_,_,_,_,h,_=>by simp[eP] at h
 |.f _ _::_,_,_,_,h,_=>by simp[eP] at h
def uE:∀{args:List Arg} {vs vals:List Value},eP args=some vs→vals.length=args.length→cy w w' I args vals [] []
 | [],_,_,_,_=>rfl
 |.v d::l,vs,v::vals,h,hl=>by
  simp only[eP] at h
  split at h
  ·rename_i v' vs' h1 h2
   exact uE (args:=l) h2 (by simpa using hl)
  ·cases h
 |.v d::l,vs,[],h,hl=>by simp at hl
 |.d _::_,_,_,h,_=>by simp[eP] at h
 |.p _::_,_,_,h,_=>by simp[eP] at h
 |.m _ _::_,_,_,h,_=>by simp[eP] at h
 |.f _ _::_,_,_,h,_=>by simp[eP] at h
def uC:∀{args:List Arg} {vs:List Value},eP args=some vs→vs.length=args.length
 | [],vs,h=>by simp only[eP,au] at h;subst h;rfl
 |.v d::l,vs,h=>by
  simp only[eP] at h
  split at h
  ·rename_i v vs' h1 h2
   cases h
   simp[uC h2]
  ·cases h
 |.d _::_,_,h=>by simp[eP] at h
 |.p _::_,_,h=>by simp[eP] at h
 |.m _ _::_,_,h=>by simp[eP] at h
 |.f _ _::_,_,h=>by simp[eP] at h
def xY {d:DV}{v:Value}(h:oI d=some v):mS w I (.v d) v []:=by
 obtain⟨k1,k2,_⟩:=uI (w:=w) (I:=I) h
 exact⟨[v],by unfold aQ;rw[k1];rfl,cF.ga k2⟩
def uF:∀{outs:List RV} {os:List Value},mB outs=some os→gV w I outs os []
 | [],os,h=>by simp only[mB,au] at h;subst h;rfl
 |.v d::l,os,h=>by
  simp only[mB] at h
  split at h
  ·rename_i v vs' h1 h2
   cases h
   exact⟨[],[],rfl,xY h1,uF h2⟩
  ·cases h
 |.d _::_,_,h=>by simp[mB] at h
 |.p _::_,_,h=>by simp[mB] at h
def Holds.lit {f:FuncId}{args:List Arg}{outs:List RV}{vs os:List Value}{ok:List Bool}(h1:eP args=some vs)(h2:mB outs=some os)
  (h:∀w I,(∀B,I B→B<w.heap.size)→G.ok w I→Calls P f vs.toArray w fun e w'=>e = .returned (lT os)∧RowKit.Below w.heap.size w w'):Holds P G f args ⟨outs,[],ok⟩:=by
 intro w I vals Bs hI hG ha _ _
 obtain⟨e1,e2⟩:=uD h1 ha
 subst e1 e2
 refine(h w I hI hG).mono fun e w' ⟨he,hb⟩=>?_
 refine⟨lT os,I,[],[],he,u_ (uF h2),uE h1 (uC h1),by simp,by simp,⟨fun _ h=>h,fun B hB=>hb.block B (hI B hB)⟩,fun B hB=>⟨Nat.lt_of_lt_of_le (hI B hB) hb.size,.inl hB⟩,fun B hB _=>hb.block B hB,hb.size,hb.os,hb.tape,hb.output⟩
end
open Go.ChangeShapes Go.WideShapes Go.ChangeAt Go.RowKit Go.WideElems
section
variable {P:Program} {w w':World} {H:Type} {enc:TypeId×Value→H} {ub:DataW H→Nat} {dV:List (DataW H)→Nat}
def vJ (hu:UB ub dV):∀(a b:List (DataW H)),dV a≤dV (a++b)
 | [],b=>by
  have h0:dV ([]:List (DataW H))≤dV b:=by
   cases b with
   |nil=>exact bw _
   |cons d r=>
    have h1:=hu.cons d ([]:List (DataW H))
    rw[hu.cons]
    have:∀r:List (DataW H),dV ([]:List (DataW H))≤dV r:=by
     intro r
     induction r with
     |nil=>exact bw _
     |cons d r ih=>rw[hu.cons];omega
    have:=this r;omega
  exact h0
 |d::a,b=>by rw[zl20,hu.cons,hu.cons];have:=vJ hu a b;omega
def vS (hl:laidOutB P=true)(hb:Below w.heap.size w w'):∀{ns:List String} {gs:List (DataW H)} {q:List MemPlace},
  (∀n∈ns,∀g t,P.globalNamed n=some g→(P.globals[g]?).map (·.type)=some t→P.readableRec t=true∧t<P.types.size) →
  DataW.TrodVars enc P w (fun _=>true) ns gs q→(∀x∈q,x.block<w.heap.size)→DataW.TrodVars enc P w' (fun b=>decide (b<w.heap.size)) ns gs q
 | [],gs,q,_,h,_=>by
  obtain⟨rfl,rfl⟩:=trodVars_none h
  exact rfl
 |n::ns,[],q,_,h,_=>by simp[DataW.TrodVars] at h
 |n::ns,d::gs,q,hr,h,hlt=>by
  obtain⟨g,t,cs,fuel,p1,q1,h1,h2,h3,h4,h5,e⟩:=h
  have hr1:=hr n (by simp) g t h1 h2
  subst e
  have hv:w'.var? P n=some cs:=by
   have h3':=h3
   unfold World.var? at h3 ⊢
   rw[h1] at h3 ⊢
   simp only[pF] at h3 ⊢
   have hg:g<w.heap.size:=by
    cases hc:w.heap[g]? with
    |none=>rw[hc] at h3;simp at h3
    |some o=>
     rcases Nat.lt_or_ge g w.heap.size with h|h
     ·exact h
     ·rw[Array.getElem?_eq_none h] at hc;cases hc
   rw[hb.block g hg];exact h3
  refine⟨g,t,cs,fuel,p1,q1,h1,h2,hv,?_,vS hl hb (fun n hn=>hr n (by simp[hn])) h5 (fun x hx=>hlt x (by simp[hx])),rfl⟩
  exact DataW.trod_stays (kids_book hl hr1.1) (book_sized hr1.1) (fun h=>by cases h) ⟨hr1.2,book_self t⟩ h4 (fun x hx=>hb.same (hlt x (by simp only[bB];exact .inl (.inr hx)))) (fun x hx=>by simpa using hlt x (by simp only[bB];exact .inl (.inr hx)))
def law_okV {G:jG}{f:FuncId}{fn:Func}{tys:List Ty}{TB:TypeId}{s:ChangeSpec}(hu:UB ub dV)(hl:laidOutB P=true)(htys:dN (aJ P) tys fn.params.toList)(hg:∀t∈tys,t.given=true)
  (hr:∀t∈fn.params.toList,P.readableRec t=true∧t<P.types.size) (hres:fn.resultTypes = #[TB]) (hTB:P.underlying TB=some .bool)
  (fD:∀n∈s.vars,∀g t,P.globalNamed n=some g→(P.globals[g]?).map (·.type)=some t→P.readableRec t=true∧t<P.types.size)
  (hspec:∀ds gs:List (DataW H),ds.length=tys.length→gs.length=s.vars.length→(s.fn H (ds++gs)).results = [.lit (.bool true)]∧(s.fn H (ds++gs)).args=ds∧(s.fn H (ds++gs)).vars=gs)
  (hh:∀iM:List DV,iM.map (·.t)=tys→(∀d∈iM,lf d.t d.x)→(iM.map fun d=>iK d.t d.x).sum≤1048576→Holds P G f (iM.map .v) ⟨[.v ⟨.bool,true⟩],[],[]⟩)
  {W:World} {base:Nat} {args:Array Value} {ds gs:List (DataW H)} {before:List MemPlace}
  (hval:∀(j:Nat) t v,fn.params[j]?=some t→args[j]?=some v→Value.okWide P W .any base t v)
  (hW:DataW.Whole enc P fn.params.toList s.vars false W args.toList ds gs before) (hk:dV (ds++gs)≤1048576) (hglob:G.ok W (· < W.heap.size)) :
  Calls P f args W fun e W'=>∃v,e = .returned v∧s.post enc P fn false true false false W args v W':=by
 have hW':=hW
 obtain⟨p,q,hA,hV,rfl,hfz,hnd⟩:=hW
 obtain⟨iM,q1,q2,q3,q4⟩:=vi hu htys hg hA fun j t v hj hv=>hval j t v (by simpa using hj) (by simpa using hv)
 have hlen:ds.length=tys.length:=by
  have h1:∀{ts:List TypeId} {vs:List Value} {ds:List (DataW H)} {ps:List MemPlace},DataW.TrodAll enc P W 0 (fun _=>true) true ts vs ds ps→ds.length=ts.length:=by
   intro ts
   induction ts with
   |nil=>intro vs ds ps h;obtain⟨_,rfl,_⟩:=trodAll_nil h;rfl
   |cons t ts ih=>intro vs ds ps h;obtain⟨_,_,_,_,_,_,_,rfl,_,_,h2⟩:=trodAll_cons h;simp[ih h2]
  have h2:∀{tys:List Ty} {ts:List TypeId},dN (aJ P) tys ts→tys.length=ts.length:=by
   intro tys
   induction tys with
   |nil=>intro ts h;cases h;rfl
   |cons t tys ih=>intro ts h;cases h with | cons _ h=>simp[ih h]
  rw[h1 hA,h2 htys]
 have hlenV:gs.length=s.vars.length:=by
  have h1:∀{ns:List String} {gs:List (DataW H)} {q:List MemPlace},DataW.TrodVars enc P W (fun _=>true) ns gs q→gs.length=ns.length:=by
   intro ns
   induction ns with
   |nil=>intro gs q h;obtain⟨rfl,_⟩:=trodVars_none h;rfl
   |cons n ns ih=>
    intro gs q h
    cases gs with
    |nil=>simp[DataW.TrodVars] at h
    |cons d gs=>obtain⟨_,_,_,_,_,_,_,_,_,_,h5,_⟩:=h;simp[ih h5]
  exact h1 hV
 obtain⟨s1,s2,s3⟩:=hspec ds gs hlen hlenV
 have hlt:∀x∈p++q,x.block<W.heap.size:=fun x hx=>by simpa using hW'.lt x hx
 have hub:=vJ hu ds gs
 have qa:=hh iM q1 q2 (by omega) W (· < W.heap.size) args.toList [] (fun _ h=>h) hglob q4 List.nodup_nil (by simp)
 simp only[Array.toArray_toList] at qa
 refine Calls.mono qa fun e W2 he=>?_
 obtain⟨v,I',Ys,Zs,rfl,hO,_,_,_,_,_,hfr,hsz,hos,htp,hout⟩:=he
 have hv:v = .bool true:=by
  obtain⟨cs,h1,h2⟩:=hO
  obtain⟨_,h3⟩:=h2
  simp only[af] at h3
  subst h3
  exact h1
 subst hv
 have rN:Below W.heap.size W W2:=⟨hos,htp,hout,hsz,fun k hk=>hfr k hk (by simp)⟩
 refine⟨_,rfl,ds,gs,p++q,[],p,q,hW',?_,?_,?_,rN.frame _,fun h=>by cases h⟩
 ·rw[hres,s1]
  exact trodAll_cons_mk (shut_bool hTB _) trodAll_mk0
 ·rw[s2]
  exact tI hl rN hr hA fun x hx=>hlt x (by simp[hx])
 ·rw[s3]
  exact vS hl rN fD hV fun x hx=>hlt x (by simp[hx])
end
end Go.Ab
