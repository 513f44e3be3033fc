import Derived.Test.YtfeoanopdlpabaaGreatDoorX4
import Derived.Below
import Derived.WideKeyArgs
namespace Go.Ab
section
variable {P:Program}
def qE (t:Ty):Value→Bool
 |.agg cs=>t.isAgg&&(match dV t cs.toList with | some []=>true|_=>false)
 |v=> !t.isAgg&&(match dV t [v] with | some []=>true|_=>false)
theorem xG {t:Ty}{v:Value}(h:qE t v=true):v=aL t (aX t):=by
 have one:∀v:Value,(!t.isAgg&&(match dV t [v] with | some []=>true|_=>false))=true→v=aL t (aX t):=by
  intro v h
  simp only[Bool.and_eq_true,Bool.not_eq_true'] at h
  obtain⟨h1,h2⟩:=h
  split at h2
  ·rename_i hz
   have:=ud hz
   rw[List.append_nil] at this
   simp[aL,h1,←this]
  ·cases h2
 unfold qE at h
 split at h
 ·rename_i cs
  simp only[Bool.and_eq_true] at h
  obtain⟨h1,h2⟩:=h
  split at h2
  ·rename_i hz
   have:=ud hz
   rw[List.append_nil] at this
   simp[aL,h1,←this]
  ·cases h2
 ·exact one v h
def iK (P:Program)(t:Ty)(T:TypeId):Bool:=match P.info? T with
 |some i=>Nat.beq i.size t.size&&(match i.zero with | some z=>qE t z|none=>false)&&Nat.ble i.bytes 4096
 |none=>false
theorem jB {t:Ty}{T:TypeId}(h:iK P t T=true):fA P t T:=by
 unfold iK at h
 split at h
 ·rename_i i hi
  simp only[Bool.and_eq_true] at h
  obtain⟨⟨h1,h2⟩,h3⟩:=h
  split at h2
  ·rename_i z hz
   exact⟨i,hi,Nat.eq_of_beq_eq_true h1,by rw[hz,xG h2],Nat.le_of_ble_eq_true h3⟩
  ·cases h2
 ·cases h
def cK (P:Program):Ty→(TypeId→Bool)×(List Field→Nat→Bool)
 |.unit=>(fun T=>iK P .unit T&&(match P.underlying T with | some (.struct fs)=>fs.toList.isEmpty|_=>false),fun fs _=>fs.isEmpty)
 |.bool=>(fun T=>iK P .bool T&&(match P.underlying T with | some .bool=>true|_=>false),fun _ _=>false)
 |.int k=>(fun T=>iK P (.int k) T&&(match P.underlying T with | some (.int k')=>jC k' k|_=>false),fun _ _=>false)
 |.str=>(fun T=>iK P .str T&&(match P.underlying T with | some .string=>true|_=>false),fun _ _=>false)
 |.lst t=>(fun T=>iK P (.lst t) T&&(match P.underlying T with | some (.slice E)=>Nat.ble 1 t.size&&(cK P t).1 E|_=>false),fun _ _=>false)
 |.own _=>(fun _=>false,fun _ _=>false)
 |.pair a b=>(fun T=>iK P (.pair a b) T&&(match P.underlying T with
  |some (.struct fs)=>(match fs.toList with
   |f::l=>Nat.beq f.offset 0&&(cK P a).1 f.type&&(cK P b).2 l a.size
   | []=>false)
  |_=>false),
  fun fs off=>match fs with
   |f::l=>Nat.beq f.offset off&&(cK P a).1 f.type&&(cK P b).2 l (off+a.size)
   | []=>false)
 |.arr n t=>(fun T=>iK P (.arr n t) T&&(match P.underlying T with | some (.array n' E)=>Nat.beq n n'&&Nat.ble 2 n&&(match t with | .int _=>true|_=>false)&&(cK P t).1 E|_=>false),fun _ _=>false)
 |.ref t=>(fun T=>iK P (.ref t) T&&(match P.underlying T with | some (.pointer _)=>true|_=>false),fun _ _=>false)
theorem tU:∀{t:Ty},(∀T,(cK P t).1 T=true→(TO P t).1 T)∧(∀fs off,(cK P t).2 fs off=true→(TO P t).2 fs off):=by
 intro t
 induction t with
 |unit=>
  refine⟨fun T h=>?_,fun fs off h=>by simpa[cK,TO] using h⟩
  simp only[cK,Bool.and_eq_true] at h
  obtain⟨h1,h2⟩:=h
  split at h2
  ·rename_i fs hf
   exact⟨jB h1,fs,hf,by simpa using h2⟩
  ·cases h2
 |bool=>
  refine⟨fun T h=>?_,fun fs off h=>by simp[cK] at h⟩
  simp only[cK,Bool.and_eq_true] at h
  obtain⟨h1,h2⟩:=h
  split at h2
  ·rename_i hf;exact⟨jB h1,hf⟩
  ·cases h2
 |int k=>
  refine⟨fun T h=>?_,fun fs off h=>by simp[cK] at h⟩
  simp only[cK,Bool.and_eq_true] at h
  obtain⟨h1,h2⟩:=h
  split at h2
  ·rename_i k' hf;rw[nT h2] at hf;exact⟨jB h1,hf⟩
  ·cases h2
 |str=>
  refine⟨fun T h=>?_,fun fs off h=>by simp[cK] at h⟩
  simp only[cK,Bool.and_eq_true] at h
  obtain⟨h1,h2⟩:=h
  split at h2
  ·rename_i hf;exact⟨jB h1,hf⟩
  ·cases h2
 |lst t ih=>
  refine⟨fun T h=>?_,fun fs off h=>by simp[cK] at h⟩
  simp only[cK,Bool.and_eq_true] at h
  obtain⟨h1,h2⟩:=h
  split at h2
  ·rename_i E hf
   simp only[Bool.and_eq_true] at h2
   exact⟨jB h1,E,hf,Nat.le_of_ble_eq_true h2.1,ih.1 E h2.2⟩
  ·cases h2
 |own t _=>exact⟨fun T h=>by simp[cK] at h,fun fs off h=>by simp[cK] at h⟩
 |pair a b aI aH=>
  refine⟨fun T h=>?_,fun fs off h=>?_⟩
  ·simp only[cK,Bool.and_eq_true] at h
   obtain⟨h1,h2⟩:=h
   split at h2
   ·rename_i fs hf
    split at h2
    ·rename_i f l hfl
     simp only[Bool.and_eq_true] at h2
     exact⟨jB h1,fs,hf,f,l,hfl,Nat.eq_of_beq_eq_true h2.1.1,aI.1 _ h2.1.2,aH.2 _ _ h2.2⟩
    ·cases h2
   ·cases h2
  ·simp only[cK] at h
   split at h
   ·rename_i f l
    simp only[Bool.and_eq_true] at h
    exact⟨f,l,rfl,Nat.eq_of_beq_eq_true h.1.1,aI.1 _ h.1.2,aH.2 _ _ h.2⟩
   ·cases h
 |arr n t ih=>
  refine⟨fun T h=>?_,fun fs off h=>by simp[cK] at h⟩
  simp only[cK,Bool.and_eq_true] at h
  obtain⟨h1,h2⟩:=h
  split at h2
  ·rename_i n' E hf
   simp only[Bool.and_eq_true] at h2
   obtain⟨⟨⟨q1,q2⟩,q3⟩,q4⟩:=h2
   have:=Nat.eq_of_beq_eq_true q1
   subst this
   refine⟨jB h1,E,hf,Nat.le_of_ble_eq_true q2,?_,ih.1 E q4⟩
   split at q3
   ·exact⟨_,rfl⟩
   ·cases q3
  ·cases h2
 |ref t _=>
  refine⟨fun T h=>?_,fun fs off h=>by simp[cK] at h⟩
  simp only[cK,Bool.and_eq_true] at h
  obtain⟨h1,h2⟩:=h
  split at h2
  ·rename_i E hf;exact⟨jB h1,E,hf⟩
  ·cases h2
def eqB (P:Program)(T:TypeId):Bool:= !(P.stoodInHeld T) && !(P.eqGuardType P.depth T)&&cn (fun f=> !(f.name == "_")) (P.fieldsOf T).toList
theorem eqB_ok {T:TypeId}(h:eqB P T=true):EqOk P T:=by
 simp only[eqB,Bool.and_eq_true,Bool.not_eq_true'] at h
 refine⟨h.1.1,h.1.2,fun f hf=>?_⟩
 have:=eG h.2 f hf
 simpa using this
theorem cxOk_of {C:Cx}(h:cn (fun x=>(cK P x.2.t).1 x.1&&(!(Nat.beq x.2.e 1) || eqB P x.1)) C.eS=true):bH P C:=by
 refine⟨fun T ti hf=>?_,fun T ti hf he=>?_⟩
 ·have:=eG h _ (d_ hf)
  simp only[Bool.and_eq_true] at this
  exact tU.1 T this.1
 ·have:=eG h _ (d_ hf)
  simp only[Bool.and_eq_true,he,show Nat.beq 1 1=true from rfl,Bool.not_true,Bool.false_or] at this
  exact eqB_ok this.2
theorem tys_of {tys:List Ty}{ts:List TypeId}(h:tys.length=ts.length)(hh:cn (fun x=>(cK P x.1).1 x.2) (tys.zip ts)=true):cB (aF P) tys ts:=by
 induction tys generalizing ts with
 |nil=>cases ts with
  |nil=>exact .nil
  |cons _ _=>simp at h
 |cons t tys ih=>
  cases ts with
  |nil=>simp at h
  |cons T ts=>
   simp only[List.zip_cons_cons,cn,Bool.and_eq_true] at hh
   exact .cons (tU.1 T hh.1) (ih (by simpa using h) hh.2)
end
end Go.Ab
namespace Go.Ab
section
variable {P:Program} {G:gC} {w w':World} {I:Nat→Prop}
def l_:DV→Option Value
 |⟨.str,s⟩=>some (.string ⟨List.toArray (α:=UInt8) s⟩)
 |⟨.int k,n⟩=>some (.int k n)
 |⟨.bool,b⟩=>some (.bool b)
 |_=>none
def dw:List Arg→Option (List Value)
 | []=>some []
 |.v d::l=>match l_ d,dw l with
  |some v,some vs=>some (v::vs)
  |_,_=>none
 |_=>none
def j8:List RV→Option (List Value)
 | []=>some []
 |.v d::l=>match l_ d,j8 l with
  |some v,some vs=>some (v::vs)
  |_,_=>none
 |_=>none
theorem sE {d:DV}{v:Value}(h:l_ d=some v):d.t.isAgg=false∧aa w I d.t d.x [v]∧(∀cs Bs,bX w I d.t d.x cs Bs→cs = [v]∧Bs = []):=by
 obtain⟨t,x⟩:=d
 cases t<;>simp only[l_,Option.some.injEq,reduceCtorEq] at h<;>subst h<;>refine⟨rfl,rfl,fun cs Bs h=>?_⟩<;>simp only[bX,aa] at h<;>exact⟨h.2,h.1⟩
theorem su:∀{args:List Arg} {vs vals:List Value} {Bs:List Nat},dw args=some vs→ku w I args vals Bs→vals=vs∧Bs = []
 | [],vs,vals,Bs,h,ha=>by
  simp only[dw,Option.some.injEq] at h
  subst h
  cases vals with
  |nil=>exact⟨rfl,ha⟩
  |cons _ _=>exact ha.elim
 |.v d::l,vs,vals,Bs,h,ha=>by
  simp only[dw] at h
  split at h
  ·rename_i v vs' h1 h2
   cases h
   cases vals with
   |nil=>exact ha.elim
   |cons v0 vals=>
    obtain⟨B1,B2,e,⟨cs,e1,e2⟩,h4⟩:=ha
    obtain⟨k1,_,k3⟩:=sE (w:=w) (I:=I) h1
    obtain⟨q1,q2⟩:=k3 cs B1 e2
    obtain⟨q3,q4⟩:=su h2 h4
    subst q1 q2 q3 q4
    refine⟨?_,by simp[e]⟩
    rw[e1]
    unfold aL
    rw[k1]
    rfl
  ·cases h
 |.d _::_,_,_,_,h,_=>by simp[dw] at h
 |.p _::_,_,_,_,h,_=>by simp[dw] at h
 |.m _ _::_,_,_,_,h,_=>by simp[dw] at h
 |.f _ _::_,_,_,_,h,_=>by simp[dw] at h
theorem sA:∀{args:List Arg} {vs vals:List Value},dw args=some vs→vals.length=args.length→bS w w' I args vals [] []
 | [],_,_,_,_=>rfl
 |.v d::l,vs,v::vals,h,hl=>by
  simp only[dw] at h
  split at h
  ·rename_i v' vs' h1 h2
   exact sA (args:=l) h2 (by simpa using hl)
  ·cases h
 |.v d::l,vs,[],h,hl=>by simp at hl
 |.d _::_,_,_,h,_=>by simp[dw] at h
 |.p _::_,_,_,h,_=>by simp[dw] at h
 |.m _ _::_,_,_,h,_=>by simp[dw] at h
 |.f _ _::_,_,_,h,_=>by simp[dw] at h
theorem sr:∀{args:List Arg} {vs:List Value},dw args=some vs→vs.length=args.length
 | [],vs,h=>by simp only[dw,Option.some.injEq] at h;subst h;rfl
 |.v d::l,vs,h=>by
  simp only[dw] at h
  split at h
  ·rename_i v vs' h1 h2
   cases h
   simp[sr h2]
  ·cases h
 |.d _::_,_,h=>by simp[dw] at h
 |.p _::_,_,h=>by simp[dw] at h
 |.m _ _::_,_,h=>by simp[dw] at h
 |.f _ _::_,_,h=>by simp[dw] at h
theorem vL {d:DV}{v:Value}(h:l_ d=some v):kC w I (.v d) v []:=by
 obtain⟨k1,k2,_⟩:=sE (w:=w) (I:=I) h
 exact⟨[v],by unfold aL;rw[k1];rfl,bX.eF k2⟩
theorem sB:∀{outs:List RV} {os:List Value},j8 outs=some os→fC w I outs os []
 | [],os,h=>by simp only[j8,Option.some.injEq] at h;subst h;rfl
 |.v d::l,os,h=>by
  simp only[j8] at h
  split at h
  ·rename_i v vs' h1 h2
   cases h
   exact⟨[],[],rfl,vL h1,sB h2⟩
  ·cases h
 |.d _::_,_,h=>by simp[j8] at h
 |.p _::_,_,h=>by simp[j8] at h
theorem Holds.lit {f:FuncId}{args:List Arg}{outs:List RV}{vs os:List Value}{ok:List Bool}(h1:dw args=some vs)(h2:j8 outs=some os)
  (h:∀w I,(∀B,I B→B<w.heap.size)→G.ok w I→Calls P f vs.toArray w fun e w'=>e = .returned (jK os)∧RowKit.Below w.heap.size w w'):Holds P G f args ⟨outs,[],ok⟩:=by
 intro w I vals Bs hI hG ha _ _
 obtain⟨e1,e2⟩:=su h1 ha
 subst e1 e2
 refine(h w I hI hG).mono fun e w' ⟨he,hb⟩=>?_
 refine⟨jK os,I,[],[],he,s7 (sB h2),sA h1 (sr h1),by simp,by simp,⟨fun _ h=>h,fun B hB=>hb.block B (hI B hB)⟩,fun B hB=>⟨Nat.lt_of_lt_of_le (hI B hB) hb.size,.inl hB⟩,fun B hB _=>hb.block B hB,hb.size,hb.os,hb.tape,hb.output⟩
end
end Go.Ab
namespace Go.Ab
open Go.ChangeShapes Go.WideShapes Go.ChangeAt Go.RowKit Go.WideElems
section
variable {P:Program} {w w':World} {H:Type} {enc:TypeId×Value→H} {ub:DataW H→Nat} {cN:List (DataW H)→Nat}
theorem tV (hu:UB ub cN):∀(a b:List (DataW H)),cN a≤cN (a++b)
 | [],b=>by
  have h0:cN ([]:List (DataW H))≤cN b:=by
   cases b with
   |nil=>exact Nat.le_refl _
   |cons d r=>
    have h1:=hu.cons d ([]:List (DataW H))
    rw[hu.cons]
    have:∀r:List (DataW H),cN ([]:List (DataW H))≤cN r:=by
     intro r
     induction r with
     |nil=>exact Nat.le_refl _
     |cons d r ih=>rw[hu.cons];omega
    have:=this r;omega
  exact h0
 |d::a,b=>by rw[List.cons_append,hu.cons,hu.cons];have:=tV hu a b;omega
theorem uc (hl:laidOutB P=true)(hb:Below w.heap.size w w'):∀{ns:List String} {gs:List (DataW H)} {q:List MemPlace},
  (∀n∈ns,∀g t,P.globalNamed n=some g→(P.globals[g]?).map (·.type)=some t→P.readableRec t=true∧t<P.types.size) →
  DataW.TrodVars enc P w (fun _=>true) ns gs q→(∀x∈q,x.block<w.heap.size)→DataW.TrodVars enc P w' (fun b=>decide (b<w.heap.size)) ns gs q
 | [],gs,q,_,h,_=>by
  obtain⟨rfl,rfl⟩:=trodVars_none h
  exact rfl
 |n::ns,[],q,_,h,_=>by simp[DataW.TrodVars] at h
 |n::ns,d::gs,q,hr,h,hlt=>by
  obtain⟨g,t,cs,fuel,p1,q1,h1,h2,h3,h4,h5,e⟩:=h
  have hr1:=hr n (by simp) g t h1 h2
  subst e
  have hv:w'.var? P n=some cs:=by
   have h3':=h3
   unfold World.var? at h3 ⊢
   rw[h1] at h3 ⊢
   simp only[Option.bind_some] at h3 ⊢
   have hg:g<w.heap.size:=by
    cases hc:w.heap[g]? with
    |none=>rw[hc] at h3;simp at h3
    |some o=>
     rcases Nat.lt_or_ge g w.heap.size with h|h
     ·exact h
     ·rw[Array.getElem?_eq_none h] at hc;cases hc
   rw[hb.block g hg];exact h3
  refine⟨g,t,cs,fuel,p1,q1,h1,h2,hv,?_,uc hl hb (fun n hn=>hr n (by simp[hn])) h5 (fun x hx=>hlt x (by simp[hx])),rfl⟩
  exact DataW.trod_stays (kids_book hl hr1.1) (book_sized hr1.1) (fun h=>by cases h) ⟨hr1.2,book_self t⟩ h4 (fun x hx=>hb.same (hlt x (by simp only[List.mem_append];exact .inl (.inr hx)))) (fun x hx=>by simpa using hlt x (by simp only[List.mem_append];exact .inl (.inr hx)))
theorem law_okV {G:gC}{f:FuncId}{fn:Func}{tys:List Ty}{TB:TypeId}{s:ChangeSpec}(hu:UB ub cN)(hl:laidOutB P=true)(lV:cB (aF P) tys fn.params.toList)(hg:∀t∈tys,t.given=true)
  (hr:∀t∈fn.params.toList,P.readableRec t=true∧t<P.types.size) (hres:fn.resultTypes = #[TB]) (hTB:P.underlying TB=some .bool)
  (dO:∀n∈s.vars,∀g t,P.globalNamed n=some g→(P.globals[g]?).map (·.type)=some t→P.readableRec t=true∧t<P.types.size)
  (hspec:∀ds gs:List (DataW H),ds.length=tys.length→gs.length=s.vars.length→(s.fn H (ds++gs)).results = [.lit (.bool true)]∧(s.fn H (ds++gs)).args=ds∧(s.fn H (ds++gs)).vars=gs)
  (hh:∀dM:List DV,dM.map (·.t)=tys→(∀d∈dM,iV d.t d.x)→(dM.map fun d=>fR d.t d.x).sum≤1048576→Holds P G f (dM.map .v) ⟨[.v ⟨.bool,true⟩],[],[]⟩)
  {W:World} {base:Nat} {args:Array Value} {ds gs:List (DataW H)} {before:List MemPlace}
  (hval:∀(j:Nat) t v,fn.params[j]?=some t→args[j]?=some v→Value.okWide P W .any base t v)
  (hW:DataW.Whole enc P fn.params.toList s.vars false W args.toList ds gs before) (hk:cN (ds++gs)≤1048576) (pK:G.ok W (· < W.heap.size)) :
  Calls P f args W fun e W'=>∃v,e = .returned v∧s.post enc P fn false true false false W args v W':=by
 have hW':=hW
 obtain⟨p,q,hA,hV,rfl,hfz,hnd⟩:=hW
 obtain⟨dM,q1,q2,q3,q4⟩:=qh hu lV hg hA fun j t v hj hv=>hval j t v (by simpa using hj) (by simpa using hv)
 have hlen:ds.length=tys.length:=by
  have h1:∀{ts:List TypeId} {vs:List Value} {ds:List (DataW H)} {ps:List MemPlace},DataW.TrodAll enc P W 0 (fun _=>true) true ts vs ds ps→ds.length=ts.length:=by
   intro ts
   induction ts with
   |nil=>intro vs ds ps h;obtain⟨_,rfl,_⟩:=trodAll_nil h;rfl
   |cons t ts ih=>intro vs ds ps h;obtain⟨_,_,_,_,_,_,_,rfl,_,_,h2⟩:=trodAll_cons h;simp[ih h2]
  have h2:∀{tys:List Ty} {ts:List TypeId},cB (aF P) tys ts→tys.length=ts.length:=by
   intro tys
   induction tys with
   |nil=>intro ts h;cases h;rfl
   |cons t tys ih=>intro ts h;cases h with | cons _ h=>simp[ih h]
  rw[h1 hA,h2 lV]
 have hlenV:gs.length=s.vars.length:=by
  have h1:∀{ns:List String} {gs:List (DataW H)} {q:List MemPlace},DataW.TrodVars enc P W (fun _=>true) ns gs q→gs.length=ns.length:=by
   intro ns
   induction ns with
   |nil=>intro gs q h;obtain⟨rfl,_⟩:=trodVars_none h;rfl
   |cons n ns ih=>
    intro gs q h
    cases gs with
    |nil=>simp[DataW.TrodVars] at h
    |cons d gs=>obtain⟨_,_,_,_,_,_,_,_,_,_,h5,_⟩:=h;simp[ih h5]
  exact h1 hV
 obtain⟨s1,s2,s3⟩:=hspec ds gs hlen hlenV
 have hlt:∀x∈p++q,x.block<W.heap.size:=fun x hx=>by simpa using hW'.lt x hx
 have hub:=tV hu ds gs
 have j0:=hh dM q1 q2 (by omega) W (· < W.heap.size) args.toList [] (fun _ h=>h) pK q4 List.nodup_nil (by simp)
 simp only[Array.toArray_toList] at j0
 refine Calls.mono j0 fun e W2 he=>?_
 obtain⟨v,I',Ys,Zs,rfl,hO,_,_,_,_,_,hfr,hsz,hos,htp,hout⟩:=he
 have hv:v = .bool true:=by
  obtain⟨cs,h1,h2⟩:=hO
  obtain⟨_,h3⟩:=h2
  simp only[aa] at h3
  subst h3
  exact h1
 subst hv
 have kK:Below W.heap.size W W2:=⟨hos,htp,hout,hsz,fun k hk=>hfr k hk (by simp)⟩
 refine⟨_,rfl,ds,gs,p++q,[],p,q,hW',?_,?_,?_,kK.frame _,fun h=>by cases h⟩
 ·rw[hres,s1]
  exact trodAll_cons_mk (shut_bool hTB _) trodAll_mk0
 ·rw[s2]
  exact oN hl kK hr hA fun x hx=>hlt x (by simp[hx])
 ·rw[s3]
  exact uc hl kK dO hV fun x hx=>hlt x (by simp[hx])
end
end Go.Ab
