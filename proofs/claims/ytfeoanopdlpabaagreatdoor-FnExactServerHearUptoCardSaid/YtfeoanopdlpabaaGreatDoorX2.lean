import Derived.Test.YtfeoanopdlpabaaGreatDoorX1
import Derived.Laws.Slices
import Derived.Laws.Tables
import Derived.Great.BuildSlice
import Derived.Laws.MakeOwn
import Derived.Laws.Append
import Derived.Laws.IdiomStrings
import Derived.Laws.BytesArg
import Derived.Laws.Strings
namespace Go.Ab
section
variable {P:Program} {F:Fix} {C:Cx} {o:Oper} {a:Act} {w:World} {m:MF} {I:Nat→Prop} {ρ:Pl} {d:aE}
theorem gI {x:AT}{n:Int}{v:Value}(h:fh x=some n)(hs:au w I m ρ x v):∃k,v = .int k n:=by
 unfold fh at h
 split at h
 ·cases h
  exact⟨_,cJ.1 hs⟩
 ·simp at h
theorem kJ {α:Type}{xs:List α}{i:Nat}{z:α}(h:i<xs.length):xs[i]?=some (xs.getD i z):=by
 rw[List.getD_eq_getElem?_getD,List.getElem?_eq_getElem h]
 rfl
theorem run_indexAt_slice {T E:Nat}{t:Ty}{B off len cap:Nat}{k:IntKind}{i:Int}(hu:P.underlying T=some (.slice E))(hE:aF P t E)(h0:0≤i)(h1:i<len) :
  (Instr.indexAt T (.slice (some ⟨B,off,none⟩) len cap) (.int k i)).run P w = .ok (.pointer (some ⟨B,off+i.toNat*t.size,none⟩)) w:=by
 simp[Instr.indexAt,asIntOf,run_underlying hu,h0,h1,hE.info.run_sizeOf,Addr.iw]
theorem tB {T E n:Nat}{t:Ty}{B off:Nat}{k:IntKind}{i:Int}(hu:P.underlying T=some (.array n E))(hE:aF P t E)(h0:0≤i)(h1:i<n) :
  (Instr.indexAt T (.pointer (some ⟨B,off,none⟩)) (.int k i)).run P w = .ok (.pointer (some ⟨B,off+i.toNat*t.size,none⟩)) w:=by
 simp[Instr.indexAt,asIntOf,run_underlying hu,Instr.sureAddr,h0,h1,hE.info.run_sizeOf,Addr.iw]
theorem gR {t:Ty}{T:Nat}(h:aF P (.lst t) T):∃E,P.underlying T=some (.slice E)∧0<t.size∧aF P t E:=by
 unfold aF at h
 simp only[TO] at h
 exact h.2
theorem qv {t:Ty}{n T:Nat}(h:aF P (.arr n t) T):∃E,P.underlying T=some (.array n E)∧1<n∧(∃k,t = .int k)∧aF P t E:=by
 unfold aF at h
 simp only[TO] at h
 exact h.2
theorem vl {id st:Nat}{t:Ty}{fz:Bool}{xs:List t.den}{v:Value}(hx:au w I m ρ (.whole id st t) v)(hr:rowsOf m id st t=some (fz,xs)) :
  ∃ad cap,v = .slice ad xs.length cap∧xs.length≤cap∧f_ w ρ id t.size 0 ad cap:=by
 have hb:=eR hr
 have hx':=bQ (a:=.whole id st t) rfl hx (by simp) (by simp) (by simp) (by simp)
 simp only[af] at hx'
 obtain⟨_,_,h3⟩:=hx'
 obtain⟨ad,cap,e1,e2,e3⟩:=h3 _ hb rfl t xs.length rfl
 exact⟨ad,cap,by simpa using e1,e2,e3.weak⟩
theorem rL {id st:Nat}{t:Ty}{fz:Bool}{xs:List t.den}{v:Value}(hx:au w I m ρ (.whole id st t) v)(hr:rowsOf m id st t=some (fz,xs)) :
  ∃ad cap,v = .slice ad xs.length cap∧xs.length≤cap∧eu w ρ id t.size ad cap:=by
 have hb:=eR hr
 have hx':=bQ (a:=.whole id st t) rfl hx (by simp) (by simp) (by simp) (by simp)
 simp only[af] at hx'
 obtain⟨_,_,h3⟩:=hx'
 obtain⟨ad,cap,e1,e2,e3⟩:=h3 _ hb rfl t xs.length rfl
 exact⟨ad,cap,by simpa using e1,e2,e3⟩
theorem kN {id st off len:Nat}{t:Ty}{fz:Bool}{xs:List t.den}{v:Value}(hx:au w I m ρ (.piece id st off len t) v)(hr:rowsOf m id st t=some (fz,xs)) :
  ∃ad cap,v = .slice ad len cap∧len≤cap∧(off+len≤xs.length∧xs.length≤off+cap)∧f_ w ρ id t.size off ad cap:=by
 have hb:=eR hr
 have hx':=bQ (a:=.piece id st off len t) rfl hx (by simp) (by simp) (by simp) (by simp)
 simp only[af] at hx'
 obtain⟨_,_,h3⟩:=hx'
 obtain⟨ad,cap,e1,e2,e3,e4⟩:=h3 _ hb rfl t xs.length rfl
 exact⟨ad,cap,by simpa using e1,e2,e3,e4⟩
theorem pS {id st:Nat}{t:Ty}{xs:List t.den}(h:fL m id st t=some xs):(∃fz,m id=some ⟨st,fz,.rows t xs⟩)∨∃fz rs,m id=some ⟨st,fz,.deep rs t xs⟩:=by
 unfold fL at h
 split at h
 ·rename_i st' fz u ys hc
  obtain⟨hb,hst⟩:=cp hc
  obtain⟨e,he⟩:=DV.bT h
  simp only[Ty.lst.injEq] at e
  subst e
  simp only at he hst
  subst he hst
  exact .inl ⟨fz,hb⟩
 ·rename_i st' fz rs u ys hc
  obtain⟨hb,hst⟩:=cp hc
  obtain⟨e,he⟩:=DV.bT h
  simp only[Ty.lst.injEq] at e
  subst e
  simp only at he hst
  subst he hst
  exact .inr ⟨fz,rs,hb⟩
 ·simp at h
theorem kP {id st:Nat}{t:Ty}{xs:List t.den}(h:fL m id st t=some xs):∃b,m id=some b∧b.st=st∧b.c.arr=some (t,xs.length):=by
 rcases pS h with⟨fz,h⟩|⟨fz,rs,h⟩
 ·exact⟨_,h,rfl,rfl⟩
 ·exact⟨_,h,rfl,rfl⟩
theorem kO {id st n:Nat}{t u:Ty}{b:ag}{v:Value}(hx:au w I m ρ (.whole id st u) v)(hb:m id=some b)(hst:b.st=st)(ha:b.c.arr=some (t,n)) :
  ∃ad cap,v = .slice ad n cap∧n≤cap∧eu w ρ id t.size ad cap:=by
 have hx':=bQ (a:=.whole id st u) rfl hx (by simp) (by simp) (by simp) (by simp)
 simp only[af] at hx'
 obtain⟨_,_,h3⟩:=hx'
 obtain⟨ad,cap,e1,e2,e3⟩:=h3 _ hb hst t n ha
 exact⟨ad,cap,by simpa using e1,e2,e3⟩
theorem tH {id st row n:Nat}{t:Ty}{b:ag}{B o':Nat}(hb:m id=some b)(hst:b.st=st)(ha:b.c.arr=some (t,n))(hρ:ρ id=some (B,o'))(hr:row<n) :
  au w I m ρ (.ptr id st row []) (.pointer (some ⟨B,o'+row*t.size,none⟩)):=by
 show aB _ _ _ _ _ _
 unfold aB
 simp only[AT.isAgg,Bool.false_eq_true,if_false,af]
 refine⟨eV.pointer _,bR.of hb hst,fun b' hb' hs t' a' aJ=>?_⟩
 rw[hb] at hb'
 cases hb'
 rw[ha] at aJ
 cases aJ
 exact⟨trivial,hr,B,o',hρ,by simp[Ty.off]⟩
theorem wW {id st row:Nat}{t:Ty}{fz:Bool}{xs:List t.den}{B o':Nat}(hb:m id=some ⟨st,fz,.rows t xs⟩)(hρ:ρ id=some (B,o'))(hr:row<xs.length) :
  au w I m ρ (.ptr id st row []) (.pointer (some ⟨B,o'+row*t.size,none⟩)):=tH hb rfl rfl hρ hr
theorem uZ {T:Nat}{x ix:Operand}{ax ai:AT}{i:Int}(hC:bH P C)(ho:o.op = .indexAddr T x ix)(hm:aD F m w I ρ)(hx:au w I m ρ ax (a.eval x))(hi:au w I m ρ ai (a.eval ix))
  (hin:fh ai=some i) (hd:jA C m T ax i=some d) (hok:∀b∈d.ok,b=true):aA P F o a w m I ρ d:=by
 obtain⟨k,hik⟩:=gI hin hi
 unfold jA at hd
 split at hd
 ·rename_i t xs u hu
  have hT:=hC.ty hu
  cases bz:t.is u with
  |false=>simp[bz] at hd
  |true=>
   simp only[bz,cond_true,Option.some.injEq] at hd
   subst hd
   have:=Ty.cA bz
   subst this
   simp only[List.mem_cons,List.not_mem_nil,or_false,forall_eq_or_imp,forall_eq,decide_eq_true_eq] at hok
   obtain⟨E,h1,h2,h3⟩:=gR hT
   have hx':=bQ (a:=.leaf (.lst t) xs) rfl hx (by simp) (by simp) (by simp) (by simp)
   simp only[af,aa,List.cons.injEq,and_true] at hx'
   obtain⟨ad,cap,e1,e2,e3⟩:=hx'
   have hlt:i.toNat<xs.length:=by omega
   rcases e3 with e3|⟨B,off,e3,e4,e5⟩
   ·subst e3;simp at hlt
   ·subst e3
    refine aA.value hm (v:=.pointer (some ⟨B,off+i.toNat*t.size,none⟩)) (by simp[execOp,ho,e1,hik,run_indexAt_slice h1 h3 hok.1 hok.2]) ?_
    rw[kn]
    unfold aB
    simp only[AT.isAgg,Ty.isAgg,Bool.false_eq_true,if_false,af,aa]
    obtain⟨cs,f1,f2,f3⟩:=e5 i.toNat _ (kJ (z:=t.dflt) hlt)
    exact⟨B,_,rfl,e4,h2,cs,f1,f2,f3⟩
 ·rename_i id st t u hu
  have hT:=hC.ty hu
  cases bz:t.is u with
  |false=>simp[bz] at hd
  |true=>
   simp only[bz,cond_true] at hd
   have:=Ty.cA bz
   subst this
   split at hd
   ·rename_i xs hr
    cases hd
    simp only[List.mem_cons,List.not_mem_nil,or_false,forall_eq_or_imp,forall_eq,decide_eq_true_eq] at hok
    obtain⟨E,h1,h2,h3⟩:=gR hT
    obtain⟨b,hb,hst,bU⟩:=kP hr
    obtain⟨ad,cap,e1,e2,e3⟩:=kO hx hb hst bU
    rcases e3 with e3|⟨B,o',cs,e3,e4,e5,e6⟩
    ·omega
    ·subst e4
     refine aA.value hm (v:=.pointer (some ⟨B,o'+i.toNat*t.size,none⟩)) (by simp[execOp,ho,e1,hik,run_indexAt_slice h1 h3 hok.1 hok.2]) ?_
     exact tH hb hst bU e3 (by omega)
   ·simp at hd
 ·rename_i id st off len t u hu
  have hT:=hC.ty hu
  cases bz:t.is u with
  |false=>simp[bz] at hd
  |true=>
   simp only[bz,cond_true] at hd
   have:=Ty.cA bz
   subst this
   split at hd
   ·rename_i r hr
    obtain⟨fz,xs⟩:=r
    cases hd
    simp only[List.mem_cons,List.not_mem_nil,or_false,forall_eq_or_imp,forall_eq,decide_eq_true_eq] at hok
    obtain⟨E,h1,h2,h3⟩:=gR hT
    obtain⟨ad,cap,e1,e2,i_,e3⟩:=kN hx hr
    rcases e3 with e3|⟨B,o',cs,e3,e4,e5,e6⟩
    ·omega
    ·subst e4
     refine aA.value hm (v:=.pointer (some ⟨B,o'+(off+i.toNat)*t.size,none⟩)) (by simp[execOp,ho,e1,hik,run_indexAt_slice h1 h3 hok.1 hok.2,Nat.add_mul,Nat.add_assoc]) ?_
     exact wW (eR hr) e3 (by omega)
   ·simp at hd
 ·rename_i n t xs n' u hu
  have hT:=hC.ty hu
  cases bz:Nat.beq n n'&&t.is u with
  |false=>simp[bz] at hd
  |true=>
   simp only[bz,cond_true,Option.some.injEq] at hd
   subst hd
   simp only[Bool.and_eq_true] at bz
   have:=Nat.eq_of_beq_eq_true bz.1
   subst this
   have:=Ty.cA bz.2
   subst this
   simp only[List.mem_cons,List.not_mem_nil,or_false,forall_eq_or_imp,forall_eq,decide_eq_true_eq] at hok
   obtain⟨E,h1,h2,⟨k',h20⟩,h3⟩:=qv hT
   have hx':=bQ (a:=.leaf (.ref (.arr n t)) xs) rfl hx (by simp) (by simp) (by simp) (by simp)
   simp only[af,aa,List.cons.injEq,and_true] at hx'
   obtain⟨B,off,e1,e2,e3,cs,e4,e5,e6,e7⟩:=hx'
   have hlt:i.toNat<xs.length:=by omega
   refine aA.value hm (v:=.pointer (some ⟨B,off+i.toNat*t.size,none⟩)) (by simp[execOp,ho,e1,hik,tB h1 h3 hok.1 hok.2]) ?_
   rw[kn]
   unfold aB
   simp only[AT.isAgg,Ty.isAgg,Bool.false_eq_true,if_false,af,aa]
   obtain⟨pre,mid,post,f1,f2,f3,_⟩:=aR.split (fun x vs h=>aa.length h) e7 (kJ (z:=t.dflt) hlt)
   have hml:=aa.length f3
   refine⟨B,_,rfl,e2,by subst h20;simp[Ty.size],mid,hml,fun j hj=>?_,f3⟩
   have:=e5 (i.toNat*t.size+j) (by rw[←e4,f1];simp;omega)
   rw[←Nat.add_assoc] at this
   rw[this,f1,List.append_assoc,List.getElem?_append_right (by omega),List.getElem?_append_left (by omega)]
   congr 1
   omega
 ·rename_i id st p n u hu
  have hT:=hC.ty hu
  split at hd
  ·rename_i st' fz t at_ hc
   obtain⟨hb,hst⟩:=cp hc
   cases bz:cM (t.at p) (.arr n u) with
   |false=>simp[bz] at hd
   |true=>
    simp only[bz,cond_true,Option.some.injEq] at hd
    subst hd
    have cE:=fJ bz
    simp only[List.mem_cons,List.not_mem_nil,or_false,forall_eq_or_imp,forall_eq,decide_eq_true_eq] at hok
    obtain⟨E,h1,h2,_,h3⟩:=qv hT
    have hx':=bQ (a:=.aZ id st p) rfl hx (by simp) (by simp) (by simp) (by simp)
    simp only[af] at hx'
    obtain⟨_,_,h3'⟩:=hx'
    obtain⟨e0,B,e1,e2⟩:=h3' _ hb hst t at_ rfl
    simp only[List.cons.injEq,and_true] at e2
    refine aA.value hm (v:=.pointer (some ⟨B,t.off p+i.toNat*u.size,none⟩)) (by simp[execOp,ho,e2,hik,tB h1 h3 hok.1 hok.2]) ?_
    show aB _ _ _ _ _ _
    unfold aB
    simp only[AT.isAgg,Bool.false_eq_true,if_false,af]
    refine⟨eV.pointer _,bR.of hb hst,fun b hb' hs t' a' aJ=>?_⟩
    rw[hb] at hb'
    cases hb'
    cases aJ
    exact⟨cZ.app p [.idx i.toNat] cE e0 ⟨by omega,trivial⟩,B,e1,by rw[Ty.kV p _ cE];simp[Ty.off]⟩
  ·simp at hd
 ·simp at hd
theorem uY {T:Nat}{x ix:Operand}{ax ai:AT}{i:Int}(hC:bH P C)(ho:o.op = .index T x ix)(hm:aD F m w I ρ)(hx:au w I m ρ ax (a.eval x))(hi:au w I m ρ ai (a.eval ix))
  (hin:fh ai=some i) (hd:pP C T ax i=some d) (hok:∀b∈d.ok,b=true):aA P F o a w m I ρ d:=by
 obtain⟨k,hik⟩:=gI hin hi
 unfold pP at hd
 split at hd
 ·rename_i s hu
  have hT:=hC.ty hu
  unfold aF at hT
  simp only[TO] at hT
  cases hd
  simp only[List.mem_cons,List.not_mem_nil,or_false,forall_eq_or_imp,forall_eq,decide_eq_true_eq] at hok
  have e1:=gA.1 hx
  have hlt:i.toNat<s.length:=by omega
  have j5:(⟨s.toArray⟩:ByteArray)[i.toNat]?=some (s.getD i.toNat 0):=by
   have:i.toNat<(⟨s.toArray⟩:ByteArray).size:=by simpa[ByteArray.size] using hlt
   rw[getElem?_pos (⟨s.toArray⟩:ByteArray) i.toNat this]
   congr 1
   show s.toArray[i.toNat]=_
   simp[List.getD_eq_getElem?_getD,hlt]
  refine aA.value hm (v:=.int .u8 (s.getD i.toNat 0).toNat) ?_ (cJ.2 rfl)
  simp[execOp,ho,e1,hik,Instr.index,asIntOf,run_underlying hT.2,hok.1,j5]
 ·rename_i n k1 xs n' k2 hu
  have hT:=hC.ty hu
  cases bz:Nat.beq n n'&&jC k1 k2 with
  |false=>simp[bz] at hd
  |true=>
   simp only[bz,cond_true,Option.some.injEq] at hd
   subst hd
   simp only[Bool.and_eq_true] at bz
   have:=Nat.eq_of_beq_eq_true bz.1
   subst this
   have:=nT bz.2
   subst this
   simp only[List.mem_cons,List.not_mem_nil,or_false,forall_eq_or_imp,forall_eq,decide_eq_true_eq] at hok
   obtain⟨E,h1,h2,_,h3⟩:=qv hT
   have hx':aB w I m ρ (.leaf (.arr n (.int k1)) xs) (a.eval x):=hx
   unfold aB at hx'
   simp only[AT.isAgg,Ty.isAgg,if_true,af,aa] at hx'
   obtain⟨arr,e1,e2,e3⟩:=hx'
   have hlt:i.toNat<xs.length:=by omega
   obtain⟨pre,mid,post,f1,f2,f3,_⟩:=aR.split (n:=1) (fun x vs h=>by rw[h];rfl) e3 (kJ (z:=(0:Int)) hlt)
   subst f3
   have hpart:(part E arr (i.toNat*(Ty.int k1).size)).run P w = .ok (.int k1 (xs.getD i.toNat 0)) w:=by
    unfold part
    rw[Sem.run_bind,h3.oh]
    have:arr[i.toNat]?=some (.int k1 (xs.getD i.toNat 0)):=by
     have:arr=(pre ++ [Value.int k1 (xs.getD i.toNat 0)]++post).toArray:=by apply Array.ext';simpa using f1
     rw[this]
     simp only[List.getElem?_toArray]
     rw[List.append_assoc,List.getElem?_append_right (by omega)]
     simp[f2]
    simp[Ty.isAgg,Ty.size,this]
   refine aA.value hm (v:=.int k1 (xs.getD i.toNat 0)) ?_ (cJ.2 rfl)
   have h0':0≤i∧i<(n:Int):=hok
   simp[execOp,ho,e1,hik,Instr.index,asIntOf,run_underlying h1,h0',h3.info.run_sizeOf]
   rw[hpart]
   rfl
 ·simp at hd
end
end Go.Ab
namespace Go.Ab
section
variable {P:Program} {F:Fix} {C:Cx} {o:Oper} {a:Act} {w:World} {m:MF} {I:Nat→Prop} {ρ:Pl} {d:aE}
theorem rM {ad:Option Addr}{cap l sz:Nat}(h:l=0):(if cap=l then ad else ad.map (·.add (l*sz)))=ad:=by
 subst h
 split
 ·rfl
 ·cases ad with
  |none=>rfl
  |some a=>simp[Addr.add]
theorem og {isSlice:Bool}{len cap:Nat}{lo hi:Option Operand}{ρf:Operand→AT}{l h:Int}
  (hlo:∀x,lo=some x→au w I m ρ (ρf x) (a.eval x)) (hhi:∀x,hi=some x→au w I m ρ (ρf x) (a.eval x))
  (hl:iA 0 (lo.map ρf)=some l) (hh:iA len (hi.map ρf)=some h) (h0:0≤l) (h1:l≤h) (h2:h≤cap) (_hc:len≤cap) :
  (Instr.sliceBounds isSlice len cap (lo.map a.eval) (hi.map a.eval) none).run P w = .ok (l.toNat,h.toNat,cap) w:=by
 unfold Instr.sliceBounds
 cases lo with
 |none=>
  simp only[Option.map_none,iA,Option.some.injEq] at hl
  subst hl
  cases hi with
  |none=>
   simp only[Option.map_none,iA,Option.some.injEq] at hh
   subst hh
   simp
  |some y=>
   simp only[Option.map_some,iA] at hh
   obtain⟨k,hk⟩:=gI hh (hhi y rfl)
   have:h≤(cap:Int):=by omega
   have hb:=run_sliceBound (P:=P) w k h cap (if isSlice then BoundsCode.sliceAcap else BoundsCode.sliceAlen) (by omega) this
   simp[hk,hb]
 |some x=>
  simp only[Option.map_some,iA] at hl
  obtain⟨k,hk⟩:=gI hl (hlo x rfl)
  cases hi with
  |none=>
   simp only[Option.map_none,iA,Option.some.injEq] at hh
   subst hh
   have hb:=run_sliceBound (P:=P) w k l len BoundsCode.sliceB h0 (by omega)
   simp[hk,hb]
  |some y=>
   simp only[Option.map_some,iA] at hh
   obtain⟨k',hk'⟩:=gI hh (hhi y rfl)
   have:h≤(cap:Int):=by omega
   have hb':=run_sliceBound (P:=P) w k' h cap (if isSlice then BoundsCode.sliceAcap else BoundsCode.sliceAlen) (by omega) this
   have hb:=run_sliceBound (P:=P) w k l h.toNat BoundsCode.sliceB h0 (by omega)
   simp[hk,hk',hb',hb]
theorem ve {T:Nat}{x:Operand}{lo hi:Option Operand}{ρf:Operand→AT}(hC:bH P C)(ho:o.op = .slice T x lo hi none)(hm:aD F m w I ρ)
  (hx:au w I m ρ (ρf x) (a.eval x)) (hlo:∀x,lo=some x→au w I m ρ (ρf x) (a.eval x)) (hhi:∀x,hi=some x→au w I m ρ (ρf x) (a.eval x))
  (hd:qo C m T (ρf x) (lo.map ρf) (hi.map ρf)=some d) (hok:∀b∈d.ok,b=true):aA P F o a w m I ρ d:=by
 unfold qo at hd
 split at hd
 ·simp at hd
 ·rename_i n hn
  split at hd
  ·rename_i l h hl hh
   generalize ρf x=ax at *
   split at hd
   ·rename_i s hu
    have hT:=hC.ty hu
    unfold aF at hT
    simp only[TO] at hT
    cases hd
    simp only[List.mem_cons,List.not_mem_nil,or_false,forall_eq_or_imp,forall_eq,decide_eq_true_eq] at hok
    simp only[jD,Option.some.injEq] at hn
    subst hn
    have e1:=gA.1 hx
    have hb:=og (P:=P) (isSlice:=false) (len:=s.length) (cap:=s.length) hlo hhi hl hh hok.1 hok.2.1 hok.2.2 (Nat.le_refl _)
    have hsz:(⟨s.toArray⟩:ByteArray).size=s.length:=by simp[ByteArray.size]
    refine aA.value hm (v:=.string ⟨((s.drop l.toNat).take (h-l).toNat).toArray⟩) ?_ (gA.2 rfl)
    have hex:(⟨s.toArray⟩:ByteArray).extract l.toNat h.toNat=⟨((s.drop l.toNat).take (h-l).toNat).toArray⟩:=by
     rw[ByteArray.ext_iff,ByteArray.data_extract]
     apply Array.ext'
     simp[List.extract_eq_take_drop]
     congr 1
     omega
    simp[execOp,ho,e1,Instr.sliceAt,run_underlying hT.2,Instr.slice,hsz,hb,hex]
   ·rename_i t xs u hu
    have hT:=hC.ty hu
    cases bz:t.is u with
    |false=>simp[bz] at hd
    |true=>
     simp only[bz,cond_true,Option.some.injEq] at hd
     subst hd
     have:=Ty.cA bz
     subst this
     simp only[List.mem_cons,List.not_mem_nil,or_false,forall_eq_or_imp,forall_eq,decide_eq_true_eq] at hok
     simp only[jD,Option.some.injEq] at hn
     subst hn
     obtain⟨E,h1,h2,h3⟩:=gR hT
     have hx':=bQ (a:=.leaf (.lst t) xs) rfl hx (by simp) (by simp) (by simp) (by simp)
     simp only[af,aa,List.cons.injEq,and_true] at hx'
     obtain⟨ad,cap,e1,e2,e3⟩:=hx'
     have hb:=og (P:=P) (isSlice:=true) (len:=xs.length) (cap:=cap) hlo hhi hl hh hok.1 hok.2.1 (by omega) e2
     refine aA.value hm (v:=.slice (if cap=l.toNat then ad else ad.map (·.add (l.toNat*t.size))) (h.toNat-l.toNat) (cap-l.toNat)) ?_ ?_
     ·simp[execOp,ho,e1,Instr.sliceAt,run_underlying h1,Instr.slice,hb,h3.info.run_sizeOf]
     ·rw[kn]
      unfold aB
      simp only[AT.isAgg,Ty.isAgg,Bool.false_eq_true,if_false,af,aa]
      have hlen:((xs.drop l.toNat).take (h-l).toNat).length=h.toNat-l.toNat:=by
       simp only[List.length_take,List.length_drop]
       omega
      refine⟨_,cap-l.toNat,by rw[hlen],by rw[hlen];omega,?_⟩
      by_cases hz:h.toNat-l.toNat=0
      ·left
       rw[←List.length_eq_zero_iff,hlen,hz]
      ·right
       rcases e3 with e3|⟨B,off,e3,e4,e5⟩
       ·subst e3;simp at hok;omega
       ·have hne:¬cap=l.toNat:=by omega
        refine⟨B,off+l.toNat*t.size,by simp[hne,e3,Addr.iw],e4,fun i y hy=>?_⟩
        rw[List.getElem?_take] at hy
        split at hy
        ·rw[List.getElem?_drop] at hy
         obtain⟨cs,f1,f2,f3⟩:=e5 _ _ hy
         refine⟨cs,f1,fun j hj=>?_,f3⟩
         rw[←f2 j hj]
         congr 2
         rw[Nat.add_mul]
         omega
        ·simp at hy
   ·rename_i id st t u hu
    have hT:=hC.ty hu
    cases bz:t.is u with
    |false=>simp[bz] at hd
    |true=>
     simp only[bz,cond_true,Option.some.injEq] at hd
     subst hd
     have:=Ty.cA bz
     subst this
     simp only[List.mem_cons,List.not_mem_nil,or_false,forall_eq_or_imp,forall_eq,decide_eq_true_eq] at hok
     simp only[jD] at hn
     split at hn
     ·rename_i xs hr
      simp only[Option.some.injEq] at hn
      subst hn
      obtain⟨E,h1,h2,h3⟩:=gR hT
      obtain⟨b0,hb',lU,bU⟩:=kP hr
      obtain⟨ad,cap,e1,e2,e3w⟩:=kO hx hb' lU bU
      have e3:=e3w.weak
      have hb:=og (P:=P) (isSlice:=true) (len:=xs.length) (cap:=cap) hlo hhi hl hh hok.1 hok.2.1 (by omega) e2
      refine aA.value hm (v:=.slice (if cap=l.toNat then ad else ad.map (·.add (l.toNat*t.size))) (h.toNat-l.toNat) (cap-l.toNat)) ?_ ?_
      ·simp[execOp,ho,e1,Instr.sliceAt,run_underlying h1,Instr.slice,hb,h3.info.run_sizeOf]
      ·show aB _ _ _ _ _ _
       unfold aB
       simp only[AT.isAgg,Bool.false_eq_true,if_false,af]
       refine⟨⟨_,rfl,rfl⟩,bR.of hb' lU,fun b hbb hs u ys hc=>?_⟩
       rw[hb'] at hbb
       cases hbb
       rw[bU] at hc
       cases hc
       refine⟨_,_,by rw[show(h-l).toNat=h.toNat-l.toNat by omega],by omega,by omega,?_⟩
       refine⟨?_,fun h0=>by rw[rM h0,h0];exact e3w⟩
       by_cases hne:cap=l.toNat
       ·exact .inl (by omega)
       ·rcases e3.1 with e3|⟨B,o',cs,e3,e4,e5,e6⟩
        ·exact .inl (by omega)
        ·refine .inr ⟨B,o',cs,e3,by simp[hne,e4,Addr.iw],e5,?_⟩
         have:l.toNat*t.size+(cap-l.toNat)*t.size=cap*t.size:=by rw[←Nat.add_mul];congr 1;omega
         omega
     ·simp at hn
   ·rename_i id st off len t u hu
    have hT:=hC.ty hu
    cases bz:t.is u with
    |false=>simp[bz] at hd
    |true=>
     simp only[bz,cond_true] at hd
     have:=Ty.cA bz
     subst this
     split at hd
     ·rename_i r hr
      obtain⟨fz,xs⟩:=r
      cases hd
      simp only[List.mem_cons,List.not_mem_nil,or_false,forall_eq_or_imp,forall_eq,decide_eq_true_eq] at hok
      simp only[jD,hr,Option.some.injEq] at hn
      subst hn
      obtain⟨E,h1,h2,h3⟩:=gR hT
      obtain⟨ad,cap,e1,e2,i_,e3⟩:=kN hx hr
      have hb:=og (P:=P) (isSlice:=true) (len:=len) (cap:=cap) hlo hhi hl hh hok.1 hok.2.1 (by omega) e2
      refine aA.value hm (v:=.slice (if cap=l.toNat then ad else ad.map (·.add (l.toNat*t.size))) (h.toNat-l.toNat) (cap-l.toNat)) ?_ ?_
      ·simp[execOp,ho,e1,Instr.sliceAt,run_underlying h1,Instr.slice,hb,h3.info.run_sizeOf]
      ·show aB _ _ _ _ _ _
       unfold aB
       simp only[AT.isAgg,Bool.false_eq_true,if_false,af]
       have hb':=eR hr
       refine⟨⟨_,rfl,rfl⟩,bR.of hb' rfl,fun b hbb hs u ys hc=>?_⟩
       rw[hb'] at hbb
       cases hbb
       cases hc
       refine⟨_,_,by rw[show(h-l).toNat=h.toNat-l.toNat by omega],by omega,by omega,?_⟩
       refine⟨?_,fun h0=>by rw[rM (by omega),show l.toNat=0 by omega];exact e3.2 (by omega)⟩
       by_cases hne:cap=l.toNat
       ·exact .inl (by omega)
       ·rcases e3.1 with e3|⟨B,o',cs,e3,e4,e5,e6⟩
        ·exact .inl (by omega)
        ·refine .inr ⟨B,o',cs,e3,by simp[hne,e4,Addr.iw,Nat.add_mul,Nat.add_assoc],e5,?_⟩
         have:l.toNat*t.size+(cap-l.toNat)*t.size=cap*t.size:=by rw[←Nat.add_mul];congr 1;omega
         rw[Nat.add_mul]
         omega
     ·simp at hd
   ·simp at hd
  ·simp at hd
end
end Go.Ab
namespace Go.Ab
section
variable {P:Program} {F:Fix} {C:Cx} {o:Oper} {a:Act} {w:World} {m:MF} {I:Nat→Prop} {ρ:Pl} {d:aE}
def cP (m:MF)(ρ:Pl)(I:Nat→Prop)(ids:List Nat):Nat→Prop:=fun B=>I B∨(∃id,id∈ids∧∃b o,m id=some b∧b.live∧ρ id=some (B,o)) ∨
 ∃id,id∈ids∧∃b,m id=some b∧b.bq∧B∈ρ.d id
def bE (ρ:Pl)(id:Nat)(b:ag)(B:Nat):Prop:=(∃o,ρ id=some (B,o))∨(b.bq∧B∈ρ.d id)
theorem aD.gM (h:aD F m w I ρ){id id':Nat}{b b':ag}{B:Nat}(h1:m id=some b)(l1:b.live)(o1:bE ρ id b B)(h2:m id'=some b')(l2:b'.live)(o2:bE ρ id' b' B):id=id':=by
 rcases o1 with⟨x,o1⟩|⟨d1,o1⟩
 ·rcases o2 with⟨y,o2⟩|⟨d2,o2⟩
  ·exact h.inj id id' b b' B x y h1 h2 l1 l2 o1 o2
  ·exact absurd o1 (((h.dp id' b' h2 d2).2 B o2).2.1 id b x h1 l1)
 ·rcases o2 with⟨y,o2⟩|⟨d2,o2⟩
  ·exact absurd o2 (((h.dp id b h1 d1).2 B o1).2.1 id' b' y h2 l2)
  ·exact(((h.dp id b h1 d1).2 B o1).2.2 id' b' h2 d2 o2).symm
theorem ag.nJ (b:ag):(b.bq∧b.bu=⟨b.st+1,false,.dead⟩)∨(¬b.bq∧b.bu=⟨b.st,true,b.c⟩):=by
 obtain⟨st,fz,c⟩:=b
 cases c<;>simp[ag.bu,ag.bq]
theorem pn (m:MF)(i:Nat):∀ids:List Nat,find (bu m ids) i=if i∈ids then(m i).map ag.bu else none
 | []=>by simp[bu,c_,find]
 |j::l=>by
  have ih:=pn m i l
  unfold bu at ih ⊢
  simp only[c_]
  cases hm:m j with
  |none=>
   simp only[ih]
   by_cases hij:i=j
   ·subst hij;simp[hm]
   ·simp[hij]
  |some b=>
   simp only[aG,ih]
   by_cases hij:i=j
   ·subst hij;simp[hm]
   ·have:¬j=i:=fun e=>hij e.symm
    simp[hij,this]
theorem oD (m:MF)(ids:List Nat)(i:Nat):m.aj (bu m ids) i=if i∈ids then(m i).map ag.bu else m i:=by
 unfold MF.aj
 rw[pn]
 by_cases h:i∈ids
 ·simp only[h,if_true]
  cases m i<;>rfl
 ·simp[h]
theorem aD.lt (h:aD F m w I ρ){id:Nat}{b:ag}{B o':Nat}(hm:m id=some b)(hl:b.live)(hρ:ρ id=some (B,o')):B<w.heap.size:=by
 have:=h.blk id b hm
 unfold aS at this
 unfold ag.live at hl
 cases hc:b.c with
 |dead=>simp[hc] at hl
 |var t a=>simp only[hc] at this;obtain⟨_,B',cs,e1,e2,_⟩:=this;rw[hρ] at e1;cases e1;exact e2.lt
 |rows t xs=>
  simp only[hc] at this
  rcases this.2 with⟨_,e1⟩|⟨B',o',cs,e1,e2,_⟩
  ·rw[hρ] at e1;cases e1
  ·rw[hρ] at e1;cases e1;exact e2.lt
 |deep rs t xs=>
  simp only[hc] at this
  rcases this.2 with⟨_,e1,_⟩|⟨B',o',cs,e1,e2,_⟩
  ·rw[hρ] at e1;cases e1
  ·rw[hρ] at e1;cases e1;exact e2.lt
theorem aC.freeze (h:aD F m w I ρ)(ids:List Nat):aC F m (m.aj (bu m ids)) w w I (cP m ρ I ids) ρ ρ:=by
 have ha:bD I (cP m ρ I ids) w w:=⟨fun _ h=>.inl h,fun _ _=>rfl⟩
 have hk:cC m (m.aj (bu m ids)) ρ ρ w w:=by
  refine⟨fun id b hb=>?_,fun _ _ _ _ _ _ _ _ _ _ _ _ _ _ _ _=>rfl⟩
  rw[oD]
  by_cases hi:id∈ids
  ·rcases b.nJ with⟨_,hf⟩|⟨_,hf⟩
   ·exact⟨b.bu,by simp[hi,hb],.inl (by rw[hf];simp)⟩
   ·exact⟨b.bu,by simp[hi,hb],.inr ⟨by rw[hf],by rw[hf];exact bt.refl _,rfl,fun _ _ _ _ cs hc=>⟨cs,hc,Nat.le_refl _⟩⟩⟩
  ·exact⟨b,by simp[hi,hb],.inr ⟨rfl,bt.refl _,rfl,fun _ _ _ _ cs hc=>⟨cs,hc,Nat.le_refl _⟩⟩⟩
 have back:∀id b,m.aj (bu m ids) id=some b→b.live→∃b0,m id=some b0∧b0.c=b.c∧(id∈ids∧b.fz=true∧¬b0.bq∨¬id∈ids∧b0=b):=by
  intro id b hb hl
  rw[oD] at hb
  by_cases hi:id∈ids
  ·simp only[hi,if_true,Option.map_eq_some_iff] at hb
   obtain⟨b0,h1,h2⟩:=hb
   subst h2
   rcases b0.nJ with⟨_,hf⟩|⟨hd,hf⟩
   ·rw[hf] at hl;simp[ag.live] at hl
   ·exact⟨b0,h1,by rw[hf],.inl ⟨hi,by rw[hf],hd⟩⟩
  ·simp only[hi,if_false] at hb
   exact⟨b,hb,rfl,.inr ⟨hi,rfl⟩⟩
 have live:∀{b0 b:ag},b0.c=b.c→b.live→b0.live:=by
  intro b0 b e hl
  unfold ag.live at *
  rw[e]
  exact hl
 refine⟨ha,hk,⟨fun id b hb=>?_,fun id id' b1 b2 B o1 o2 h1 h2 l1 l2 r1 r2=>?_,?_,fun B hB=>.inl (h.fX B hB),?_,fun id b B o1 hb hl hr=>?_,?_,h.frame,h.size,h.os,h.tape,h.output,F.G.mono ha h.ez⟩⟩
 ·by_cases hbl:b.live
  case neg=>
   unfold ag.live at hbl
   unfold aS
   cases hc:b.c<;>simp[hc] at hbl
   trivial
  obtain⟨b0,hb0,hc,hf⟩:=back id b hb hbl
  have az:=h.blk id b0 hb0
  have hl0:=live hc hbl
  have noI:¬id∈ids→∀B,bE ρ id b0 B→cP m ρ I ids B→I B:=by
   rintro hi B hO (h'|⟨id',hi',b',cH,h1,h2,h3⟩|⟨id',hi',b',h1,h2,h3⟩)
   ·exact h'
   ·have:=h.gM hb0 hl0 hO h1 h2 (.inl ⟨_,h3⟩)
    subst this
    exact absurd hi' hi
   ·have:=h.gM hb0 hl0 hO h1 (dL h2) (.inr ⟨h2,h3⟩)
    subst this
    exact absurd hi' hi
  have fzz:∀B o',ρ id=some (B,o')→b0.live→(b0.fz=true↔I B)→(b.fz=true↔cP m ρ I ids B):=by
   intro B o' hr hl hfz
   rcases hf with⟨hi,hf,_⟩|⟨hi,hf⟩
   ·simp only[hf,true_iff]
    exact .inr (.inl ⟨id,hi,b0,o',hb0,hl,hr⟩)
   ·subst hf
    rw[hfz]
    exact⟨.inl,noI hi B (.inl ⟨_,hr⟩)⟩
  unfold aS at az ⊢
  rw[←hc]
  split at az
  ·trivial
  ·rename_i t a e
   obtain⟨h1,B,cs,h2,h3,h4,h5⟩:=az
   exact⟨h1,B,cs,h2,h3,h4.mono ha hk,fzz B 0 h2 (iL e) h5⟩
  ·rename_i t xs e
   obtain⟨h0,az⟩:=az
   refine⟨h0,az.imp (fun h=>h) ?_⟩
   rintro⟨B,o',cs,h2,h3,h4,h5,h6⟩
   exact⟨B,o',cs,h2,h3,h4,h5.mono (fun _=>rfl) (fun x vs h=>aa.mono ha h),fzz B o' h2 (dP e) h6⟩
  ·rename_i rs t xs e
   have iG:b0.bq:=by unfold ag.bq;rw[e];trivial
   rcases hf with⟨_,_,hnd⟩|⟨hi,hf⟩
   ·exact absurd iG hnd
   ·subst hf
    obtain⟨h0,az⟩:=az
    refine⟨h0,az.imp (fun h=>h) ?_⟩
    rintro⟨B,o',cs,h2,h3,h4,h5,h6⟩
    exact⟨B,o',cs,h2,h3,h4,h5.mono (fun _=>rfl) (fun x vs D hD h=>aq.mono ha (fun B hB=>⟨rfl,noI hi B (.inr ⟨iG,hD B hB⟩)⟩) h),fun hI=>h6 (noI hi B (.inl ⟨_,h2⟩) hI)⟩
 ·obtain⟨c1,k1,e1,_⟩:=back id b1 h1 l1
  obtain⟨c2,k2,e2,_⟩:=back id' b2 h2 l2
  exact h.inj id id' c1 c2 B o1 o2 k1 k2 (live e1 l1) (live e2 l2) r1 r2
 ·rintro B (hB|⟨id,_,b,o',h1,h2,h3⟩|⟨id,_,b,h1,h2,h3⟩)
  ·exact h.aV B hB
  ·exact h.lt h1 h2 h3
  ·exact(h.dlt h1 h2 h3).1
 ·rintro B (hB|⟨id,_,b,o',h1,h2,h3⟩|⟨id,_,b,h1,h2,h3⟩)
  ·exact h.fI B hB
  ·exact .inr (h.mine id b B o' h1 h2 h3)
  ·exact .inr ((h.dp id b h1 h2).2 B h3).1
 ·obtain⟨c1,k1,e1,_⟩:=back id b hb hl
  exact h.mine id c1 B o1 k1 (live e1 hl) hr
 ·intro id b hb hd
  obtain⟨c1,k1,e1,_⟩:=back id b hb (dL hd)
  have deep:∀{b0 b:ag},b0.c=b.c→b.bq→b0.bq:=by
   intro b0 b e hl
   unfold ag.bq at *
   rw[e]
   exact hl
  obtain⟨q1,q2⟩:=h.dp id c1 k1 (deep e1 hd)
  refine⟨q1,fun B hB=>?_⟩
  obtain⟨g1,g2,g3⟩:=q2 B hB
  refine⟨g1,fun id' b' o h1 h2=>?_,fun id' b' h1 h2 h3=>?_⟩
  ·obtain⟨c2,k2,e2,_⟩:=back id' b' h1 h2
   exact g2 id' c2 o k2 (live e2 h2)
  ·obtain⟨c2,k2,e2,_⟩:=back id' b' h1 (dL h2)
   exact g3 id' c2 k2 (deep e2 h2) h3
theorem ew.piece {α:Type}{B off sz:Nat}{R:α→List Value→Prop}{xs:List α}(h:ew w B off sz R xs)(k n:Nat):ew w B (off+k*sz) sz R ((xs.drop k).take n):=by
 intro i y hy
 rw[List.getElem?_take] at hy
 split at hy
 ·rw[List.getElem?_drop] at hy
  obtain⟨cs,f1,f2,f3⟩:=h _ _ hy
  refine⟨cs,f1,fun j hj=>?_,f3⟩
  rw[←f2 j hj]
  congr 2
  rw[Nat.add_mul]
  omega
 ·simp at hy
theorem oB {I':Nat→Prop}(hm:aD F m w I ρ)(hI:∀B,I B→I' B):∀{a:AT} {d:DV} {vs:List Value},
  (∀id,id∈a.ids→∀b B o,m id=some b→b.live→ρ id=some (B,o)→I' B)→ck m a=some d→af w I m ρ a vs→aa w I' d.t d.x vs:=by
 have ha:bD I I' w w:=⟨hI,fun _ _=>rfl⟩
 have hap:∀{α:Type} (l l':List α) (x:α),x∈l∨x∈l'→x∈app l l':=by
  intro α l l' x h
  induction l with
  |nil=>simpa[app] using h
  |cons y l ih=>
   simp only[app,List.mem_cons]
   rcases h with h|h
   ·rcases List.mem_cons.1 h with h|h
    ·exact .inl h
    ·exact .inr (ih (.inl h))
   ·exact .inr (ih (.inr h))
 intro a
 induction a with
 |leaf t x=>intro d vs _ h hr;simp only[ck,Option.some.injEq] at h;subst h;exact aa.mono ha hr
 |nil t=>
  intro d vs _ h hr
  simp only[ck,Option.some.injEq] at h
  subst h
  simp only[af] at hr
  subst hr
  simp only[aa]
  exact⟨none,0,rfl,by simp,.inl trivial⟩
 |whole id st t=>
  intro d vs hf h hr
  simp only[ck,Option.map_eq_some_iff] at h
  obtain⟨⟨fz,xs⟩,hro,rfl⟩:=h
  have hb:=eR hro
  simp only[af] at hr
  obtain⟨_,_,h3⟩:=hr
  obtain⟨ad,cap,e1,e2,e3⟩:=h3 _ hb rfl t xs.length rfl
  replace e3:=e3.weak
  simp only[aa]
  refine⟨ad,cap,e1,e2,?_⟩
  have az:=hm.blk id _ hb
  simp only[aS] at az
  obtain⟨h0,az⟩:=az
  rcases az with⟨cW,_⟩|⟨B,o',cs,f1,f2,f3,f4,_⟩
  ·exact .inl cW
  ·rcases e3 with e3|⟨B',cH,cs',g1,g2,g3,g4⟩
   ·left
    rw[←List.length_eq_zero_iff]
    omega
   ·right
    rw[f1] at g1
    cases g1
    exact⟨B,o',by simpa using g2,hf id (by simp[AT.ids]) _ B o' hb (dP rfl) f1,f4.mono (fun _=>rfl) (fun x vs h=>aa.mono ha h)⟩
 |piece id st off len t=>
  intro d vs hf h hr
  simp only[ck,Option.map_eq_some_iff] at h
  obtain⟨⟨fz,xs⟩,hro,rfl⟩:=h
  have hb:=eR hro
  simp only[af] at hr
  obtain⟨_,_,h3⟩:=hr
  obtain⟨ad,cap,e1,e2,i_,e3⟩:=h3 _ hb rfl t xs.length rfl
  simp only[aa]
  have hl:((xs.drop off).take len).length=len:=by simp;omega
  refine⟨ad,cap,by rw[hl];exact e1,by rw[hl];exact e2,?_⟩
  have az:=hm.blk id _ hb
  simp only[aS] at az
  obtain⟨h0,az⟩:=az
  rcases az with⟨cW,_⟩|⟨B,o',cs,f1,f2,f3,f4,_⟩
  ·left;subst cW;simp
  ·rcases e3 with e3|⟨B',cH,cs',g1,g2,g3,g4⟩
   ·left
    rw[←List.length_eq_zero_iff]
    omega
   ·right
    rw[f1] at g1
    cases g1
    exact⟨B,o'+off*t.size,by simpa using g2,hf id (by simp[AT.ids]) _ B o' hb (dP rfl) f1,(f4.piece off len).mono (fun _=>rfl) (fun x vs h=>aa.mono ha h)⟩
 |pair l r ihl ihr=>
  intro d vs hf h hr
  simp only[ck] at h
  split at h
  ·rename_i x y hx hy
   simp only[Option.some.injEq] at h
   subst h
   simp only[af] at hr
   obtain⟨v1,v2,rfl,h1,h2⟩:=hr
   simp only[aa]
   exact⟨v1,v2,rfl,ihl (fun id hi=>hf id (hap _ _ _ (.inl hi))) hx h1,ihr (fun id hi=>hf id (hap _ _ _ (.inr hi))) hy h2⟩
  ·simp at h
 |_=>intro d vs _ h hr;simp[ck] at h
theorem jH {n:Nat}{b0:ag}(h:m n=some b0):b0.st<aU m n:=by simp[aU,h]
theorem aC.var {T:Nat}{t:Ty}{av:AT}{vs:List Value}(hm:aD F m w I ρ)(n:Nat)(ht:Typed av t)(hr:af w I m ρ av vs) :
  let m':=m.put n ⟨aU m n,false,.var t av⟩
  let ρ':=ρ.put n (some (w.heap.size,0))
  aC F m m' w (w.alloc (.cells vs.toArray T)) I I ρ ρ'∧au (w.alloc (.cells vs.toArray T)) I m' ρ' (.aZ n (aU m n) []) (.pointer (some ⟨w.heap.size,0,none⟩)):=by
 have hd:=aC.new (F:=F) (m:=m) (w:=w) (I:=I) (ρ:=ρ) hm n ⟨aU m n,false,.var t av⟩ vs.toArray T (0,0) (by simp) (fun b0 h=>jH h) (fun hk hc=>by
  simp only[aS]
  refine⟨ht,w.heap.size,vs,by simp[Pl.put],hc,hr.mono ⟨fun _ h=>h,fun B hB=>heap_alloc_old w _ B (hm.aV B hB)⟩ hk,?_⟩
  simp only[Bool.false_eq_true,false_iff]
  intro hI
  exact absurd (hm.aV _ hI) (Nat.lt_irrefl _))
 refine⟨hd,?_⟩
 show aB _ _ _ _ _ _
 unfold aB
 simp only[AT.isAgg,Bool.false_eq_true,if_false,af]
 refine⟨eV.pointer _,bR.of (b:=⟨aU m n,false,.var t av⟩) (by simp[MF.put]) rfl,fun b hb hs t' a' hc=>?_⟩
 simp only[MF.put,if_true,Option.some.injEq] at hb
 subst hb
 cases hc
 exact⟨trivial,w.heap.size,by simp[Pl.put],by simp[Ty.off]⟩
theorem uK {T:Nat}(hC:bH P C)(ho:o.op = .alloc T)(hm:aD F m w I ρ){dst:Nat}{t:Ty}(ht:C.ty T=some t) :
  aA P F o a w m I ρ ⟨.aZ dst (aU m dst) [],[(dst,⟨aU m dst,false,.var t (gW t)⟩)],[]⟩:=by
 have hT:=hC.ty ht
 obtain⟨h1,h2⟩:=ju (w:=w) (I:=I) (m:=m) (ρ:=ρ) hT
 obtain⟨hd,hs⟩:=aC.var (T:=T) hm dst h1 h2
 refine aA.world (v:=.pointer (some ⟨w.heap.size,0,none⟩)) (w':=w.alloc (.cells (aX t).toArray T)) ?_ (by rw[MF.cO];exact hd) (by rw[MF.cO];exact hs)
 have:=eW hT (h1.length h2) (af.bV h1 h2)
 simp[execOp,ho,Instr.alloc,hT.info.tE,newVar,newRow,this]
theorem uN {T:Nat}{x:Operand}{av:AT}(hC:bH P C)(ho:o.op = .box T x)(hm:aD F m w I ρ)(hx:au w I m ρ av (a.eval x)){dst:Nat}{t:Ty}(ht:C.ty T=some t)(hf:av.fits t=true) :
  aA P F o a w m I ρ ⟨.aZ dst (aU m dst) [],[(dst,⟨aU m dst,false,.var t av⟩)],[]⟩:=by
 have hT:=hC.ty ht
 have h1:=iD hf
 obtain⟨vs,hv,h2⟩:=aB.pack h1 ((fo h1).1 hx)
 obtain⟨hd,hs⟩:=aC.var (T:=T) hm dst h1 h2
 refine aA.world (v:=.pointer (some ⟨w.heap.size,0,none⟩)) (w':=w.alloc (.cells vs.toArray T)) ?_ (by rw[MF.cO];exact hd) (by rw[MF.cO];exact hs)
 have:=eW hT (h1.length h2) (af.bV h1 h2)
 simp[execOp,ho,hv,Instr.box,newVar,newRow,this]
end
end Go.Ab
namespace Go.Ab
section
variable {P:Program} {F:Fix} {C:Cx} {o:Oper} {a:Act} {w:World} {m:MF} {I:Nat→Prop} {ρ:Pl} {d:aE}
theorem o_ {place:Nat→Option (Nat×Nat)}{pre mid post aN:List Value}{i n:Nat}{v:Value}{rest:List (Nat×Value)}(hp:place i=some (pre.length,n))(hv:v.cells=aN.toArray)
  (h1:mid.length=n) (h2:aN.length=n) :
  Instr.fill place (pre++mid++post).toArray ((i,v)::rest)=Instr.fill place (pre++aN++post).toArray rest:=by
 conv=>lhs;unfold Instr.fill
 simp only[hp,hv]
 rw[if_neg (by simp;omega)]
 obtain⟨g1,g2⟩:=Great.foldl_set pre.length aN 0 (pre++mid++post).toArray
 have:(aN.toArray.zipIdx.foldl (fun cs (x:Value×Nat)=>cs.setIfInBounds (pre.length+x.2) x.1) (pre++mid++post).toArray)=(pre++aN++post).toArray:=by
  rw[←Array.foldl_toList,Array.toList_zipIdx]
  apply Array.ext_getElem?
  intro k
  rw[g2 k]
  simp only[List.getElem?_toArray,Nat.add_zero,List.size_toArray,List.length_append]
  by_cases hk:k<pre.length
  ·rw[if_neg (by omega),List.append_assoc,List.append_assoc,List.getElem?_append_left hk,List.getElem?_append_left hk]
  ·by_cases hk2:k<pre.length+n
   ·rw[if_pos (by omega),List.append_assoc,List.getElem?_append_right (by omega),List.getElem?_append_left (by omega)]
   ·rw[if_neg (by omega),List.getElem?_append_right (by simp;omega),List.getElem?_append_right (by simp;omega)]
    simp only[List.length_append,h1,h2]
 show Instr.fill place _ rest=_
 exact congrArg (fun c=>Instr.fill place c rest) this
theorem lE {x:AT}{u:Option Ty}{v:Value}(h:au w I m ρ x v):au w I m ρ (bY u x) v:=by
 unfold bY
 split
 ·exact h
 ·exact h
theorem oT {t:Ty}{place:Nat→Option (Nat×Nat)}{ρf:Operand→AT}
  (rP:∀i u,t.at (js t i)=some u→qd t i=true→place i=some (t.off (js t i),u.size)∧(∃T',aF P u T')∧cZ (js t i) t) :
  ∀(ps:List (Nat×Operand)) {b b':AT} {cs:List Value},Typed b t→af w I m ρ b cs→(∀p∈ps,au w I m ρ (ρf p.2) (a.eval p.2)) →
   jV t b (bf (fun p=>(p.1,ρf p.2)) ps)=some b' →
   ∃cs',Instr.fill place cs.toArray (ps.map fun p=>(p.1,a.eval p.2))=some cs'.toArray∧Typed b' t∧af w I m ρ b' cs'
 | [],b,b',cs,ht,hr,_,h=>by
  simp only[bf,jV,Option.some.injEq] at h
  subst h
  exact⟨cs,rfl,ht,hr⟩
 | (i,x)::ps,b,b',cs,ht,hr,hs,h=>by
  simp only[bf,jV] at h
  split at h
  ·rename_i u hu
   cases hf:(bY (some u) (ρf x)).fits u&&qd t i with
   |false=>simp[hf] at h
   |true=>
    simp only[hf,cond_true] at h
    simp only[Bool.and_eq_true] at hf
    split at h
    ·rename_i b2 bZ
     obtain⟨hp,⟨T',hT'⟩,hpo⟩:=rP i u hu hf.2
     have hty:=iD hf.1
     have hx:=lE (u:=some u) (hs (i,x) (by simp))
     obtain⟨aN,hv,hmid⟩:=aB.pack hty ((fo hty).1 hx)
     have hlen:=hty.length hmid
     have hone:=af.bV hty hmid
     have hcells:(a.eval x).cells=aN.toArray:=by rw[hv];exact eW hT' hlen hone
     obtain⟨iJ,pre,mid,post,e1,e2,e3,e4⟩:=jL _ ht hr hpo bZ hu hty hmid
     obtain⟨cs',f1,f2,f3⟩:=oT rP ps iJ e4 (fun p hp=>hs p (by simp[hp])) h
     refine⟨cs',?_,f2,f3⟩
     subst e1
     simp only[List.map_cons]
     rw[o_ (n:=u.size) (by rw[e2];exact hp) hcells e3 hlen]
     exact f1
    ·simp at h
  ·simp at h
theorem infoOk_ex {t:Ty}{T:Nat}(h:fA P t T):∃i,P.info? T=some i∧i.size=t.size∧i.zero=some (aL t (aX t))∧i.bytes≤4096:=h.info
theorem uI {b:Ty}:∀{fs:List Field} {off:Nat},bO P b fs off→∃places,fs.mapM (fun f=>(P.info? f.type).map fun i=>(f.offset,i.size))=some places ∧
  ∀i u,b.at (bg i)=some u→places[i]?=some (off+b.off (bg i),u.size):=by
 induction b with
 |unit=>
  intro fs off h
  unfold bO at h
  simp only[TO] at h
  subst h
  exact⟨[],by simp,fun i u hu=>by cases i<;>simp[bg,Ty.at] at hu⟩
 |pair x y _ gH=>
  intro fs off h
  unfold bO at h
  simp only[TO] at h
  obtain⟨f,l,rfl,h1,h2,h3⟩:=h
  obtain⟨pl,e1,e2⟩:=gH (off:=off+x.size) h3
  obtain⟨i0,g1,g2,_⟩:=(aF.info (P:=P) (t:=x) h2).info
  refine⟨(f.offset,i0.size)::pl,by simp[List.mapM_cons,g1,e1],fun i u hu=>?_⟩
  cases i with
  |zero=>
   simp only[bg,Ty.at,Option.some.injEq] at hu
   subst hu
   simp[h1,g2,bg,Ty.off]
  |succ i=>
   simp only[bg,Ty.at] at hu
   simp[e2 i u hu,bg,Ty.off,Nat.add_assoc]
 |_=>intro fs off h;unfold bO at h;simp only[TO] at h
theorem uO {T:Nat}{parts:Array (Nat×Operand)}{ρf:Operand→AT}(hC:bH P C)(ho:o.op = .build T parts)(hm:aD F m w I ρ)(hs:∀p∈parts.toList,au w I m ρ (ρf p.2) (a.eval p.2))
  (hd:oS C T (bf (fun p=>(p.1,ρf p.2)) parts.toList)=some d):aA P F o a w m I ρ d:=by
 unfold oS at hd
 split at hd
 ·rename_i t ht
  have hT:=hC.ty ht
  cases hag:t.isAgg with
  |false=>simp[hag] at hd
  |true=>
  simp only[hag,cond_true,Option.map_eq_some_iff] at hd
  obtain⟨b',hb',rfl⟩:=hd
  obtain⟨z1,z2⟩:=ju (w:=w) (I:=I) (m:=m) (ρ:=ρ) hT
  obtain⟨i0,g1,g2,g3,_⟩:=hT.info.info
  have eM:=eW hT (z1.length z2) (af.bV z1 z2)
  have fin:∀cs':List Value,t.isAgg=true→P.built T (parts.map fun(i,x)=>(i,a.eval x)).toList=some cs'.toArray→Typed b' t→af w I m ρ b' cs'→aA P F o a w m I ρ ⟨b',[],[]⟩:=by
   intro cs' jc hb ht' hr'
   refine aA.value hm (v:=.agg cs'.toArray) ?_ ((fo ht').2 ?_)
   ·simp[execOp,ho,run_build w T _ _ hb]
   ·unfold aB
    rw[ht'.isAgg,jc,if_pos rfl]
    exact⟨_,rfl,by simpa using hr'⟩
  cases t with
  |pair x y=>
   unfold aF at hT
   simp only[TO] at hT
   obtain⟨hinfo,fs,h1,f,l,h2,h3,h4,h5⟩:=hT
   have hF:bO P (.pair x y) fs.toList 0:=by unfold bO;simp only[TO];exact⟨f,l,h2,h3,h4,by simpa using h5⟩
   obtain⟨places,p1,p2⟩:=uI hF
   obtain⟨cs',q1,q2,q3⟩:=oT (P:=P) (t:=.pair x y) (place:=(places.toArray[·]?)) (fun i u hu _=>⟨by have:=p2 i u hu;simp only[Nat.zero_add] at this;simpa[js] using this,(by obtain⟨g,_,_,e⟩:=hF.field i hu;exact⟨_,e⟩),kX i hu⟩) parts.toList z1 z2 hs hb'
   refine fin cs' rfl ?_ q2 q3
   unfold Program.built
   simp only[g1,h1,g3,p1,eM]
   rw[←q1]
   simp
  |arr n u=>
   unfold aF at hT
   simp only[TO] at hT
   obtain⟨hinfo,E,h1,h2,⟨k,rfl⟩,h4⟩:=hT
   obtain⟨ie,j1,j2,_⟩:=(aF.info (P:=P) (t:=.int k) h4).info
   obtain⟨cs',q1,q2,q3⟩:=oT (P:=P) (t:=.arr n (.int k)) (place:=fun i=>some (i*ie.size,ie.size)) (fun i u hu hok=>by
    simp only[js,Ty.at,Option.some.injEq] at hu
    subst hu
    refine⟨by simp[js,Ty.off,j2],⟨_,h4⟩,?_,trivial⟩
    exact Nat.le_of_ble_eq_true hok) parts.toList z1 z2 hs hb'
   refine fin cs' rfl ?_ q2 q3
   unfold Program.built
   simp only[g1,h1,g3,j1,eM]
   rw[←q1]
   simp
  |unit=>
   unfold aF at hT
   simp only[TO] at hT
   obtain⟨hinfo,fs,h1,h2⟩:=hT
   cases hps:parts.toList with
   |nil=>
    rw[hps] at hb'
    simp only[bf,jV,Option.some.injEq] at hb'
    subst hb'
    refine fin (aX .unit) rfl ?_ z1 z2
    unfold Program.built
    simp only[g1,h1,g3,h2]
    simp[hps,Instr.fill]
    exact eM
   |cons p l=>
    rw[hps] at hb'
    obtain⟨i,x⟩:=p
    simp only[bf,jV] at hb'
    cases i<;>simp[js,bg,Ty.at] at hb'
  |_=>simp[Ty.isAgg] at hag
 ·simp at hd
end
end Go.Ab
namespace Go.Ab
section
variable {P:Program} {F:Fix} {C:Cx} {o:Oper} {a:Act} {w:World} {m:MF} {I:Nat→Prop} {ρ:Pl} {d:aE}
theorem bp {α:Type}{l l':List α}{x:α}:x∈app l l'↔x∈l∨x∈l':=by
 induction l with
 |nil=>simp[app]
 |cons y l ih=>simp[app,ih,or_assoc]
theorem sL {α β:Type}{f:α→List β}{l:List α}{y:β}:y∈dY f l↔∃x∈l,y∈f x:=by
 induction l with
 |nil=>simp[dY]
 |cons z l ih=>simp[dY,bp,ih]
theorem gJ {α β:Type}(f:α→β)(l:List α):bf f l=l.map f:=by
 induction l with
 |nil=>rfl
 |cons x l ih=>simp[bf,ih]
theorem aR.rowsAt {α:Type}{R:α→List Value→Prop}{n:Nat}(hR:∀x vs,R x vs→vs.length=n){B off:Nat}{xs:List α}{cs:List Value}(h:aR R xs cs)
  (hc:∀j,j<cs.length→w.cell? ⟨B,off+j,none⟩=cs[j]?):ew w B off n R xs:=by
 intro i x hx
 obtain⟨pre,mid,post,e1,e2,e3,_⟩:=h.split hR hx
 have hl:=hR _ _ e3
 refine⟨mid,hl,fun j hj=>?_,e3⟩
 have:=hc (i*n+j) (by rw[e1];simp;omega)
 rw[←Nat.add_assoc] at this
 rw[this,e1,List.append_assoc,List.getElem?_append_right (by omega),List.getElem?_append_left (by omega)]
 congr 1
 omega
theorem aR.replicate {α:Type}{R:α→List Value→Prop}{x:α}{vs:List Value}(h:R x vs):∀n,aR R (List.replicate n x) (List.replicate n vs).flatten
 |0=>by simp[aR]
 |n+1=>⟨vs,_,by simp[List.replicate_succ],h,aR.replicate h n⟩
theorem aR.append {α:Type}{R:α→List Value→Prop}:∀{xs ys:List α} {cs ds:List Value},aR R xs cs→aR R ys ds→aR R (xs++ys) (cs++ds)
 | [],_,_,_,h,k=>by cases h;simpa using k
 |_::_,_,_,_,⟨v1,v2,e,h1,h2⟩,k=>⟨v1,v2++_,by rw[e,List.append_assoc],h1,h2.append k⟩
theorem me (z:List Value)(n:Nat):(madeCells z.toArray (n*z.length)).toList=(List.replicate n z).flatten:=by
 induction n with
 |zero=>simp[madeCells]
 |succ n ih=>
  rw[List.replicate_succ',List.flatten_append,←ih]
  simp only[madeCells,Array.toList_map,Array.toList_range,List.flatten_cons,List.flatten_nil,List.append_nil]
  rw[show(n+1)*z.length=n*z.length+z.length by rw[Nat.add_mul];omega,List.range_add,List.map_append]
  congr 1
  apply List.ext_getElem?
  intro j
  simp only[List.map_map,List.getElem?_map]
  by_cases hj:j<z.length
  ·simp[hj,Nat.mul_comm n,Nat.mod_eq_of_lt hj]
  ·simp[hj]
theorem oE:∀{t:Ty},t.gX=true→(∀{T:Nat},aF P t T→aa w I t t.dflt (aX t))∧(∀{fs off},bO P t fs off→aa w I t t.dflt (aX t)):=by
 intro t
 induction t with
 |unit=>intro _;exact⟨fun _=>rfl,fun _=>rfl⟩
 |bool=>intro _;exact⟨fun _=>rfl,fun _=>rfl⟩
 |int k=>intro _;exact⟨fun _=>rfl,fun _=>rfl⟩
 |str=>intro _;exact⟨fun _=>rfl,fun _=>rfl⟩
 |lst u _=>intro _;exact⟨fun _=>⟨none,0,rfl,Nat.le_refl _,.inl rfl⟩,fun _=>⟨none,0,rfl,Nat.le_refl _,.inl rfl⟩⟩
 |own u _=>intro h;simp[Ty.gX] at h
 |pair x y fW gH=>
  intro h
  simp only[Ty.gX,Bool.and_eq_true] at h
  refine⟨fun {T} hT=>?_,fun {fs off} hF=>?_⟩
  ·unfold aF at hT
   simp only[TO] at hT
   obtain⟨_,fs,_,f,l,_,_,h1,h2⟩:=hT
   exact⟨_,_,rfl,(fW h.1).1 h1,(gH h.2).2 h2⟩
  ·unfold bO at hF
   simp only[TO] at hF
   obtain⟨f,l,_,_,h1,h2⟩:=hF
   exact⟨_,_,rfl,(fW h.1).1 h1,(gH h.2).2 h2⟩
 |arr n u ih=>
  intro h
  refine⟨fun {T} hT=>?_,fun {fs off} hF=>by unfold bO at hF;simp only[TO] at hF⟩
  unfold aF at hT
  simp only[TO] at hT
  obtain⟨_,E,_,_,⟨k,rfl⟩,hT⟩:=hT
  exact⟨by simp[Ty.dflt],oP k n⟩
 |ref u _=>intro h;simp[Ty.gX] at h
theorem aC.rows {T:Nat}{t:Ty}{xs:List t.den}{cs rest:List Value}(hm:aD F m w I ρ)(n s:Nat)(hst:∀b0,m n=some b0→b0.st<s)(_hsz:0<t.size)(hr:aR (aa w I t) xs cs)(len cap:Nat)(hl:len=xs.length)(bI:len≤cap)
  (hcap:cap*t.size≤(cs++rest).length) (fr:Nat×Nat:=(0,0)) (hfr:∀j,j<(cs++rest).toArray.size→¬(fr.1≤j∧j<fr.2):=by simp) :
  let m':=m.put n ⟨s,false,.rows t xs⟩
  let ρ':=ρ.put n (some (w.heap.size,0))
  let w':=w.alloc (.cells (cs++rest).toArray T fr)
  aC F m m' w w' I I ρ ρ'∧au w' I m' ρ' (.whole n s t) (.slice (some ⟨w.heap.size,0,none⟩) len cap):=by
 subst hl
 have hRl:∀(x:t.den) vs,aa w I t x vs→vs.length=t.size:=fun x vs h=>aa.length h
 have hcs:=aR.length hRl hr
 have hd:=aC.new (F:=F) (m:=m) (w:=w) (I:=I) (ρ:=ρ) hm n ⟨s,false,.rows t xs⟩ (cs++rest).toArray T fr hfr hst (fun hk hc=>by
  simp only[aS]
  refine⟨trivial,.inr ⟨w.heap.size,0,_,by simp[Pl.put],hc,by simp;omega,?_,?_⟩⟩
  ·have ha:bD I I w (w.alloc (.cells (cs++rest).toArray T fr)):=⟨fun _ h=>h,fun B hB=>heap_alloc_old w _ B (hm.aV B hB)⟩
   refine(aR.mono (fun x vs h=>aa.mono ha h) hr).rowsAt (fun x vs h=>aa.length h) fun j hj=>?_
   rw[hc.cell]
   simp[List.getElem?_append_left hj]
  ·simp only[Bool.false_eq_true,false_iff]
   intro hI
   exact absurd (hm.aV _ hI) (Nat.lt_irrefl _))
 refine⟨hd,?_⟩
 show aB _ _ _ _ _ _
 unfold aB
 simp only[AT.isAgg,Bool.false_eq_true,if_false,af]
 refine⟨⟨_,rfl,rfl⟩,bR.of (b:=⟨s,false,.rows t xs⟩) (by simp[MF.put]) rfl,fun b hb hs t' xs' hc=>?_⟩
 simp only[MF.put,if_true,Option.some.injEq] at hb
 subst hb
 cases hc
 refine⟨_,cap,rfl,bI,.inr ⟨w.heap.size,0,(cs++rest),by simp[Pl.put],by simp,?_,by omega⟩⟩
 have:=Cells.alloc w (cs++rest).toArray T fr hfr
 simpa using this
theorem u9 {T:Nat}{xl xc:Operand}{al ac:AT}{l c:Int}{dst:Nat}(hC:bH P C)(ho:o.op = .makeSlice T xl xc)(hm:aD F m w I ρ)(hl:au w I m ρ al (a.eval xl))(hc:au w I m ρ ac (a.eval xc))
  (hil:fh al=some l) (hic:fh ac=some c) (j3:∀t,C.el T=some t→(C.dp&&t.aK)=false) (hd:kT C m dst T l c=some d) (hok:∀b∈d.ok,b=true):aA P F o a w m I ρ d:=by
 obtain⟨kl,jf⟩:=gI hil hl
 obtain⟨kc,hkc⟩:=gI hic hc
 unfold kT at hd
 split at hd
 ·rename_i t ht
  obtain⟨hz,hd⟩:=aQ hd
  simp only[Bool.and_eq_true] at hz
  obtain⟨hz,_⟩:=hz
  ·rw[j3 t ht,cond_false] at hd
   cases hd
   simp only[List.mem_cons,List.not_mem_nil,or_false,forall_eq_or_imp,forall_eq,decide_eq_true_eq] at hok
   obtain⟨h0,hlc,hmax⟩:=hok
   obtain⟨E,h1,h2,h3⟩:=hC.el ht
   obtain⟨i0,g1,g2,g3,g4⟩:=h3.info.info
   obtain⟨z1,z2⟩:=ju (w:=w) (I:=I) (m:=m) (ρ:=ρ) h3
   have eM:=eW h3 (z1.length z2) (af.bV z1 z2)
   have hzl:=z1.length z2
   have hmx:c≤34359738368:=by unfold dh at hmax;omega
   have hrun:=run_makeSlice (P:=P) w T E i0 _ h1 g1 g3 kl kc l c h0 hlc
   have hb:(i0.bytes:Int)*c≤281474976710656:=by
    have h5:(i0.bytes:Int)≤4096:=by omega
    have:=Int.mul_le_mul h5 hmx (by omega) (by omega)
    omega
   have hrun:=run_make (P:=P) w T E i0 _ h1 g1 g3 kl kc l c h0 hlc hb (by omega)
   have hcells:madeCells (aL t (aX t)).cells (c.toNat*i0.size)=((List.replicate l.toNat (aX t)).flatten++(List.replicate (c.toNat-l.toNat) (aX t)).flatten).toArray:=by
    apply Array.ext'
    rw[eM,g2,←hzl,me,←List.flatten_append,List.replicate_append_replicate,show l.toNat+(c.toNat-l.toNat)=c.toNat by omega]
   rw[hcells] at hrun
   have hz':=(oE (P:=P) (w:=w) (I:=I) hz).1 h3
   obtain⟨hd,hs⟩:=aC.rows (T:=E) (rest:=(List.replicate (c.toNat-l.toNat) (aX t)).flatten) hm dst _ (fun b0 h=>jH h) h2 (aR.replicate hz' l.toNat) l.toNat c.toNat (by simp) (by omega) (by
    simp only[List.length_append,List.length_flatten,List.map_replicate,List.sum_replicate_nat,hzl]
    rw[←Nat.add_mul]
    apply Nat.le_of_eq
    congr 1
    omega)
   exact aA.world (v:=.slice (some ⟨w.heap.size,0,none⟩) l.toNat c.toNat) (w':=w.alloc (.cells ((List.replicate l.toNat (aX t)).flatten++(List.replicate (c.toNat-l.toNat) (aX t)).flatten).toArray E)) (by simp only[execOp,ho,jf,hkc,Sem.run_bind,hrun,Result.andThen_ok];rfl) (by rw[MF.cO];exact hd) (by rw[MF.cO];exact hs)
 ·simp at hd
theorem sD {I':Nat→Prop}{t:Ty}{T':Nat}{len:Nat}{ρf:Operand→AT}(hT:aF P t T')(hm:aD F m w I ρ)(hI:∀B,I B→I' B) :
  ∀(ps:List (Nat×Operand)) {xs ys:List t.den} {cs:List Value},xs.length=len→aR (aa w I' t) xs cs→(∀p∈ps,au w I m ρ (ρf p.2) (a.eval p.2)) →
   (∀p∈ps,∀id∈(ρf p.2).ids,∀b B o,m id=some b→b.live→ρ id=some (B,o)→I' B) →
   kQ m t len xs (bf (fun p=>(p.1,ρf p.2)) ps)=some ys →
   ∃cs',Instr.fill (fun i=>some (i*t.size,t.size)) cs.toArray (ps.map fun p=>(p.1,a.eval p.2))=some cs'.toArray∧ys.length=len∧aR (aa w I' t) ys cs'
 | [],xs,ys,cs,hl,hr,_,_,h=>by
  simp only[bf,kQ,Option.some.injEq] at h
  subst h
  exact⟨cs,rfl,hl,hr⟩
 | (i,x)::ps,xs,ys,cs,hl,hr,hs,hf,h=>by
  simp only[bf,kQ] at h
  cases hb:Nat.ble (i+1) len&&(bY (some t) (ρf x)).fits t with
  |false=>simp[hb] at h
  |true=>
   simp only[hb,cond_true] at h
   simp only[Bool.and_eq_true] at hb
   have hi:=Nat.le_of_ble_eq_true hb.1
   split at h
   ·rename_i d0 hd0
    split at h
    ·rename_i y hy
     have hty:=iD hb.2
     have hx:=lE (u:=some t) (hs (i,x) (by simp))
     obtain⟨aN,hv,hmid⟩:=aB.pack hty ((fo hty).1 hx)
     have hlen:=hty.length hmid
     have hcells:(a.eval x).cells=aN.toArray:=by rw[hv];exact eW hT hlen (af.bV hty hmid)
     have jy:∀id∈(bY (some t) (ρf x)).ids,∀b B o,m id=some b→b.live→ρ id=some (B,o)→I' B:=by
      intro id hid
      refine hf (i,x) (by simp) id ?_
      revert hid
      show id∈_→id∈(ρf x).ids
      unfold bY
      split
      ·intro h;simp[AT.ids] at h
      ·exact fun h=>h
     have fH:=oB hm hI jy hd0 hmid
     obtain⟨e,he⟩:=DV.bT hy
     cases d0 with
     |mk dt dx=>
      simp only at e
      subst e
      simp only at he
      subst he
      obtain⟨pre,mid,post,e1,e2,e3,e4⟩:=aR.split (fun x vs h=>aa.length h) hr (kJ (z:=dt.dflt) (i:=i) (by omega))
      obtain⟨cs',f1,f2,f3⟩:=sD hT hm hI ps (by simpa using hl) (e4 _ _ fH) (fun p hp=>hs p (by simp[hp])) (fun p hp=>hf p (by simp[hp])) h
      refine⟨cs',?_,f2,f3⟩
      subst e1
      simp only[List.map_cons]
      rw[o_ (n:=dt.size) (by rw[e2]) hcells (aa.length e3) hlen]
      exact f1
    ·simp at h
   ·simp at h
theorem aC.rows' {T:Nat}{t:Ty}{xs:List t.den}{cs:List Value}{ids:List Nat}(hm:aD F m w I ρ)(n:Nat)(hsz:0<t.size)(hr:aR (aa w (cP m ρ I ids) t) xs cs)(len:Nat)(hl:len=xs.length)(hni:¬n∈ids) :
  let I':=cP m ρ I ids
  let m':=(m.aj (bu m ids)).put n ⟨aU m n,false,.rows t xs⟩
  let ρ':=ρ.put n (some (w.heap.size,0))
  let w':=w.alloc (.cells cs.toArray T)
  aC F m m' w w' I I' ρ ρ'∧au w' I' m' ρ' (.whole n (aU m n) t) (.slice (some ⟨w.heap.size,0,none⟩) len len):=by
 have h1:=aC.freeze hm ids
 have hst:aU (m.aj (bu m ids)) n=aU m n:=by
  unfold aU
  rw[oD]
  simp[hni]
 have hcs:=aR.length (fun(x:t.den) vs (h:aa w (cP m ρ I ids) t x vs)=>aa.length h) hr
 obtain⟨h2,h3⟩:=aC.rows (T:=T) (rest:=[]) h1.mem n _ (fun b0 h=>jH h) hsz hr len len hl (Nat.le_refl _) (by simp[hcs,hl])
 rw[hst] at h2 h3
 simp only[List.append_nil] at h2 h3
 exact⟨h1.trans h2,h3⟩
theorem uQ {T len:Nat}{parts:Array (Nat×Operand)}{ρf:Operand→AT}{dst:Nat}(hC:bH P C)(ho:o.op = .buildSlice T len parts)(hm:aD F m w I ρ)
  (hs:∀p∈parts.toList,au w I m ρ (ρf p.2) (a.eval p.2)) (j3:∀t,C.el T=some t→(C.dp&&t.aK)=false) (hd:kF C m dst T len (bf (fun p=>(p.1,ρf p.2)) parts.toList)=some d):aA P F o a w m I ρ d:=by
 unfold kF at hd
 split at hd
 ·rename_i t ht
  rw[j3 t ht,cond_false] at hd
  cases hz0:t.gX&&Nat.ble (len*t.size) 16777216 && !(bF (Nat.beq dst) (dY (fun p:Nat×AT=>p.2.ids) (bf (fun p=>(p.1,ρf p.2)) parts.toList))) with
  |false=>simp[hz0] at hd
  |true=>
   simp only[hz0,cond_true,Option.map_eq_some_iff] at hd
   simp only[Bool.and_eq_true] at hz0
   obtain⟨hz,hnd⟩:=hz0
   have hni:¬dst∈dY (fun p:Nat×AT=>p.2.ids) (bf (fun p=>(p.1,ρf p.2)) parts.toList):=by
    intro hmem
    have:bF (Nat.beq dst) (dY (fun p:Nat×AT=>p.2.ids) (bf (fun p=>(p.1,ρf p.2)) parts.toList))=true:=by
     revert hmem
     generalize dY (fun p:Nat×AT=>p.2.ids) (bf (fun p=>(p.1,ρf p.2)) parts.toList)=l
     intro hmem
     induction l with
     |nil=>simp at hmem
     |cons x l ih=>
      simp only[bF,Bool.or_eq_true]
      rcases List.mem_cons.1 hmem with h|h
      ·exact .inl (by subst h;exact Nat.beq_refl _)
      ·exact .inr (ih h)
    rw[this] at hnd
    cases hnd
   have hsm:=Nat.le_of_ble_eq_true hz.2
   obtain⟨ys,hys,rfl⟩:=hd
   obtain⟨E,h1,h2,h3⟩:=hC.el ht
   obtain⟨i0,g1,g2,g3,g4⟩:=h3.info.info
   obtain⟨z1,z2⟩:=ju (w:=w) (I:=I) (m:=m) (ρ:=ρ) h3
   have eM:=eW h3 (z1.length z2) (af.bV z1 z2)
   have hzl:=z1.length z2
   let ids:=dY (fun p:Nat×AT=>p.2.ids) (bf (fun p=>(p.1,ρf p.2)) parts.toList)
   have hz':=(oE (P:=P) (w:=w) (I:=cP m ρ I ids) hz.1).1 h3
   obtain⟨cs',q1,q2,q3⟩:=sD (P:=P) (I':=cP m ρ I ids) h3 hm (fun _ h=>.inl h) parts.toList (by simp) (aR.replicate hz' len) hs (fun p hp id hid b B o' h1 h2 h3=>.inr (.inl ⟨id,by
    refine sL.2 ⟨(p.1,ρf p.2),?_,hid⟩
    rw[gJ]
    exact List.mem_map.2 ⟨p,hp,rfl⟩,b,o',h1,h2,h3⟩)) hys
   obtain⟨hd,hsl⟩:=aC.rows' (T:=E) hm dst h2 q3 len q2.symm hni
   have hrun:(Instr.buildSlice T len (parts.map fun(i,x)=>(i,a.eval x))).run P w = .ok (.slice (some ⟨w.heap.size,0,none⟩) len len) (w.alloc (.cells cs'.toArray E)):=by
    by_cases hl0:len=0
    ·subst hl0
     cases hps:parts.toList with
     |nil=>
      rw[hps] at q1
      simp[Instr.fill] at q1
      have:parts = #[]:=by apply Array.ext';simpa using hps
      subst this
      simp[Instr.buildSlice,run_underlying h1,h3.info.run_sizeOf,Instr.fill,newRow,q1,Array.range_zero']
     |cons p l=>
      rw[hps] at hys
      obtain⟨i,x⟩:=p
      have:Nat.ble (i+1) 0=false:=rfl
      simp[bf,kQ,this] at hys
    ·have hne:¬len*i0.size=0:=by
      rw[g2]
      exact Nat.ne_of_gt (Nat.mul_pos (by omega) h2)
     refine run_buildSlice w T E len _ _ i0 _ h1 g1 g3 (by rw[g2];omega) hne ?_
     have hcells:((Array.range (len*i0.size)).map ((aL t (aX t)).cells[· % (aL t (aX t)).cells.size]!))=(List.replicate len (aX t)).flatten.toArray:=by
      apply Array.ext'
      have:=me (aX t) len
      unfold madeCells at this
      rw[eM,g2,←hzl,this]
     rw[hcells,g2,←q1]
     simp
   exact aA.world (v:=.slice (some ⟨w.heap.size,0,none⟩) len len) (w':=w.alloc (.cells cs'.toArray E)) (by simp only[execOp,ho,Sem.run_bind,hrun,Result.andThen_ok];rfl) (by rw[MF.mR];exact hd) (by rw[MF.mR];exact hsl)
 ·simp at hd
end
end Go.Ab
namespace Go.Ab
section
variable {P:Program} {F:Fix} {C:Cx} {o:Oper} {a:Act} {w:World} {m:MF} {I:Nat→Prop} {ρ:Pl} {d:aE}
theorem ew.cells {α:Type}{R:α→List Value→Prop}{B sz:Nat}:∀{xs:List α} {off:Nat},ew w B off sz R xs →
  ∃cs,aR R xs cs∧cs.length=xs.length*sz∧∀j,j<cs.length→w.cell? ⟨B,off+j,none⟩=cs[j]?
 | [],off,_=>⟨[],rfl,by simp,fun j hj=>by simp at hj⟩
 |x::xs,off,h=>by
  obtain⟨cs,h1,h2,h3⟩:=h 0 x rfl
  obtain⟨ds,k1,k2,k3⟩:=ew.cells (xs:=xs) (off:=off+sz) (fun i y hy=>by
   obtain⟨es,e1,e2,e3⟩:=h (i+1) y (by simpa using hy)
   refine⟨es,e1,fun j hj=>?_,e3⟩
   rw[←e2 j hj]
   congr 2
   rw[Nat.add_mul]
   omega)
  refine⟨cs++ds,⟨cs,ds,rfl,h3,k1⟩,by simp[h1,k2,Nat.add_mul];omega,fun j hj=>?_⟩
  by_cases je:j<sz
  ·have:=h2 j je
   rw[List.getElem?_append_left (by omega),←this]
   congr 2
   omega
  ·simp only[List.length_append] at hj
   have:=k3 (j-sz) (by omega)
   rw[List.getElem?_append_right (by omega),h1,←this]
   congr 2
   omega
def ListAt (w:World)(I:Nat→Prop)(t:Ty)(xs:List t.den)(v:Value):Prop:=
 ∃ad cap,v = .slice ad xs.length cap∧xs.length≤cap∧(xs = []∨∃B off,ad=some ⟨B,off,none⟩∧ew w B off t.size (aa w I t) xs)
theorem pV {y:AT}{v:Value}{t:Ty}{dv:DV}{ys:List t.den}(hm:aD F m w I ρ)(hs:au w I m ρ y v)(hv:ck m y=some dv)(ht:dv.as (.lst t)=some ys):ListAt w I t ys v:=by
 obtain⟨e,he⟩:=DV.bT ht
 cases dv with
 |mk dt dx=>
  simp only at e
  subst e
  simp only at he
  subst he
  cases y<;>simp only[ck,reduceCtorEq] at hv
  case leaf u x=>
   cases hv
   have:=bQ (a:=.leaf (.lst t) dx) rfl hs (by simp) (by simp) (by simp) (by simp)
   simp only[af,aa,List.cons.injEq,and_true] at this
   obtain⟨ad,cap,e1,e2,e3⟩:=this
   exact⟨ad,cap,e1,e2,e3.imp (fun h=>h) fun⟨B,off,h1,_,h2⟩=>⟨B,off,h1,h2⟩⟩
  case nil u=>
   cases hv
   have:=bQ (a:=.nil t) rfl hs (by simp) (by simp) (by simp) (by simp)
   simp only[af,List.cons.injEq,and_true] at this
   exact⟨none,0,by simpa using this,by simp,.inl rfl⟩
  case whole id st u=>
   simp only[Option.map_eq_some_iff] at hv
   obtain⟨⟨fz,xs⟩,hro,hv⟩:=hv
   cases hv
   have hb:=eR hro
   obtain⟨ad,cap,e1,e2,e3⟩:=vl hs hro
   refine⟨ad,cap,e1,e2,?_⟩
   have az:=hm.blk id _ hb
   simp only[aS] at az
   obtain⟨h0,az⟩:=az
   rcases az with⟨cW,_⟩|⟨B,o',cs,f1,f2,f3,f4,_⟩
   ·exact .inl cW
   ·rcases e3 with e3|⟨B',cH,cs',g1,g2,g3,g4⟩
    ·left
     show xs = []
     rw[←List.length_eq_zero_iff]
     omega
    ·right
     rw[f1] at g1
     cases g1
     exact⟨B,o',by simpa using g2,f4⟩
  case piece id st off len u=>
   simp only[Option.map_eq_some_iff] at hv
   obtain⟨⟨fz,xs⟩,hro,hv⟩:=hv
   cases hv
   have hb:=eR hro
   obtain⟨ad,cap,e1,e2,i_,e3⟩:=kN hs hro
   have hl:((xs.drop off).take len).length=len:=by simp;omega
   refine⟨ad,cap,by rw[hl];exact e1,by rw[hl];exact e2,?_⟩
   have az:=hm.blk id _ hb
   simp only[aS] at az
   obtain⟨h0,az⟩:=az
   rcases az with⟨cW,_⟩|⟨B,o',cs,f1,f2,f3,f4,_⟩
   ·left;subst cW;simp
   ·rcases e3 with e3|⟨B',cH,cs',g1,g2,g3,g4⟩
    ·left
     rw[←List.length_eq_zero_iff,hl]
     omega
    ·right
     rw[f1] at g1
     cases g1
     exact⟨B,o'+off*t.size,by simpa using g2,f4.piece off len⟩
  case pair l r=>
   split at hv<;>simp at hv
def lA (P:Program)(w:World)(size:Nat)(x:Value)(n:Nat)(news:List Value):Prop:=
 (Builtin.lenOf x).run P w = .ok n w∧∀w':World,w'.heap=w.heap→(Builtin.firstCells size n x).run P w' = .ok news.toArray w'
theorem oO:∀s:List UInt8,aR (fun(x:Int) (vs:List Value)=>vs = [.int .u8 x]) (bytesOf s) (s.map fun b=>Value.int .u8 b.toNat)
 | []=>rfl
 |b::s=>⟨[.int .u8 b.toNat],_,rfl,rfl,oO s⟩
theorem xh {y:AT}{v:Value}{t:Ty}{ys:List t.den}(hm:aD F m w I ρ)(hs:au w I m ρ y v)(hd:tailD m t y=some ys) :
  ∃news,lA P w t.size v ys.length news∧aR (aa w I t) ys news:=by
 unfold tailD at hd
 split at hd
 ·rename_i s
  simp only[Option.some.injEq] at hd
  subst hd
  have e:=gA.1 hs
  subst e
  refine⟨s.map fun b=>Value.int .u8 b.toNat,⟨by simp[Builtin.lenOf,ByteArray.size,bytesOf],fun w' _=>?_⟩,by have:=oO s;exact aR.mono (fun x vs h=>by simpa only[aa] using h) this⟩
  have:((ByteArray.extract ⟨s.toArray⟩ 0 (bytesOf s).length).data)=s.toArray:=by
   rw[ByteArray.data_extract]
   apply Array.ext'
   simp[bytesOf]
  simp[Builtin.firstCells]
  simp only[bytesOf,List.length_map]
  rw[List.take_of_length_le (by simp)]
 ·rename_i y' t' hn
  obtain⟨dv,hv,ht⟩:=Option.bind_eq_some_iff.1 hd
  obtain⟨ad,cap,e1,e2,e3⟩:=pV hm (lE (u:=some (.lst t)) hs) hv ht
  subst e1
  rcases e3 with e3|⟨B,off,e3,e4⟩
  ·subst e3
   refine⟨[],⟨by simp[Builtin.lenOf],fun w' _=>?_⟩,rfl⟩
   cases ad<;>simp[Builtin.firstCells,loadCells,loadCellsFrom]
  ·subst e3
   obtain⟨cs,f1,f2,f3⟩:=e4.cells
   refine⟨cs,⟨by simp[Builtin.lenOf],fun w' hw=>?_⟩,f1⟩
   have:(loadCells ⟨B,off,none⟩ cs.length).run P w' = .ok cs.toArray w':=om fun j hj=>by
    rw[←f3 j hj]
    simp[World.cell?,hw]
   simp[Builtin.firstCells,←f2,this]
theorem td {α:Type}{xs ys:List α}{k:Nat}(h:k+ys.length≤xs.length):(over xs k ys).length=xs.length:=by
 simp only[over,List.length_append,List.length_take,List.length_drop];omega
theorem wu {α:Type}{xs ys:List α}{k:Nat}(h:k+ys.length≤xs.length)(j:Nat):(over xs k ys)[j]?=if k≤j∧j<k+ys.length then ys[j-k]? else xs[j]? :=by
 unfold over
 have ht:(xs.take k).length=k:=by simp;omega
 by_cases h1:j<k
 ·rw[List.getElem?_append_left (by omega),if_neg (by omega),List.getElem?_take,if_pos h1]
 ·rw[List.getElem?_append_right (by omega),ht]
  by_cases h2:j<k+ys.length
  ·rw[List.getElem?_append_left (by omega),if_pos (by omega)]
  ·rw[List.getElem?_append_right (by omega),if_neg (by omega),List.getElem?_drop]
   congr 1
   omega
theorem aC.over {t:Ty}{id st:Nat}{xs ys:List t.den}{news:List Value}(P:Program)(hm:aD F m w I ρ)(hb:m id=some ⟨st,false,.rows t xs⟩)(hn:aR (aa w I t) ys news)(k:Nat)(hk:k+ys.length≤xs.length) :
  (xs = []∧ρ id=none∧aC F m (m.put id ⟨st,false,.rows t (over xs k ys)⟩) w w I I ρ ρ) ∨
  ∃B o' w',ρ id=some (B,o')∧(storeCells ⟨B,o'+k*t.size,none⟩ news 0).run P w = .ok () w'∧aC F m (m.put id ⟨st,false,.rows t (over xs k ys)⟩) w w' I I ρ ρ ∧
   (∀cs,Cells w B cs→∃cs',Cells w' B cs'∧cs'.length=cs.length):=by
 have gh:=aR.length (fun(x:t.den) vs (h:aa w I t x vs)=>aa.length h) hn
 have az:=hm.blk id _ hb
 simp only[aS] at az
 obtain⟨h0,az⟩:=az
 rcases az with⟨cW,hno⟩|⟨B,o',cs,k1,k2,k3,k4,k5⟩
 ·left
  refine⟨cW,hno,?_⟩
  subst cW
  have hy:ys = []:=by rw[←List.length_eq_zero_iff];have:=hk;rw[List.length_nil] at this;omega
  subst hy
  have e:m.put id ⟨st,false,.rows t (Go.Ab.over [] k [])⟩=m:=by
   funext j
   simp only[MF.put]
   by_cases hj:id=j
   ·subst hj;rw[if_pos rfl,hb];simp[Go.Ab.over]
   ·rw[if_neg hj]
  rw[e]
  exact aC.refl hm
 ·right
  have hle:o'+k*t.size+news.length≤cs.length:=by
   rw[gh,Nat.add_assoc,←Nat.add_mul]
   have:=Nat.mul_le_mul_right t.size hk
   omega
  obtain⟨w',hr,aJ,hsame,hsize,hos,eL,hout⟩:=run_storeCells_cells P B (o'+k*t.size) news 0 cs w k2 (by simpa using hle) (aR.bV (fun x vs h=>aa.bV h) hn)
  simp only[Nat.add_zero] at aJ
  have cz:¬I B:=by simpa using k5
  have hlen':=mH hle
  have hol:=td hk
  refine⟨B,o',w',k1,hr,?_,fun ds hds=>⟨_,aJ,by rw[hlen',k2.unique hds]⟩⟩
  refine aC.write hm id ⟨st,false,.rows t xs⟩ ⟨st,false,.rows t (Go.Ab.over xs k ys)⟩ B o' cs _ hb (dP rfl) (.inr ⟨rfl,?_⟩) k1 cz k2 aJ (by omega) hsame hsize hos eL hout (fun ha hk'=>?_)
  ·exact⟨rfl,hol.symm⟩
  ·simp only[aS]
   refine⟨h0,.inr ⟨B,o',_,k1,aJ,by rw[hlen',hol];omega,?_,by simpa using cz⟩⟩
   intro j x hj
   rw[wu hk] at hj
   split at hj
   ·rename_i hjj
    obtain⟨pre,mid,post,q1,q2,q3,_⟩:=hn.split (fun x vs h=>aa.length h) hj
    have hml:=aa.length q3
    refine⟨mid,hml,fun j' hj'=>?_,aa.mono ha q3⟩
    have hjm:j*t.size=k*t.size+(j-k)*t.size:=by rw[←Nat.add_mul];congr 1;omega
    have hnews:news[(j-k)*t.size+j']?=mid[j']? :=by
     rw[q1,List.append_assoc,List.getElem?_append_right (by omega),List.getElem?_append_left (by omega)]
     congr 1
     omega
    have hnl':(j-k)*t.size+j'<news.length:=by rw[q1];simp;omega
    rw[aJ.cell,gN hle,if_pos (by omega),←hnews]
    congr 1
    omega
   ·rename_i hjj
    obtain⟨es,q1,q2,q3⟩:=k4 j x hj
    refine⟨es,q1,fun j' hj'=>?_,aa.mono ha q3⟩
    rw[←q2 j' hj',aJ.cell,k2.cell,gN hle,if_neg]
    by_cases hjk:j<k
    ·have:(j+1)*t.size≤k*t.size:=Nat.mul_le_mul_right _ hjk
     rw[Nat.add_mul] at this
     omega
    ·have:(k+ys.length)*t.size≤j*t.size:=Nat.mul_le_mul_right _ (by omega)
     rw[Nat.add_mul] at this
     omega
section
variable {T T2 E:TypeId} {fS:TypeDesc} {ty:TypeId} {i:TypeInfo} {z:Value}
theorem jt {base:Option Addr}{sLen sCap n:Nat}{x:Value}{news:List Value}{w':World}(hT:P.underlying T=some (.slice E))(dN:P.underlying T2=some fS)(hk:∀k,fS ≠ .int k)(hi:P.info? E=some i)
  (ht:lA P w i.size x n news) (h:sLen+n≤sCap)
  (hst:match base with | some ad=>(storeCells (ad.add (sLen*i.size)) news 0).run P w = .ok () w'|none=>w'=w) :
  (Builtin.append_ #[T,T2] ty #[.slice base sLen sCap,x]).run P w = .ok (.slice base (sLen+n) sCap) w':=by
 have hz:(fS matches .int _)=false:=by
  cases fS<;>first|rfl|exact absurd rfl (hk _)
 have hf:=ht.2 w rfl
 cases base with
 |none=>
  subst hst
  simp[Builtin.append_,run_underlying hT,run_underlying dN,sizeOf,typeInfo,hi,ht.1,h,hf]
 |some ad=>
  simp only at hst
  simp[Builtin.append_,run_underlying hT,run_underlying dN,sizeOf,typeInfo,hi,ht.1,h,hf,hst]
theorem oe {base:Option Addr}{sLen sCap n:Nat}{x:Value}{olds news:List Value}(hT:P.underlying T=some (.slice E))(dN:P.underlying T2=some fS)(hk:∀k,fS ≠ .int k)(hi:P.info? E=some i)
  (hz0:i.zero=some z) (ht:lA P w i.size x n news) (h:sCap<sLen+n) (ho:∀w':World,w'.heap=w.heap→(Builtin.firstCells i.size sLen (.slice base sLen sCap)).run P w' = .ok olds.toArray w')
  (h63:sLen+n≤34359738368) (hby:i.bytes≤4096) :
  (Builtin.append_ #[T,T2] ty #[.slice base sLen sCap,x]).run P w = .ok (.slice (some ⟨w.heap.size,0,none⟩) (sLen+n) (grownCap w (sLen+n) sCap E))
   (w.drew.alloc (.cells (olds++news++(Builtin.zeroCells z.cells (grownCap w (sLen+n) sCap E-(sLen+n))).toList).toArray E)):=by
 have hz:(fS matches .int _)=false:=by
  cases fS<;>first|rfl|exact absurd rfl (hk _)
 have hn:¬(sLen+n≤sCap):=by omega
 have h63':¬(9223372036854775807<((sLen:Int)+(n:Int))):=by omega
 have hb:(sLen+n)*i.bytes≤140737488355328:=by
  have:=Nat.mul_le_mul h63 hby
  omega
 have h48':¬(281474976710656<Builtin.nextslicecap (sLen+n) sCap*i.bytes):=by have:=growslice_fits h hb;omega
 have hf:=ht.2 w.drew rfl
 have hfo:=ho w.drew rfl
 simp[Builtin.append_,run_underlying hT,run_underlying dN,sizeOf,typeInfo,zeroValue,hi,hz0,ht.1,hn,h63',h48',Question.forced,hf,hfo,newRow,grownCap]
 apply congrArg
 apply congrArg (fun c=>Obj.cells c E)
 apply Array.ext'
 simp[]
end
theorem ot (z:Array Value)(n:Nat):(Builtin.zeroCells z n).toList.length=n*z.size:=by simp[Builtin.zeroCells]
theorem mN {t:Ty}{v:Value}{y:AT}(hy:y = .nil t∨y = .cy)(h:au w I m ρ y v):v = .slice none 0 0:=by
 rcases hy with rfl|rfl
 ·have:=bQ (a:=.nil t) rfl h (by simp) (by simp) (by simp) (by simp)
  simpa[af] using this
 ·have:=bQ (a:=.cy) rfl h (by simp) (by simp) (by simp) (by simp)
  simpa[af] using this
theorem aC.empty {t:Ty}(hm:aD F m w I ρ)(n s:Nat)(hst:∀b0,m n=some b0→b0.st<s)(_hsz:0<t.size) :
  let m':=m.put n ⟨s,false,.rows t []⟩
  aC F m m' w w I I ρ (ρ.put n none)∧au w I m' (ρ.put n none) (.whole n s t) (.slice none 0 0):=by
 refine⟨aC.stale hm n _ hst (.inr ⟨t,rfl⟩),?_⟩
 show aB _ _ _ _ _ _
 unfold aB
 simp only[AT.isAgg,Bool.false_eq_true,if_false,af]
 refine⟨⟨_,rfl,rfl⟩,bR.of (b:=⟨s,false,.rows t []⟩) (by simp[MF.put]) rfl,fun b hb hs t' xs' hc=>?_⟩
 simp only[MF.put,if_true,Option.some.injEq] at hb
 subst hb
 cases hc
 exact⟨none,0,rfl,Nat.le_refl _,.inl ⟨rfl,rfl,by simp[Pl.put]⟩⟩
theorem aC.grown {E:TypeId}{t:Ty}{xs:List t.den}{cs rest:List Value}(hm:aD F m w I ρ)(n s:Nat)(hst:∀b0,m n=some b0→b0.st<s)(hsz:0<t.size)(hr:aR (aa w I t) xs cs)(len cap:Nat)(hl:len=xs.length)(bI:len≤cap)
  (hcap:cap*t.size≤(cs++rest).length) (fr:Nat×Nat:=(0,0)) (hfr:∀j,j<(cs++rest).toArray.size→¬(fr.1≤j∧j<fr.2):=by simp) :
  let m':=m.put n ⟨s,false,.rows t xs⟩
  let ρ':=ρ.put n (some (w.heap.size,0))
  let w':=w.drew.alloc (.cells (cs++rest).toArray E fr)
  aC F m m' w w' I I ρ ρ'∧au w' I m' ρ' (.whole n s t) (.slice (some ⟨w.heap.size,0,none⟩) len cap):=by
 have h1:=aC.drew hm
 have hr':aR (aa w.drew I t) xs cs:=aR.mono (fun x vs h=>aa.mono h1.agree h) hr
 obtain⟨h2,h3⟩:=aC.rows (T:=E) h1.mem n s hst hsz hr' len cap hl bI hcap fr hfr
 exact⟨h1.trans h2,h3⟩
theorem uL {T T2:Nat}{xo yo:Operand}{ax ay:AT}{dst:Nat}{t:Ty}{fS:TypeDesc}(hC:bH P C)(ho:o.op = .call ⟨.builtin .append,#[xo,yo],#[T,T2]⟩)(hm:aD F m w I ρ)
  (hx:au w I m ρ ax (a.eval xo)) (hy:au w I m ρ ay (a.eval yo)) (ht:C.el T=some t) (dN:P.underlying T2=some fS) (hk:∀k,fS ≠ .int k)
  (j3:pR m ay=false) (hd:lC C m dst t ax ay=some d) (hok:∀b∈d.ok,b=true):aA P F o a w m I ρ d:=by
 obtain⟨E,h1,h2,h3⟩:=hC.el ht
 obtain⟨i0,g1,g2,g3,g4⟩:=h3.info.info
 obtain⟨z1,z2⟩:=ju (w:=w) (I:=I) (m:=m) (ρ:=ρ) h3
 have eM:=eW h3 (z1.length z2) (af.bV z1 z2)
 have hzl:=z1.length z2
 have hzs:(aL t (aX t)).cells.size=t.size:=by rw[eM];simpa using hzl
 have ec:∀{v:Value} {w':World},(Builtin.append_ #[T,T2] o.type #[a.eval xo,a.eval yo]).run P w = .ok v w'→(execOp a.eval o).run P w = .ok (.value v) w':=by
  intro v w' h
  simp[execOp,ho,resolve,invoke,builtin,h]
 unfold lC at hd
 rw[j3,cond_false] at hd
 split at hd
 ·simp at hd
 ·rename_i ys hys
  obtain⟨news,ht1,iJ⟩:=xh hm hy hys
  have gh:=aR.length (fun(x:t.den) vs (h:aa w I t x vs)=>aa.length h) iJ
  rw[←g2] at ht1
  have fresh:∀{y:AT},y=ax→(y = .nil t∨y = .cy)→ys.length≤dh →
    aA P F o a w m I ρ ⟨.whole dst (aU m dst) t,[(dst,⟨aU m dst,false,.rows t ys⟩)],[decide (ys.length≤dh)]⟩:=by
   intro y hya hyn hmax
   subst hya
   have hv:=mN hyn hx
   cases jk:ys with
   |nil=>
    subst jk
    have hn0:news = []:=by rw[←List.length_eq_zero_iff,gh];simp
    subst hn0
    obtain⟨hd,hs⟩:=aC.empty (t:=t) hm dst (aU m dst) (fun b0 h=>jH h) h2
    refine aA.world (v:=.slice none 0 0) (w':=w) (ec ?_) (by rw[MF.cO];exact hd) (by rw[MF.cO];exact hs)
    rw[hv]
    exact jt h1 dN hk g1 ht1 (Nat.le_refl _) rfl
   |cons y0 ys0=>
    have hpos:0<ys.length:=by rw[jk];simp
    rw[←jk]
    have hrun:=oe (ty:=o.type) (base:=none) (sLen:=0) (sCap:=0) (olds:=[]) h1 dN hk g1 g3 ht1 (by omega) (fun w' _=>by simp[Builtin.firstCells]) (by simpa[dh] using hmax) g4
    have hge:=grownCap_ge w (0+ys.length) 0 E
    obtain⟨hd,hs⟩:=aC.grown (E:=E) (rest:=(Builtin.zeroCells (aL t (aX t)).cells (grownCap w (0+ys.length) 0 E-(0+ys.length))).toList) hm dst (aU m dst) (fun b0 h=>jH h) h2 iJ (0+ys.length) (grownCap w (0+ys.length) 0 E) (by omega) hge (by
     rw[List.length_append,ot,hzs,gh,←Nat.add_mul]
     apply Nat.mul_le_mul_right
     omega)
    rw[←hv] at hrun
    exact aA.world (ec hrun) (by rw[MF.cO];exact hd) (by rw[MF.cO];exact hs)
  split at hd
  ·rename_i u
   split at hd
   ·rename_i zz hzz
    obtain⟨e,_⟩:=DV.bT hzz
    simp only[Ty.lst.injEq] at e
    subst e
    cases hd
    exact fresh rfl (.inl rfl) (by simpa using hok)
   ·simp at hd
  ·cases hd
   exact fresh rfl (.inr rfl) (by simpa using hok)
  ·rename_i id st u
   split at hd
   ·rename_i xs hro
    cases jj:u.is t with
    |false=>simp[jj] at hd
    |true=>
    have:=Ty.cA jj
    subst this
    simp only[jj,cond_true,Option.some.injEq] at hd
    subst hd
    have hmax:xs.length+ys.length≤dh:=by simpa using hok
    have hb:=eR hro
    obtain⟨ad,cap,e1,e2,e3⟩:=rL hx hro
    have az:=hm.blk id _ hb
    simp only[aS] at az
    obtain⟨h0,az⟩:=az
    have hlt:∀b0,m id=some b0→b0.st<st+1:=by intro b0 h;rw[hb] at h;cases h;exact Nat.lt_succ_self _
    by_cases hroom:xs.length+ys.length≤cap
    ·rcases e3 with e3|⟨B,o',cs,f1,f2,f3,f4⟩
     ·obtain⟨e31,e32,e33⟩:=e3
      subst e31 e32
      have hx0:xs = []:=by rw[←List.length_eq_zero_iff];omega
      have hy0:ys = []:=by rw[←List.length_eq_zero_iff];omega
      subst hx0 hy0
      have hn0:news = []:=by rw[←List.length_eq_zero_iff,gh];simp
      subst hn0
      obtain⟨hd,hs⟩:=aC.empty (t:=u) hm id (st+1) hlt h2
      refine aA.world (v:=.slice none 0 0) (w':=w) (ec ?_) (by rw[MF.cO];exact hd) (by rw[MF.cO];exact hs)
      rw[e1]
      exact jt h1 dN hk g1 ht1 (Nat.le_refl _) rfl
     ·subst f2
      rcases az with⟨_,hno⟩|⟨B',cH,cs',k1,k2,k3,k4,k5⟩
      ·rw[f1] at hno;cases hno
      ·rw[f1] at k1
       cases k1
       have:=f3.unique k2
       subst this
       have hle:o'+xs.length*u.size+news.length≤cs.length:=by
        rw[gh,Nat.add_assoc,←Nat.add_mul]
        have:=Nat.mul_le_mul_right u.size hroom
        omega
       obtain⟨w',hr,aJ,hsame,hsize,hos,eL,hout⟩:=run_storeCells_cells P B (o'+xs.length*u.size) news 0 cs w f3 (by simpa using hle) (aR.bV (fun x vs h=>aa.bV h) iJ)
       simp only[Nat.add_zero] at aJ
       have cz:¬I B:=by simpa using k5
       have hlen':=mH hle
       have hd:=aC.write hm id ⟨st,false,.rows u xs⟩ ⟨st+1,false,.rows u (xs++ys)⟩ B o' cs _ hb (dP rfl) (.inl (Nat.lt_succ_self _)) f1 cz f3 aJ (by omega) hsame hsize hos eL hout (fun ha hk'=>by
        simp only[aS]
        refine⟨h0,.inr ⟨B,o',_,f1,aJ,by rw[hlen'];simp only[List.length_append,Nat.add_mul];omega,?_,by simpa using cz⟩⟩
        intro j x hj
        by_cases hjx:j<xs.length
        ·rw[List.getElem?_append_left hjx] at hj
         obtain⟨es,q1,q2,q3⟩:=k4 j x hj
         refine⟨es,q1,fun j' hj'=>?_,aa.mono ha q3⟩
         rw[←q2 j' hj',aJ.cell,f3.cell,gN hle,if_neg]
         have:(j+1)*u.size≤xs.length*u.size:=Nat.mul_le_mul_right _ hjx
         rw[Nat.add_mul] at this
         omega
        ·rw[List.getElem?_append_right (by omega)] at hj
         obtain⟨pre,mid,post,q1,q2,q3,_⟩:=iJ.split (fun x vs h=>aa.length h) hj
         have hml:=aa.length q3
         refine⟨mid,hml,fun j' hj'=>?_,aa.mono ha q3⟩
         have hjj:j*u.size=xs.length*u.size+(j-xs.length)*u.size:=by rw[←Nat.add_mul];congr 1;omega
         have hnews:news[(j-xs.length)*u.size+j']?=mid[j']? :=by
          rw[q1,List.append_assoc,List.getElem?_append_right (by omega),List.getElem?_append_left (by omega)]
          congr 1
          omega
         have hnl':(j-xs.length)*u.size+j'<news.length:=by rw[q1];simp;omega
         rw[aJ.cell,gN hle,if_pos (by omega),←hnews]
         congr 1
         omega)
       refine aA.world (v:=.slice (some ⟨B,o',none⟩) (xs.length+ys.length) cap) (w':=w') (ec ?_) (by rw[MF.cO];exact hd) ?_
       ·rw[e1]
        exact jt h1 dN hk g1 ht1 hroom (by simp only[Addr.iw,g2];exact hr)
       ·rw[MF.cO]
        show aB _ _ _ _ _ _
        unfold aB
        simp only[AT.isAgg,Bool.false_eq_true,if_false,af]
        refine⟨⟨_,rfl,rfl⟩,bR.of (b:=⟨st+1,false,.rows u (xs++ys)⟩) (by simp[MF.put]) rfl,fun b hb' hs' t' xs' hc=>?_⟩
        simp only[MF.put,if_true,Option.some.injEq] at hb'
        subst hb'
        cases hc
        exact⟨some ⟨B,o',none⟩,cap,by simp,by simpa using hroom,.inr ⟨B,o',_,f1,rfl,aJ,by rw[hlen'];omega⟩⟩
    ·
     have holds:∃olds,aR (aa w I u) xs olds∧∀w':World,w'.heap=w.heap→(Builtin.firstCells i0.size xs.length (.slice ad xs.length cap)).run P w' = .ok olds.toArray w':=by
      obtain⟨ad',cap',q1,q2,q3⟩:=pV (t:=u) (ys:=xs) (dv:=⟨.lst u,xs⟩) hm hx (by simp[ck,hro]) (by simp[DV.as])
      rw[e1] at q1
      cases q1
      rcases q3 with q3|⟨B,off,q3,q4⟩
      ·subst q3
       exact⟨[],rfl,fun w' _=>by cases ad<;>simp[Builtin.firstCells,loadCells,loadCellsFrom]⟩
      ·subst q3
       obtain⟨cs,r1,r2,r3⟩:=q4.cells
       refine⟨cs,r1,fun w' hw=>?_⟩
       have:(loadCells ⟨B,off,none⟩ cs.length).run P w' = .ok cs.toArray w':=om fun j hj=>by
        rw[←r3 j hj]
        simp[World.cell?,hw]
       simp[Builtin.firstCells,g2,←r2,this]
     obtain⟨olds,ho1,ho2⟩:=holds
     have hol:=aR.length (fun(x:u.den) vs (h:aa w I u x vs)=>aa.length h) ho1
     have hrun:=oe (ty:=o.type) h1 dN hk g1 g3 ht1 (by omega) ho2 (by simpa[dh] using hmax) g4
     have hge:=grownCap_ge w (xs.length+ys.length) cap E
     obtain⟨hd,hs⟩:=aC.grown (E:=E) (rest:=(Builtin.zeroCells (aL u (aX u)).cells (grownCap w (xs.length+ys.length) cap E-(xs.length+ys.length))).toList) hm id (st+1) hlt h2 (ho1.append iJ) (xs.length+ys.length) (grownCap w (xs.length+ys.length) cap E) (by simp) hge (by
      rw[List.length_append,ot,hzs,List.length_append,hol,gh,←Nat.add_mul,←Nat.add_mul]
      apply Nat.mul_le_mul_right
      omega)
     rw[←e1] at hrun
     exact aA.world (ec hrun) (by rw[MF.cO];exact hd) (by rw[MF.cO];exact hs)
   ·simp at hd
  ·rename_i id st off len u
   split at hd
   ·rename_i xs hro
    cases jj:u.is t with
    |false=>simp[jj] at hd
    |true=>
    have:=Ty.cA jj
    subst this
    simp only[jj,cond_true,Option.some.injEq] at hd
    subst hd
    have hroom:off+len+ys.length≤xs.length:=by simpa using hok
    have hb:=eR hro
    obtain⟨ad,cap,e1,e2,i_,e3⟩:=kN hx hro
    have nO:len+ys.length≤cap:=by omega
    have pM:∀(w':World) (e:f_ w' ρ id u.size off ad cap),au w' I (m.put id ⟨st,false,.rows u (Go.Ab.over xs (off+len) ys)⟩) ρ (.piece id st off (len+ys.length) u) (.slice ad (len+ys.length) cap):=by
     intro w' e
     show aB _ _ _ _ _ _
     unfold aB
     simp only[AT.isAgg,Bool.false_eq_true,if_false,af]
     refine⟨⟨_,rfl,rfl⟩,bR.of (b:=⟨st,false,.rows u (Go.Ab.over xs (off+len) ys)⟩) (by simp[MF.put]) rfl,fun b hb' hs' t' xs' hc=>?_⟩
     simp only[MF.put,if_true,Option.some.injEq] at hb'
     subst hb'
     cases hc
     exact⟨ad,cap,rfl,nO,by rw[td hroom];omega,e⟩
    rcases aC.over P hm hb iJ (off+len) hroom with⟨q1,q2,q3⟩|⟨B,o',w',q1,q2,q3,q4⟩
    ·subst q1
     have hy0:ys = []:=by rw[←List.length_eq_zero_iff];have:=hroom;rw[List.length_nil] at this;omega
     subst hy0
     have hn0:news = []:=by rw[←List.length_eq_zero_iff,gh];simp
     subst hn0
     refine aA.world (v:=.slice ad (len+0) cap) (w':=w) (ec ?_) (by rw[MF.cO];exact q3) (by rw[MF.cO];exact pM w e3)
     rw[e1]
     refine jt h1 dN hk g1 ht1 nO ?_
     cases ad with
     |none=>rfl
     |some ad=>rfl
    ·by_cases hn0:news = []
     ·
      subst hn0
      have jk:ys = []:=by
       rw[←List.length_eq_zero_iff]
       have:ys.length*u.size=0:=by rw[←gh];rfl
       rcases Nat.mul_eq_zero.1 this with h|h
       ·exact h
       ·omega
      subst jk
      have hw:w'=w:=by
       simp[storeCells] at q2
       exact q2.symm
      subst hw
      refine aA.world (v:=.slice ad (len+0) cap) (w':=w') (ec ?_) (by rw[MF.cO];exact q3) (by rw[MF.cO];exact pM w' e3)
      rw[e1]
      refine jt h1 dN hk g1 ht1 nO ?_
      cases ad with
      |none=>rfl
      |some ad=>rfl
     ·have e30:=e3
      rcases e3.1 with e3|⟨B',cH,cs,r1,r2,r3,r4⟩
      ·exfalso
       have:ys.length=0:=by omega
       apply hn0
       rw[←List.length_eq_zero_iff,gh,this]
       simp
      ·rw[q1] at r1
       cases r1
       subst r2
       obtain⟨cs',s1,s2⟩:=q4 cs r3
       refine aA.world (v:=.slice (some ⟨B,o'+off*u.size,none⟩) (len+ys.length) cap) (w':=w') (ec ?_) (by rw[MF.cO];exact q3) (by rw[MF.cO];exact pM w' (e30.mono rfl fun B2 o2 h2 cs hcs=>by rw[q1] at h2;cases h2;obtain⟨cs',s1,s2⟩:=q4 cs hcs;exact⟨cs',s1,by omega⟩))
       rw[e1]
       refine jt h1 dN hk g1 ht1 nO ?_
       simp only[Addr.iw,g2]
       rw[←q2]
       congr 3
       rw[Nat.add_mul]
       omega
   ·simp at hd
  ·simp at hd
end
end Go.Ab
namespace Go.Ab
section
variable {P:Program} {F:Fix} {C:Cx} {o:Oper} {a:Act} {w:World} {m:MF} {I:Nat→Prop} {ρ:Pl} {d:aE}
theorem tS:∀{v:AT} {u:Ty} {d:DV},Typed v u→ck m v=some d→d.t=u:=by
 intro v
 induction v with
 |leaf t x=>intro u d h hv;simp only[ck,Option.some.injEq] at hv;subst hv;exact h
 |nil t=>intro u d h hv;simp only[ck,Option.some.injEq] at hv;subst hv;exact h.symm
 |whole id st t=>intro u d h hv;simp only[ck,Option.map_eq_some_iff] at hv;obtain⟨r,_,rfl⟩:=hv;exact h.symm
 |piece id st off len t=>intro u d h hv;simp only[ck,Option.map_eq_some_iff] at hv;obtain⟨r,_,rfl⟩:=hv;exact h.symm
 |pair l r ihl ihr=>
  intro u d h hv
  simp only[Typed] at h
  obtain⟨a,b,rfl,h1,h2⟩:=h
  simp only[ck] at hv
  split at hv
  ·rename_i x y hx hy
   simp only[Option.some.injEq] at hv
   subst hv
   simp[ihl h1 hx,ihr h2 hy]
  ·simp at hv
 |_=>intro u d h hv;simp[ck] at hv
theorem wE {pre mid post aN:List Value}(h:mid.length=aN.length):putAt (pre++mid++post) pre.length aN=pre++aN++post:=by
 unfold putAt
 have e1:(pre++mid++post).take pre.length=pre:=by rw[List.append_assoc,List.take_left]
 have e2:(pre++mid++post).drop (pre.length+mid.length)=post:=by rw[←List.length_append,List.drop_left]
 rw[←h,e1,e2]
theorem qm {T:Nat}{t:Ty}{v:Value}{vs cs:List Value}{B off:Nat}(hT:aF P t T)(hv:v.cells=vs.toArray)(hl:vs.length=t.size)(h1:∀v∈vs,v.oneCell'=true)(hc:Cells w B cs)(hfit:off+vs.length≤cs.length) :
  ∃w',(Instr.storeAt T (.pointer (some ⟨B,off,none⟩)) v).run P w = .ok () w'∧Cells w' B (putAt cs off vs)∧(∀k,k≠B→w'.heap[k]?=w.heap[k]?)∧w'.heap.size=w.heap.size ∧
   w'.os=w.os∧w'.tape=w.tape∧w'.output=w.output:=by
 obtain⟨w',hr,aJ,h2⟩:=run_storeCells_cells P B off vs 0 cs w hc (by simpa using hfit) h1
 refine⟨w',?_,by simpa using aJ,h2⟩
 simp[Instr.storeAt,Instr.sureAddr,storeVar,hT.info.run_sizeOf,hv,hl,hr]
theorem vi {T:Nat}{xo vo:Operand}{ax av:AT}(hC:bH P C)(ho:o.op = .store T xo vo)(hm:aD F m w I ρ)(hx:au w I m ρ ax (a.eval xo))(hv:au w I m ρ av (a.eval vo))
  (j3:∀id st row p,ax = .ptr id st row p→∀s fz rs t xs,cur m id st≠some ⟨s,fz,.deep rs t xs⟩) (hd:kq C m T ax av=some d):aA P F o a w m I ρ d:=by
 unfold kq at hd
 split at hd
 ·rename_i id st p u hu
  have hT:=hC.ty hu
  split at hd
  ·rename_i st' t b hc
   obtain⟨hb,hst⟩:=cp hc
   simp only at hst
   subst hst
   cases hi:cM (t.at p) u&&av.fits u with
   |false=>simp[hi] at hd
   |true=>
    simp only[hi,cond_true] at hd
    simp only[Bool.and_eq_true] at hi
    have cE:=fJ hi.1
    have hty:=iD hi.2
    split at hd
    ·rename_i b' hset
     cases hd
     have hx':=bQ (a:=.aZ id st' p) rfl hx (by simp) (by simp) (by simp) (by simp)
     simp only[af] at hx'
     obtain⟨_,_,h3⟩:=hx'
     obtain⟨e0,B,e1,e2⟩:=h3 _ hb rfl t b rfl
     simp only[List.cons.injEq,and_true] at e2
     have az:=hm.blk id _ hb
     simp only[aS] at az
     obtain⟨ht,B',cs,k1,k2,k3,k4⟩:=az
     rw[e1] at k1
     cases k1
     obtain⟨aN,ef,hmid⟩:=aB.pack hty ((fo hty).1 hv)
     have hlen:=hty.length hmid
     have hone:=af.bV hty hmid
     have hcells:(a.eval vo).cells=aN.toArray:=by rw[ef];exact eW hT hlen hone
     obtain⟨iJ,pre,mid,post,q1,q2,q3,q4⟩:=jL p ht k3 e0 hset cE hty hmid
     obtain⟨w',hr,aJ,hsame,hsize,hos,eL,hout⟩:=qm hT hcells hlen hone k2 (off:=t.off p) (by rw[q1];simp;omega)
     rw[q1,←q2,wE (by omega)] at aJ
     have cz:¬I B:=by simpa using k4
     have hd:=aC.write hm id _ ⟨st',false,.var t b'⟩ B 0 cs _ hb (iL rfl) (.inr ⟨rfl,rfl⟩) e1 cz k2 aJ (by rw[q1];simp;omega) hsame hsize hos eL hout (fun ha hk=>by
      simp only[aS]
      exact⟨iJ,B,_,e1,aJ,q4.mono ha hk,by simpa using cz⟩)
     exact aA.skip (w':=w') (by simp[execOp,ho,e2,hr]) (by rw[MF.cO];exact hd) rfl
    ·simp at hd
  ·simp at hd
 ·rename_i id st row p u hu
  have hT:=hC.ty hu
  split at hd
  ·rename_i st' t xs hc
   obtain⟨hb,hst⟩:=cp hc
   simp only at hst
   subst hst
   cases hi:cM (t.at p) u&&av.fits u && !(bF (Nat.beq id) av.ids) with
   |false=>simp[hi] at hd
   |true=>
    simp only[hi,cond_true] at hd
    simp only[Bool.and_eq_true] at hi
    have cE:=fJ hi.1.1
    have hty:=iD hi.1.2
    have hnot:¬id∈av.ids:=by
     have h2:=hi.2
     intro hin
     have:∀l:List Nat,id∈l→bF (Nat.beq id) l=true:=by
      intro l
      induction l with
      |nil=>simp
      |cons x l ih=>
       intro h
       simp only[bF,Bool.or_eq_true]
       rcases List.mem_cons.1 h with h|h
       ·subst h;exact .inl (Nat.beq_refl id)
       ·exact .inr (ih h)
     simp[this _ hin] at h2
    split at hd
    ·rename_i s y hvv
     split at hd
     ·rename_i r hr0
      split at hd
      ·rename_i z hz
       cases hd
       have hsu:=tS hty hvv
       simp only at hsu
       subst hsu
       have hx':=bQ (a:=.ptr id st' row p) rfl hx (by simp) (by simp) (by simp) (by simp)
       simp only[af] at hx'
       obtain⟨_,_,h3⟩:=hx'
       obtain⟨e0,iZ,B,o',e1,e2⟩:=h3 _ hb rfl t xs.length rfl
       simp only[List.cons.injEq,and_true] at e2
       obtain⟨aN,ef,hmid⟩:=aB.pack hty ((fo hty).1 hv)
       have hlen:=hty.length hmid
       have hone:=af.bV hty hmid
       have hcells:(a.eval vo).cells=aN.toArray:=by rw[ef];exact eW hT hlen hone
       have h1:=aC.freeze hm av.ids
       have fH:aa w (cP m ρ I av.ids) s y aN:=oB hm (fun _ h=>.inl h) (fun i hi b B o' h1 h2 h3=>.inr (.inl ⟨i,hi,b,o',h1,h2,h3⟩)) hvv hmid
       have cq:m.aj (bu m av.ids) id=some ⟨st',false,.rows t xs⟩:=by rw[oD];simp[hnot,hb]
       have az:=h1.mem.blk id _ cq
       simp only[aS] at az
       obtain⟨h0,az⟩:=az
       rcases az with⟨cW,_⟩|⟨B',cH,cs,k1,k2,k3,k4,k5⟩
       ·subst cW;simp at iZ
       ·rw[e1] at k1
        cases k1
        obtain⟨rs,g1,g2,g3⟩:=k4 row _ (kJ (z:=t.dflt) iZ)
        obtain⟨b2,bZ,hbp⟩:=Option.bind_eq_some_iff.1 hr0
        obtain⟨_,pre,mid,post,q1,q2,q3,q4⟩:=jL (w:=w) (I:=cP m ρ I av.ids) (m:=m) (ρ:=ρ) p (a:=.leaf t (xs.getD row t.dflt)) (v:=.leaf s y) rfl g3 e0 bZ cE rfl fH
        have q5:=mG hbp q4
        obtain⟨ze,hze⟩:=DV.bT hz
        have hrz:aa w (cP m ρ I av.ids) t z (pre++aN++post):=by
         cases r with
         |mk rt rx=>
          simp only at ze
          subst ze
          simp only at hze
          subst hze
          exact q5
        have hrow:(row+1)*t.size≤xs.length*t.size:=Nat.mul_le_mul_right _ iZ
        rw[Nat.add_mul] at hrow
        have hrs:rs.length=pre.length+mid.length+post.length:=by rw[q1];simp;omega
        have hfit:o'+row*t.size+t.off p+aN.length≤cs.length:=by omega
        obtain⟨w',hr,aJ,hsame,hsize,hos,eL,hout⟩:=qm hT hcells hlen hone k2 hfit
        have cz:¬cP m ρ I av.ids B:=by simpa using k5
        have hlen':=mH hfit
        have hd:=aC.write h1.mem id _ ⟨st',false,.rows t (xs.set row z)⟩ B o' cs _ cq (dP rfl) (.inr ⟨rfl,by simp[bt]⟩) e1 cz k2 aJ (by omega) hsame hsize hos eL hout (fun ha hk=>by
         simp only[aS]
         refine⟨h0,.inr ⟨B,o',_,e1,aJ,by rw[hlen'];simpa using k3,?_,by simpa using cz⟩⟩
         intro j x hj
         by_cases hjr:row=j
         ·subst hjr
          simp only[List.getElem?_set,iZ,if_true,Option.some.injEq] at hj
          subst hj
          refine⟨pre++aN++post,by simp;omega,fun j' hj'=>?_,aa.mono ha hrz⟩
          rw[aJ.cell,gN hfit]
          by_cases hin:t.off p≤j'∧j'<t.off p+aN.length
          ·rw[if_pos (by omega),List.append_assoc,List.getElem?_append_right (by omega),List.getElem?_append_left (by omega)]
           congr 1
           omega
          ·rw[if_neg (by omega),←k2.cell,g2 j' hj',q1]
           by_cases hlo:j'<pre.length
           ·rw[List.append_assoc,List.append_assoc,List.getElem?_append_left hlo,List.getElem?_append_left hlo]
           ·rw[List.getElem?_append_right (by simp;omega),List.getElem?_append_right (by simp;omega)]
            simp only[List.length_append]
            congr 1
            omega
         ·rw[List.getElem?_set_ne hjr] at hj
          obtain⟨es,r1,r2,r3⟩:=k4 j x hj
          refine⟨es,r1,fun j' hj'=>?_,aa.mono ha r3⟩
          rw[←r2 j' hj',aJ.cell,k2.cell,gN hfit,if_neg]
          have hpl:t.off p+aN.length≤t.size:=by omega
          rcases Nat.lt_or_ge j row with hlt|hge
          ·have:(j+1)*t.size≤row*t.size:=Nat.mul_le_mul_right _ hlt
           rw[Nat.add_mul] at this
           omega
          ·have:(row+1)*t.size≤j*t.size:=Nat.mul_le_mul_right _ (by omega)
           rw[Nat.add_mul] at this
           omega)
        exact aA.skip (w':=w') (by simp[execOp,ho,e2,hr]) (by rw[MF.mR];exact h1.trans hd) rfl
      ·simp at hd
     ·simp at hd
    ·simp at hd
  ·rename_i hc
   exact absurd hc (j3 _ _ _ _ rfl _ _ _ _ _)
  ·simp at hd
 ·simp at hd
end
end Go.Ab
namespace Go.Ab
section
variable {P:Program} {F:Fix} {C:Cx} {o:Oper} {a:Act} {w:World} {m:MF} {I:Nat→Prop} {ρ:Pl} {d:aE}
theorem aF.under {t:Ty}{T:TypeId}(hT:aF P t T):∃d,P.underlying T=some d:=by
 unfold aF at hT
 cases t<;>simp only[TO] at hT<;>first|exact hT.elim|skip
 case unit=>exact⟨_,hT.2.choose_spec.1⟩
 case bool=>exact⟨_,hT.2⟩
 case int k=>exact⟨_,hT.2⟩
 case str=>exact⟨_,hT.2⟩
 case lst u=>exact⟨_,hT.2.choose_spec.1⟩
 case pair a b=>exact⟨_,hT.2.choose_spec.1⟩
 case arr n u=>exact⟨_,hT.2.choose_spec.1⟩
 case ref u=>exact⟨_,hT.2.choose_spec⟩
theorem qw {k:IntKind}{T:Nat}(hT:aF P (.int k) T):P.underlying T=some (.int k):=by unfold aF at hT;simp only[TO] at hT;exact hT.2
theorem mQ {T:Nat}(hT:aF P .str T):P.underlying T=some .string:=by unfold aF at hT;simp only[TO] at hT;exact hT.2
theorem wR {xs:List Int}{B off:Nat}(h:ew w B off 1 (aa w I (.int .u8)) xs):∀i,i<xs.length→w.cell? ⟨B,off+i,none⟩=some (.int .u8 (xs.getD i 0)):=by
 intro i hi
 obtain⟨cs,h1,h2,h3⟩:=h i _ (kJ (z:=(0:Int)) hi)
 simp only[aa] at h3
 have:=h2 0 (by omega)
 subst h3
 simpa using this
theorem uT {S T:Nat}{x:Operand}{ax:AT}{dst:Nat}(hC:bH P C)(ho:o.op = .convert S T x)(hm:aD F m w I ρ)(hx:au w I m ρ ax (a.eval x))
  (hd:oZ C m dst S T ax=some d) (hok:∀b∈d.ok,b=true):aA P F o a w m I ρ d:=by
 unfold oZ at hd
 split at hd
 ·rename_i k' n sS k hS hT
  cases hd
  have e:=cJ.1 hx
  obtain⟨dS,hdS⟩:=(hC.ty hS).under
  have hdT:=qw (hC.ty hT)
  exact aA.value hm (by simp[execOp,ho,e,convert,run_underlying hdS,run_underlying hdT,Conv.intToInt]) (cJ.2 rfl)
 ·rename_i s sS hS hT
  cases hd
  have e:=gA.1 hx
  obtain⟨dS,hdS⟩:=(hC.ty hS).under
  have hdT:=mQ (hC.ty hT)
  refine aA.value hm (v:=.string ⟨s.toArray⟩) ?_ (gA.2 rfl)
  simp[execOp,ho,e,convert,run_underlying hdS,run_underlying hdT]
 ·rename_i s hS hT
  cases hd
  have hmax:s.length≤dh:=by simpa using hok
  have e:=gA.1 hx
  have hdS:=mQ (hC.ty hS)
  obtain⟨E,h1,h2,h3⟩:=gR (hC.ty hT)
  have hdE:=qw h3
  have hrun:=run_bytes_of_string (P:=P) w S T E ⟨s.toArray⟩ hdS h1 hdE
  have hsz:(⟨s.toArray⟩:ByteArray).size=s.length:=by simp[ByteArray.size]
  have hge:=grownCap_ge w s.length 0 E
  rw[hsz] at hrun
  have hrow:bytesRow ⟨s.toArray⟩ (grownCap w s.length 0 E)=((s.map fun b=>Value.int .u8 b.toNat)++List.replicate (grownCap w s.length 0 E-s.length) (Value.int .u8 0)).toArray:=by
   apply Array.ext'
   simp[bytesRow,hsz]
  rw[hrow] at hrun
  have hr:aR (aa w I (.int .u8)) (bytesOf s) (s.map fun b=>Value.int .u8 b.toNat):=aR.mono (fun x vs h=>by simpa only[aa] using h) (oO s)
  obtain⟨hd,hs⟩:=aC.grown (E:=E) (t:=.int .u8) (rest:=List.replicate (grownCap w s.length 0 E-s.length) (Value.int .u8 0)) hm dst (aU m dst) (fun b0 h=>jH h) (by simp[Ty.size]) hr s.length (grownCap w s.length 0 E) (by simp[bytesOf]) hge (by simp[Ty.size];omega)
   (((s.map fun b=>Value.int .u8 b.toNat)++List.replicate (grownCap w s.length 0 E-s.length) (Value.int .u8 0)).toArray.size,((s.map fun b=>Value.int .u8 b.toNat)++List.replicate (grownCap w s.length 0 E-s.length) (Value.int .u8 0)).toArray.size+1) (fun j hj=>by dsimp only;omega)
  exact aA.world (by simp only[execOp,ho,e,Sem.run_bind,hrun,Result.andThen_ok];rfl) (by rw[MF.cO];exact hd) (by rw[MF.cO];exact hs)
 ·rename_i hS hT
  split at hd
  ·rename_i dv hv
   simp only[Option.map_eq_some_iff] at hd
   obtain⟨xs,hxs,rfl⟩:=hd
   obtain⟨E,h1,h2,h3⟩:=gR (hC.ty hS)
   have hdE:=qw h3
   have hdT:=mQ (hC.ty hT)
   obtain⟨ad,cap,e1,e2,e3⟩:=pV hm hx hv hxs
   have key:(convert S T (.slice ad xs.length cap)).run P w = .ok (.string ⟨(qp xs).toArray⟩) w:=by
    rcases e3 with e3|⟨B,off,e3,e4⟩
    ·subst e3
     cases ad with
     |none=>exact run_convert_bytes_nil w S E h1 hdE 0 cap T hdT
     |some ad=>
      rw[run_convert_bytes_string w S T E _ _ cap h1 hdE hdT]
      have:(loadCells ad 0).run P w = .ok (([]:List Int).map (Value.int .u8)).toArray w:=by simp[loadCells,loadCellsFrom]
      exact run_bytesToString w ad 0 cap [] this
    ·subst e3
     have:=run_convert_bytes_arg w S E h1 hdE B off xs.length cap xs rfl (wR e4) T hdT
     rw[this]
     rfl
   exact aA.value hm (v:=.string ⟨(qp xs).toArray⟩) (by simp[execOp,ho,e1,key]) (gA.2 rfl)
  ·simp at hd
 ·simp at hd
theorem u0 {T:Nat}{x:Operand}{ax:AT}{n:Int}(hC:bH P C)(ho:o.op = .call ⟨.builtin .len,#[x],#[T]⟩)(hm:aD F m w I ρ)(hx:au w I m ρ ax (a.eval x))
  (hlt:nU C T ax=true) (hn:jD m ax=some n):aA P F o a w m I ρ ⟨.leaf (.int .i64) n,[],[]⟩:=by
 have fin:∀{v:Value},a.eval x=v→(Builtin.len_ #[T] o.type #[v]).run P w = .ok (goInt n) w→aA P F o a w m I ρ ⟨.leaf (.int .i64) n,[],[]⟩:=by
  intro v hv hr
  refine aA.value hm (v:=.int .i64 n) ?_ (cJ.2 rfl)
  simp[execOp,ho,resolve,invoke,builtin,hv,hr,goInt]
 have sl:∀{ad:Option Addr} {l c:Nat},(∃t,C.ty T=some (.lst t))→n=(l:Int)→(Builtin.len_ #[T] o.type #[.slice ad l c]).run P w = .ok (goInt n) w:=by
  rintro ad l c ⟨t,ht⟩ rfl
  obtain⟨E,h1,h2,h3⟩:=gR (hC.ty ht)
  simp[Builtin.len_,run_underlying h1]
 have lt:(∀s,ax ≠ .leaf .str s)→∃t,C.ty T=some (.lst t):=by
  intro hne
  unfold nU at hlt
  split at hlt
  ·exact absurd rfl (hne _)
  ·split at hlt
   ·rename_i t ht;exact⟨_,ht⟩
   ·simp at hlt
 unfold jD at hn
 split at hn<;>try simp only[Option.some.injEq,reduceCtorEq] at hn
 ·subst hn
  have e:=gA.1 hx
  have ht:=mQ (hC.ty (fJ hlt))
  rename_i s
  exact fin e (by have:=run_len_string (P:=P) w T o.type ⟨s.toArray⟩ ht;rw[this];rfl)
 ·rename_i t xs
  have hx':=bQ (a:=.leaf (.lst t) xs) rfl hx (by simp) (by simp) (by simp) (by simp)
  simp only[af,aa,List.cons.injEq,and_true] at hx'
  obtain⟨ad,cap,e1,_⟩:=hx'
  exact fin e1 (sl (lt (by simp)) hn.symm)
 ·have e:=mN (.inl rfl) hx
  exact fin e (sl (lt (by simp)) hn.symm)
 ·have e:=mN (t:=.unit) (.inr rfl) hx
  exact fin e (sl (lt (by simp)) hn.symm)
 ·split at hn
  ·rename_i xs hr
   obtain⟨b,hb,hst,bU⟩:=kP hr
   obtain⟨ad,cap,e1,_⟩:=kO hx hb hst bU
   exact fin e1 (sl (lt (by simp)) (by simpa using hn.symm))
  ·simp at hn
 ·rename_i id st off len t
  split at hn
  ·rename_i r hr
   obtain⟨fz,xs⟩:=r
   obtain⟨ad,cap,e1,_⟩:=kN hx hr
   exact fin e1 (sl (lt (by simp)) (by simpa using hn.symm))
  ·simp at hn
end
end Go.Ab
namespace Go.Ab
inductive cB {α β:Type} (R:α→β→Prop):List α→List β→Prop where
 |nil:cB R [] []
 |cons {a:α} {b:β} {l:List α} {l':List β}:R a b→cB R l l'→cB R (a::l) (b::l')
section
variable {P:Program} {F:Fix} {C:Cx} {o:Oper} {a:Act} {w:World} {m:MF} {I:Nat→Prop} {ρ:Pl} {d:aE}
theorem va {args:Array Operand}{ts:Array Nat}{as:List AT}(ho:o.op = .call ⟨.builtin .min,args,ts⟩)(hm:aD F m w I ρ)(hs:cB (au w I m ρ) as (args.toList.map a.eval))
  (hd:minD as=some d):aA P F o a w m I ρ d:=by
 unfold minD at hd
 split at hd
 ·rename_i k x k' y
  cases hd
  generalize e0:args.toList.map a.eval=vs at hs
  cases hs with
  |cons h1 h2=>
  cases h2 with
  |cons h3 h4=>
  cases h4
  have e1:=cJ.1 h1
  have e2:=cJ.1 h3
  subst e1 e2
  refine aA.value hm (v:=.int k (if y<x then y else x)) ?_ (cJ.2 rfl)
  simp[execOp,ho,resolve,invoke,builtin,Builtin.min_,e0,Builtin.min2]
 ·simp at hd
theorem u_ {args:Array Operand}{ts:Array Nat}{as:List AT}(ho:o.op = .call ⟨.builtin .max,args,ts⟩)(hm:aD F m w I ρ)(hs:cB (au w I m ρ) as (args.toList.map a.eval))
  (hd:maxD as=some d):aA P F o a w m I ρ d:=by
 unfold maxD at hd
 split at hd
 ·rename_i k x k' y
  cases hd
  generalize e0:args.toList.map a.eval=vs at hs
  cases hs with
  |cons h1 h2=>
  cases h2 with
  |cons h3 h4=>
  cases h4
  have e1:=cJ.1 h1
  have e2:=cJ.1 h3
  subst e1 e2
  refine aA.value hm (v:=.int k (if x<y then y else x)) ?_ (cJ.2 rfl)
  simp[execOp,ho,resolve,invoke,builtin,Builtin.max_,e0,Builtin.max2]
 ·simp at hd
theorem jM {x:AT}{v:Value}(h:x.slot=true):au w I m ρ x v↔aB w I m ρ x v:=by
 cases x<;>first|exact Iff.rfl|simp[AT.slot,AT.one] at h
theorem wm {x:AT}{v:Value}(h:x.one=true)(hs:au w I m ρ x v):af w I m ρ x [v]:=by
 have ha:x.isAgg=false:=by
  cases x with
  |leaf t y=>
   show t.isAgg=false
   simp only[AT.one] at h
   cases hb:t.isAgg with
   |false=>rfl
   |true=>rw[hb] at h;cases h
  |nest _ _ _ _ _ u=>
   show u.isAgg=false
   simp only[AT.one] at h
   cases hb:u.isAgg with
   |false=>rfl
   |true=>rw[hb] at h;cases h
  |pair l r=>simp[AT.one] at h
  |_=>rfl
 refine bQ ha hs ?_ ?_ ?_ ?_
 ·intro l r e;subst e;simp[AT.one] at h
 ·intro e;subst e;simp[AT.one] at h
 ·intro e;subst e;simp[AT.one] at h
 ·intro g b e;subst e;simp[AT.one] at h
theorem xx:∀{x y:AT} {i:Nat} {vs:List Value},cD w I m ρ x vs→bP (ic x) i=some y→∃v,vs[i]?=some v∧aB w I m ρ y v:=by
 intro x
 induction x with
 |bB l r _ ihr=>
  intro y i vs h hn
  simp only[cD] at h
  obtain⟨v,vs',rfl,h1,h2⟩:=h
  cases i with
  |zero=>simp only[ic,bP,Option.some.injEq] at hn;subst hn;exact⟨v,rfl,h1⟩
  |succ i=>simp only[ic,bP] at hn;simpa using ihr h2 hn
 |_=>intro y i vs h hn;simp[ic,bP] at hn
theorem uV {x:Operand}{i:Nat}{ax:AT}(ho:o.op = .extract x i)(hm:aD F m w I ρ)(hx:au w I m ρ ax (a.eval x))(hd:o7 ax i=some d):aA P F o a w m I ρ d:=by
 unfold o7 at hd
 split at hd
 ·rename_i y hy
  cases hs:y.slot with
  |false=>simp[hs] at hd
  |true=>
   simp only[hs,cond_true,Option.some.injEq] at hd
   subst hd
   cases ax<;>try (simp[ic,bP] at hy;done)
   rename_i l r
   obtain⟨arr,e,ht⟩:=hx
   obtain⟨v,hv,dO⟩:=xx ht hy
   refine aA.value hm (v:=v) ?_ ((jM hs).2 dO)
   have:arr[i]?=some v:=by simpa using hv
   simp[execOp,ho,e,Instr.extract,this]
 ·simp at hd
theorem tT:∀{as:List AT} {vs:List Value},cB (au w I m ρ) as vs→cn AT.one as=true→af w I m ρ (k_ as) vs
 | [],_,h,_=>by cases h;rfl
 |x::as,_,h,hall=>by
  cases h with
  |cons h1 h2=>
  simp only[cn,Bool.and_eq_true] at hall
  exact⟨_,_,rfl,wm hall.1 h1,tT h2 hall.2⟩
theorem u6 {g:Nat}{first caps:Array Operand}{as:List AT}(ho:o.op = .makeFunc (.func g) first caps)(hm:aD F m w I ρ)(hf:first.toList.isEmpty=true)(hs:cB (au w I m ρ) as (caps.toList.map a.eval))(hall:cn AT.one as=true) :
  aA P F o a w m I ρ ⟨.fn g (k_ as),[],[]⟩:=by
 have h0:first = #[]:=by
  apply Array.ext'
  simpa using hf
 subst h0
 refine aA.value hm (v:=.func (.func g) #[] (caps.map a.eval)) (by simp[execOp,ho,Instr.makeFunc]) ?_
 show aB _ _ _ _ _ _
 unfold aB
 simp only[AT.isAgg,Bool.false_eq_true,if_false,af]
 exact⟨_,rfl,by simpa using tT hs hall⟩
theorem vb {x:Operand}{ax:AT}(ho:o.op = .nilCheck x)(hm:aD F m w I ρ)(hx:au w I m ρ ax (a.eval x))(hd:p9 m ax=some d):aA P F o a w m I ρ d:=by
 have fin:∀{ad:Addr},a.eval x = .pointer (some ad)→aA P F o a w m I ρ ⟨ax,[],[]⟩:=fun e=>aA.value hm (v:=a.eval x) (by simp[execOp,ho,e]) hx
 unfold p9 at hd
 split at hd
 ·rename_i id st row p
  split at hd
  ·rename_i st' fz t xs hc
   cases hd
   obtain⟨hb,hst⟩:=cp hc
   have hx':=bQ (a:=.ptr id st row p) rfl hx (by simp) (by simp) (by simp) (by simp)
   simp only[af] at hx'
   obtain⟨_,_,h3⟩:=hx'
   obtain⟨_,_,B,o',_,e2⟩:=h3 _ hb hst t xs.length rfl
   exact fin (by simpa using e2)
  ·rename_i st' fz rs t xs hc
   cases hd
   obtain⟨hb,hst⟩:=cp hc
   have hx':=bQ (a:=.ptr id st row p) rfl hx (by simp) (by simp) (by simp) (by simp)
   simp only[af] at hx'
   obtain⟨_,_,h3⟩:=hx'
   obtain⟨_,_,B,o',_,e2⟩:=h3 _ hb hst t xs.length rfl
   exact fin (by simpa using e2)
  ·simp at hd
 ·rename_i id st p
  split at hd
  ·rename_i st' fz t b hc
   cases hd
   obtain⟨hb,hst⟩:=cp hc
   have hx':=bQ (a:=.aZ id st p) rfl hx (by simp) (by simp) (by simp) (by simp)
   simp only[af] at hx'
   obtain⟨_,_,h3⟩:=hx'
   obtain⟨_,B,_,e2⟩:=h3 _ hb hst t b rfl
   exact fin (by simpa using e2)
  ·simp at hd
 ·rename_i t y
  cases hd
  have hx':=bQ (a:=.leaf (.ref t) y) rfl hx (by simp) (by simp) (by simp) (by simp)
  simp only[af,aa,List.cons.injEq,and_true] at hx'
  obtain⟨B,off,e,_⟩:=hx'
  exact fin e
 ·simp at hd
theorem vc {c x y:Operand}{ac ax ay:AT}(ho:o.op = .pick c x y)(hm:aD F m w I ρ)(hc:au w I m ρ ac (a.eval c))(hx:a.eval c = .bool true→au w I m ρ ax (a.eval x))(hy:a.eval c = .bool false→au w I m ρ ay (a.eval y))
  (hd:mF ac ax ay=some d):aA P F o a w m I ρ d:=by
 unfold mF at hd
 split at hd
 ·rename_i g t u t' u'
  have e:=eo.1 hc
  split at hd
  ·rename_i ht
   subst ht
   cases hd
   cases g with
   |true=>exact aA.value hm (v:=a.eval x) (by simp[execOp,ho,e,asBool]) (hx e)
   |false=>exact aA.value hm (v:=a.eval y) (by simp[execOp,ho,e,asBool]) (hy e)
  ·simp at hd
 ·simp at hd
end
end Go.Ab
namespace Go.Ab
section
variable {P:Program} {F:Fix} {C:Cx} {o:Oper} {a:Act} {w:World} {m:MF} {I:Nat→Prop} {ρ:Pl} {d:aE}
theorem vf {T:Nat}{x l h k:Operand}{ax al ah ak:AT}(hC:bH P C)(ho:o.op = .slice T x (some l) (some h) (some k))(hm:aD F m w I ρ)
  (hx:au w I m ρ ax (a.eval x)) (hl:au w I m ρ al (a.eval l)) (hh:au w I m ρ ah (a.eval h)) (hk:au w I m ρ ak (a.eval k))
  (hd:qn C m T ax al ah ak=some d) (hok:∀b∈d.ok,b=true):aA P F o a w m I ρ d:=by
 unfold qn at hd
 split at hd
 ·rename_i id st t u a0 b0 c0 hu h1 h2 h3
  split at hd
  ·rename_i xs hr
   obtain⟨bz,hd⟩:=aQ hd
   cases hd
   have:=Ty.cA bz
   subst this
   simp only[List.mem_cons,List.not_mem_nil,or_false,forall_eq_or_imp,forall_eq,decide_eq_true_eq] at hok
   obtain⟨E,e1,e2,e3⟩:=gR (hC.ty hu)
   obtain⟨bb,hb',lU,bU⟩:=kP hr
   obtain⟨ad,cap,f1,f2,_⟩:=kO hx hb' lU bU
   obtain⟨ka,hka⟩:=gI h1 hl
   obtain⟨kb,hkb⟩:=gI h2 hh
   obtain⟨kc,hkc⟩:=gI h3 hk
   have b1:=run_sliceBound (P:=P) w kc c0 cap BoundsCode.slice3Acap (by omega) (by omega)
   have b2:=run_sliceBound (P:=P) w kb b0 c0.toNat BoundsCode.slice3B (by omega) (by omega)
   have b3:=run_sliceBound (P:=P) w ka a0 b0.toNat BoundsCode.slice3C (by omega) (by omega)
   refine aA.value hm (v:=.slice (if c0.toNat=a0.toNat then ad else ad.map (·.add (a0.toNat*t.size))) (b0.toNat-a0.toNat) (c0.toNat-a0.toNat)) ?_ ?_
   ·simp[execOp,ho,f1,Instr.sliceAt,run_underlying e1,Instr.slice,Instr.sliceBounds,hka,hkb,hkc,b1,b2,b3,e3.info.run_sizeOf]
   ·show aB _ _ _ _ _ _
    unfold aB
    simp only[AT.isAgg,Bool.false_eq_true,if_false,af]
    exact⟨rfl,fun v hv=>by simp only[List.mem_singleton] at hv;subst hv;rfl⟩
  ·cases hd
 ·cases hd
theorem xH (z:List Value)(n:Nat):(Builtin.zeroCells z.toArray n).toList=(List.replicate n z).flatten:=by
 have:=me z n
 rw[←this]
 simp[Builtin.zeroCells,madeCells]
theorem uS {T:Nat}{xo:Operand}{ax:AT}(hC:bH P C)(ho:o.op = .call ⟨.builtin .clear,#[xo],#[T]⟩)(hm:aD F m w I ρ)
  (hx:au w I m ρ ax (a.eval xo)) (hd:oW C m T ax=some d):aA P F o a w m I ρ d:=by
 unfold oW at hd
 split at hd
 ·rename_i t id st off len u ht
  split at hd
  ·rename_i xs hro
   obtain⟨hb0,hd⟩:=aQ hd
   cases hd
   simp only[Bool.and_eq_true] at hb0
   have:=Ty.cA hb0.2
   subst this
   obtain⟨E,h1,h2,h3⟩:=hC.el ht
   obtain⟨i0,g1,g2,g3,g4⟩:=h3.info.info
   obtain⟨z1,z2⟩:=ju (w:=w) (I:=I) (m:=m) (ρ:=ρ) h3
   have eM:=eW h3 (z1.length z2) (af.bV z1 z2)
   have hzl:=z1.length z2
   have hb:=eR hro
   obtain⟨ad,cap,e1,e2,i_,e3⟩:=kN hx hro
   have hrun0:(zeroValue E).run P w = .ok (aL u (aX u)) w:=h3.info.tE
   have hz:=(oE (w:=w) (I:=I) hb0.1).1 h3
   have hys:aR (aa w I u) (List.replicate len u.dflt) (List.replicate len (aX u)).flatten:=aR.replicate hz len
   have hk:off+(List.replicate len u.dflt).length≤xs.length:=by simp;omega
   have ec:∀{w':World},(Builtin.clear_ #[T] o.type #[a.eval xo]).run P w = .ok (.tuple #[]) w'→(execOp a.eval o).run P w = .ok (.value (.tuple #[])) w':=by
    intro w' h
    simp[execOp,ho,resolve,invoke,builtin,h]
   by_cases hl0:len=0
   ·subst hl0
    have:Go.Ab.over xs off (List.replicate 0 u.dflt)=xs:=by simp[Go.Ab.over]
    rw[this]
    have e:m.put id ⟨st,false,.rows u xs⟩=m:=by
     funext j
     simp only[MF.put]
     by_cases hj:id=j
     ·subst hj;rw[if_pos rfl,hb]
     ·rw[if_neg hj]
    refine aA.world (v:=.tuple #[]) (w':=w) (ec ?_) (by rw[MF.cO,e];exact aC.refl hm) rfl
    rw[e1]
    cases ad<;>simp[Builtin.clear_,run_underlying h1]
   ·rcases aC.over P hm hb hys off hk with⟨q1,q2,q3⟩|⟨B,o',w',q1,q2,q3,q4⟩
    ·subst q1;simp at hk;omega
    ·rcases e3.1 with e3|⟨B',cH,cs,r1,r2,r3,r4⟩
     ·omega
     ·rw[q1] at r1
      cases r1
      subst r2
      refine aA.world (v:=.tuple #[]) (w':=w') (ec ?_) (by rw[MF.cO];exact q3) rfl
      rw[e1]
      have hzz:(Builtin.zeroCells (aL u (aX u)).cells len).toList=(List.replicate len (aX u)).flatten:=by
       rw[eM];exact xH _ _
      cases len with
      |zero=>exact absurd rfl hl0
      |succ k=>simp[Builtin.clear_,run_underlying h1,hrun0,hzz,q2]
  ·cases hd
 ·cases hd
end
end Go.Ab
namespace Go.Ab
section
variable {P:Program} {F:Fix} {C:Cx} {o:Oper} {a:Act} {w:World} {m:MF} {I:Nat→Prop} {ρ:Pl} {d:aE}
def MF.on (m:MF)(p:Nat→Bool):MF:=fun i=>bif p i then m i else none
theorem MF.jJ {p:Nat→Bool}{i:Nat}{b:ag}(h:m.on p i=some b):p i=true∧m i=some b:=by
 unfold MF.on at h
 cases hp:p i with
 |true=>simpa[hp] using h
 |false=>simp[hp] at h
theorem MF.jq {p:Nat→Bool}{i:Nat}(h:p i=true):m.on p i=m i:=by simp[MF.on,h]
theorem af.sub {m':MF}{ρ':Pl}(hs:∀id b,m id=some b→m' id=some b∧ρ' id=ρ id):∀{x:AT} {vs:List Value},af w I m ρ x vs→af w I m' ρ' x vs:=by
 have ref:∀{id st:Nat},bR m id st→bR m' id st∧m' id=m id∧ρ' id=ρ id:=by
  rintro id st ⟨b,hb,h⟩
  obtain⟨h1,h2⟩:=hs id b hb
  exact⟨⟨b,h1,h⟩,by rw[h1,hb],h2⟩
 intro x
 induction x with
 |leaf t x=>intro vs h;exact h
 |whole id st t=>
  intro vs h
  simp only[af] at h ⊢
  obtain⟨h1,h2,h3⟩:=h
  obtain⟨r1,r2,r3⟩:=ref h2
  refine⟨h1,r1,fun b hb hst u xs hc=>?_⟩
  obtain⟨ad,cap,e1,e2,e3⟩:=h3 b (r2▸hb) hst u xs hc
  exact⟨ad,cap,e1,e2,by unfold eu at *;rw[r3];exact e3⟩
 |piece id st off len t=>
  intro vs h
  simp only[af] at h ⊢
  obtain⟨h1,h2,h3⟩:=h
  obtain⟨r1,r2,r3⟩:=ref h2
  refine⟨h1,r1,fun b hb hst u xs hc=>?_⟩
  obtain⟨ad,cap,e1,e2,i_,e3⟩:=h3 b (r2▸hb) hst u xs hc
  exact⟨ad,cap,e1,e2,i_,by unfold f_ eu at *;rw[r3];exact e3⟩
 |nil t=>intro vs h;exact h
 |cy=>intro vs h;exact h
 |pair l r ihl ihr=>
  intro vs h
  simp only[af] at h ⊢
  obtain⟨v1,v2,e,h1,h2⟩:=h
  exact⟨v1,v2,e,ihl h1,ihr h2⟩
 |undef n=>intro vs h;exact h
 |aZ id st p=>
  intro vs h
  simp only[af] at h ⊢
  obtain⟨h1,h2,h3⟩:=h
  obtain⟨r1,r2,r3⟩:=ref h2
  refine⟨h1,r1,fun b hb hst t a hc=>?_⟩
  rw[r3]
  exact h3 b (r2▸hb) hst t a hc
 |ptr id st row p=>
  intro vs h
  simp only[af] at h ⊢
  obtain⟨h1,h2,h3⟩:=h
  obtain⟨r1,r2,r3⟩:=ref h2
  refine⟨h1,r1,fun b hb hst t xs hc=>?_⟩
  rw[r3]
  exact h3 b (r2▸hb) hst t xs hc
 |nest id st rs row p u=>
  intro vs h
  simp only[af] at h ⊢
  obtain⟨h1,h10,h2,h3⟩:=h
  obtain⟨r1,r2,r3⟩:=ref h2
  refine⟨h1,h10,r1,fun b hb hst r t xs hc=>?_⟩
  rw[r3]
  exact h3 b (r2▸hb) hst r t xs hc
 |fn f c ih=>
  intro vs h
  simp only[af] at h ⊢
  obtain⟨caps,e,h⟩:=h
  exact⟨caps,e,ih h⟩
 |bB l r ihl ihr=>
  intro vs h
  simp only[af] at h ⊢
  obtain⟨v,vs',e,h1,h2⟩:=h
  exact⟨v,vs',e,ihl h1,ihr h2⟩
 |b7=>intro vs h;exact h
 |bC T a ih=>intro vs h;simp only[af] at h
 |any=>intro vs h;simp only[af] at h
theorem af.cut {p:Nat→Bool}:∀{x:AT} {vs:List Value},(∀id∈x.ids,p id=true)→af w I m ρ x vs→af w I (m.on p) ρ x vs:=by
 have ref:∀{id st:Nat},p id=true→bR m id st→bR (m.on p) id st:=by
  rintro id st hp ⟨b,hb,h⟩
  exact⟨b,by rw[MF.jq hp,hb],h⟩
 intro x
 induction x with
 |leaf t x=>intro vs _ h;exact h
 |whole id st t=>
  intro vs hp h
  simp only[af] at h ⊢
  obtain⟨h1,h2,h3⟩:=h
  have aO:p id=true:=hp id (by simp[AT.ids])
  exact⟨h1,ref aO h2,fun b hb=>h3 b (by rwa[MF.jq aO] at hb)⟩
 |piece id st off len t=>
  intro vs hp h
  simp only[af] at h ⊢
  obtain⟨h1,h2,h3⟩:=h
  have aO:p id=true:=hp id (by simp[AT.ids])
  exact⟨h1,ref aO h2,fun b hb=>h3 b (by rwa[MF.jq aO] at hb)⟩
 |nil t=>intro vs _ h;exact h
 |cy=>intro vs _ h;exact h
 |pair l r ihl ihr=>
  intro vs hp h
  simp only[af] at h ⊢
  obtain⟨v1,v2,e,h1,h2⟩:=h
  exact⟨v1,v2,e,ihl (fun id hi=>hp id (bp.2 (.inl hi))) h1,ihr (fun id hi=>hp id (bp.2 (.inr hi))) h2⟩
 |undef n=>intro vs _ h;exact h
 |aZ id st q=>
  intro vs hp h
  simp only[af] at h ⊢
  obtain⟨h1,h2,h3⟩:=h
  have aO:p id=true:=hp id (by simp[AT.ids])
  exact⟨h1,ref aO h2,fun b hb=>h3 b (by rwa[MF.jq aO] at hb)⟩
 |ptr id st row q=>
  intro vs hp h
  simp only[af] at h ⊢
  obtain⟨h1,h2,h3⟩:=h
  have aO:p id=true:=hp id (by simp[AT.ids])
  exact⟨h1,ref aO h2,fun b hb=>h3 b (by rwa[MF.jq aO] at hb)⟩
 |nest id st rs row q u=>
  intro vs hp h
  simp only[af] at h ⊢
  obtain⟨h1,h10,h2,h3⟩:=h
  have aO:p id=true:=hp id (by simp[AT.ids])
  exact⟨h1,h10,ref aO h2,fun b hb=>h3 b (by rwa[MF.jq aO] at hb)⟩
 |fn f c ih=>
  intro vs hp h
  simp only[af] at h ⊢
  obtain⟨caps,e,h⟩:=h
  exact⟨caps,e,ih (fun id hi=>hp id hi) h⟩
 |bB l r ihl ihr=>
  intro vs hp h
  simp only[af] at h ⊢
  obtain⟨v,vs',e,h1,h2⟩:=h
  exact⟨v,vs',e,ihl (fun id hi=>hp id (bp.2 (.inl hi))) h1,ihr (fun id hi=>hp id (bp.2 (.inr hi))) h2⟩
 |b7=>intro vs _ h;exact h
 |bC T a ih=>intro vs _ h;simp only[af] at h
 |any=>intro vs _ h;simp only[af] at h
theorem aB.sub {m':MF}{ρ':Pl}(hs:∀id b,m id=some b→m' id=some b∧ρ' id=ρ id){x:AT}{v:Value}(h:aB w I m ρ x v):aB w I m' ρ' x v:=by
 unfold aB at *
 split
 ·rename_i hh;rw[if_pos hh] at h;obtain⟨arr,e,h⟩:=h;exact⟨arr,e,h.sub hs⟩
 ·rename_i hh;rw[if_neg hh] at h;exact h.sub hs
theorem aB.cut {p:Nat→Bool}{x:AT}{v:Value}(hp:∀id∈x.ids,p id=true)(h:aB w I m ρ x v):aB w I (m.on p) ρ x v:=by
 unfold aB at *
 split
 ·rename_i hh;rw[if_pos hh] at h;obtain⟨arr,e,h⟩:=h;exact⟨arr,e,h.cut hp⟩
 ·rename_i hh;rw[if_neg hh] at h;exact h.cut hp
theorem cD.sub {m':MF}{ρ':Pl}(hs:∀id b,m id=some b→m' id=some b∧ρ' id=ρ id):∀{x:AT} {vs:List Value},cD w I m ρ x vs→cD w I m' ρ' x vs:=by
 intro x
 induction x with
 |bB l r _ ih=>intro vs h;simp only[cD] at h ⊢;obtain⟨v,vs',e,h1,h2⟩:=h;exact⟨v,vs',e,h1.sub hs,ih h2⟩
 |b7=>intro vs h;exact h
 |_=>intro vs h;simp only[cD] at h
theorem cD.cut {p:Nat→Bool}:∀{x:AT} {vs:List Value},(∀id∈x.ids,p id=true)→cD w I m ρ x vs→cD w I (m.on p) ρ x vs:=by
 intro x
 induction x with
 |bB l r _ ih=>
  intro vs hp h
  simp only[cD] at h ⊢
  obtain⟨v,vs',e,h1,h2⟩:=h
  exact⟨v,vs',e,h1.cut (fun id hi=>hp id (bp.2 (.inl hi))),ih (fun id hi=>hp id (bp.2 (.inr hi))) h2⟩
 |b7=>intro vs _ h;exact h
 |_=>intro vs _ h;simp only[cD] at h
theorem au.sub {m':MF}{ρ':Pl}(hs:∀id b,m id=some b→m' id=some b∧ρ' id=ρ id){x:AT}{v:Value}(h:au w I m ρ x v):au w I m' ρ' x v:=by
 cases x<;>simp only[au] at h ⊢ <;>first
  |exact h
  | (obtain⟨arr,e,h⟩:=h;exact⟨arr,e,h.sub hs⟩)
  |exact aB.sub hs h
theorem au.cut {p:Nat→Bool}{x:AT}{v:Value}(hp:∀id∈x.ids,p id=true)(h:au w I m ρ x v):au w I (m.on p) ρ x v:=by
 cases x<;>simp only[au] at h ⊢ <;>first
  |exact h
  | (obtain⟨arr,e,h⟩:=h;exact⟨arr,e,h.cut hp⟩)
  |exact aB.cut hp h
def kA (m:MF)(p:Nat→Bool):Prop:=∀id b t x,p id=true→m id=some b→b.c = .var t x→∀j∈x.ids,p j=true
theorem aD.cut {p:Nat→Bool}(hm:aD F m w I ρ)(bI:kA m p) :
  aD ⟨w,I,fun B=>∃id b,p id=true∧m id=some b∧b.live∧bE ρ id b B,F.G⟩ (m.on p) w I ρ:=by
 refine⟨fun id b hb=>?_,fun id id' b b' B o o' h1 h2=>hm.inj id id' b b' B o o' (MF.jJ h1).2 (MF.jJ h2).2,hm.aV,fun B h=>h,fun B h=>.inl h,fun id b B o' hb hl hr=>.inr ⟨id,b,(MF.jJ hb).1,(MF.jJ hb).2,hl,.inl ⟨_,hr⟩⟩,fun id b hb hd=>?dp,fun B _ _=>rfl,Nat.le_refl _,rfl,rfl,rfl,hm.ez⟩
 obtain⟨hp,hb0⟩:=MF.jJ hb
 have h:=hm.blk id b hb0
 unfold aS at h ⊢
 split
 ·trivial
 ·rename_i t x e
  simp only[e] at h
  obtain⟨h1,B,cs,h2,h3,h4,h5⟩:=h
  exact⟨h1,B,cs,h2,h3,h4.cut (bI id b t x hp hb0 e),h5⟩
 ·rename_i t xs e
  simp only[e] at h
  exact h
 ·rename_i rs t xs e
  simp only[e] at h
  exact h
 case dp=>
  obtain⟨hp,hb0⟩:=MF.jJ hb
  obtain⟨k1,k2⟩:=hm.dp id b hb0 hd
  refine⟨k1,fun B hB=>?_⟩
  obtain⟨q1,q2,q3⟩:=k2 B hB
  exact⟨.inr ⟨id,b,hp,hb0,dL hd,.inr ⟨hd,hB⟩⟩,fun id' b' o h1 h2=>q2 id' b' o (MF.jJ h1).2 h2,fun id' b' h1 h2 h3=>q3 id' b' (MF.jJ h1).2 h2 h3⟩
theorem qy {p:Nat→Bool}{l:List (Nat×ag)}(_hp:∀x∈l,p x.1=true)(i:Nat)(h:p i=true):(m.on p).aj l i=m.aj l i:=by
 unfold MF.aj
 rw[MF.jq h]
theorem d_ {α:Type}:∀{l:List (Nat×α)} {i:Nat} {x:α},find l i=some x→(i,x)∈l
 | [],i,x,h=>by simp[find] at h
 | (j,y)::l,i,x,h=>by
  rw[aG] at h
  split at h
  ·rename_i e
   subst e
   cases h
   simp
  ·exact List.mem_cons_of_mem _ (d_ h)
theorem ua {p:Nat→Bool}{l:List (Nat×ag)}(hp:∀x∈l,p x.1=true)(i:Nat)(h:p i=false):m.aj l i=m i∧(m.on p).aj l i=none:=by
 have:find l i=none:=by
  cases hf:find l i with
  |none=>rfl
  |some b=>have:=hp _ (d_ hf);simp[h] at this
 simp[MF.aj,this,MF.on,h]
def Pl.on (p:Nat→Bool)(ρ' ρ:Pl):Pl:=⟨fun id=>bif p id then ρ' id else ρ id,fun id=>bif p id then ρ'.d id else ρ.d id⟩
theorem aC.lift {p:Nat→Bool}{l:List (Nat×ag)}{w':World}{I':Nat→Prop}{ρ':Pl}(hm:aD F m w I ρ)(hp:∀x∈l,p x.1=true)
  (hd:aC ⟨w,I,fun B=>∃id b,p id=true∧m id=some b∧b.live∧bE ρ id b B,F.G⟩ (m.on p) ((m.on p).aj l) w w' I I' ρ ρ') :
  aC F m (m.aj l) w w' I I' ρ (Pl.on p ρ' ρ)∧(∀id b,(m.on p).aj l id=some b→m.aj l id=some b∧(Pl.on p ρ' ρ) id=ρ' id):=by
 have hsub:∀id b,(m.on p).aj l id=some b→m.aj l id=some b∧(Pl.on p ρ' ρ) id=ρ' id:=by
  intro id b hb
  cases aO:p id with
  |true=>rw[qy hp id aO] at hb;exact⟨hb,by simp[Pl.on,aO]⟩
  |false=>rw[(ua hp id aO).2] at hb;cases hb
 have hin:∀id,p id=true→∀b,m.aj l id=some b→(m.on p).aj l id=some b:=fun id aO b hb=>by rw[qy hp id aO];exact hb
 have hout:∀id,p id=false→m.aj l id=m id:=fun id aO=>(ua hp id aO).1
 have e1:∀id,p id=true→(Pl.on p ρ' ρ) id=ρ' id∧(Pl.on p ρ' ρ).d id=ρ'.d id:=fun id h=>by simp[Pl.on,h]
 have e2:∀id,p id=false→(Pl.on p ρ' ρ) id=ρ id∧(Pl.on p ρ' ρ).d id=ρ.d id:=fun id h=>by simp[Pl.on,h]
 have hkeep:∀id b B,p id=false→m id=some b→b.live→bE ρ id b B→w'.heap[B]?=w.heap[B]?∧(I' B→I B)∧B<w.heap.size ∧
   ¬∃id b,p id=true∧m id=some b∧b.live∧bE ρ id b B:=by
  intro id b B aO hb hl hr
  have hlt:B<w.heap.size:=by
   rcases hr with⟨o,hr⟩|⟨bL,hr⟩
   ·exact hm.lt hb hl hr
   ·exact(hm.dlt hb bL hr).1
  have hnx:¬∃id b,p id=true∧m id=some b∧b.live∧bE ρ id b B:=by
   rintro⟨id2,b2,h1,h2,h3,h4⟩
   have:=hm.gM hb hl hr h2 h3 h4
   subst this
   simp[aO] at h1
  refine⟨hd.mem.frame B hlt hnx,fun hI=>?_,hlt,hnx⟩
  rcases hd.mem.fI B hI with h|h|h
  ·exact h
  ·exact absurd hlt (Nat.not_lt.2 h)
  ·exact absurd h hnx
 have hk:cC m (m.aj l) ρ (Pl.on p ρ' ρ) w w':=by
  refine⟨fun id b hb=>?_,fun id b b' rs t u xs ys hb hb' hst hc aJ B o hB=>?_⟩
  ·cases aO:p id with
   |true=>
    obtain⟨b',h1,h2⟩:=hd.keep.keep id b (by rw[MF.jq aO];exact hb)
    rw[qy hp id aO] at h1
    rw[(e1 id aO).1]
    exact⟨b',h1,h2⟩
   |false=>
    refine⟨b,by rw[hout id aO];exact hb,?_⟩
    exact .inr ⟨rfl,bt.refl _,(e2 id aO).1,fun hl B o' hr cs hc=>⟨cs,hc.of_same (hkeep id b B aO hb hl (.inl ⟨_,hr⟩)).1,Nat.le_refl _⟩⟩
  ·cases aO:p id with
   |true=>exact hd.keep.nest id b b' rs t u xs ys (by rw[MF.jq aO];exact hb) (hin id aO b' hb') hst hc aJ B o hB
   |false=>exact(hkeep id b B aO hb (by unfold ag.live;rw[hc];trivial) (.inl ⟨_,hB⟩)).1
 have mixed:∀i j bi bj B,p i=true→p j=false→m.aj l i=some bi→m.aj l j=some bj→bi.live→bj.live→bE ρ' i bi B→bE ρ j bj B→False:=by
  intro i j bi bj B aO b_ hJ hbj hli hlj hri hrj
  rw[hout j b_] at hbj
  obtain⟨_,_,hlt,hnx⟩:=hkeep j bj B b_ hbj hlj hrj
  have:w.heap.size≤B∨∃id b,p id=true∧m id=some b∧b.live∧bE ρ id b B:=by
   rcases hri with⟨o,hri⟩|⟨bL,hri⟩
   ·exact hd.mem.mine i bi B o (hin i aO bi hJ) hli hri
   ·exact((hd.mem.dp i bi (hin i aO bi hJ) bL).2 B hri).1
  rcases this with h|h
  ·exact absurd hlt (Nat.not_lt.2 h)
  ·exact hnx h
 have up:∀B,(w.heap.size≤B∨∃id b,p id=true∧m id=some b∧b.live∧bE ρ id b B)→F.w0.heap.size≤B∨F.X0 B:=by
  rintro B (h|⟨id2,b2,h1,h2,h3,⟨o,h4⟩|⟨h4,h5⟩⟩)
  ·exact .inl (Nat.le_trans hm.size h)
  ·exact hm.mine id2 b2 B o h2 h3 h4
  ·exact((hm.dp id2 b2 h2 h4).2 B h5).1
 refine⟨⟨hd.agree,hk,?_⟩,hsub⟩
 refine { blk:=?_,inj:=?_,aV:=hd.mem.aV,fX:=fun B h=>hd.mem.fX B (hm.fX B h),fI:=?_,mine:=?_,dp:=?_,frame:=?_,size:=Nat.le_trans hm.size hd.mem.size,os:=hd.mem.os.trans hm.os,tape:=hd.mem.tape.trans hm.tape,output:=hd.mem.output.trans hm.output,ez:=F.G.mono hd.agree hm.ez }
 ·intro id b hb
  cases aO:p id with
  |true=>
   have h:=hd.mem.blk id b (hin id aO b hb)
   obtain⟨hρ,lW⟩:=e1 id aO
   unfold aS at h ⊢
   split
   ·trivial
   ·rename_i t x e
    simp only[e] at h
    obtain⟨h1,B,cs,h2,h3,h4,h5⟩:=h
    exact⟨h1,B,cs,hρ.trans h2,h3,h4.sub hsub,h5⟩
   ·rename_i t xs e
    simp only[e] at h
    obtain⟨h0,h⟩:=h
    refine⟨h0,h.imp (fun⟨h1,h2⟩=>⟨h1,hρ.trans h2⟩) ?_⟩
    rintro⟨B,o',cs,h2,h3⟩
    exact⟨B,o',cs,hρ.trans h2,h3⟩
   ·rename_i rs t xs e
    simp only[e] at h
    obtain⟨h0,h⟩:=h
    refine⟨h0,h.imp (fun⟨h1,h2,h3⟩=>⟨h1,hρ.trans h2,lW.trans h3⟩) ?_⟩
    rintro⟨B,o',cs,h2,h3⟩
    exact⟨B,o',cs,hρ.trans h2,by rw[lW];exact h3⟩
  |false=>
   rw[hout id aO] at hb
   refine(hm.blk id b hb).mono hd.agree hk (e2 id aO).1 (e2 id aO).2 (fun B o' hr hl=>?_) fun bL B hB=>?_
   ·obtain⟨h1,h2,_⟩:=hkeep id b B aO hb hl (.inl ⟨_,hr⟩)
    exact⟨h1,h2⟩
   ·obtain⟨h1,h2,_⟩:=hkeep id b B aO hb (dL bL) (.inr ⟨bL,hB⟩)
    exact⟨h1,h2⟩
 ·intro id id' b b' B o1 o2 hb hb' hl hl' hr hr'
  cases aO:p id with
  |true=>
   rw[(e1 id aO).1] at hr
   cases b_:p id' with
   |true=>
    rw[(e1 id' b_).1] at hr'
    exact hd.mem.inj id id' b b' B o1 o2 (hin id aO b hb) (hin id' b_ b' hb') hl hl' hr hr'
   |false=>
    rw[(e2 id' b_).1] at hr'
    exact(mixed id id' b b' B aO b_ hb hb' hl hl' (.inl ⟨_,hr⟩) (.inl ⟨_,hr'⟩)).elim
  |false=>
   rw[(e2 id aO).1] at hr
   cases b_:p id' with
   |true=>
    rw[(e1 id' b_).1] at hr'
    exact(mixed id' id b' b B b_ aO hb' hb hl' hl (.inl ⟨_,hr'⟩) (.inl ⟨_,hr⟩)).elim
   |false=>
    rw[(e2 id' b_).1] at hr'
    rw[hout id aO] at hb
    rw[hout id' b_] at hb'
    exact hm.inj id id' b b' B o1 o2 hb hb' hl hl' hr hr'
 ·intro B hB
  rcases hd.mem.fI B hB with h|h|h
  ·exact hm.fI B h
  ·exact .inr (up B (.inl h))
  ·exact .inr (up B (.inr h))
 ·intro id b B o' hb hl hr
  cases aO:p id with
  |true=>
   rw[(e1 id aO).1] at hr
   exact up B (hd.mem.mine id b B o' (hin id aO b hb) hl hr)
  |false=>
   rw[(e2 id aO).1] at hr
   rw[hout id aO] at hb
   exact hm.mine id b B o' hb hl hr
 ·intro id b hb bL
  cases aO:p id with
  |true=>
   rw[(e1 id aO).2]
   obtain⟨k1,k2⟩:=hd.mem.dp id b (hin id aO b hb) bL
   refine⟨k1,fun B hB=>⟨up B (k2 B hB).1,fun id' b' o h1 h2 h3=>?_,fun id' b' h1 h2 h3=>?_⟩⟩
   ·cases b_:p id' with
    |true=>rw[(e1 id' b_).1] at h3;exact(k2 B hB).2.1 id' b' o (hin id' b_ b' h1) h2 h3
    |false=>rw[(e2 id' b_).1] at h3;exact mixed id id' b b' B aO b_ hb h1 (dL bL) h2 (.inr ⟨bL,hB⟩) (.inl ⟨_,h3⟩)
   ·cases b_:p id' with
    |true=>rw[(e1 id' b_).2] at h3;exact(k2 B hB).2.2 id' b' (hin id' b_ b' h1) h2 h3
    |false=>rw[(e2 id' b_).2] at h3;exact(mixed id id' b b' B aO b_ hb h1 (dL bL) (dL h2) (.inr ⟨bL,hB⟩) (.inr ⟨h2,h3⟩)).elim
  |false=>
   rw[(e2 id aO).2]
   have hb0:=hb
   rw[hout id aO] at hb0
   obtain⟨k1,k2⟩:=hm.dp id b hb0 bL
   refine⟨k1,fun B hB=>⟨(k2 B hB).1,fun id' b' o h1 h2 h3=>?_,fun id' b' h1 h2 h3=>?_⟩⟩
   ·cases b_:p id' with
    |true=>rw[(e1 id' b_).1] at h3;exact mixed id' id b' b B b_ aO h1 hb h2 (dL bL) (.inl ⟨_,h3⟩) (.inr ⟨bL,hB⟩)
    |false=>rw[(e2 id' b_).1] at h3;rw[hout id' b_] at h1;exact(k2 B hB).2.1 id' b' o h1 h2 h3
   ·cases b_:p id' with
    |true=>rw[(e1 id' b_).2] at h3;exact(mixed id' id b' b B b_ aO h1 hb (dL h2) (dL bL) (.inr ⟨h2,h3⟩) (.inr ⟨bL,hB⟩)).elim
    |false=>rw[(e2 id' b_).2] at h3;rw[hout id' b_] at h1;exact(k2 B hB).2.2 id' b' h1 h2 h3
 ·intro B hB hX
  have hlt:B<w.heap.size:=Nat.lt_of_lt_of_le hB hm.size
  refine(hd.mem.frame B hlt ?_).trans (hm.frame B hB hX)
  intro h
  rcases up B (.inr h) with h|h
  ·exact absurd hB (Nat.not_lt.2 h)
  ·exact hX h
theorem aA.lift {p:Nat→Bool}(hm:aD F m w I ρ)(bI:kA m p)(hp:∀x∈d.aj,p x.1=true)(hg:∀F',F'.G=F.G→aD F' (m.on p) w I ρ→aA P F' o a w (m.on p) I ρ d):aA P F o a w m I ρ d:=by
 intro K Q h
 refine hg ⟨w,I,fun B=>∃id b,p id=true∧m id=some b∧b.live∧bE ρ id b B,F.G⟩ rfl (hm.cut bI) K Q fun v w' I' ρ' hd hs=>?_
 obtain⟨h1,h2⟩:=aC.lift hm hp hd
 exact h v w' I' _ h1 (hs.sub h2)
end
end Go.Ab
namespace Go.Ab
def bX (w:World)(I:Nat→Prop):(t:Ty)→t.den→List Value→List Nat→Prop
 |.own t,xs,vs,Bs=>∃a cap,vs = [.slice a xs.length cap]∧xs.length≤cap∧((a=none∧cap=0∧Bs = []) ∨
  ∃B o cs,a=some ⟨B,o,none⟩∧Cells w B cs∧o+cap*t.size≤cs.length∧ew w B o t.size (aa w I t) xs∧¬I B∧Bs = [B])
 |.pair a b,x,vs,Bs=>∃v1 v2 B1 B2,vs=v1++v2∧Bs=B1++B2∧bX w I a x.1 v1 B1∧bX w I b x.2 v2 B2
 |.unit,x,vs,Bs=>Bs = []∧aa w I .unit x vs
 |.bool,x,vs,Bs=>Bs = []∧aa w I .bool x vs
 |.int k,x,vs,Bs=>Bs = []∧aa w I (.int k) x vs
 |.str,x,vs,Bs=>Bs = []∧aa w I .str x vs
 |.lst t,x,vs,Bs=>Bs = []∧aa w I (.lst t) x vs
 |.arr n t,x,vs,Bs=>Bs = []∧aa w I (.arr n t) x vs
 |.ref t,x,vs,Bs=>Bs = []∧aa w I (.ref t) x vs
section
variable {P:Program} {F:Fix} {C:Cx} {o:Oper} {a:Act} {w:World} {m:MF} {I:Nat→Prop} {ρ:Pl} {d:aE}
theorem bX.eF:∀{t:Ty} {x:t.den} {vs:List Value},aa w I t x vs→bX w I t x vs []:=by
 intro t
 induction t with
 |own t _=>intro x vs h;simp only[aa] at h
 |pair a b aI aH=>
  intro x vs h
  simp only[aa] at h
  obtain⟨v1,v2,e,h1,h2⟩:=h
  exact⟨v1,v2,[],[],e,rfl,aI h1,aH h2⟩
 |_=>intro x vs h;exact⟨rfl,h⟩
theorem bX.rep:∀{t:Ty} {x:t.den} {vs:List Value} {Bs:List Nat},t.di=false→bX w I t x vs Bs→aa w I t x vs∧Bs = []:=by
 intro t
 induction t with
 |own t _=>intro x vs Bs h;simp[Ty.di] at h
 |pair a b aI aH=>
  intro x vs Bs h hr
  simp only[Ty.di,Bool.or_eq_false_iff] at h
  obtain⟨v1,v2,B1,B2,e,eb,h1,h2⟩:=hr
  obtain⟨k1,k2⟩:=aI h.1 h1
  obtain⟨k3,k4⟩:=aH h.2 h2
  refine⟨?_,by rw[eb,k2,k4];rfl⟩
  simp only[aa]
  exact⟨v1,v2,e,k1,k3⟩
 |_=>intro x vs Bs _ hr;exact⟨hr.2,hr.1⟩
theorem bX.length:∀{t:Ty} {x:t.den} {vs:List Value} {Bs:List Nat},bX w I t x vs Bs→vs.length=t.size:=by
 intro t
 induction t with
 |own t _=>intro x vs Bs h;obtain⟨a,cap,e,_⟩:=h;simp[e,Ty.size]
 |pair a b aI aH=>
  intro x vs Bs h
  obtain⟨v1,v2,B1,B2,e,eb,h1,h2⟩:=h
  simp[e,Ty.size,aI h1,aH h2]
 |_=>intro x vs Bs h;exact aa.length h.2
theorem bX.bV:∀{t:Ty} {x:t.den} {vs:List Value} {Bs:List Nat},bX w I t x vs Bs→∀v∈vs,v.oneCell'=true:=by
 intro t
 induction t with
 |own t _=>intro x vs Bs h;obtain⟨a,cap,e,_⟩:=h;simp[e,Value.oneCell']
 |pair a b aI aH=>
  intro x vs Bs h v hv
  obtain⟨v1,v2,B1,B2,e,eb,h1,h2⟩:=h
  subst e
  rcases List.mem_append.1 hv with h|h
  ·exact aI h1 v h
  ·exact aH h2 v h
 |_=>intro x vs Bs h;exact aa.bV h.2
def aM (m:MF)(ρ:Pl)(id B:Nat):Prop:=∃b,m id=some b∧b.live∧b.fz=false∧bE ρ id b B
theorem aM.inj (hm:aD F m w I ρ){i j B:Nat}(hi:aM m ρ i B)(hj:aM m ρ j B):i=j:=by
 obtain⟨b,h1,h2,_,h4⟩:=hi
 obtain⟨b',h1',h2',_,h4'⟩:=hj
 exact hm.gM h1 h2 h4 h1' h2' h4'
theorem aM.gx (hm:aD F m w I ρ){i B:Nat}(h:aM m ρ i B):¬I B:=by
 obtain⟨b,h1,h2,h3,h4⟩:=h
 intro hI
 rcases h4 with⟨o,h4⟩|⟨h4,h5⟩
 ·have az:=hm.blk i b h1
  unfold aS at az
  unfold ag.live at h2
  cases hc:b.c with
  |dead=>simp[hc] at h2
  |var t x=>
   simp only[hc] at az
   obtain⟨_,B',cs,e1,_,_,e2⟩:=az
   rw[h4] at e1;cases e1
   rw[e2.2 hI] at h3;cases h3
  |rows t ys=>
   simp only[hc] at az
   rcases az.2 with⟨_,e1⟩|⟨B',cH,cs,e1,_,_,_,e2⟩
   ·rw[h4] at e1;cases e1
   ·rw[h4] at e1;cases e1
    rw[e2.2 hI] at h3;cases h3
  |deep rs t ys=>
   simp only[hc] at az
   rcases az.2 with⟨_,e1,_⟩|⟨B',cH,cs,e1,_,_,_,e2⟩
   ·rw[h4] at e1;cases e1
   ·rw[h4] at e1;cases e1
    exact e2 hI
 ·exact(hm.dlt h1 h4 h5).2 hI
theorem aM.lt (hm:aD F m w I ρ){i B:Nat}(h:aM m ρ i B):B<w.heap.size:=by
 obtain⟨b,h1,h2,h3,h4⟩:=h
 rcases h4 with⟨o,h4⟩|⟨h4,h5⟩
 ·exact hm.lt h1 h2 h4
 ·exact(hm.dlt h1 h4 h5).1
theorem aM.up (hm:aD F m w I ρ){i B:Nat}(h:aM m ρ i B):F.w0.heap.size≤B∨F.X0 B:=by
 obtain⟨b,h1,h2,h3,h4⟩:=h
 rcases h4 with⟨o,h4⟩|⟨h4,h5⟩
 ·exact hm.mine i b B o h1 h2 h4
 ·exact((hm.dp i b h1 h4).2 B h5).1
theorem gK (hm:aD F m w I ρ){l l' Bs Bs':List Nat}(hn:(l++l').Nodup)(h:Bs.Nodup)(h':Bs'.Nodup)(hl:∀B∈Bs,∃id∈l,aM m ρ id B)(hl':∀B∈Bs',∃id∈l',aM m ρ id B):(Bs++Bs').Nodup:=by
 rw[List.nodup_append]
 refine⟨h,h',fun x hx y hy e=>?_⟩
 subst e
 obtain⟨i,hi,h1⟩:=hl x hx
 obtain⟨j,hj,h2⟩:=hl' x hy
 have:=h1.inj hm h2
 subst this
 exact(List.nodup_append.1 hn).2.2 i hi i hj rfl
theorem qc {id st:Nat}{t:Ty}{xs:List t.den}{vs:List Value}{I':Nat→Prop}(hm:aD F m w I ρ)(hr:af w I m ρ (.whole id st t) vs)(hro:rowsOf m id st t=some (false,xs))
  (hI:∀B,I B→I' B) (hn:∀B,aM m ρ id B→¬I' B):∃Bs,bX w I' (.own t) xs vs Bs∧(Bs = []∨∃B,Bs = [B]∧aM m ρ id B):=by
 have hb:=eR hro
 simp only[af] at hr
 obtain⟨_,_,h3⟩:=hr
 obtain⟨ad,cap,e1,e2,e3⟩:=h3 _ hb rfl t xs.length rfl
 have az:=hm.blk id _ hb
 simp only[aS] at az
 obtain⟨h0,az⟩:=az
 rcases e3 with e3|⟨B',cH,cs',g1,g2,g3,g4⟩
 ·exact⟨[],⟨ad,cap,e1,e2,.inl ⟨e3.1,e3.2.1,rfl⟩⟩,.inl rfl⟩
 ·rcases az with⟨_,hno⟩|⟨B,o',cs,f1,f2,f3,f4,f5⟩
  ·rw[hno] at g1;cases g1
  ·rw[f1] at g1
   cases g1
   have bG:aM m ρ id B':=⟨_,hb,dP rfl,rfl,.inl ⟨cH,f1⟩⟩
   refine⟨[B'],⟨ad,cap,e1,e2,.inr ⟨B',cH,cs',g2,g3,g4,f4.mono (fun _=>rfl) (fun x vs h=>aa.mono ⟨hI,fun _ _=>rfl⟩ h),hn B' bG,rfl⟩⟩,.inr ⟨B',rfl,bG⟩⟩
theorem tP {I':Nat→Prop}(hm:aD F m w I ρ)(hI:∀B,I B→I' B):∀{x:AT} {d:DV} {vs:List Value},gQ m x=some d→af w I m ρ x vs→(∀id∈x.ids,∀B,aM m ρ id B→¬I' B)→x.ids.Nodup →
  ∃Bs,bX w I' d.t d.x vs Bs∧Bs.Nodup∧∀B∈Bs,∃id∈x.ids,aM m ρ id B:=by
 intro x
 induction x with
 |leaf t x=>intro d vs h hr _ _;simp only[gQ,Option.some.injEq] at h;subst h;exact⟨[],bX.eF (aa.mono ⟨hI,fun _ _=>rfl⟩ hr),by simp,by simp⟩
 |nil t=>
  intro d vs h hr _ _
  simp only[gQ,Option.some.injEq] at h
  subst h
  simp only[af] at hr
  subst hr
  exact⟨[],⟨none,0,by simp,by simp,.inl ⟨rfl,rfl,rfl⟩⟩,by simp,by simp⟩
 |whole id st t=>
  intro d vs h hr hn _
  simp only[gQ] at h
  split at h
  ·rename_i xs hro
   simp only[Option.some.injEq] at h
   subst h
   obtain⟨Bs,h1,h2⟩:=qc hm hr hro hI (hn id (by simp[AT.ids]))
   refine⟨Bs,h1,?_,?_⟩
   ·rcases h2 with rfl|⟨B,rfl,_⟩<;>simp
   ·rcases h2 with rfl|⟨B,rfl,h2⟩
    ·simp
    ·intro B' aY
     simp only[List.mem_singleton] at aY
     subst aY
     exact⟨id,by simp[AT.ids],h2⟩
  ·simp at h
 |pair l r ihl ihr=>
  intro d vs h hr hn hnd
  simp only[gQ] at h
  split at h
  ·rename_i x y hx hy
   simp only[Option.some.injEq] at h
   subst h
   simp only[af] at hr
   obtain⟨v1,v2,rfl,h1,h2⟩:=hr
   have happ:(app l.ids r.ids)=l.ids++r.ids:=by
    generalize l.ids=q
    induction q with
    |nil=>rfl
    |cons z q ih=>simp[app,ih]
   simp only[AT.ids,happ,List.nodup_append] at hnd
   obtain⟨B1,k1,k2,k3⟩:=ihl hx h1 (fun id hi=>hn id (bp.2 (.inl hi))) hnd.1
   obtain⟨B2,k4,k5,k6⟩:=ihr hy h2 (fun id hi=>hn id (bp.2 (.inr hi))) hnd.2.1
   refine⟨B1++B2,⟨v1,v2,B1,B2,rfl,rfl,k1,k4⟩,?_,?_⟩
   ·exact gK hm (List.nodup_append.2 hnd) k2 k5 k3 k6
   ·intro B hB
    rcases List.mem_append.1 hB with hB|hB
    ·obtain⟨i,j,k⟩:=k3 B hB;exact⟨i,bp.2 (.inl j),k⟩
    ·obtain⟨i,j,k⟩:=k6 B hB;exact⟨i,bp.2 (.inr j),k⟩
  ·simp at h
 |_=>intro d vs h hr _ _;simp[gQ] at h
theorem br.sZ {t:Ty}(ht:t.aK=false){B:Nat}:∀{xs:List t.den} {off:Nat},ew w B off t.size (aa w I t) xs→br w B t.size (aq w I t) off xs []
 | [],_,_=>rfl
 |x::xs,off,h=>by
  obtain⟨cs,h1,h2,h3⟩:=h 0 x rfl
  refine⟨cs,[],[],rfl,h1,fun j hj=>by simpa using h2 j hj,aq.eF ht h3,br.sZ ht fun i y hy=>?_⟩
  obtain⟨ds,k1,k2,k3⟩:=h (i+1) y (by simpa using hy)
  refine⟨ds,k1,fun j hj=>?_,k3⟩
  have:off+(i+1)*t.size+j=off+t.size+i*t.size+j:=by rw[Nat.add_mul];omega
  rw[←this];exact k2 j hj
theorem oa {id st:Nat}{t:Ty}{xs:List t.den}(h:mD m id st t=some xs):(m id=some ⟨st,false,.rows t xs⟩∧t.aK=false)∨∃fz rs,m id=some ⟨st,fz,.deep rs t xs⟩:=by
 unfold mD at h
 split at h
 ·rename_i st' u ys hc
  obtain⟨hb,hst⟩:=cp hc
  cases hl:u.aK with
  |true=>simp[hl] at h
  |false=>
   rw[hl] at h
   obtain⟨e,he⟩:=DV.bT h
   simp only[Ty.lst.injEq] at e
   subst e
   simp only at he hst
   subst he hst
   exact .inl ⟨hb,hl⟩
 ·rename_i st' fz rs u ys hc
  obtain⟨hb,hst⟩:=cp hc
  obtain⟨e,he⟩:=DV.bT h
  simp only[Ty.lst.injEq] at e
  subst e
  simp only at he hst
  subst he hst
  exact .inr ⟨fz,rs,hb⟩
 ·simp at h
theorem tf {id st:Nat}{t:Ty}{xs:List t.den}{vs:List Value}{I':Nat→Prop}(hm:aD F m w I ρ)(hr:af w I m ρ (.whole id st t) vs)(hro:mD m id st t=some xs)
  (hI:∀B,I B→I' B) (hn:∀B,aM m ρ id B→¬I' B):∃Bs,aq w I' (.lst t) xs vs Bs∧Bs.Nodup∧∀B∈Bs,aM m ρ id B:=by
 have ha:bD I I' w w:=⟨hI,fun _ _=>rfl⟩
 obtain⟨b,hb,hst,bU⟩:∃b,m id=some b∧b.st=st∧b.c.arr=some (t,xs.length):=by
  rcases oa hro with⟨h,_⟩|⟨fz,rs,h⟩
  ·exact⟨_,h,rfl,rfl⟩
  ·exact⟨_,h,rfl,rfl⟩
 simp only[af] at hr
 obtain⟨_,_,h3⟩:=hr
 obtain⟨ad,cap,e1,e2,e3⟩:=h3 _ hb hst t xs.length bU
 simp only[aq]
 rcases e3 with e3|⟨B',cH,cs',g1,g2,g3,g4⟩
 ·exact⟨[],⟨ad,cap,e1,e2,.inl ⟨e3.1,e3.2.1,rfl⟩⟩,by simp,by simp⟩
 ·rcases oa hro with⟨h,hl⟩|⟨fz,rs,h⟩
  ·have az:=hm.blk id _ h
   simp only[aS] at az
   rcases az.2 with⟨_,hno⟩|⟨B,o',cs,f1,f2,f3,f4,f5⟩
   ·rw[hno] at g1;cases g1
   ·rw[f1] at g1
    cases g1
    have bG:aM m ρ id B':=⟨_,h,dP rfl,rfl,.inl ⟨_,f1⟩⟩
    exact⟨[B'],⟨ad,cap,e1,e2,.inr ⟨B',cH,cs',[],g2,g3,g4,br.sZ hl (f4.mono (fun _=>rfl) (fun x vs h=>aa.mono ha h)),hn B' bG,rfl⟩⟩,by simp,by simpa using bG⟩
  ·have az:=hm.blk id _ h
   simp only[aS] at az
   obtain⟨hfz,az⟩:=az
   subst hfz
   rcases az with⟨_,hno,_⟩|⟨B,o',cs,f1,f2,f3,f4,f5⟩
   ·rw[hno] at g1;cases g1
   ·rw[f1] at g1
    cases g1
    have bG:aM m ρ id B':=⟨_,h,trivial,rfl,.inl ⟨_,f1⟩⟩
    have hmd:∀B∈ρ.d id,aM m ρ id B:=fun B hB=>⟨_,h,trivial,rfl,.inr ⟨trivial,hB⟩⟩
    obtain⟨q1,q2⟩:=hm.dp id _ h trivial
    refine⟨B'::ρ.d id,⟨ad,cap,e1,e2,.inr ⟨B',cH,cs',_,g2,g3,g4,f4.mono (fun _=>rfl) (fun x vs D hD h=>aq.mono ha (fun B hB=>⟨rfl,fun jb=>absurd jb (hn B (hmd B (hD B hB)))⟩) h),hn B' bG,rfl⟩⟩,?_,?_⟩
    ·rw[List.nodup_cons]
     exact⟨fun hin=>(q2 B' hin).2.1 id _ _ h trivial f1,q1⟩
    ·intro B hB
     rcases List.mem_cons.1 hB with e|hB
     ·subst e;exact bG
     ·exact hmd B hB
end
end Go.Ab
namespace Go.Ab
section
variable {P:Program} {F:Fix} {C:Cx} {o:Oper} {a:Act} {w:World} {m:MF} {I:Nat→Prop} {ρ:Pl} {d:aE}
structure fB (w:World) (I:Nat→Prop) (m:MF) (l:List (Nat×ag)) (n e:Nat) (Bs:List Nat) (pl:Pl):Prop where
 le:n≤e
 fm:∀i b,find l i=some b→n≤i∧i<e
 all:∀i,n≤i→i<e→∃b,find l i=some b
 blk:∀i b,find l i=some b→b.fz=false∧(∃u ys,b.c = .rows u ys)∧b.st=aU m i∧∀m' ρ',ρ' i=pl i→aS w I m' ρ' i b
 src:∀i B o,n≤i→i<e→pl i=some (B,o)→B∈Bs
 one:∀i j B o o',n≤i→i<e→n≤j→j<e→pl i=some (B,o)→pl j=some (B,o')→i=j
theorem fB.nil (n:Nat)(pl:Pl):fB w I m [] n n [] pl:=
 ⟨Nat.le_refl _,fun i b h=>by simp[find] at h,fun i h h'=>by omega,fun i b h=>by simp[find] at h,fun i B o h h'=>by omega,fun i j B o o' h h'=>by omega⟩
theorem fB.congr {l:List (Nat×ag)}{n e:Nat}{Bs:List Nat}{pl dz:Pl}(h:fB w I m l n e Bs pl)(hp:∀i,n≤i→i<e→dz i=pl i):fB w I m l n e Bs dz:=by
 refine⟨h.le,h.fm,h.all,fun i b hb=>?_,fun i B o h1 h2 h3=>h.src i B o h1 h2 (by rw[←hp i h1 h2];exact h3),fun i j B o o' h1 h2 h3 h4 h5 h6=>h.one i j B o o' h1 h2 h3 h4 (by rw[←hp i h1 h2];exact h5) (by rw[←hp j h3 h4];exact h6)⟩
 obtain⟨k1,k2,k3,k4⟩:=h.blk i b hb
 obtain⟨r1,r2⟩:=h.fm i b hb
 exact⟨k1,k2,k3,fun m' ρ' hρ=>k4 m' ρ' (hρ.trans (hp i r1 r2))⟩
theorem fB.app {l1 l2:List (Nat×ag)}{n k e:Nat}{B1 B2:List Nat}{pl:Pl}(h1:fB w I m l1 n k B1 pl)(h2:fB w I m l2 k e B2 pl)(hnd:(B1++B2).Nodup) :
  fB w I m (app l1 l2) n e (B1++B2) pl:=by
 have hle:=h1.le
 have nN:=h2.le
 have hf:∀i b,find (Ab.app l1 l2) i=some b→find l1 i=some b∨find l2 i=some b:=by
  intro i b h
  rw[b9] at h
  split at h
  ·rename_i b' hb';exact .inl (by rw[hb',h])
  ·exact .inr h
 rw[List.nodup_append] at hnd
 have mix:∀i j B o o',n≤i→i<k→k≤j→j<e→pl i=some (B,o)→pl j=some (B,o')→False:=by
  intro i j B o o' a1 a2 a3 a4 a5 a6
  exact hnd.2.2 B (h1.src i B o a1 a2 a5) B (h2.src j B o' a3 a4 a6) rfl
 refine⟨by omega,fun i b h=>?_,fun i hi hi'=>?_,fun i b h=>?_,fun i B o hi hi' h=>?_,fun i j B o o' a1 a2 a3 a4 a5 a6=>?_⟩
 ·rcases hf i b h with h|h
  ·have:=h1.fm i b h;omega
  ·have:=h2.fm i b h;omega
 ·rw[b9]
  by_cases hik:i<k
  ·obtain⟨b,hb⟩:=h1.all i hi hik
   exact⟨b,by simp[hb]⟩
  ·obtain⟨b,hb⟩:=h2.all i (by omega) hi'
   cases hf1:find l1 i with
   |some b'=>exact⟨b',rfl⟩
   |none=>exact⟨b,hb⟩
 ·rcases hf i b h with h|h
  ·exact h1.blk i b h
  ·exact h2.blk i b h
 ·rw[List.mem_append]
  by_cases hik:i<k
  ·exact .inl (h1.src i B o hi hik h)
  ·exact .inr (h2.src i B o (by omega) hi' h)
 ·by_cases hi:i<k<;>by_cases hj:j<k
  ·exact h1.one i j B o o' a1 hi a3 hj a5 a6
  ·exact(mix i j B o o' a1 hi (by omega) a4 a5 a6).elim
  ·exact(mix j i B o' o a3 hj (by omega) a2 a6 a5).elim
  ·exact h2.one i j B o o' (by omega) a2 (by omega) a4 a5 a6
theorem lY (m:MF):∀{t:Ty} {x:t.den} {vs:List Value} {Bs:List Nat} (n:Nat),bX w I t x vs Bs→Bs.Nodup →
  ∃pl:Pl,fB w I m (aW m t x n).2.1 n (aW m t x n).2.2 Bs pl ∧
   ∀m' ρ',(∀i b,find (aW m t x n).2.1 i=some b→m' i=some b∧ρ' i=pl i)→af w I m' ρ' (aW m t x n).1 vs:=by
 intro t
 induction t with
 |own t _=>
  intro x vs Bs n h hnd
  obtain⟨ad,cap,e,hl,h⟩:=h
  simp only[aW]
  rcases h with⟨hn0,h0,hB⟩|⟨B,o',cs,e1,e2,e3,e4,e5,e6⟩
  ·subst hB
   refine⟨⟨fun _=>none,fun _=>[]⟩,⟨by omega,fun i b h=>?_,fun i h1 h2=>⟨_,by rw[aG,if_pos (show n=i by omega)]⟩,fun i b h=>?_,fun i B o h1 h2 h=>by simp at h,fun i j B o o' h1 h2 h3 h4=>by omega⟩,fun m' ρ' h=>?_⟩
   ·rw[aG] at h;split at h
    ·omega
    ·simp[find] at h
   ·rw[aG] at h
    split at h
    ·rename_i hni
     subst hni
     cases h
     have hx0:x = []:=by rw[←List.length_eq_zero_iff];omega
     refine⟨rfl,⟨_,_,rfl⟩,rfl,fun m' ρ' hρ=>?_⟩
     simp only[aS]
     exact⟨trivial,.inl ⟨hx0,hρ⟩⟩
    ·simp[find] at h
   ·obtain⟨h1,h2⟩:=h n _ (by rw[aG,if_pos rfl])
    simp only[af]
    refine⟨⟨_,e,rfl⟩,bR.of h1 rfl,fun b hb hs u ys hc=>?_⟩
    rw[h1] at hb
    cases hb
    cases hc
    exact⟨ad,cap,e,hl,.inl ⟨hn0,h0,h2⟩⟩
  ·subst e6
   refine⟨⟨fun _=>some (B,o'),fun _=>[]⟩,⟨by omega,fun i b h=>?_,fun i h1 h2=>⟨_,by rw[aG,if_pos (show n=i by omega)]⟩,fun i b h=>?_,fun i B' o h1 h2 h=>by cases h;simp,fun i j B o o' h1 h2 h3 h4=>by omega⟩,fun m' ρ' h=>?_⟩
   ·rw[aG] at h;split at h
    ·omega
    ·simp[find] at h
   ·rw[aG] at h
    split at h
    ·rename_i hni
     subst hni
     cases h
     refine⟨rfl,⟨_,_,rfl⟩,rfl,fun m' ρ' hρ=>?_⟩
     simp only[aS]
     have:=Nat.mul_le_mul_right t.size hl
     exact⟨trivial,.inr ⟨B,o',cs,hρ,e2,by omega,e4,by simpa using e5⟩⟩
    ·simp[find] at h
   ·obtain⟨h1,h2⟩:=h n _ (by rw[aG,if_pos rfl])
    simp only[af]
    refine⟨⟨_,e,rfl⟩,bR.of h1 rfl,fun b hb hs u ys hc=>?_⟩
    rw[h1] at hb
    cases hb
    cases hc
    exact⟨ad,cap,e,hl,.inr ⟨B,o',cs,h2,e1,e2,e3⟩⟩
 |pair t u iht ihu=>
  intro x vs Bs n h hnd
  cases ho:(Ty.pair t u).di with
  |false=>
   obtain⟨h1,h2⟩:=h.rep ho
   subst h2
   simp only[aW,ho,cond_false]
   exact⟨⟨fun _=>none,fun _=>[]⟩,fB.nil n _,fun m' ρ' _=>h1⟩
  |true=>
   obtain⟨v1,v2,B1,B2,e,eb,h1,h2⟩:=h
   subst eb
   simp only[aW,ho,cond_true]
   have cF:=List.nodup_append.1 hnd
   obtain⟨p1,k1,k2⟩:=iht n h1 cF.1
   obtain⟨p2,k3,k4⟩:=ihu (aW m t x.1 n).2.2 h2 cF.2.1
   refine⟨⟨fun i=>if i<(aW m t x.1 n).2.2 then p1 i else p2 i,fun i=>if i<(aW m t x.1 n).2.2 then p1.d i else p2.d i⟩,fB.app (k1.congr fun i _ hi=>by simp[hi]) (k3.congr fun i hi _=>by simp[Nat.not_lt.2 hi]) hnd,fun m' ρ' h=>?_⟩
   simp only[af]
   refine⟨v1,v2,e,k2 m' ρ' fun i b hb=>?_,k4 m' ρ' fun i b hb=>?_⟩
   ·have hr:=k1.fm i b hb
    have:=h i b (by rw[b9,hb])
    simpa[hr.2] using this
   ·have hr:=k3.fm i b hb
    have:find (aW m t x.1 n).2.1 i=none:=by
     cases hf:find (aW m t x.1 n).2.1 i with
     |none=>rfl
     |some b'=>have:=k1.fm i b' hf;omega
    have:=h i b (by rw[b9,this];exact hb)
    simpa[Nat.not_lt.2 hr.1] using this
 |_=>
  intro x vs Bs n h hnd
  obtain⟨hb,h⟩:=h
  subst hb
  exact⟨⟨fun _=>none,fun _=>[]⟩,fB.nil n _,fun m' ρ' _=>h⟩
end
end Go.Ab
namespace Go.Ab
def kz (w:World)(I:Nat→Prop):(t:Ty)→t.den→List Value→Prop
 |.pair a b,x,vs=>∃v l,vs=v::l∧a.isAgg=false∧aa w I a x.1 [v]∧kz w I b x.2 l
 |.unit,_,vs=>vs = []
 |_,_,_=>False
def ArgO (w:World)(I:Nat→Prop):Arg→Value→List Nat→Prop
 |.v d,v,Bs=>∃cs,v=aL d.t cs∧bX w I d.t d.x cs Bs
 |.d y,v,Bs=>∃cs,v=aL y.t cs∧aq w I y.t y.x cs Bs
 |.p d,v,Bs=>∃B cs B1,v = .pointer (some ⟨B,0,none⟩)∧Cells w B cs∧¬I B∧bX w I d.t d.x cs B1∧Bs=B::B1
 |.m t xs,v,Bs=>bX w I (.own t) xs [v] Bs
 |.f g d,v,Bs=>Bs = []∧∃caps:Array Value,v = .func (.func g) #[] caps∧kz w I d.t d.x caps.toList
def ku (w:World)(I:Nat→Prop):List Arg→List Value→List Nat→Prop
 | [],[],Bs=>Bs = []
 |x::l,v::vs,Bs=>∃B1 B2,Bs=B1++B2∧ArgO w I x v B1∧ku w I l vs B2
 |_,_,_=>False
def kC (w:World)(I:Nat→Prop):RV→Value→List Nat→Prop
 |.v d,v,Bs=>∃cs,v=aL d.t cs∧bX w I d.t d.x cs Bs
 |.d y,v,Bs=>∃cs,v=aL y.t cs∧aq w I y.t y.x cs Bs
 |.p d,v,Bs=>∃B cs B1,v = .pointer (some ⟨B,0,none⟩)∧Cells w B cs∧¬I B∧bX w I d.t d.x cs B1∧Bs=B::B1
def fC (w:World)(I:Nat→Prop):List RV→List Value→List Nat→Prop
 | [],[],Bs=>Bs = []
 |x::l,v::vs,Bs=>∃B1 B2,Bs=B1++B2∧kC w I x v B1∧fC w I l vs B2
 |_,_,_=>False
def jR (w:World)(I:Nat→Prop)(outs:List RV)(v:Value)(Bs:List Nat):Prop:=
 match outs with
 | [x]=>kC w I x v Bs
 |l=>∃arr,v = .tuple arr∧fC w I l arr.toList Bs
def Grown (w w':World)(cs:List Value):Prop:=∀B o n cap,Value.slice (some ⟨B,o,none⟩) n cap∈cs→∀ds,Cells w B ds→∃ds',Cells w' B ds'∧ds.length≤ds'.length
def bS (w w':World)(I:Nat→Prop):List Arg→List Value→List DV→List Nat→Prop
 | [],_,[],Bs=>Bs = []
 |.p d::l,v::vs,u::us,Bs=>∃B cs B1 B2,v = .pointer (some ⟨B,0,none⟩)∧Cells w' B cs∧¬I B∧u.t=d.t∧bX w' I u.t u.x cs B1∧Bs=B::(B1++B2)∧bS w w' I l vs us B2
 |.m t xs::l,v::vs,u::us,Bs=>∃ys B1 B2,u=⟨.own t,ys⟩∧ys.length=xs.length∧bX w' I (.own t) ys [v] B1∧Bs=B1++B2 ∧
  (∀B∈B1,∀cs,Cells w B cs→∃cs',Cells w' B cs'∧cs.length≤cs'.length)∧bS w w' I l vs us B2
 |.d y::l,v::vs,u::us,Bs=>∃cs B1 B2,v=aL y.t cs∧u.t=y.t∧aq w' I u.t u.x cs B1∧Bs=B1++B2∧Grown w w' cs∧bS w w' I l vs us B2
 |.v _::l,_::vs,us,Bs=>bS w w' I l vs us Bs
 |.f _ _::l,_::vs,us,Bs=>bS w w' I l vs us Bs
 |_,_,_,_=>False
def Holds (P:Program)(G:gC)(f:FuncId)(args:List Arg)(r:Res):Prop:=
 ∀(w:World) (I:Nat→Prop) (vals:List Value) (Bs:List Nat),(∀B,I B→B<w.heap.size)→G.ok w I→ku w I args vals Bs→Bs.Nodup→(∀B∈Bs,¬I B) →
  Calls P f vals.toArray w fun e w'=>∃v I' Ys Zs,e = .returned v∧jR w' I' r.outs v Ys∧bS w w' I' args vals r.iU Zs∧(Ys++Zs).Nodup ∧
   (∀B∈Ys++Zs,(B∈Bs∨w.heap.size≤B)∧¬I' B)∧bD I I' w w'∧(∀B,I' B→B<w'.heap.size∧(I B∨w.heap.size≤B∨B∈Bs)) ∧
   (∀B,B<w.heap.size→¬B∈Bs→w'.heap[B]?=w.heap[B]?)∧w.heap.size≤w'.heap.size∧w'.os=w.os∧w'.tape=w.tape∧w'.output=w.output
section
variable {P:Program} {F:Fix} {C:Cx} {o:Oper} {a:Act} {w:World} {m:MF} {I:Nat→Prop} {ρ:Pl} {d:aE}
theorem frz_in {I':Nat→Prop}{ids:List Nat}(hI:∀B,cP m ρ I ids B→I' B):(∀B,I B→I' B):=fun B h=>hI B (.inl h)
theorem ob:∀(p:Path) {t:Ty},cZ p t→∃u,t.at p=some u
 | [],t,_=>⟨t,rfl⟩
 |.fst::p,t,h=>by cases t<;>simp only[cZ] at h;simp only[Ty.at];exact ob p h
 |.snd::p,t,h=>by cases t<;>simp only[cZ] at h;simp only[Ty.at];exact ob p h
 |.idx i::p,t,h=>by cases t<;>simp only[cZ] at h;simp only[Ty.at];exact ob p h.2
theorem tO {I':Nat→Prop}(hm:aD F m w I ρ)(hI:∀B,I B→I' B):∀{a:AT} {d:DV} {vs:List Value},
  (∀id,id∈a.ids→∀b B,m id=some b→b.live→bE ρ id b B→I' B)→fZ m a=some d→af w I m ρ a vs→aa w I' d.t d.x vs:=by
 have ha:bD I I' w w:=⟨hI,fun _ _=>rfl⟩
 have rows:∀{id st:Nat} {t:Ty} {xs:List t.den},fL m id st t=some xs→(∀b B,m id=some b→b.live→bE ρ id b B→I' B) →
   xs = []∨∃B o,ρ id=some (B,o)∧I' B∧ew w B o t.size (aa w I' t) xs:=by
  intro id st t xs hl hf
  rcases pS hl with⟨fz,hb⟩|⟨fz,rs,hb⟩
  ·have az:=hm.blk id _ hb
   simp only[aS] at az
   rcases az.2 with⟨cW,_⟩|⟨B,o',cs,f1,f2,f3,f4,_⟩
   ·exact .inl cW
   ·exact .inr ⟨B,o',f1,hf _ B hb (dP rfl) (.inl ⟨o',f1⟩),f4.mono (fun _=>rfl) (fun x vs h=>aa.mono ha h)⟩
  ·have az:=hm.blk id _ hb
   simp only[aS] at az
   rcases az.2 with⟨cW,_⟩|⟨B,o',cs,f1,f2,f3,f4,_⟩
   ·exact .inl cW
   ·refine .inr ⟨B,o',f1,hf _ B hb trivial (.inl ⟨o',f1⟩),f4.at fun x vs D hD h=>aq.lend hI (fun B hB=>hf _ B hb trivial (.inr ⟨trivial,hD B hB⟩)) h⟩
 intro a
 induction a with
 |leaf t x=>intro d vs _ h hr;simp only[fZ,Option.some.injEq] at h;subst h;exact aa.mono ha hr
 |nil t=>
  intro d vs _ h hr
  simp only[fZ,Option.some.injEq] at h
  subst h
  simp only[af] at hr
  subst hr
  simp only[aa]
  exact⟨none,0,rfl,by simp,.inl trivial⟩
 |whole id st t=>
  intro d vs hf h hr
  simp only[fZ,Option.map_eq_some_iff] at h
  obtain⟨xs,hro,rfl⟩:=h
  obtain⟨b,hb,hst,bU⟩:=kP hro
  simp only[af] at hr
  obtain⟨_,_,h3⟩:=hr
  obtain⟨ad,cap,e1,e2,e3⟩:=h3 _ hb hst t xs.length bU
  replace e3:=e3.weak
  simp only[aa]
  refine⟨ad,cap,e1,e2,?_⟩
  rcases rows hro (hf id (by simp[AT.ids])) with cW|⟨B,o',f1,f2,f3⟩
  ·exact .inl cW
  ·rcases e3 with e3|⟨B',cH,cs',g1,g2,g3,g4⟩
   ·left
    rw[←List.length_eq_zero_iff]
    omega
   ·right
    rw[f1] at g1
    cases g1
    exact⟨B,o',by simpa using g2,f2,f3⟩
 |piece id st off len t=>
  intro d vs hf h hr
  simp only[fZ,Option.map_eq_some_iff] at h
  obtain⟨xs,hro,rfl⟩:=h
  obtain⟨b,hb,hst,bU⟩:=kP hro
  simp only[af] at hr
  obtain⟨_,_,h3⟩:=hr
  obtain⟨ad,cap,e1,e2,i_,e3⟩:=h3 _ hb hst t xs.length bU
  simp only[aa]
  have hl:((xs.drop off).take len).length=len:=by simp;omega
  refine⟨ad,cap,by rw[hl];exact e1,by rw[hl];exact e2,?_⟩
  rcases rows hro (hf id (by simp[AT.ids])) with cW|⟨B,o',f1,f2,f3⟩
  ·left;subst cW;simp
  ·rcases e3 with e3|⟨B',cH,cs',g1,g2,g3,g4⟩
   ·left
    rw[←List.length_eq_zero_iff]
    omega
   ·right
    rw[f1] at g1
    cases g1
    exact⟨B,o'+off*t.size,by simpa using g2,f2,f3.piece off len⟩
 |pair l r ihl ihr=>
  intro d vs hf h hr
  simp only[fZ] at h
  split at h
  ·rename_i x y hx hy
   simp only[Option.some.injEq] at h
   subst h
   simp only[af] at hr
   obtain⟨v1,v2,rfl,h1,h2⟩:=hr
   simp only[aa]
   exact⟨v1,v2,rfl,ihl (fun id hi=>hf id (bp.2 (.inl hi))) hx h1,ihr (fun id hi=>hf id (bp.2 (.inr hi))) hy h2⟩
  ·simp at h
 |_=>intro d vs _ h hr;simp[fZ] at h
theorem tQ {I':Nat→Prop}(hm:aD F m w I ρ)(hI:∀B,I B→I' B){x:AT}{d:DV}{v:Value}(hf:∀id∈cT m x.ids,∀b B,m id=some b→b.live→bE ρ id b B→I' B)
  (h:toR m x=some d) (hs:x.slot=true) (hv:au w I m ρ x v):∃cs,v=aL d.t cs∧aa w I' d.t d.x cs∧(d.t.isAgg=false→cs = [v]):=by
 have hsub:∀(l:List Nat) (id:Nat),id∈l→id∈cT m l:=by
  intro l
  induction l with
  |nil=>intro id h;simp at h
  |cons x l ih=>
   intro id h
   simp only[cT,List.mem_cons]
   rcases List.mem_cons.1 h with h|h
   ·exact .inl h
   ·exact .inr (bp.2 (.inr (ih id h)))
 have main:∀{x:AT},x.slot=true→au w I m ρ x v→(∀id∈cT m x.ids,∀b B,m id=some b→b.live→bE ρ id b B→I' B)→fZ m x=some d→∃cs,v=aL d.t cs∧aa w I' d.t d.x cs∧(d.t.isAgg=false→cs = [v]):=by
  intro x hs hv hf h
  have hag:x.isAgg=d.t.isAgg:=by
   cases x<;>simp only[fZ,reduceCtorEq,Option.some.injEq] at h
   case leaf t y=>subst h;rfl
   case nil t=>subst h;rfl
   case whole id st t=>simp only[Option.map_eq_some_iff] at h;obtain⟨_,_,rfl⟩:=h;rfl
   case piece id st off len t=>simp only[Option.map_eq_some_iff] at h;obtain⟨_,_,rfl⟩:=h;rfl
   case pair l r=>
    split at h
    ·simp only[Option.some.injEq] at h;subst h;rfl
    ·simp at h
  have dO:=(jM hs).1 hv
  unfold aB at dO
  rw[hag] at dO
  cases hd:d.t.isAgg with
  |true=>
   rw[hd,if_pos rfl] at dO
   obtain⟨arr,e,hr⟩:=dO
   exact⟨arr.toList,by simp[aL,hd,e],tO hm hI (fun id hi=>hf id (hsub _ id hi)) h hr,fun h=>by simp at h⟩
  |false=>
   simp only[hd,Bool.false_eq_true,if_false] at dO
   exact⟨[v],by simp[aL,hd],tO hm hI (fun id hi=>hf id (hsub _ id hi)) h dO,fun _=>rfl⟩
 unfold toR at h
 split at h
 ·rename_i id st p
  split at h
  ·rename_i st' fz t b hc
   obtain⟨hb,hst⟩:=cp hc
   simp only at hst
   split at h
   ·rename_i dv eY
    cases hz:Nat.ble 1 dv.t.size with
    |false=>simp[hz] at h
    |true=>
     simp only[hz,cond_true,Option.some.injEq] at h
     subst h
     obtain⟨c,eK,fU⟩:=Option.bind_eq_some_iff.1 eY
     have hx':=bQ (a:=.aZ id st p) rfl hv (by simp) (by simp) (by simp) (by simp)
     simp only[af] at hx'
     obtain⟨_,_,h3⟩:=hx'
     obtain⟨e0,B,e1,e2⟩:=h3 _ hb hst t b rfl
     simp only[List.cons.injEq,and_true] at e2
     have az:=hm.blk id _ hb
     simp only[aS] at az
     obtain⟨ht,B',cs,k1,k2,k3,k4⟩:=az
     rw[e1] at k1
     cases k1
     have hIB:I' B:=hf id (hsub _ id (by simp[AT.ids])) _ B hb (iL rfl) (.inl ⟨0,e1⟩)
     have jy:∀j∈b.ids,j∈cT m (AT.aZ id st p).ids:=by
      intro j hj
      simp only[AT.ids,cT,hb,List.mem_cons]
      exact .inr (bp.2 (.inl hj))
     have hsubid:∀(p:Path) {a b:AT},a.get p=some b→∀j∈b.ids,j∈a.ids:=by
      intro p
      induction p with
      |nil=>intro a b h;simp only[AT.get,Option.some.injEq] at h;subst h;exact fun j hj=>hj
      |cons s p ih=>
       intro a b h j hj
       cases s<;>cases a<;>try (simp[AT.get] at h;done)
       case fst.pair l r=>simp only[AT.get] at h;exact bp.2 (.inl (ih h j hj))
       case snd.pair l r=>simp only[AT.get] at h;exact bp.2 (.inr (ih h j hj))
       case fst.leaf t x=>cases t<;>try (simp[AT.get] at h;done)
                          simp only[AT.get] at h;have:=ih h j hj;simp[AT.ids] at this
       case snd.leaf t x=>cases t<;>try (simp[AT.get] at h;done)
                          simp only[AT.get] at h;have:=ih h j hj;simp[AT.ids] at this
       case idx.leaf i t x=>cases t<;>try (simp[AT.get] at h;done)
                            simp only[AT.get] at h;have:=ih h j hj;simp[AT.ids] at this
     obtain⟨u,hu⟩:=ob p e0
     obtain⟨f0,pre,mid,post,f1,f2,f3,f4⟩:=iE p ht k3 e0 eK hu
     have hty:=tS f0 fU
     have fH:=oB hm hI (fun id hi b B o h1 h2 h3=>hf id (jy id (hsubid p eK id hi)) b B h1 h2 (.inl ⟨o,h3⟩)) fU f4
     have hml:=aa.length fH
     refine⟨[v],by simp[aL,Ty.isAgg],?_,fun _=>rfl⟩
     simp only[aa]
     refine⟨B,t.off p,by simp[e2],hIB,Nat.le_of_ble_eq_true hz,mid,hml,fun j hj=>?_,fH⟩
     rw[f1] at k2
     exact q9 k2 f2 j (by omega)
   ·simp at h
  ·simp at h
 ·exact main hs hv hf h
end
end Go.Ab
namespace Go.Ab
section
variable {P:Program} {F:Fix} {C:Cx} {o:Oper} {a:Act} {w:World} {m:MF} {I:Nat→Prop} {ρ:Pl} {d:aE}
theorem bK {α:Type}(l l':List α):app l l'=l++l':=by
 induction l with
 |nil=>rfl
 |cons x l ih=>simp[app,ih]
theorem xw {x:AT}{d:DV}(h:ck m x=some d):x.slot=true∧x.isAgg=d.t.isAgg:=by
 cases x<;>simp only[ck,reduceCtorEq,Option.some.injEq] at h
 case leaf t y=>subst h;exact⟨rfl,rfl⟩
 case nil t=>subst h;exact⟨rfl,rfl⟩
 case whole id st t=>simp only[Option.map_eq_some_iff] at h;obtain⟨_,_,rfl⟩:=h;exact⟨rfl,rfl⟩
 case piece id st off len t=>simp only[Option.map_eq_some_iff] at h;obtain⟨_,_,rfl⟩:=h;exact⟨rfl,rfl⟩
 case pair l r=>
  split at h
  ·simp only[Option.some.injEq] at h;subst h;exact⟨rfl,rfl⟩
  ·simp at h
theorem xm {x:AT}{d:DV}(h:fZ m x=some d):x.slot=true∧x.isAgg=d.t.isAgg:=by
 cases x<;>simp only[fZ,reduceCtorEq,Option.some.injEq] at h
 case leaf t y=>subst h;exact⟨rfl,rfl⟩
 case nil t=>subst h;exact⟨rfl,rfl⟩
 case whole id st t=>simp only[Option.map_eq_some_iff] at h;obtain⟨_,_,rfl⟩:=h;exact⟨rfl,rfl⟩
 case piece id st off len t=>simp only[Option.map_eq_some_iff] at h;obtain⟨_,_,rfl⟩:=h;exact⟨rfl,rfl⟩
 case pair l r=>
  split at h
  ·simp only[Option.some.injEq] at h;subst h;exact⟨rfl,rfl⟩
  ·simp at h
theorem p8 {t u:Ty}{x:t.den}{p:Path}{d:DV}(hp:t.at p=some u)(hpp:p.pairs=true)(h:(AT.get p (.leaf t x)).bind AT.pure=some d):∃y,d=⟨u,y⟩∧AT.get p (.leaf t x)=some (.leaf u y):=by
 have main:∀(p:Path) {t u:Ty} {x:t.den},t.at p=some u→p.pairs=true→∃y,AT.get p (.leaf t x)=some (.leaf u y):=by
  intro p
  induction p with
  |nil=>intro t u x h _;simp only[Ty.at,Option.some.injEq] at h;subst h;exact⟨x,rfl⟩
  |cons s p ih=>
   intro t u x h hpp
   cases s with
   |fst=>cases t<;>simp only[Ty.at,reduceCtorEq] at h;simp only[AT.get];exact ih h (by simpa[Path.pairs] using hpp)
   |snd=>cases t<;>simp only[Ty.at,reduceCtorEq] at h;simp only[AT.get];exact ih h (by simpa[Path.pairs] using hpp)
   |idx i=>simp[Path.pairs] at hpp
 obtain⟨y,hy⟩:=main p (x:=x) hp hpp
 rw[hy] at h
 simp only[Option.bind_some,AT.pure,Option.some.injEq] at h
 exact⟨y,h.symm,hy⟩
theorem tN {x:AT}{d:DV}(h:dA m x=some d):x.slot=true∧x.isAgg=d.t.isAgg:=by
 cases x<;>simp only[dA,reduceCtorEq,Option.some.injEq] at h
 case leaf t y=>cases hl:t.aK<;>rw[hl] at h<;>simp at h;subst h;exact⟨rfl,rfl⟩
 case nil t=>subst h;exact⟨rfl,rfl⟩
 case whole id st t=>simp only[Option.map_eq_some_iff] at h;obtain⟨_,_,rfl⟩:=h;exact⟨rfl,rfl⟩
 case pair l r=>
  split at h
  ·simp only[Option.some.injEq] at h;subst h;exact⟨rfl,rfl⟩
  ·simp at h
 case nest id st rs row p u=>
  split at h
  ·obtain⟨h1,h⟩:=aQ h
   simp only[Bool.and_eq_true] at h1
   obtain⟨y,e,_⟩:=p8 (fJ h1.2) h1.1.2 h
   subst e
   exact⟨rfl,rfl⟩
  ·simp at h
theorem tR {x:AT}{d:DV}(h:toR m x=some d):x.slot=true∧x.isAgg=d.t.isAgg:=by
 unfold toR at h
 split at h
 ·split at h
  ·split at h
   ·rename_i dv _
    cases hz:Nat.ble 1 dv.t.size with
    |false=>simp[hz] at h
    |true=>simp only[hz,cond_true,Option.some.injEq] at h;subst h;exact⟨rfl,rfl⟩
   ·simp at h
  ·simp at h
 ·exact xm h
theorem xp {x:AT}{d:DV}(h:gQ m x=some d):x.slot=true∧x.isAgg=d.t.isAgg:=by
 cases x<;>simp only[gQ,reduceCtorEq,Option.some.injEq] at h
 case leaf t y=>subst h;exact⟨rfl,rfl⟩
 case nil t=>subst h;exact⟨rfl,rfl⟩
 case whole id st t=>split at h<;>simp at h;subst h;exact⟨rfl,rfl⟩
 case pair l r=>
  split at h
  ·simp only[Option.some.injEq] at h;subst h;exact⟨rfl,rfl⟩
  ·simp at h
theorem ow {x:AT}{t:Ty}{v:Value}(hs:x.slot=true)(ha:x.isAgg=t.isAgg)(hv:au w I m ρ x v):∃cs,v=aL t cs∧af w I m ρ x cs:=by
 have dO:=(jM hs).1 hv
 unfold aB at dO
 rw[ha] at dO
 cases hd:t.isAgg with
 |true=>
  rw[hd,if_pos rfl] at dO
  obtain⟨arr,e,hr⟩:=dO
  exact⟨arr.toList,by simp[aL,hd,e],hr⟩
 |false=>
  simp only[hd,Bool.false_eq_true,if_false] at dO
  exact⟨[v],by simp[aL,hd],dO⟩
theorem toC_ok {I':Nat→Prop}(hm:aD F m w I ρ)(hI:∀B,I B→I' B):∀{x:AT} {d:DV} {vs:List Value},(∀id∈cT m x.ids,∀b B,m id=some b→b.live→bE ρ id b B→I' B)→toC m x=some d→af w I m ρ x vs→kz w I' d.t d.x vs:=by
 have hsplit:∀(l l':List Nat) (id:Nat),id∈cT m l∨id∈cT m l'→id∈cT m (app l l'):=by
  intro l l' id
  induction l with
  |nil=>intro h;rcases h with h|h
        ·simp[cT] at h
        ·exact h
  |cons x l ih=>
   intro h
   simp only[app,cT,List.mem_cons,bp] at h ⊢
   rcases h with(h|h|h)|h
   ·exact .inl h
   ·exact .inr (.inl h)
   ·exact .inr (.inr (ih (.inl h)))
   ·exact .inr (.inr (ih (.inr h)))
 intro x
 induction x with
 |bB l r _ ihr=>
  intro d vs hf h hr
  simp only[toC] at h
  split at h
  ·rename_i x y hx hy
   cases hag:x.t.isAgg with
   |true=>simp[hag] at h
   |false=>
    simp only[hag,cond_false,Option.some.injEq] at h
    subst h
    simp only[af] at hr
    obtain⟨v,vs',rfl,h1,h2⟩:=hr
    obtain⟨hs,ha⟩:=tR hx
    have hsl:au w I m ρ l v:=(jM hs).2 (by unfold aB;rw[ha,hag];simpa using h1)
    obtain⟨cs,_,k2,k3⟩:=tQ hm hI (fun id hi=>hf id (hsplit _ _ id (.inl hi))) hx hs hsl
    rw[k3 hag] at k2
    exact⟨v,vs',rfl,hag,k2,ihr (fun id hi=>hf id (hsplit _ _ id (.inr hi))) hy h2⟩
  ·simp at h
 |b7=>intro d vs _ h hr;simp only[toC,Option.some.injEq] at h;subst h;simp only[af] at hr;simp only[kz];exact hr
 |_=>intro d vs _ h hr;simp[toC] at h
end
end Go.Ab
