import Derived.Test.YtfeoanopdlpabaaGreatDoorX1
import Derived.Laws.Slices
import Derived.Laws.Tables
import Derived.Great.BuildSlice
import Derived.Laws.MakeOwn
import Derived.Laws.Append
import Derived.Laws.IdiomStrings
import Derived.Laws.BytesArg
import Derived.Laws.Strings
set_option linter.defProp false
namespace Go.Ab
section
variable {P:Program} {F:Fix} {C:Cx} {o:Oper} {a:Act} {w:World} {m:MF} {I:Nat→Prop} {ρ:Pl} {d:aE}
def jk {x:AT}{n:Int}{v:Value}(h:gK x=some n)(hs:az w I m ρ x v):∃k,v = .int k n:=by
 unfold gK at h
 split at h
 ·cases h
  exact⟨_,dD.1 hs⟩
 ·simp at h
def mY {α:Type}{xs:List α}{i:Nat}{z:α}(h:i<xs.length):xs[i]?=some (xs.getD i z):=by
 rw[nO,pG h]
 rfl
def run_indexAt_slice {T E:Nat}{t:Ty}{B off len cap:Nat}{k:IntKind}{i:Int}(hu:P.underlying T=some (.slice E))(hE:aJ P t E)(h0:0≤i)(h1:i<len) :
  (Instr.indexAt T (.slice (some ⟨B,off,none⟩) len cap) (.int k i)).run P w = .ok (.pointer (some ⟨B,off+i.toNat*t.size,none⟩)) w:=by
 simp[Instr.indexAt,asIntOf,run_underlying hu,h0,h1,hE.info.run_sizeOf,Addr.jY]
def vm {T E n:Nat}{t:Ty}{B off:Nat}{k:IntKind}{i:Int}(hu:P.underlying T=some (.array n E))(hE:aJ P t E)(h0:0≤i)(h1:i<n) :
  (Instr.indexAt T (.pointer (some ⟨B,off,none⟩)) (.int k i)).run P w = .ok (.pointer (some ⟨B,off+i.toNat*t.size,none⟩)) w:=by
 simp[Instr.indexAt,asIntOf,run_underlying hu,Instr.sureAddr,h0,h1,hE.info.run_sizeOf,Addr.jY]
def jy {t:Ty}{T:Nat}(h:aJ P (.lst t) T):∃E,P.underlying T=some (.slice E)∧0<t.size∧aJ P t E:=by
 unfold aJ at h
 simp only[TO] at h
 exact h.2
def sR {t:Ty}{n T:Nat}(h:aJ P (.arr n t) T):∃E,P.underlying T=some (.array n E)∧1<n∧(∃k,t = .int k)∧aJ P t E:=by
 unfold aJ at h
 simp only[TO] at h
 exact h.2
def xE {id st:Nat}{t:Ty}{fz:Bool}{xs:List t.den}{v:Value}(hx:az w I m ρ (.whole id st t) v)(hr:rowsOf m id st t=some (fz,xs)) :
  ∃ad cap,v = .slice ad xs.length cap∧xs.length≤cap∧iI w ρ id t.size 0 ad cap:=by
 have hb:=gA hr
 have hx':=cn (a:=.whole id st t) rfl hx (by simp) (by simp) (by simp) (by simp)
 simp only[aa] at hx'
 obtain⟨_,_,h3⟩:=hx'
 obtain⟨ad,cap,e1,e2,e3⟩:=h3 _ hb rfl t xs.length rfl
 exact⟨ad,cap,by simpa using e1,e2,e3.weak⟩
def ue {id st:Nat}{t:Ty}{fz:Bool}{xs:List t.den}{v:Value}(hx:az w I m ρ (.whole id st t) v)(hr:rowsOf m id st t=some (fz,xs)) :
  ∃ad cap,v = .slice ad xs.length cap∧xs.length≤cap∧fU w ρ id t.size ad cap:=by
 have hb:=gA hr
 have hx':=cn (a:=.whole id st t) rfl hx (by simp) (by simp) (by simp) (by simp)
 simp only[aa] at hx'
 obtain⟨_,_,h3⟩:=hx'
 obtain⟨ad,cap,e1,e2,e3⟩:=h3 _ hb rfl t xs.length rfl
 exact⟨ad,cap,by simpa using e1,e2,e3⟩
def m_ {id st off len:Nat}{t:Ty}{fz:Bool}{xs:List t.den}{v:Value}(hx:az w I m ρ (.piece id st off len t) v)(hr:rowsOf m id st t=some (fz,xs)) :
  ∃ad cap,v = .slice ad len cap∧len≤cap∧(off+len≤xs.length∧xs.length≤off+cap)∧iI w ρ id t.size off ad cap:=by
 have hb:=gA hr
 have hx':=cn (a:=.piece id st off len t) rfl hx (by simp) (by simp) (by simp) (by simp)
 simp only[aa] at hx'
 obtain⟨_,_,h3⟩:=hx'
 obtain⟨ad,cap,e1,e2,e3,e4⟩:=h3 _ hb rfl t xs.length rfl
 exact⟨ad,cap,by simpa using e1,e2,e3,e4⟩
def rW {id st:Nat}{t:Ty}{xs:List t.den}(h:h_ m id st t=some xs):(∃fz,m id=some ⟨st,fz,.rows t xs⟩)∨∃fz rs,m id=some ⟨st,fz,.deep rs t xs⟩:=by
 unfold h_ at h
 split at h
 ·rename_i st' fz u ys hc
  obtain⟨hb,hst⟩:=cR hc
  obtain⟨e,he⟩:=DV.cz h
  simp only[Ty.lst.injEq] at e
  subst e
  simp only at he hst
  subst he hst
  exact .inl ⟨fz,hb⟩
 ·rename_i st' fz rs u ys hc
  obtain⟨hb,hst⟩:=cR hc
  obtain⟨e,he⟩:=DV.cz h
  simp only[Ty.lst.injEq] at e
  subst e
  simp only at he hst
  subst he hst
  exact .inr ⟨fz,rs,hb⟩
 ·simp at h
def ni {id st:Nat}{t:Ty}{xs:List t.den}(h:h_ m id st t=some xs):∃b,m id=some b∧b.st=st∧b.c.arr=some (t,xs.length):=by
 rcases rW h with⟨fz,h⟩|⟨fz,rs,h⟩
 ·exact⟨_,h,rfl,rfl⟩
 ·exact⟨_,h,rfl,rfl⟩
def nh {id st n:Nat}{t u:Ty}{b:ag}{v:Value}(hx:az w I m ρ (.whole id st u) v)(hb:m id=some b)(hst:b.st=st)(ha:b.c.arr=some (t,n)) :
  ∃ad cap,v = .slice ad n cap∧n≤cap∧fU w ρ id t.size ad cap:=by
 have hx':=cn (a:=.whole id st u) rfl hx (by simp) (by simp) (by simp) (by simp)
 simp only[aa] at hx'
 obtain⟨_,_,h3⟩:=hx'
 obtain⟨ad,cap,e1,e2,e3⟩:=h3 _ hb hst t n ha
 exact⟨ad,cap,by simpa using e1,e2,e3⟩
def vv {id st row n:Nat}{t:Ty}{b:ag}{B o':Nat}(hb:m id=some b)(hst:b.st=st)(ha:b.c.arr=some (t,n))(hρ:ρ id=some (B,o'))(hr:row<n) :
  az w I m ρ (.ptr id st row []) (.pointer (some ⟨B,o'+row*t.size,none⟩)):=by
 show aB _ _ _ _ _ _
 unfold aB
 simp only[AT.isAgg,dI,bI,aa]
 refine⟨gF.pointer _,cq.of hb hst,fun b' hb' hs t' a' aM=>?_⟩
 rw[hb] at hb'
 cases hb'
 rw[ha] at aM
 cases aM
 exact⟨trivial,hr,B,o',hρ,by simp[Ty.off]⟩
def y6 {id st row:Nat}{t:Ty}{fz:Bool}{xs:List t.den}{B o':Nat}(hb:m id=some ⟨st,fz,.rows t xs⟩)(hρ:ρ id=some (B,o'))(hr:row<xs.length) :
  az w I m ρ (.ptr id st row []) (.pointer (some ⟨B,o'+row*t.size,none⟩)):=vv hb rfl rfl hρ hr
def w_ {T:Nat}{x ix:Operand}{ax ai:AT}{i:Int}(hC:bW P C)(ho:o.op = .indexAddr T x ix)(hm:aD F m w I ρ)(hx:az w I m ρ ax (a.eval x))(hi:az w I m ρ ai (a.eval ix))
  (hin:gK ai=some i) (hd:lH C m T ax i=some d) (hok:∀b∈d.ok,b=true):aA P F o a w m I ρ d:=by
 obtain⟨k,hik⟩:=jk hin hi
 unfold lH at hd
 split at hd
 ·rename_i t xs u hu
  have hT:=hC.ty hu
  cases hii:t.is u with
  |false=>simp[hii] at hd
  |true=>
   simp only[hii,aG,au] at hd
   subst hd
   have:=Ty.cZ hii
   subst this
   simp only[aX,iG,or_false,iH,forall_eq,gQ] at hok
   obtain⟨E,h1,h2,h3⟩:=jy hT
   have hx':=cn (a:=.leaf (.lst t) xs) rfl hx (by simp) (by simp) (by simp) (by simp)
   simp only[aa,af,eG,dY] at hx'
   obtain⟨ad,cap,e1,e2,e3⟩:=hx'
   have hlt:i.toNat<xs.length:=by omega
   rcases e3 with e3|⟨B,off,e3,e4,e5⟩
   ·subst e3;simp at hlt
   ·subst e3
    refine aA.value hm (v:=.pointer (some ⟨B,off+i.toNat*t.size,none⟩)) (by simp[execOp,ho,e1,hik,run_indexAt_slice h1 h3 hok.1 hok.2]) ?_
    rw[mG]
    unfold aB
    simp only[AT.isAgg,Ty.isAgg,dI,bI,aa,af]
    obtain⟨cs,f1,f2,f3⟩:=e5 i.toNat _ (mY (z:=t.dflt) hlt)
    exact⟨B,_,rfl,e4,h2,cs,f1,f2,f3⟩
 ·rename_i id st t u hu
  have hT:=hC.ty hu
  cases hii:t.is u with
  |false=>simp[hii] at hd
  |true=>
   simp only[hii,aG] at hd
   have:=Ty.cZ hii
   subst this
   split at hd
   ·rename_i xs hr
    cases hd
    simp only[aX,iG,or_false,iH,forall_eq,gQ] at hok
    obtain⟨E,h1,h2,h3⟩:=jy hT
    obtain⟨b,hb,hst,cA⟩:=ni hr
    obtain⟨ad,cap,e1,e2,e3⟩:=nh hx hb hst cA
    rcases e3 with e3|⟨B,o',cs,e3,e4,e5,e6⟩
    ·omega
    ·subst e4
     refine aA.value hm (v:=.pointer (some ⟨B,o'+i.toNat*t.size,none⟩)) (by simp[execOp,ho,e1,hik,run_indexAt_slice h1 h3 hok.1 hok.2]) ?_
     exact vv hb hst cA e3 (by omega)
   ·simp at hd
 ·rename_i id st off len t u hu
  have hT:=hC.ty hu
  cases hii:t.is u with
  |false=>simp[hii] at hd
  |true=>
   simp only[hii,aG] at hd
   have:=Ty.cZ hii
   subst this
   split at hd
   ·rename_i r hr
    obtain⟨fz,xs⟩:=r
    cases hd
    simp only[aX,iG,or_false,iH,forall_eq,gQ] at hok
    obtain⟨E,h1,h2,h3⟩:=jy hT
    obtain⟨ad,cap,e1,e2,kM,e3⟩:=m_ hx hr
    rcases e3 with e3|⟨B,o',cs,e3,e4,e5,e6⟩
    ·omega
    ·subst e4
     refine aA.value hm (v:=.pointer (some ⟨B,o'+(off+i.toNat)*t.size,none⟩)) (by simp[execOp,ho,e1,hik,run_indexAt_slice h1 h3 hok.1 hok.2,bP,iq]) ?_
     exact y6 (gA hr) e3 (by omega)
   ·simp at hd
 ·rename_i n t xs n' u hu
  have hT:=hC.ty hu
  cases hii:Nat.beq n n'&&t.is u with
  |false=>simp[hii] at hd
  |true=>
   simp only[hii,aG,au] at hd
   subst hd
   simp only[aF] at hii
   have:=cU hii.1
   subst this
   have:=Ty.cZ hii.2
   subst this
   simp only[aX,iG,or_false,iH,forall_eq,gQ] at hok
   obtain⟨E,h1,h2,⟨k',h20⟩,h3⟩:=sR hT
   have hx':=cn (a:=.leaf (.ref (.arr n t)) xs) rfl hx (by simp) (by simp) (by simp) (by simp)
   simp only[aa,af,eG,dY] at hx'
   obtain⟨B,off,e1,e2,e3,cs,e4,e5,e6,e7⟩:=hx'
   have hlt:i.toNat<xs.length:=by omega
   refine aA.value hm (v:=.pointer (some ⟨B,off+i.toNat*t.size,none⟩)) (by simp[execOp,ho,e1,hik,vm h1 h3 hok.1 hok.2]) ?_
   rw[mG]
   unfold aB
   simp only[AT.isAgg,Ty.isAgg,dI,bI,aa,af]
   obtain⟨pre,mid,post,f1,f2,f3,_⟩:=aR.split (fun x vs h=>af.length h) e7 (mY (z:=t.dflt) hlt)
   have hml:=af.length f3
   refine⟨B,_,rfl,e2,by subst h20;simp[Ty.size],mid,hml,fun j hj=>?_,f3⟩
   have:=e5 (i.toNat*t.size+j) (by rw[←e4,f1];simp;omega)
   rw[←iq] at this
   rw[this,f1,bX,c_ (by omega),cL (by omega)]
   congr 1
   omega
 ·rename_i id st p n u hu
  have hT:=hC.ty hu
  split at hd
  ·rename_i st' fz t at_ hc
   obtain⟨hb,hst⟩:=cR hc
   cases hii:dK (t.at p) (.arr n u) with
   |false=>simp[hii] at hd
   |true=>
    simp only[hii,aG,au] at hd
    subst hd
    have dh:=g_ hii
    simp only[aX,iG,or_false,iH,forall_eq,gQ] at hok
    obtain⟨E,h1,h2,_,h3⟩:=sR hT
    have hx':=cn (a:=.aV id st p) rfl hx (by simp) (by simp) (by simp) (by simp)
    simp only[aa] at hx'
    obtain⟨_,_,h3'⟩:=hx'
    obtain⟨e0,B,e1,e2⟩:=h3' _ hb hst t at_ rfl
    simp only[eG,dY] at e2
    refine aA.value hm (v:=.pointer (some ⟨B,t.off p+i.toNat*u.size,none⟩)) (by simp[execOp,ho,e2,hik,vm h1 h3 hok.1 hok.2]) ?_
    show aB _ _ _ _ _ _
    unfold aB
    simp only[AT.isAgg,dI,bI,aa]
    refine⟨gF.pointer _,cq.of hb hst,fun b hb' hs t' a' aM=>?_⟩
    rw[hb] at hb'
    cases hb'
    cases aM
    exact⟨ef.app p [.idx i.toNat] dh e0 ⟨by omega,trivial⟩,B,e1,by rw[Ty.ny p _ dh];simp[Ty.off]⟩
  ·simp at hd
 ·simp at hd
def wZ {T:Nat}{x ix:Operand}{ax ai:AT}{i:Int}(hC:bW P C)(ho:o.op = .index T x ix)(hm:aD F m w I ρ)(hx:az w I m ρ ax (a.eval x))(hi:az w I m ρ ai (a.eval ix))
  (hin:gK ai=some i) (hd:rT C T ax i=some d) (hok:∀b∈d.ok,b=true):aA P F o a w m I ρ d:=by
 obtain⟨k,hik⟩:=jk hin hi
 unfold rT at hd
 split at hd
 ·rename_i s hu
  have hT:=hC.ty hu
  unfold aJ at hT
  simp only[TO] at hT
  cases hd
  simp only[aX,iG,or_false,iH,forall_eq,gQ] at hok
  have e1:=iX.1 hx
  have hlt:i.toNat<s.length:=by omega
  have mu:(⟨s.toArray⟩:ByteArray)[i.toNat]?=some (s.getD i.toNat 0):=by
   have:i.toNat<(⟨s.toArray⟩:ByteArray).size:=by simpa[ByteArray.size] using hlt
   rw[getElem?_pos (⟨s.toArray⟩:ByteArray) i.toNat this]
   congr 1
   show s.toArray[i.toNat]=_
   simp[hlt]
  refine aA.value hm (v:=.int .u8 (s.getD i.toNat 0).toNat) ?_ (dD.2 rfl)
  simp[execOp,ho,e1,hik,Instr.index,asIntOf,run_underlying hT.2,hok.1,mu]
 ·rename_i n k1 xs n' k2 hu
  have hT:=hC.ty hu
  cases hii:Nat.beq n n'&&lJ k1 k2 with
  |false=>simp[hii] at hd
  |true=>
   simp only[hii,aG,au] at hd
   subst hd
   simp only[aF] at hii
   have:=cU hii.1
   subst this
   have:=qg hii.2
   subst this
   simp only[aX,iG,or_false,iH,forall_eq,gQ] at hok
   obtain⟨E,h1,h2,_,h3⟩:=sR hT
   have hx':aB w I m ρ (.leaf (.arr n (.int k1)) xs) (a.eval x):=hx
   unfold aB at hx'
   simp only[AT.isAgg,Ty.isAgg,cj,aa,af] at hx'
   obtain⟨arr,e1,e2,e3⟩:=hx'
   have hlt:i.toNat<xs.length:=by omega
   obtain⟨pre,mid,post,f1,f2,f3,_⟩:=aR.split (n:=1) (fun x vs h=>by rw[h];rfl) e3 (mY (z:=(0:Int)) hlt)
   subst f3
   have hpart:(part E arr (i.toNat*(Ty.int k1).size)).run P w = .ok (.int k1 (xs.getD i.toNat 0)) w:=by
    unfold part
    rw[Sem.run_bind,h3.qz]
    have:arr[i.toNat]?=some (.int k1 (xs.getD i.toNat 0)):=by
     have:arr=(pre ++ [Value.int k1 (xs.getD i.toNat 0)]++post).toArray:=by apply eU;simpa using f1
     rw[this]
     simp only[List.getElem?_toArray]
     rw[bX,c_ (by omega)]
     simp[f2]
    simp[Ty.isAgg,Ty.size,this]
   refine aA.value hm (v:=.int k1 (xs.getD i.toNat 0)) ?_ (dD.2 rfl)
   have h0':0≤i∧i<(n:Int):=hok
   simp[execOp,ho,e1,hik,Instr.index,asIntOf,run_underlying h1,h0',h3.info.run_sizeOf]
   rw[hpart]
   rfl
 ·simp at hd
end
section
variable {P:Program} {F:Fix} {C:Cx} {o:Oper} {a:Act} {w:World} {m:MF} {I:Nat→Prop} {ρ:Pl} {d:aE}
def uf {ad:Option Addr}{cap l sz:Nat}(h:l=0):(if cap=l then ad else ad.map (·.add (l*sz)))=ad:=by
 subst h
 split
 ·rfl
 ·cases ad with
  |none=>rfl
  |some a=>simp[Addr.add]
def qy {isSlice:Bool}{len cap:Nat}{lo hi:Option Operand}{ρf:Operand→AT}{l h:Int}
  (hlo:∀x,lo=some x→az w I m ρ (ρf x) (a.eval x)) (hhi:∀x,hi=some x→az w I m ρ (ρf x) (a.eval x))
  (hl:j3 0 (lo.map ρf)=some l) (hh:j3 len (hi.map ρf)=some h) (h0:0≤l) (h1:l≤h) (h2:h≤cap) (_hc:len≤cap) :
  (Instr.sliceBounds isSlice len cap (lo.map a.eval) (hi.map a.eval) none).run P w = .ok (l.toNat,h.toNat,cap) w:=by
 unfold Instr.sliceBounds
 cases lo with
 |none=>
  simp only[Option.map_none,j3,au] at hl
  subst hl
  cases hi with
  |none=>
   simp only[Option.map_none,j3,au] at hh
   subst hh
   simp
  |some y=>
   simp only[iZ,j3] at hh
   obtain⟨k,hk⟩:=jk hh (hhi y rfl)
   have:h≤(cap:Int):=by omega
   have hb:=run_sliceBound (P:=P) w k h cap (if isSlice then BoundsCode.sliceAcap else BoundsCode.sliceAlen) (by omega) this
   simp[hk,hb]
 |some x=>
  simp only[iZ,j3] at hl
  obtain⟨k,hk⟩:=jk hl (hlo x rfl)
  cases hi with
  |none=>
   simp only[Option.map_none,j3,au] at hh
   subst hh
   have hb:=run_sliceBound (P:=P) w k l len BoundsCode.sliceB h0 (by omega)
   simp[hk,hb]
  |some y=>
   simp only[iZ,j3] at hh
   obtain⟨k',hk'⟩:=jk hh (hhi y rfl)
   have:h≤(cap:Int):=by omega
   have hb':=run_sliceBound (P:=P) w k' h cap (if isSlice then BoundsCode.sliceAcap else BoundsCode.sliceAlen) (by omega) this
   have hb:=run_sliceBound (P:=P) w k l h.toNat BoundsCode.sliceB h0 (by omega)
   simp[hk,hk',hb',hb]
def xx {T:Nat}{x:Operand}{lo hi:Option Operand}{ρf:Operand→AT}(hC:bW P C)(ho:o.op = .slice T x lo hi none)(hm:aD F m w I ρ)
  (hx:az w I m ρ (ρf x) (a.eval x)) (hlo:∀x,lo=some x→az w I m ρ (ρf x) (a.eval x)) (hhi:∀x,hi=some x→az w I m ρ (ρf x) (a.eval x))
  (hd:sL C m T (ρf x) (lo.map ρf) (hi.map ρf)=some d) (hok:∀b∈d.ok,b=true):aA P F o a w m I ρ d:=by
 unfold sL at hd
 split at hd
 ·simp at hd
 ·rename_i n hn
  split at hd
  ·rename_i l h hl hh
   generalize ρf x=ax at *
   split at hd
   ·rename_i s hu
    have hT:=hC.ty hu
    unfold aJ at hT
    simp only[TO] at hT
    cases hd
    simp only[aX,iG,or_false,iH,forall_eq,gQ] at hok
    simp only[lK,au] at hn
    subst hn
    have e1:=iX.1 hx
    have hb:=qy (P:=P) (isSlice:=false) (len:=s.length) (cap:=s.length) hlo hhi hl hh hok.1 hok.2.1 hok.2.2 (bw _)
    have hsz:(⟨s.toArray⟩:ByteArray).size=s.length:=by simp[ByteArray.size]
    refine aA.value hm (v:=.string ⟨((s.drop l.toNat).take (h-l).toNat).toArray⟩) ?_ (iX.2 rfl)
    have hex:(⟨s.toArray⟩:ByteArray).extract l.toNat h.toNat=⟨((s.drop l.toNat).take (h-l).toNat).toArray⟩:=by
     rw[ByteArray.ext_iff,ByteArray.data_extract]
     apply eU
     simp[List.extract_eq_take_drop]
     congr 1
     omega
    simp[execOp,ho,e1,Instr.sliceAt,run_underlying hT.2,Instr.slice,hsz,hb,hex]
   ·rename_i t xs u hu
    have hT:=hC.ty hu
    cases hii:t.is u with
    |false=>simp[hii] at hd
    |true=>
     simp only[hii,aG,au] at hd
     subst hd
     have:=Ty.cZ hii
     subst this
     simp only[aX,iG,or_false,iH,forall_eq,gQ] at hok
     simp only[lK,au] at hn
     subst hn
     obtain⟨E,h1,h2,h3⟩:=jy hT
     have hx':=cn (a:=.leaf (.lst t) xs) rfl hx (by simp) (by simp) (by simp) (by simp)
     simp only[aa,af,eG,dY] at hx'
     obtain⟨ad,cap,e1,e2,e3⟩:=hx'
     have hb:=qy (P:=P) (isSlice:=true) (len:=xs.length) (cap:=cap) hlo hhi hl hh hok.1 hok.2.1 (by omega) e2
     refine aA.value hm (v:=.slice (if cap=l.toNat then ad else ad.map (·.add (l.toNat*t.size))) (h.toNat-l.toNat) (cap-l.toNat)) ?_ ?_
     ·simp[execOp,ho,e1,Instr.sliceAt,run_underlying h1,Instr.slice,hb,h3.info.run_sizeOf]
     ·rw[mG]
      unfold aB
      simp only[AT.isAgg,Ty.isAgg,dI,bI,aa,af]
      have hlen:((xs.drop l.toNat).take (h-l).toNat).length=h.toNat-l.toNat:=by
       simp only[zl3,zl4]
       omega
      refine⟨_,cap-l.toNat,by rw[hlen],by rw[hlen];omega,?_⟩
      by_cases hz:h.toNat-l.toNat=0
      ·left
       rw[←dM,hlen,hz]
      ·right
       rcases e3 with e3|⟨B,off,e3,e4,e5⟩
       ·subst e3;simp at hok;omega
       ·have hne:¬cap=l.toNat:=by omega
        refine⟨B,off+l.toNat*t.size,by simp[hne,e3,Addr.jY],e4,fun i y hy=>?_⟩
        rw[List.getElem?_take] at hy
        split at hy
        ·rw[zl5] at hy
         obtain⟨cs,f1,f2,f3⟩:=e5 _ _ hy
         refine⟨cs,f1,fun j hj=>?_,f3⟩
         rw[←f2 j hj]
         congr 2
         rw[bP]
         omega
        ·simp at hy
   ·rename_i id st t u hu
    have hT:=hC.ty hu
    cases hii:t.is u with
    |false=>simp[hii] at hd
    |true=>
     simp only[hii,aG,au] at hd
     subst hd
     have:=Ty.cZ hii
     subst this
     simp only[aX,iG,or_false,iH,forall_eq,gQ] at hok
     simp only[lK] at hn
     split at hn
     ·rename_i xs hr
      simp only[au] at hn
      subst hn
      obtain⟨E,h1,h2,h3⟩:=jy hT
      obtain⟨b0,hb',oz,cA⟩:=ni hr
      obtain⟨ad,cap,e1,e2,e3w⟩:=nh hx hb' oz cA
      have e3:=e3w.weak
      have hb:=qy (P:=P) (isSlice:=true) (len:=xs.length) (cap:=cap) hlo hhi hl hh hok.1 hok.2.1 (by omega) e2
      refine aA.value hm (v:=.slice (if cap=l.toNat then ad else ad.map (·.add (l.toNat*t.size))) (h.toNat-l.toNat) (cap-l.toNat)) ?_ ?_
      ·simp[execOp,ho,e1,Instr.sliceAt,run_underlying h1,Instr.slice,hb,h3.info.run_sizeOf]
      ·show aB _ _ _ _ _ _
       unfold aB
       simp only[AT.isAgg,dI,bI,aa]
       refine⟨⟨_,rfl,rfl⟩,cq.of hb' oz,fun b hbb hs u ys hc=>?_⟩
       rw[hb'] at hbb
       cases hbb
       rw[cA] at hc
       cases hc
       refine⟨_,_,by rw[show(h-l).toNat=h.toNat-l.toNat by omega],by omega,by omega,?_⟩
       refine⟨?_,fun h0=>by rw[uf h0,h0];exact e3w⟩
       by_cases hne:cap=l.toNat
       ·exact .inl (by omega)
       ·rcases e3.1 with e3|⟨B,o',cs,e3,e4,e5,e6⟩
        ·exact .inl (by omega)
        ·refine .inr ⟨B,o',cs,e3,by simp[hne,e4,Addr.jY],e5,?_⟩
         have:l.toNat*t.size+(cap-l.toNat)*t.size=cap*t.size:=by rw[←bP];congr 1;omega
         omega
     ·simp at hn
   ·rename_i id st off len t u hu
    have hT:=hC.ty hu
    cases hii:t.is u with
    |false=>simp[hii] at hd
    |true=>
     simp only[hii,aG] at hd
     have:=Ty.cZ hii
     subst this
     split at hd
     ·rename_i r hr
      obtain⟨fz,xs⟩:=r
      cases hd
      simp only[aX,iG,or_false,iH,forall_eq,gQ] at hok
      simp only[lK,hr,au] at hn
      subst hn
      obtain⟨E,h1,h2,h3⟩:=jy hT
      obtain⟨ad,cap,e1,e2,kM,e3⟩:=m_ hx hr
      have hb:=qy (P:=P) (isSlice:=true) (len:=len) (cap:=cap) hlo hhi hl hh hok.1 hok.2.1 (by omega) e2
      refine aA.value hm (v:=.slice (if cap=l.toNat then ad else ad.map (·.add (l.toNat*t.size))) (h.toNat-l.toNat) (cap-l.toNat)) ?_ ?_
      ·simp[execOp,ho,e1,Instr.sliceAt,run_underlying h1,Instr.slice,hb,h3.info.run_sizeOf]
      ·show aB _ _ _ _ _ _
       unfold aB
       simp only[AT.isAgg,dI,bI,aa]
       have hb':=gA hr
       refine⟨⟨_,rfl,rfl⟩,cq.of hb' rfl,fun b hbb hs u ys hc=>?_⟩
       rw[hb'] at hbb
       cases hbb
       cases hc
       refine⟨_,_,by rw[show(h-l).toNat=h.toNat-l.toNat by omega],by omega,by omega,?_⟩
       refine⟨?_,fun h0=>by rw[uf (by omega),show l.toNat=0 by omega];exact e3.2 (by omega)⟩
       by_cases hne:cap=l.toNat
       ·exact .inl (by omega)
       ·rcases e3.1 with e3|⟨B,o',cs,e3,e4,e5,e6⟩
        ·exact .inl (by omega)
        ·refine .inr ⟨B,o',cs,e3,by simp[hne,e4,Addr.jY,bP,iq],e5,?_⟩
         have:l.toNat*t.size+(cap-l.toNat)*t.size=cap*t.size:=by rw[←bP];congr 1;omega
         rw[bP]
         omega
     ·simp at hd
   ·simp at hd
  ·simp at hd
end
section
variable {P:Program} {F:Fix} {C:Cx} {o:Oper} {a:Act} {w:World} {m:MF} {I:Nat→Prop} {ρ:Pl} {d:aE}
def dP (m:MF)(ρ:Pl)(I:Nat→Prop)(ids:List Nat):Nat→Prop:=fun B=>I B∨(∃id,id∈ids∧∃b o,m id=some b∧b.live∧ρ id=some (B,o)) ∨
 ∃id,id∈ids∧∃b,m id=some b∧b.bH∧B∈ρ.d id
def bR (ρ:Pl)(id:Nat)(b:ag)(B:Nat):Prop:=(∃o,ρ id=some (B,o))∨(b.bH∧B∈ρ.d id)
def aD.js (h:aD F m w I ρ){id id':Nat}{b b':ag}{B:Nat}(h1:m id=some b)(l1:b.live)(o1:bR ρ id b B)(h2:m id'=some b')(l2:b'.live)(o2:bR ρ id' b' B):id=id':=by
 rcases o1 with⟨x,o1⟩|⟨d1,o1⟩
 ·rcases o2 with⟨y,o2⟩|⟨d2,o2⟩
  ·exact h.inj id id' b b' B x y h1 h2 l1 l2 o1 o2
  ·exact absurd o1 (((h.dp id' b' h2 d2).2 B o2).2.1 id b x h1 l1)
 ·rcases o2 with⟨y,o2⟩|⟨d2,o2⟩
  ·exact absurd o2 (((h.dp id b h1 d1).2 B o1).2.1 id' b' y h2 l2)
  ·exact(((h.dp id b h1 d1).2 B o1).2.2 id' b' h2 d2 o2).symm
def ag.p9 (b:ag):(b.bH∧b.bG=⟨b.st+1,false,.dead⟩)∨(¬b.bH∧b.bG=⟨b.st,true,b.c⟩):=by
 obtain⟨st,fz,c⟩:=b
 cases c<;>simp[ag.bG,ag.bH]
def rF (m:MF)(i:Nat):∀ids:List Nat,find (bG m ids) i=if i∈ids then(m i).map ag.bG else none
 | []=>by simp[bG,eg,find]
 |j::l=>by
  have ih:=rF m i l
  unfold bG at ih ⊢
  simp only[eg]
  cases hm:m j with
  |none=>
   simp only[ih]
   by_cases hij:i=j
   ·subst hij;simp[hm]
   ·simp[hij]
  |some b=>
   simp only[aI,ih]
   by_cases hij:i=j
   ·subst hij;simp[hm]
   ·have:¬j=i:=fun e=>hij e.symm
    simp[hij,this]
def qL (m:MF)(ids:List Nat)(i:Nat):m.aj (bG m ids) i=if i∈ids then(m i).map ag.bG else m i:=by
 unfold MF.aj
 rw[rF]
 by_cases h:i∈ids
 ·simp only[h,cj]
  cases m i<;>rfl
 ·simp[h]
def aD.lt (h:aD F m w I ρ){id:Nat}{b:ag}{B o':Nat}(hm:m id=some b)(hl:b.live)(hρ:ρ id=some (B,o')):B<w.heap.size:=by
 have:=h.blk id b hm
 unfold aS at this
 unfold ag.live at hl
 cases hc:b.c with
 |dead=>simp[hc] at hl
 |var t a=>simp only[hc] at this;obtain⟨_,B',cs,e1,e2,_⟩:=this;rw[hρ] at e1;cases e1;exact e2.lt
 |rows t xs=>
  simp only[hc] at this
  rcases this.2 with⟨_,e1⟩|⟨B',o',cs,e1,e2,_⟩
  ·rw[hρ] at e1;cases e1
  ·rw[hρ] at e1;cases e1;exact e2.lt
 |deep rs t xs=>
  simp only[hc] at this
  rcases this.2 with⟨_,e1,_⟩|⟨B',o',cs,e1,e2,_⟩
  ·rw[hρ] at e1;cases e1
  ·rw[hρ] at e1;cases e1;exact e2.lt
def aC.freeze (h:aD F m w I ρ)(ids:List Nat):aC F m (m.aj (bG m ids)) w w I (dP m ρ I ids) ρ ρ:=by
 have ha:bN I (dP m ρ I ids) w w:=⟨fun _ h=>.inl h,fun _ _=>rfl⟩
 have hk:dc m (m.aj (bG m ids)) ρ ρ w w:=by
  refine⟨fun id b hb=>?_,fun _ _ _ _ _ _ _ _ _ _ _ _ _ _ _ _=>rfl⟩
  rw[qL]
  by_cases hi:id∈ids
  ·rcases b.p9 with⟨_,hf⟩|⟨_,hf⟩
   ·exact⟨b.bG,by simp[hi,hb],.inl (by rw[hf];simp)⟩
   ·exact⟨b.bG,by simp[hi,hb],.inr ⟨by rw[hf],by rw[hf];exact bJ.refl _,rfl,fun _ _ _ _ cs hc=>⟨cs,hc,bw _⟩⟩⟩
  ·exact⟨b,by simp[hi,hb],.inr ⟨rfl,bJ.refl _,rfl,fun _ _ _ _ cs hc=>⟨cs,hc,bw _⟩⟩⟩
 have back:∀id b,m.aj (bG m ids) id=some b→b.live→∃b0,m id=some b0∧b0.c=b.c∧(id∈ids∧b.fz=true∧¬b0.bH∨¬id∈ids∧b0=b):=by
  intro id b hb hl
  rw[qL] at hb
  by_cases hi:id∈ids
  ·simp only[hi,cj,bE] at hb
   obtain⟨b0,h1,h2⟩:=hb
   subst h2
   rcases b0.p9 with⟨_,hf⟩|⟨hd,hf⟩
   ·rw[hf] at hl;simp[ag.live] at hl
   ·exact⟨b0,h1,by rw[hf],.inl ⟨hi,by rw[hf],hd⟩⟩
  ·simp only[hi,bI] at hb
   exact⟨b,hb,rfl,.inr ⟨hi,rfl⟩⟩
 have live:∀{b0 b:ag},b0.c=b.c→b.live→b0.live:=by
  intro b0 b e hl
  unfold ag.live at *
  rw[e]
  exact hl
 refine⟨ha,hk,⟨fun id b hb=>?_,fun id id' b1 b2 B o1 o2 h1 h2 l1 l2 r1 r2=>?_,?_,fun B hB=>.inl (h.iE B hB),?_,fun id b B o1 hb hl hr=>?_,?_,h.frame,h.size,h.os,h.tape,h.output,F.G.mono ha h.fY⟩⟩
 ·by_cases hbl:b.live
  case neg=>
   unfold ag.live at hbl
   unfold aS
   cases hc:b.c<;>simp[hc] at hbl
   trivial
  obtain⟨b0,hb0,hc,hf⟩:=back id b hb hbl
  have hblk:=h.blk id b0 hb0
  have hl0:=live hc hbl
  have noI:¬id∈ids→∀B,bR ρ id b0 B→dP m ρ I ids B→I B:=by
   rintro hi B hO (h'|⟨id',hi',b',dA,h1,h2,h3⟩|⟨id',hi',b',h1,h2,h3⟩)
   ·exact h'
   ·have:=h.js hb0 hl0 hO h1 h2 (.inl ⟨_,h3⟩)
    subst this
    exact absurd hi' hi
   ·have:=h.js hb0 hl0 hO h1 (fA h2) (.inr ⟨h2,h3⟩)
    subst this
    exact absurd hi' hi
  have fzz:∀B o',ρ id=some (B,o')→b0.live→(b0.fz=true↔I B)→(b.fz=true↔dP m ρ I ids B):=by
   intro B o' hr hl hfz
   rcases hf with⟨hi,hf,_⟩|⟨hi,hf⟩
   ·simp only[hf,true_iff]
    exact .inr (.inl ⟨id,hi,b0,o',hb0,hl,hr⟩)
   ·subst hf
    rw[hfz]
    exact⟨.inl,noI hi B (.inl ⟨_,hr⟩)⟩
  unfold aS at hblk ⊢
  rw[←hc]
  split at hblk
  ·trivial
  ·rename_i t a e
   obtain⟨h1,B,cs,h2,h3,h4,h5⟩:=hblk
   exact⟨h1,B,cs,h2,h3,h4.mono ha hk,fzz B 0 h2 (kf e) h5⟩
  ·rename_i t xs e
   obtain⟨h0,hblk⟩:=hblk
   refine⟨h0,hblk.imp (fun h=>h) ?_⟩
   rintro⟨B,o',cs,h2,h3,h4,h5,h6⟩
   exact⟨B,o',cs,h2,h3,h4,h5.mono (fun _=>rfl) (fun x vs h=>af.mono ha h),fzz B o' h2 (fF e) h6⟩
  ·rename_i rs t xs e
   have j8:b0.bH:=by unfold ag.bH;rw[e];trivial
   rcases hf with⟨_,_,hnd⟩|⟨hi,hf⟩
   ·exact absurd j8 hnd
   ·subst hf
    obtain⟨h0,hblk⟩:=hblk
    refine⟨h0,hblk.imp (fun h=>h) ?_⟩
    rintro⟨B,o',cs,h2,h3,h4,h5,h6⟩
    exact⟨B,o',cs,h2,h3,h4,h5.mono (fun _=>rfl) (fun x vs D hD h=>aq.mono ha (fun B hB=>⟨rfl,noI hi B (.inr ⟨j8,hD B hB⟩)⟩) h),fun hI=>h6 (noI hi B (.inl ⟨_,h2⟩) hI)⟩
 ·obtain⟨c1,k1,e1,_⟩:=back id b1 h1 l1
  obtain⟨c2,k2,e2,_⟩:=back id' b2 h2 l2
  exact h.inj id id' c1 c2 B o1 o2 k1 k2 (live e1 l1) (live e2 l2) r1 r2
 ·rintro B (hB|⟨id,_,b,o',h1,h2,h3⟩|⟨id,_,b,h1,h2,h3⟩)
  ·exact h.aY B hB
  ·exact h.lt h1 h2 h3
  ·exact(h.dlt h1 h2 h3).1
 ·rintro B (hB|⟨id,_,b,o',h1,h2,h3⟩|⟨id,_,b,h1,h2,h3⟩)
  ·exact h.gZ B hB
  ·exact .inr (h.mine id b B o' h1 h2 h3)
  ·exact .inr ((h.dp id b h1 h2).2 B h3).1
 ·obtain⟨c1,k1,e1,_⟩:=back id b hb hl
  exact h.mine id c1 B o1 k1 (live e1 hl) hr
 ·intro id b hb hd
  obtain⟨c1,k1,e1,_⟩:=back id b hb (fA hd)
  have deep:∀{b0 b:ag},b0.c=b.c→b.bH→b0.bH:=by
   intro b0 b e hl
   unfold ag.bH at *
   rw[e]
   exact hl
  obtain⟨q1,q2⟩:=h.dp id c1 k1 (deep e1 hd)
  refine⟨q1,fun B hB=>?_⟩
  obtain⟨g1,g2,g3⟩:=q2 B hB
  refine⟨g1,fun id' b' o h1 h2=>?_,fun id' b' h1 h2 h3=>?_⟩
  ·obtain⟨c2,k2,e2,_⟩:=back id' b' h1 h2
   exact g2 id' c2 o k2 (live e2 h2)
  ·obtain⟨c2,k2,e2,_⟩:=back id' b' h1 (fA h2)
   exact g3 id' c2 k2 (deep e2 h2) h3
def fV.piece {α:Type}{B off sz:Nat}{R:α→List Value→Prop}{xs:List α}(h:fV w B off sz R xs)(k n:Nat):fV w B (off+k*sz) sz R ((xs.drop k).take n):=by
 intro i y hy
 rw[List.getElem?_take] at hy
 split at hy
 ·rw[zl5] at hy
  obtain⟨cs,f1,f2,f3⟩:=h _ _ hy
  refine⟨cs,f1,fun j hj=>?_,f3⟩
  rw[←f2 j hj]
  congr 2
  rw[bP]
  omega
 ·simp at hy
def qJ {I':Nat→Prop}(hm:aD F m w I ρ)(hI:∀B,I B→I' B):∀{a:AT} {d:DV} {vs:List Value},
  (∀id,id∈a.ids→∀b B o,m id=some b→b.live→ρ id=some (B,o)→I' B)→cQ m a=some d→aa w I m ρ a vs→af w I' d.t d.x vs:=by
 have ha:bN I I' w w:=⟨hI,fun _ _=>rfl⟩
 have hap:∀{α:Type} (l l':List α) (x:α),x∈l∨x∈l'→x∈app l l':=by
  intro α l l' x h
  induction l with
  |nil=>simpa[app] using h
  |cons y l ih=>
   simp only[app,aX]
   rcases h with h|h
   ·rcases aX.1 h with h|h
    ·exact .inl h
    ·exact .inr (ih (.inl h))
   ·exact .inr (ih (.inr h))
 intro a
 induction a with
 |leaf t x=>intro d vs _ h hr;simp only[cQ,au] at h;subst h;exact af.mono ha hr
 |nil t=>
  intro d vs _ h hr
  simp only[cQ,au] at h
  subst h
  simp only[aa] at hr
  subst hr
  simp only[af]
  exact⟨none,0,rfl,by simp,.inl trivial⟩
 |whole id st t=>
  intro d vs hf h hr
  simp only[cQ,bE] at h
  obtain⟨⟨fz,xs⟩,hro,rfl⟩:=h
  have hb:=gA hro
  simp only[aa] at hr
  obtain⟨_,_,h3⟩:=hr
  obtain⟨ad,cap,e1,e2,e3⟩:=h3 _ hb rfl t xs.length rfl
  replace e3:=e3.weak
  simp only[af]
  refine⟨ad,cap,e1,e2,?_⟩
  have hblk:=hm.blk id _ hb
  simp only[aS] at hblk
  obtain⟨h0,hblk⟩:=hblk
  rcases hblk with⟨d_,_⟩|⟨B,o',cs,f1,f2,f3,f4,_⟩
  ·exact .inl d_
  ·rcases e3 with e3|⟨B',dA,cs',g1,g2,g3,g4⟩
   ·left
    rw[←dM]
    omega
   ·right
    rw[f1] at g1
    cases g1
    exact⟨B,o',by simpa using g2,hf id (by simp[AT.ids]) _ B o' hb (fF rfl) f1,f4.mono (fun _=>rfl) (fun x vs h=>af.mono ha h)⟩
 |piece id st off len t=>
  intro d vs hf h hr
  simp only[cQ,bE] at h
  obtain⟨⟨fz,xs⟩,hro,rfl⟩:=h
  have hb:=gA hro
  simp only[aa] at hr
  obtain⟨_,_,h3⟩:=hr
  obtain⟨ad,cap,e1,e2,kM,e3⟩:=h3 _ hb rfl t xs.length rfl
  simp only[af]
  have hl:((xs.drop off).take len).length=len:=by simp;omega
  refine⟨ad,cap,by rw[hl];exact e1,by rw[hl];exact e2,?_⟩
  have hblk:=hm.blk id _ hb
  simp only[aS] at hblk
  obtain⟨h0,hblk⟩:=hblk
  rcases hblk with⟨d_,_⟩|⟨B,o',cs,f1,f2,f3,f4,_⟩
  ·left;subst d_;simp
  ·rcases e3 with e3|⟨B',dA,cs',g1,g2,g3,g4⟩
   ·left
    rw[←dM]
    omega
   ·right
    rw[f1] at g1
    cases g1
    exact⟨B,o'+off*t.size,by simpa using g2,hf id (by simp[AT.ids]) _ B o' hb (fF rfl) f1,(f4.piece off len).mono (fun _=>rfl) (fun x vs h=>af.mono ha h)⟩
 |pair l r ihl ihr=>
  intro d vs hf h hr
  simp only[cQ] at h
  split at h
  ·rename_i x y hx hy
   simp only[au] at h
   subst h
   simp only[aa] at hr
   obtain⟨v1,v2,rfl,h1,h2⟩:=hr
   simp only[af]
   exact⟨v1,v2,rfl,ihl (fun id hi=>hf id (hap _ _ _ (.inl hi))) hx h1,ihr (fun id hi=>hf id (hap _ _ _ (.inr hi))) hy h2⟩
  ·simp at h
 |_=>intro d vs _ h hr;simp[cQ] at h
def lN {n:Nat}{b0:ag}(h:m n=some b0):b0.st<aW m n:=by simp[aW,h]
def aC.var {T:Nat}{t:Ty}{av:AT}{vs:List Value}(hm:aD F m w I ρ)(n:Nat)(ht:Typed av t)(hr:aa w I m ρ av vs) :
  let m':=m.put n ⟨aW m n,false,.var t av⟩
  let ρ':=ρ.put n (some (w.heap.size,0))
  aC F m m' w (w.alloc (.cells vs.toArray T)) I I ρ ρ'∧az (w.alloc (.cells vs.toArray T)) I m' ρ' (.aV n (aW m n) []) (.pointer (some ⟨w.heap.size,0,none⟩)):=by
 have hd:=aC.new (F:=F) (m:=m) (w:=w) (I:=I) (ρ:=ρ) hm n ⟨aW m n,false,.var t av⟩ vs.toArray T (0,0) (by simp) (fun b0 h=>lN h) (fun hk hc=>by
  simp only[aS]
  refine⟨ht,w.heap.size,vs,by simp[Pl.put],hc,hr.mono ⟨fun _ h=>h,fun B hB=>heap_alloc_old w _ B (hm.aY B hB)⟩ hk,?_⟩
  simp only[dI,false_iff]
  intro hI
  exact absurd (hm.aY _ hI) (kC _))
 refine⟨hd,?_⟩
 show aB _ _ _ _ _ _
 unfold aB
 simp only[AT.isAgg,dI,bI,aa]
 refine⟨gF.pointer _,cq.of (b:=⟨aW m n,false,.var t av⟩) (by simp[MF.put]) rfl,fun b hb hs t' a' hc=>?_⟩
 simp only[MF.put,cj,au] at hb
 subst hb
 cases hc
 exact⟨trivial,w.heap.size,by simp[Pl.put],by simp[Ty.off]⟩
def wK {T:Nat}(hC:bW P C)(ho:o.op = .alloc T)(hm:aD F m w I ρ){dst:Nat}{t:Ty}(ht:C.ty T=some t) :
  aA P F o a w m I ρ ⟨.aV dst (aW m dst) [],[(dst,⟨aW m dst,false,.var t (jC t)⟩)],[]⟩:=by
 have hT:=hC.ty ht
 obtain⟨h1,h2⟩:=lq (w:=w) (I:=I) (m:=m) (ρ:=ρ) hT
 obtain⟨hd,hs⟩:=aC.var (T:=T) hm dst h1 h2
 refine aA.world (v:=.pointer (some ⟨w.heap.size,0,none⟩)) (w':=w.alloc (.cells (bh t).toArray T)) ?_ (by rw[MF.dL];exact hd) (by rw[MF.dL];exact hs)
 have:=gG hT (h1.length h2) (aa.cC h1 h2)
 simp[execOp,ho,Instr.alloc,hT.info.vq,newVar,newRow,this]
def wN {T:Nat}{x:Operand}{av:AT}(hC:bW P C)(ho:o.op = .box T x)(hm:aD F m w I ρ)(hx:az w I m ρ av (a.eval x)){dst:Nat}{t:Ty}(ht:C.ty T=some t)(hf:av.fits t=true) :
  aA P F o a w m I ρ ⟨.aV dst (aW m dst) [],[(dst,⟨aW m dst,false,.var t av⟩)],[]⟩:=by
 have hT:=hC.ty ht
 have h1:=j5 hf
 obtain⟨vs,hv,h2⟩:=aB.pack h1 ((gN h1).1 hx)
 obtain⟨hd,hs⟩:=aC.var (T:=T) hm dst h1 h2
 refine aA.world (v:=.pointer (some ⟨w.heap.size,0,none⟩)) (w':=w.alloc (.cells vs.toArray T)) ?_ (by rw[MF.dL];exact hd) (by rw[MF.dL];exact hs)
 have:=gG hT (h1.length h2) (aa.cC h1 h2)
 simp[execOp,ho,hv,Instr.box,newVar,newRow,this]
end
section
variable {P:Program} {F:Fix} {C:Cx} {o:Oper} {a:Act} {w:World} {m:MF} {I:Nat→Prop} {ρ:Pl} {d:aE}
def rE {place:Nat→Option (Nat×Nat)}{pre mid post aP:List Value}{i n:Nat}{v:Value}{rest:List (Nat×Value)}(hp:place i=some (pre.length,n))(hv:v.cells=aP.toArray)
  (h1:mid.length=n) (h2:aP.length=n) :
  Instr.fill place (pre++mid++post).toArray ((i,v)::rest)=Instr.fill place (pre++aP++post).toArray rest:=by
 conv=>lhs;unfold Instr.fill
 simp only[hp,hv]
 rw[bY (by simp;omega)]
 obtain⟨g1,g2⟩:=Great.foldl_set pre.length aP 0 (pre++mid++post).toArray
 have:(aP.toArray.zipIdx.foldl (fun cs (x:Value×Nat)=>cs.setIfInBounds (pre.length+x.2) x.1) (pre++mid++post).toArray)=(pre++aP++post).toArray:=by
  rw[←Array.foldl_toList,Array.toList_zipIdx]
  apply Array.ext_getElem?
  intro k
  rw[g2 k]
  simp only[List.getElem?_toArray,qN,List.size_toArray,cK]
  by_cases hk:k<pre.length
  ·rw[bY (by omega),bX,bX,cL hk,cL hk]
  ·by_cases hk2:k<pre.length+n
   ·rw[bf (by omega),bX,c_ (by omega),cL (by omega)]
   ·rw[bY (by omega),c_ (by simp;omega),c_ (by simp;omega)]
    simp only[cK,h1,h2]
 show Instr.fill place _ rest=_
 exact congrArg (fun c=>Instr.fill place c rest) this
def n9 {x:AT}{u:Option Ty}{v:Value}(h:az w I m ρ x v):az w I m ρ (cG u x) v:=by
 unfold cG
 split
 ·exact h
 ·exact h
def qZ {t:Ty}{place:Nat→Option (Nat×Nat)}{ρf:Operand→AT}
  (uh:∀i u,t.at (k9 t i)=some u→sD t i=true→place i=some (t.off (k9 t i),u.size)∧(∃T',aJ P u T')∧ef (k9 t i) t) :
  ∀(ps:List (Nat×Operand)) {b b':AT} {cs:List Value},Typed b t→aa w I m ρ b cs→(∀p∈ps,az w I m ρ (ρf p.2) (a.eval p.2)) →
   l9 t b (bu (fun p=>(p.1,ρf p.2)) ps)=some b' →
   ∃cs',Instr.fill place cs.toArray (ps.map fun p=>(p.1,a.eval p.2))=some cs'.toArray∧Typed b' t∧aa w I m ρ b' cs'
 | [],b,b',cs,ht,hr,_,h=>by
  simp only[bu,l9,au] at h
  subst h
  exact⟨cs,rfl,ht,hr⟩
 | (i,x)::ps,b,b',cs,ht,hr,hs,h=>by
  simp only[bu,l9] at h
  split at h
  ·rename_i u hu
   cases hf:(cG (some u) (ρf x)).fits u&&sD t i with
   |false=>simp[hf] at h
   |true=>
    simp only[hf,aG] at h
    simp only[aF] at hf
    split at h
    ·rename_i b2 cH
     obtain⟨hp,⟨T',hT'⟩,hpo⟩:=uh i u hu hf.2
     have hty:=j5 hf.1
     have hx:=n9 (u:=some u) (hs (i,x) (by simp))
     obtain⟨aP,hv,hmid⟩:=aB.pack hty ((gN hty).1 hx)
     have hlen:=hty.length hmid
     have hone:=aa.cC hty hmid
     have hcells:(a.eval x).cells=aP.toArray:=by rw[hv];exact gG hT' hlen hone
     obtain⟨ht2,pre,mid,post,e1,e2,e3,e4⟩:=lU _ ht hr hpo cH hu hty hmid
     obtain⟨cs',f1,f2,f3⟩:=qZ uh ps ht2 e4 (fun p hp=>hs p (by simp[hp])) h
     refine⟨cs',?_,f2,f3⟩
     subst e1
     simp only[kD]
     rw[rE (n:=u.size) (by rw[e2];exact hp) hcells e3 hlen]
     exact f1
    ·simp at h
  ·simp at h
def wH {b:Ty}:∀{fs:List Field} {off:Nat},ck P b fs off→∃places,fs.mapM (fun f=>(P.info? f.type).map fun i=>(f.offset,i.size))=some places ∧
  ∀i u,b.at (bA i)=some u→places[i]?=some (off+b.off (bA i),u.size):=by
 induction b with
 |unit=>
  intro fs off h
  unfold ck at h
  simp only[TO] at h
  subst h
  exact⟨[],by simp,fun i u hu=>by cases i<;>simp[bA,Ty.at] at hu⟩
 |pair x y _ jj=>
  intro fs off h
  unfold ck at h
  simp only[TO] at h
  obtain⟨f,l,rfl,h1,h2,h3⟩:=h
  obtain⟨pl,e1,e2⟩:=jj (off:=off+x.size) h3
  obtain⟨i0,g1,g2,_⟩:=(aJ.info (P:=P) (t:=x) h2).info
  refine⟨(f.offset,i0.size)::pl,by simp[List.mapM_cons,g1,e1],fun i u hu=>?_⟩
  cases i with
  |zero=>
   simp only[bA,Ty.at,au] at hu
   subst hu
   simp[h1,g2,bA,Ty.off]
  |succ i=>
   simp only[bA,Ty.at] at hu
   simp[e2 i u hu,bA,Ty.off,iq]
 |_=>intro fs off h;unfold ck at h;simp only[TO] at h
def wO {T:Nat}{parts:Array (Nat×Operand)}{ρf:Operand→AT}(hC:bW P C)(ho:o.op = .build T parts)(hm:aD F m w I ρ)(hs:∀p∈parts.toList,az w I m ρ (ρf p.2) (a.eval p.2))
  (hd:qY C T (bu (fun p=>(p.1,ρf p.2)) parts.toList)=some d):aA P F o a w m I ρ d:=by
 unfold qY at hd
 split at hd
 ·rename_i t ht
  have hT:=hC.ty ht
  cases hag:t.isAgg with
  |false=>simp[hag] at hd
  |true=>
  simp only[hag,aG,bE] at hd
  obtain⟨b',hb',rfl⟩:=hd
  obtain⟨z1,z2⟩:=lq (w:=w) (I:=I) (m:=m) (ρ:=ρ) hT
  obtain⟨i0,g1,g2,g3,_⟩:=hT.info.info
  have gr:=gG hT (z1.length z2) (aa.cC z1 z2)
  have fin:∀cs':List Value,t.isAgg=true→P.built T (parts.map fun(i,x)=>(i,a.eval x)).toList=some cs'.toArray→Typed b' t→aa w I m ρ b' cs'→aA P F o a w m I ρ ⟨b',[],[]⟩:=by
   intro cs' kP hb ht' hr'
   refine aA.value hm (v:=.agg cs'.toArray) ?_ ((gN ht').2 ?_)
   ·simp[execOp,ho,run_build w T _ _ hb]
   ·unfold aB
    rw[ht'.isAgg,kP,bf rfl]
    exact⟨_,rfl,by simpa using hr'⟩
  cases t with
  |pair x y=>
   unfold aJ at hT
   simp only[TO] at hT
   obtain⟨hinfo,fs,h1,f,l,h2,h3,h4,h5⟩:=hT
   have hF:ck P (.pair x y) fs.toList 0:=by unfold ck;simp only[TO];exact⟨f,l,h2,h3,h4,by simpa using h5⟩
   obtain⟨places,p1,p2⟩:=wH hF
   obtain⟨cs',q1,q2,q3⟩:=qZ (P:=P) (t:=.pair x y) (place:=(places.toArray[·]?)) (fun i u hu _=>⟨by have:=p2 i u hu;simp only[jE] at this;simpa[k9] using this,(by obtain⟨g,_,_,e⟩:=hF.field i hu;exact⟨_,e⟩),nB i hu⟩) parts.toList z1 z2 hs hb'
   refine fin cs' rfl ?_ q2 q3
   unfold Program.built
   simp only[g1,h1,g3,p1,gr]
   rw[←q1]
   simp
  |arr n u=>
   unfold aJ at hT
   simp only[TO] at hT
   obtain⟨hinfo,E,h1,h2,⟨k,rfl⟩,h4⟩:=hT
   obtain⟨ie,j1,j2,_⟩:=(aJ.info (P:=P) (t:=.int k) h4).info
   obtain⟨cs',q1,q2,q3⟩:=qZ (P:=P) (t:=.arr n (.int k)) (place:=fun i=>some (i*ie.size,ie.size)) (fun i u hu hok=>by
    simp only[k9,Ty.at,au] at hu
    subst hu
    refine⟨by simp[k9,Ty.off,j2],⟨_,h4⟩,?_,trivial⟩
    exact fu hok) parts.toList z1 z2 hs hb'
   refine fin cs' rfl ?_ q2 q3
   unfold Program.built
   simp only[g1,h1,g3,j1,gr]
   rw[←q1]
   simp
  |unit=>
   unfold aJ at hT
   simp only[TO] at hT
   obtain⟨hinfo,fs,h1,h2⟩:=hT
   cases hps:parts.toList with
   |nil=>
    rw[hps] at hb'
    simp only[bu,l9,au] at hb'
    subst hb'
    refine fin (bh .unit) rfl ?_ z1 z2
    unfold Program.built
    simp only[g1,h1,g3,h2]
    simp[hps,Instr.fill]
    exact gr
   |cons p l=>
    rw[hps] at hb'
    obtain⟨i,x⟩:=p
    simp only[bu,l9] at hb'
    cases i<;>simp[k9,bA,Ty.at] at hb'
  |_=>simp[Ty.isAgg] at hag
 ·simp at hd
end
section
variable {P:Program} {F:Fix} {C:Cx} {o:Oper} {a:Act} {w:World} {m:MF} {I:Nat→Prop} {ρ:Pl} {d:aE}
def bD {α:Type}{l l':List α}{x:α}:x∈app l l'↔x∈l∨x∈l':=by
 induction l with
 |nil=>simp[app]
 |cons y l ih=>simp[app,ih,or_assoc]
def uP {α β:Type}{f:α→List β}{l:List α}{y:β}:y∈fM f l↔∃x∈l,y∈f x:=by
 induction l with
 |nil=>simp[fM]
 |cons z l ih=>simp[fM,bD,ih]
def jm {α β:Type}(f:α→β)(l:List α):bu f l=l.map f:=by
 induction l with
 |nil=>rfl
 |cons x l ih=>simp[bu,ih]
def aR.rowsAt {α:Type}{R:α→List Value→Prop}{n:Nat}(hR:∀x vs,R x vs→vs.length=n){B off:Nat}{xs:List α}{cs:List Value}(h:aR R xs cs)
  (hc:∀j,j<cs.length→w.cell? ⟨B,off+j,none⟩=cs[j]?):fV w B off n R xs:=by
 intro i x hx
 obtain⟨pre,mid,post,e1,e2,e3,_⟩:=h.split hR hx
 have hl:=hR _ _ e3
 refine⟨mid,hl,fun j hj=>?_,e3⟩
 have:=hc (i*n+j) (by rw[e1];simp;omega)
 rw[←iq] at this
 rw[this,e1,bX,c_ (by omega),cL (by omega)]
 congr 1
 omega
def aR.replicate {α:Type}{R:α→List Value→Prop}{x:α}{vs:List Value}(h:R x vs):∀n,aR R (List.replicate n x) (List.replicate n vs).flatten
 |0=>by simp[aR]
 |n+1=>⟨vs,_,by simp[mK],h,aR.replicate h n⟩
def aR.append {α:Type}{R:α→List Value→Prop}:∀{xs ys:List α} {cs ds:List Value},aR R xs cs→aR R ys ds→aR R (xs++ys) (cs++ds)
 | [],_,_,_,h,k=>by cases h;simpa using k
 |_::_,_,_,_,⟨v1,v2,e,h1,h2⟩,k=>⟨v1,v2++_,by rw[e,bX],h1,h2.append k⟩
def oJ (z:List Value)(n:Nat):(madeCells z.toArray (n*z.length)).toList=(List.replicate n z).flatten:=by
 induction n with
 |zero=>simp[madeCells]
 |succ n ih=>
  rw[List.replicate_succ',List.flatten_append,←ih]
  simp only[madeCells,Array.toList_map,Array.toList_range,List.flatten_cons,List.flatten_nil,jV]
  rw[show(n+1)*z.length=n*z.length+z.length by rw[bP];omega,List.range_add,zl54]
  congr 1
  apply List.ext_getElem?
  intro j
  simp only[List.map_map,List.getElem?_map]
  by_cases hj:j<z.length
  ·simp[hj,Nat.mul_comm n,Nat.mod_eq_of_lt hj]
  ·simp[hj]
def qM:∀{t:Ty},t.jF=true→(∀{T:Nat},aJ P t T→af w I t t.dflt (bh t))∧(∀{fs off},ck P t fs off→af w I t t.dflt (bh t)):=by
 intro t
 induction t with
 |unit=>intro _;exact⟨fun _=>rfl,fun _=>rfl⟩
 |bool=>intro _;exact⟨fun _=>rfl,fun _=>rfl⟩
 |int k=>intro _;exact⟨fun _=>rfl,fun _=>rfl⟩
 |str=>intro _;exact⟨fun _=>rfl,fun _=>rfl⟩
 |lst u _=>intro _;exact⟨fun _=>⟨none,0,rfl,bw _,.inl rfl⟩,fun _=>⟨none,0,rfl,bw _,.inl rfl⟩⟩
 |own u _=>intro h;simp[Ty.jF] at h
 |pair x y iD jj=>
  intro h
  simp only[Ty.jF,aF] at h
  refine⟨fun {T} hT=>?_,fun {fs off} hF=>?_⟩
  ·unfold aJ at hT
   simp only[TO] at hT
   obtain⟨_,fs,_,f,l,_,_,h1,h2⟩:=hT
   exact⟨_,_,rfl,(iD h.1).1 h1,(jj h.2).2 h2⟩
  ·unfold ck at hF
   simp only[TO] at hF
   obtain⟨f,l,_,_,h1,h2⟩:=hF
   exact⟨_,_,rfl,(iD h.1).1 h1,(jj h.2).2 h2⟩
 |arr n u ih=>
  intro h
  refine⟨fun {T} hT=>?_,fun {fs off} hF=>by unfold ck at hF;simp only[TO] at hF⟩
  unfold aJ at hT
  simp only[TO] at hT
  obtain⟨_,E,_,_,⟨k,rfl⟩,hT⟩:=hT
  exact⟨by simp[Ty.dflt],qW k n⟩
 |ref u _=>intro h;simp[Ty.jF] at h
def aC.rows {T:Nat}{t:Ty}{xs:List t.den}{cs rest:List Value}(hm:aD F m w I ρ)(n s:Nat)(hst:∀b0,m n=some b0→b0.st<s)(_hsz:0<t.size)(hr:aR (af w I t) xs cs)(len cap:Nat)(hl:len=xs.length)(bO:len≤cap)
  (hcap:cap*t.size≤(cs++rest).length) (fr:Nat×Nat:=(0,0)) (hfr:∀j,j<(cs++rest).toArray.size→¬(fr.1≤j∧j<fr.2):=by simp) :
  let m':=m.put n ⟨s,false,.rows t xs⟩
  let ρ':=ρ.put n (some (w.heap.size,0))
  let w':=w.alloc (.cells (cs++rest).toArray T fr)
  aC F m m' w w' I I ρ ρ'∧az w' I m' ρ' (.whole n s t) (.slice (some ⟨w.heap.size,0,none⟩) len cap):=by
 subst hl
 have hRl:∀(x:t.den) vs,af w I t x vs→vs.length=t.size:=fun x vs h=>af.length h
 have hcs:=aR.length hRl hr
 have hd:=aC.new (F:=F) (m:=m) (w:=w) (I:=I) (ρ:=ρ) hm n ⟨s,false,.rows t xs⟩ (cs++rest).toArray T fr hfr hst (fun hk hc=>by
  simp only[aS]
  refine⟨trivial,.inr ⟨w.heap.size,0,_,by simp[Pl.put],hc,by simp;omega,?_,?_⟩⟩
  ·have ha:bN I I w (w.alloc (.cells (cs++rest).toArray T fr)):=⟨fun _ h=>h,fun B hB=>heap_alloc_old w _ B (hm.aY B hB)⟩
   refine(aR.mono (fun x vs h=>af.mono ha h) hr).rowsAt (fun x vs h=>af.length h) fun j hj=>?_
   rw[hc.cell]
   simp[cL hj]
  ·simp only[dI,false_iff]
   intro hI
   exact absurd (hm.aY _ hI) (kC _))
 refine⟨hd,?_⟩
 show aB _ _ _ _ _ _
 unfold aB
 simp only[AT.isAgg,dI,bI,aa]
 refine⟨⟨_,rfl,rfl⟩,cq.of (b:=⟨s,false,.rows t xs⟩) (by simp[MF.put]) rfl,fun b hb hs t' xs' hc=>?_⟩
 simp only[MF.put,cj,au] at hb
 subst hb
 cases hc
 refine⟨_,cap,rfl,bO,.inr ⟨w.heap.size,0,(cs++rest),by simp[Pl.put],by simp,?_,by omega⟩⟩
 have:=Cells.alloc w (cs++rest).toArray T fr hfr
 simpa using this
def xm {T:Nat}{xl xc:Operand}{al ac:AT}{l c:Int}{dst:Nat}(hC:bW P C)(ho:o.op = .makeSlice T xl xc)(hm:aD F m w I ρ)(hl:az w I m ρ al (a.eval xl))(hc:az w I m ρ ac (a.eval xc))
  (hil:gK al=some l) (hic:gK ac=some c) (mj:∀t,C.el T=some t→(C.dp&&t.aO)=false) (hd:nr C m dst T l c=some d) (hok:∀b∈d.ok,b=true):aA P F o a w m I ρ d:=by
 obtain⟨kl,jO⟩:=jk hil hl
 obtain⟨kc,hkc⟩:=jk hic hc
 unfold nr at hd
 split at hd
 ·rename_i t ht
  obtain⟨hz,hd⟩:=aH hd
  simp only[aF] at hz
  obtain⟨hz,_⟩:=hz
  ·rw[mj t ht,eF] at hd
   cases hd
   simp only[aX,iG,or_false,iH,forall_eq,gQ] at hok
   obtain⟨h0,hlc,hmax⟩:=hok
   obtain⟨E,h1,h2,h3⟩:=hC.el ht
   obtain⟨i0,g1,g2,g3,g4⟩:=h3.info.info
   obtain⟨z1,z2⟩:=lq (w:=w) (I:=I) (m:=m) (ρ:=ρ) h3
   have gr:=gG h3 (z1.length z2) (aa.cC z1 z2)
   have hzl:=z1.length z2
   have hmx:c≤34359738368:=by unfold eD at hmax;omega
   have hrun:=run_makeSlice (P:=P) w T E i0 _ h1 g1 g3 kl kc l c h0 hlc
   have hb:(i0.bytes:Int)*c≤281474976710656:=by
    have h5:(i0.bytes:Int)≤4096:=by omega
    have:=Int.mul_le_mul h5 hmx (by omega) (by omega)
    omega
   have hrun:=run_make (P:=P) w T E i0 _ h1 g1 g3 kl kc l c h0 hlc hb (by omega)
   have hcells:madeCells (aQ t (bh t)).cells (c.toNat*i0.size)=((List.replicate l.toNat (bh t)).flatten++(List.replicate (c.toNat-l.toNat) (bh t)).flatten).toArray:=by
    apply eU
    rw[gr,g2,←hzl,oJ,←List.flatten_append,List.replicate_append_replicate,show l.toNat+(c.toNat-l.toNat)=c.toNat by omega]
   rw[hcells] at hrun
   have hz':=(qM (P:=P) (w:=w) (I:=I) hz).1 h3
   obtain⟨hd,hs⟩:=aC.rows (T:=E) (rest:=(List.replicate (c.toNat-l.toNat) (bh t)).flatten) hm dst _ (fun b0 h=>lN h) h2 (aR.replicate hz' l.toNat) l.toNat c.toNat (by simp) (by omega) (by
    simp only[cK,List.length_flatten,List.map_replicate,List.sum_replicate_nat,hzl]
    rw[←bP]
    apply Nat.le_of_eq
    congr 1
    omega)
   exact aA.world (v:=.slice (some ⟨w.heap.size,0,none⟩) l.toNat c.toNat) (w':=w.alloc (.cells ((List.replicate l.toNat (bh t)).flatten++(List.replicate (c.toNat-l.toNat) (bh t)).flatten).toArray E)) (by simp only[execOp,ho,jO,hkc,Sem.run_bind,hrun,Result.andThen_ok];rfl) (by rw[MF.dL];exact hd) (by rw[MF.dL];exact hs)
 ·simp at hd
def uH {I':Nat→Prop}{t:Ty}{T':Nat}{len:Nat}{ρf:Operand→AT}(hT:aJ P t T')(hm:aD F m w I ρ)(hI:∀B,I B→I' B) :
  ∀(ps:List (Nat×Operand)) {xs ys:List t.den} {cs:List Value},xs.length=len→aR (af w I' t) xs cs→(∀p∈ps,az w I m ρ (ρf p.2) (a.eval p.2)) →
   (∀p∈ps,∀id∈(ρf p.2).ids,∀b B o,m id=some b→b.live→ρ id=some (B,o)→I' B) →
   nj m t len xs (bu (fun p=>(p.1,ρf p.2)) ps)=some ys →
   ∃cs',Instr.fill (fun i=>some (i*t.size,t.size)) cs.toArray (ps.map fun p=>(p.1,a.eval p.2))=some cs'.toArray∧ys.length=len∧aR (af w I' t) ys cs'
 | [],xs,ys,cs,hl,hr,_,_,h=>by
  simp only[bu,nj,au] at h
  subst h
  exact⟨cs,rfl,hl,hr⟩
 | (i,x)::ps,xs,ys,cs,hl,hr,hs,hf,h=>by
  simp only[bu,nj] at h
  cases hb:Nat.ble (i+1) len&&(cG (some t) (ρf x)).fits t with
  |false=>simp[hb] at h
  |true=>
   simp only[hb,aG] at h
   simp only[aF] at hb
   have hi:=fu hb.1
   split at h
   ·rename_i d0 hd0
    split at h
    ·rename_i y hy
     have hty:=j5 hb.2
     have hx:=n9 (u:=some t) (hs (i,x) (by simp))
     obtain⟨aP,hv,hmid⟩:=aB.pack hty ((gN hty).1 hx)
     have hlen:=hty.length hmid
     have hcells:(a.eval x).cells=aP.toArray:=by rw[hv];exact gG hT hlen (aa.cC hty hmid)
     have lF:∀id∈(cG (some t) (ρf x)).ids,∀b B o,m id=some b→b.live→ρ id=some (B,o)→I' B:=by
      intro id hid
      refine hf (i,x) (by simp) id ?_
      revert hid
      show id∈_→id∈(ρf x).ids
      unfold cG
      split
      ·intro h;simp[AT.ids] at h
      ·exact fun h=>h
     have gY:=qJ hm hI lF hd0 hmid
     obtain⟨e,he⟩:=DV.cz hy
     cases d0 with
     |mk dt dx=>
      simp only at e
      subst e
      simp only at he
      subst he
      obtain⟨pre,mid,post,e1,e2,e3,e4⟩:=aR.split (fun x vs h=>af.length h) hr (mY (z:=dt.dflt) (i:=i) (by omega))
      obtain⟨cs',f1,f2,f3⟩:=uH hT hm hI ps (by simpa using hl) (e4 _ _ gY) (fun p hp=>hs p (by simp[hp])) (fun p hp=>hf p (by simp[hp])) h
      refine⟨cs',?_,f2,f3⟩
      subst e1
      simp only[kD]
      rw[rE (n:=dt.size) (by rw[e2]) hcells (af.length e3) hlen]
      exact f1
    ·simp at h
   ·simp at h
def aC.rows' {T:Nat}{t:Ty}{xs:List t.den}{cs:List Value}{ids:List Nat}(hm:aD F m w I ρ)(n:Nat)(hsz:0<t.size)(hr:aR (af w (dP m ρ I ids) t) xs cs)(len:Nat)(hl:len=xs.length)(hni:¬n∈ids) :
  let I':=dP m ρ I ids
  let m':=(m.aj (bG m ids)).put n ⟨aW m n,false,.rows t xs⟩
  let ρ':=ρ.put n (some (w.heap.size,0))
  let w':=w.alloc (.cells cs.toArray T)
  aC F m m' w w' I I' ρ ρ'∧az w' I' m' ρ' (.whole n (aW m n) t) (.slice (some ⟨w.heap.size,0,none⟩) len len):=by
 have h1:=aC.freeze hm ids
 have hst:aW (m.aj (bG m ids)) n=aW m n:=by
  unfold aW
  rw[qL]
  simp[hni]
 have hcs:=aR.length (fun(x:t.den) vs (h:af w (dP m ρ I ids) t x vs)=>af.length h) hr
 obtain⟨h2,h3⟩:=aC.rows (T:=T) (rest:=[]) h1.mem n _ (fun b0 h=>lN h) hsz hr len len hl (bw _) (by simp[hcs,hl])
 rw[hst] at h2 h3
 simp only[jV] at h2 h3
 exact⟨h1.trans h2,h3⟩
def wQ {T len:Nat}{parts:Array (Nat×Operand)}{ρf:Operand→AT}{dst:Nat}(hC:bW P C)(ho:o.op = .buildSlice T len parts)(hm:aD F m w I ρ)
  (hs:∀p∈parts.toList,az w I m ρ (ρf p.2) (a.eval p.2)) (mj:∀t,C.el T=some t→(C.dp&&t.aO)=false) (hd:mU C m dst T len (bu (fun p=>(p.1,ρf p.2)) parts.toList)=some d):aA P F o a w m I ρ d:=by
 unfold mU at hd
 split at hd
 ·rename_i t ht
  rw[mj t ht,eF] at hd
  cases hz0:t.jF&&Nat.ble (len*t.size) 16777216 && !(bT (Nat.beq dst) (fM (fun p:Nat×AT=>p.2.ids) (bu (fun p=>(p.1,ρf p.2)) parts.toList))) with
  |false=>simp[hz0] at hd
  |true=>
   simp only[hz0,aG,bE] at hd
   simp only[aF] at hz0
   obtain⟨hz,hnd⟩:=hz0
   have hni:¬dst∈fM (fun p:Nat×AT=>p.2.ids) (bu (fun p=>(p.1,ρf p.2)) parts.toList):=by
    intro hmem
    have:bT (Nat.beq dst) (fM (fun p:Nat×AT=>p.2.ids) (bu (fun p=>(p.1,ρf p.2)) parts.toList))=true:=by
     revert hmem
     generalize fM (fun p:Nat×AT=>p.2.ids) (bu (fun p=>(p.1,ρf p.2)) parts.toList)=l
     intro hmem
     induction l with
     |nil=>simp at hmem
     |cons x l ih=>
      simp only[bT,kE]
      rcases aX.1 hmem with h|h
      ·exact .inl (by subst h;exact Nat.beq_refl _)
      ·exact .inr (ih h)
    rw[this] at hnd
    cases hnd
   have hsm:=fu hz.2
   obtain⟨ys,hys,rfl⟩:=hd
   obtain⟨E,h1,h2,h3⟩:=hC.el ht
   obtain⟨i0,g1,g2,g3,g4⟩:=h3.info.info
   obtain⟨z1,z2⟩:=lq (w:=w) (I:=I) (m:=m) (ρ:=ρ) h3
   have gr:=gG h3 (z1.length z2) (aa.cC z1 z2)
   have hzl:=z1.length z2
   let ids:=fM (fun p:Nat×AT=>p.2.ids) (bu (fun p=>(p.1,ρf p.2)) parts.toList)
   have hz':=(qM (P:=P) (w:=w) (I:=dP m ρ I ids) hz.1).1 h3
   obtain⟨cs',q1,q2,q3⟩:=uH (P:=P) (I':=dP m ρ I ids) h3 hm (fun _ h=>.inl h) parts.toList (by simp) (aR.replicate hz' len) hs (fun p hp id hid b B o' h1 h2 h3=>.inr (.inl ⟨id,by
    refine uP.2 ⟨(p.1,ρf p.2),?_,hid⟩
    rw[jm]
    exact eV.2 ⟨p,hp,rfl⟩,b,o',h1,h2,h3⟩)) hys
   obtain⟨hd,hsl⟩:=aC.rows' (T:=E) hm dst h2 q3 len q2.symm hni
   have hrun:(Instr.buildSlice T len (parts.map fun(i,x)=>(i,a.eval x))).run P w = .ok (.slice (some ⟨w.heap.size,0,none⟩) len len) (w.alloc (.cells cs'.toArray E)):=by
    by_cases hl0:len=0
    ·subst hl0
     cases hps:parts.toList with
     |nil=>
      rw[hps] at q1
      simp[Instr.fill] at q1
      have:parts = #[]:=by apply eU;simpa using hps
      subst this
      simp[Instr.buildSlice,run_underlying h1,h3.info.run_sizeOf,Instr.fill,newRow,q1,Array.range_zero']
     |cons p l=>
      rw[hps] at hys
      obtain⟨i,x⟩:=p
      have:Nat.ble (i+1) 0=false:=rfl
      simp[bu,nj,this] at hys
    ·have hne:¬len*i0.size=0:=by
      rw[g2]
      exact Nat.ne_of_gt (Nat.mul_pos (by omega) h2)
     refine run_buildSlice w T E len _ _ i0 _ h1 g1 g3 (by rw[g2];omega) hne ?_
     have hcells:((Array.range (len*i0.size)).map ((aQ t (bh t)).cells[· % (aQ t (bh t)).cells.size]!))=(List.replicate len (bh t)).flatten.toArray:=by
      apply eU
      have:=oJ (bh t) len
      unfold madeCells at this
      rw[gr,g2,←hzl,this]
     rw[hcells,g2,←q1]
     simp
   exact aA.world (v:=.slice (some ⟨w.heap.size,0,none⟩) len len) (w':=w.alloc (.cells cs'.toArray E)) (by simp only[execOp,ho,Sem.run_bind,hrun,Result.andThen_ok];rfl) (by rw[MF.pq];exact hd) (by rw[MF.pq];exact hsl)
 ·simp at hd
end
section
variable {P:Program} {F:Fix} {C:Cx} {o:Oper} {a:Act} {w:World} {m:MF} {I:Nat→Prop} {ρ:Pl} {d:aE}
def fV.cells {α:Type}{R:α→List Value→Prop}{B sz:Nat}:∀{xs:List α} {off:Nat},fV w B off sz R xs →
  ∃cs,aR R xs cs∧cs.length=xs.length*sz∧∀j,j<cs.length→w.cell? ⟨B,off+j,none⟩=cs[j]?
 | [],off,_=>⟨[],rfl,by simp,fun j hj=>by simp at hj⟩
 |x::xs,off,h=>by
  obtain⟨cs,h1,h2,h3⟩:=h 0 x rfl
  obtain⟨ds,k1,k2,k3⟩:=fV.cells (xs:=xs) (off:=off+sz) (fun i y hy=>by
   obtain⟨es,e1,e2,e3⟩:=h (i+1) y (by simpa using hy)
   refine⟨es,e1,fun j hj=>?_,e3⟩
   rw[←e2 j hj]
   congr 2
   rw[bP]
   omega)
  refine⟨cs++ds,⟨cs,ds,rfl,h3,k1⟩,by simp[h1,k2,bP];omega,fun j hj=>?_⟩
  by_cases kR:j<sz
  ·have:=h2 j kR
   rw[cL (by omega),←this]
   congr 2
   omega
  ·simp only[cK] at hj
   have:=k3 (j-sz) (by omega)
   rw[c_ (by omega),h1,←this]
   congr 2
   omega
def ListAt (w:World)(I:Nat→Prop)(t:Ty)(xs:List t.den)(v:Value):Prop:=
 ∃ad cap,v = .slice ad xs.length cap∧xs.length≤cap∧(xs = []∨∃B off,ad=some ⟨B,off,none⟩∧fV w B off t.size (af w I t) xs)
def rY {y:AT}{v:Value}{t:Ty}{dv:DV}{ys:List t.den}(hm:aD F m w I ρ)(hs:az w I m ρ y v)(hv:cQ m y=some dv)(ht:dv.as (.lst t)=some ys):ListAt w I t ys v:=by
 obtain⟨e,he⟩:=DV.cz ht
 cases dv with
 |mk dt dx=>
  simp only at e
  subst e
  simp only at he
  subst he
  cases y<;>simp only[cQ,reduceCtorEq] at hv
  case leaf u x=>
   cases hv
   have:=cn (a:=.leaf (.lst t) dx) rfl hs (by simp) (by simp) (by simp) (by simp)
   simp only[aa,af,eG,dY] at this
   obtain⟨ad,cap,e1,e2,e3⟩:=this
   exact⟨ad,cap,e1,e2,e3.imp (fun h=>h) fun⟨B,off,h1,_,h2⟩=>⟨B,off,h1,h2⟩⟩
  case nil u=>
   cases hv
   have:=cn (a:=.nil t) rfl hs (by simp) (by simp) (by simp) (by simp)
   simp only[aa,eG,dY] at this
   exact⟨none,0,by simpa using this,by simp,.inl rfl⟩
  case whole id st u=>
   simp only[bE] at hv
   obtain⟨⟨fz,xs⟩,hro,hv⟩:=hv
   cases hv
   have hb:=gA hro
   obtain⟨ad,cap,e1,e2,e3⟩:=xE hs hro
   refine⟨ad,cap,e1,e2,?_⟩
   have hblk:=hm.blk id _ hb
   simp only[aS] at hblk
   obtain⟨h0,hblk⟩:=hblk
   rcases hblk with⟨d_,_⟩|⟨B,o',cs,f1,f2,f3,f4,_⟩
   ·exact .inl d_
   ·rcases e3 with e3|⟨B',dA,cs',g1,g2,g3,g4⟩
    ·left
     show xs = []
     rw[←dM]
     omega
    ·right
     rw[f1] at g1
     cases g1
     exact⟨B,o',by simpa using g2,f4⟩
  case piece id st off len u=>
   simp only[bE] at hv
   obtain⟨⟨fz,xs⟩,hro,hv⟩:=hv
   cases hv
   have hb:=gA hro
   obtain⟨ad,cap,e1,e2,kM,e3⟩:=m_ hs hro
   have hl:((xs.drop off).take len).length=len:=by simp;omega
   refine⟨ad,cap,by rw[hl];exact e1,by rw[hl];exact e2,?_⟩
   have hblk:=hm.blk id _ hb
   simp only[aS] at hblk
   obtain⟨h0,hblk⟩:=hblk
   rcases hblk with⟨d_,_⟩|⟨B,o',cs,f1,f2,f3,f4,_⟩
   ·left;subst d_;simp
   ·rcases e3 with e3|⟨B',dA,cs',g1,g2,g3,g4⟩
    ·left
     rw[←dM,hl]
     omega
    ·right
     rw[f1] at g1
     cases g1
     exact⟨B,o'+off*t.size,by simpa using g2,f4.piece off len⟩
  case pair l r=>
   split at hv<;>simp at hv
def nY (P:Program)(w:World)(size:Nat)(x:Value)(n:Nat)(news:List Value):Prop:=
 (Builtin.lenOf x).run P w = .ok n w∧∀w':World,w'.heap=w.heap→(Builtin.firstCells size n x).run P w' = .ok news.toArray w'
def qV:∀s:List UInt8,aR (fun(x:Int) (vs:List Value)=>vs = [.int .u8 x]) (bytesOf s) (s.map fun b=>Value.int .u8 b.toNat)
 | []=>rfl
 |b::s=>⟨[.int .u8 b.toNat],_,rfl,rfl,qV s⟩
def y_ {y:AT}{v:Value}{t:Ty}{ys:List t.den}(hm:aD F m w I ρ)(hs:az w I m ρ y v)(hd:tailD m t y=some ys) :
  ∃news,nY P w t.size v ys.length news∧aR (af w I t) ys news:=by
 unfold tailD at hd
 split at hd
 ·rename_i s
  simp only[au] at hd
  subst hd
  have e:=iX.1 hs
  subst e
  refine⟨s.map fun b=>Value.int .u8 b.toNat,⟨by simp[Builtin.lenOf,ByteArray.size,bytesOf],fun w' _=>?_⟩,by have:=qV s;exact aR.mono (fun x vs h=>by simpa only[af] using h) this⟩
  have:((ByteArray.extract ⟨s.toArray⟩ 0 (bytesOf s).length).data)=s.toArray:=by
   rw[ByteArray.data_extract]
   apply eU
   simp[bytesOf]
  simp[Builtin.firstCells]
  simp only[bytesOf,List.length_map]
  rw[zl57 (by simp)]
 ·rename_i y' t' hn
  obtain⟨dv,hv,ht⟩:=lZ.1 hd
  obtain⟨ad,cap,e1,e2,e3⟩:=rY hm (n9 (u:=some (.lst t)) hs) hv ht
  subst e1
  rcases e3 with e3|⟨B,off,e3,e4⟩
  ·subst e3
   refine⟨[],⟨by simp[Builtin.lenOf],fun w' _=>?_⟩,rfl⟩
   cases ad<;>simp[Builtin.firstCells,loadCells,loadCellsFrom]
  ·subst e3
   obtain⟨cs,f1,f2,f3⟩:=e4.cells
   refine⟨cs,⟨by simp[Builtin.lenOf],fun w' hw=>?_⟩,f1⟩
   have:(loadCells ⟨B,off,none⟩ cs.length).run P w' = .ok cs.toArray w':=qA fun j hj=>by
    rw[←f3 j hj]
    simp[World.cell?,hw]
   simp[Builtin.firstCells,←f2,this]
def ve {α:Type}{xs ys:List α}{k:Nat}(h:k+ys.length≤xs.length):(over xs k ys).length=xs.length:=by
 simp only[over,cK,zl3,zl4];omega
def yC {α:Type}{xs ys:List α}{k:Nat}(h:k+ys.length≤xs.length)(j:Nat):(over xs k ys)[j]?=if k≤j∧j<k+ys.length then ys[j-k]? else xs[j]? :=by
 unfold over
 have ht:(xs.take k).length=k:=by simp;omega
 by_cases h1:j<k
 ·rw[cL (by omega),bY (by omega),List.getElem?_take,bf h1]
 ·rw[c_ (by omega),ht]
  by_cases h2:j<k+ys.length
  ·rw[cL (by omega),bf (by omega)]
  ·rw[c_ (by omega),bY (by omega),zl5]
   congr 1
   omega
def aC.over {t:Ty}{id st:Nat}{xs ys:List t.den}{news:List Value}(P:Program)(hm:aD F m w I ρ)(hb:m id=some ⟨st,false,.rows t xs⟩)(hn:aR (af w I t) ys news)(k:Nat)(hk:k+ys.length≤xs.length) :
  (xs = []∧ρ id=none∧aC F m (m.put id ⟨st,false,.rows t (over xs k ys)⟩) w w I I ρ ρ) ∨
  ∃B o' w',ρ id=some (B,o')∧(storeCells ⟨B,o'+k*t.size,none⟩ news 0).run P w = .ok () w'∧aC F m (m.put id ⟨st,false,.rows t (over xs k ys)⟩) w w' I I ρ ρ ∧
   (∀cs,Cells w B cs→∃cs',Cells w' B cs'∧cs'.length=cs.length):=by
 have hnl:=aR.length (fun(x:t.den) vs (h:af w I t x vs)=>af.length h) hn
 have hblk:=hm.blk id _ hb
 simp only[aS] at hblk
 obtain⟨h0,hblk⟩:=hblk
 rcases hblk with⟨d_,hno⟩|⟨B,o',cs,k1,k2,k3,k4,k5⟩
 ·left
  refine⟨d_,hno,?_⟩
  subst d_
  have hy:ys = []:=by rw[←dM];have:=hk;rw[nQ] at this;omega
  subst hy
  have e:m.put id ⟨st,false,.rows t (Go.Ab.over [] k [])⟩=m:=by
   funext j
   simp only[MF.put]
   by_cases hj:id=j
   ·subst hj;rw[bf rfl,hb];simp[Go.Ab.over]
   ·rw[bY hj]
  rw[e]
  exact aC.refl hm
 ·right
  have hle:o'+k*t.size+news.length≤cs.length:=by
   rw[hnl,iq,←bP]
   have:=gD t.size hk
   omega
  obtain⟨w',hr,aM,hsame,hsize,hos,gj,hout⟩:=run_storeCells_cells P B (o'+k*t.size) news 0 cs w k2 (by simpa using hle) (aR.cC (fun x vs h=>af.cC h) hn)
  simp only[qN] at aM
  have cY:¬I B:=by simpa using k5
  have hlen':=oY hle
  have hol:=ve hk
  refine⟨B,o',w',k1,hr,?_,fun ds hds=>⟨_,aM,by rw[hlen',k2.unique hds]⟩⟩
  refine aC.write hm id ⟨st,false,.rows t xs⟩ ⟨st,false,.rows t (Go.Ab.over xs k ys)⟩ B o' cs _ hb (fF rfl) (.inr ⟨rfl,?_⟩) k1 cY k2 aM (by omega) hsame hsize hos gj hout (fun ha hk'=>?_)
  ·exact⟨rfl,hol.symm⟩
  ·simp only[aS]
   refine⟨h0,.inr ⟨B,o',_,k1,aM,by rw[hlen',hol];omega,?_,by simpa using cY⟩⟩
   intro j x hj
   rw[yC hk] at hj
   split at hj
   ·rename_i hjj
    obtain⟨pre,mid,post,q1,q2,q3,_⟩:=hn.split (fun x vs h=>af.length h) hj
    have hml:=af.length q3
    refine⟨mid,hml,fun j' hj'=>?_,af.mono ha q3⟩
    have hjm:j*t.size=k*t.size+(j-k)*t.size:=by rw[←bP];congr 1;omega
    have hnews:news[(j-k)*t.size+j']?=mid[j']? :=by
     rw[q1,bX,c_ (by omega),cL (by omega)]
     congr 1
     omega
    have hnl':(j-k)*t.size+j'<news.length:=by rw[q1];simp;omega
    rw[aM.cell,jt hle,bf (by omega),←hnews]
    congr 1
    omega
   ·rename_i hjj
    obtain⟨es,q1,q2,q3⟩:=k4 j x hj
    refine⟨es,q1,fun j' hj'=>?_,af.mono ha q3⟩
    rw[←q2 j' hj',aM.cell,k2.cell,jt hle,bY]
    by_cases hjk:j<k
    ·have:(j+1)*t.size≤k*t.size:=gD _ hjk
     rw[bP] at this
     omega
    ·have:(k+ys.length)*t.size≤j*t.size:=gD _ (by omega)
     rw[bP] at this
     omega
section
variable {T T2 E:TypeId} {iz:TypeDesc} {ty:TypeId} {i:TypeInfo} {z:Value}
def k_ {base:Option Addr}{sLen sCap n:Nat}{x:Value}{news:List Value}{w':World}(hT:P.underlying T=some (.slice E))(fC:P.underlying T2=some iz)(hk:∀k,iz ≠ .int k)(hi:P.info? E=some i)
  (ht:nY P w i.size x n news) (h:sLen+n≤sCap)
  (hst:match base with | some ad=>(storeCells (ad.add (sLen*i.size)) news 0).run P w = .ok () w'|none=>w'=w) :
  (Builtin.append_ #[T,T2] ty #[.slice base sLen sCap,x]).run P w = .ok (.slice base (sLen+n) sCap) w':=by
 have hz:(iz matches .int _)=false:=by
  cases iz<;>first|rfl|exact absurd rfl (hk _)
 have hf:=ht.2 w rfl
 cases base with
 |none=>
  subst hst
  simp[Builtin.append_,run_underlying hT,run_underlying fC,sizeOf,typeInfo,hi,ht.1,h,hf]
 |some ad=>
  simp only at hst
  simp[Builtin.append_,run_underlying hT,run_underlying fC,sizeOf,typeInfo,hi,ht.1,h,hf,hst]
def qx {base:Option Addr}{sLen sCap n:Nat}{x:Value}{olds news:List Value}(hT:P.underlying T=some (.slice E))(fC:P.underlying T2=some iz)(hk:∀k,iz ≠ .int k)(hi:P.info? E=some i)
  (hz0:i.zero=some z) (ht:nY P w i.size x n news) (h:sCap<sLen+n) (ho:∀w':World,w'.heap=w.heap→(Builtin.firstCells i.size sLen (.slice base sLen sCap)).run P w' = .ok olds.toArray w')
  (h63:sLen+n≤34359738368) (hby:i.bytes≤4096) :
  (Builtin.append_ #[T,T2] ty #[.slice base sLen sCap,x]).run P w = .ok (.slice (some ⟨w.heap.size,0,none⟩) (sLen+n) (grownCap w (sLen+n) sCap E))
   (w.drew.alloc (.cells (olds++news++(Builtin.zeroCells z.cells (grownCap w (sLen+n) sCap E-(sLen+n))).toList).toArray E)):=by
 have hz:(iz matches .int _)=false:=by
  cases iz<;>first|rfl|exact absurd rfl (hk _)
 have hn:¬(sLen+n≤sCap):=by omega
 have h63':¬(9223372036854775807<((sLen:Int)+(n:Int))):=by omega
 have hb:(sLen+n)*i.bytes≤140737488355328:=by
  have:=Nat.mul_le_mul h63 hby
  omega
 have h48':¬(281474976710656<Builtin.nextslicecap (sLen+n) sCap*i.bytes):=by have:=growslice_fits h hb;omega
 have hf:=ht.2 w.drew rfl
 have hfo:=ho w.drew rfl
 simp[Builtin.append_,run_underlying hT,run_underlying fC,sizeOf,typeInfo,zeroValue,hi,hz0,ht.1,hn,h63',h48',Question.forced,hf,hfo,newRow,grownCap]
 apply congrArg
 apply congrArg (fun c=>Obj.cells c E)
 apply eU
 simp[]
end
def qC (z:Array Value)(n:Nat):(Builtin.zeroCells z n).toList.length=n*z.size:=by simp[Builtin.zeroCells]
def o8 {t:Ty}{v:Value}{y:AT}(hy:y = .nil t∨y = .cW)(h:az w I m ρ y v):v = .slice none 0 0:=by
 rcases hy with rfl|rfl
 ·have:=cn (a:=.nil t) rfl h (by simp) (by simp) (by simp) (by simp)
  simpa[aa] using this
 ·have:=cn (a:=.cW) rfl h (by simp) (by simp) (by simp) (by simp)
  simpa[aa] using this
def aC.empty {t:Ty}(hm:aD F m w I ρ)(n s:Nat)(hst:∀b0,m n=some b0→b0.st<s)(_hsz:0<t.size) :
  let m':=m.put n ⟨s,false,.rows t []⟩
  aC F m m' w w I I ρ (ρ.put n none)∧az w I m' (ρ.put n none) (.whole n s t) (.slice none 0 0):=by
 refine⟨aC.stale hm n _ hst (.inr ⟨t,rfl⟩),?_⟩
 show aB _ _ _ _ _ _
 unfold aB
 simp only[AT.isAgg,dI,bI,aa]
 refine⟨⟨_,rfl,rfl⟩,cq.of (b:=⟨s,false,.rows t []⟩) (by simp[MF.put]) rfl,fun b hb hs t' xs' hc=>?_⟩
 simp only[MF.put,cj,au] at hb
 subst hb
 cases hc
 exact⟨none,0,rfl,bw _,.inl ⟨rfl,rfl,by simp[Pl.put]⟩⟩
def aC.grown {E:TypeId}{t:Ty}{xs:List t.den}{cs rest:List Value}(hm:aD F m w I ρ)(n s:Nat)(hst:∀b0,m n=some b0→b0.st<s)(hsz:0<t.size)(hr:aR (af w I t) xs cs)(len cap:Nat)(hl:len=xs.length)(bO:len≤cap)
  (hcap:cap*t.size≤(cs++rest).length) (fr:Nat×Nat:=(0,0)) (hfr:∀j,j<(cs++rest).toArray.size→¬(fr.1≤j∧j<fr.2):=by simp) :
  let m':=m.put n ⟨s,false,.rows t xs⟩
  let ρ':=ρ.put n (some (w.heap.size,0))
  let w':=w.drew.alloc (.cells (cs++rest).toArray E fr)
  aC F m m' w w' I I ρ ρ'∧az w' I m' ρ' (.whole n s t) (.slice (some ⟨w.heap.size,0,none⟩) len cap):=by
 have h1:=aC.drew hm
 have hr':aR (af w.drew I t) xs cs:=aR.mono (fun x vs h=>af.mono h1.agree h) hr
 obtain⟨h2,h3⟩:=aC.rows (T:=E) h1.mem n s hst hsz hr' len cap hl bO hcap fr hfr
 exact⟨h1.trans h2,h3⟩
def wL {T T2:Nat}{xo yo:Operand}{ax ay:AT}{dst:Nat}{t:Ty}{iz:TypeDesc}(hC:bW P C)(ho:o.op = .call ⟨.builtin .append,#[xo,yo],#[T,T2]⟩)(hm:aD F m w I ρ)
  (hx:az w I m ρ ax (a.eval xo)) (hy:az w I m ρ ay (a.eval yo)) (ht:C.el T=some t) (fC:P.underlying T2=some iz) (hk:∀k,iz ≠ .int k)
  (mj:rV m ay=false) (hd:n6 C m dst t ax ay=some d) (hok:∀b∈d.ok,b=true):aA P F o a w m I ρ d:=by
 obtain⟨E,h1,h2,h3⟩:=hC.el ht
 obtain⟨i0,g1,g2,g3,g4⟩:=h3.info.info
 obtain⟨z1,z2⟩:=lq (w:=w) (I:=I) (m:=m) (ρ:=ρ) h3
 have gr:=gG h3 (z1.length z2) (aa.cC z1 z2)
 have hzl:=z1.length z2
 have hzs:(aQ t (bh t)).cells.size=t.size:=by rw[gr];simpa using hzl
 have fO:∀{v:Value} {w':World},(Builtin.append_ #[T,T2] o.type #[a.eval xo,a.eval yo]).run P w = .ok v w'→(execOp a.eval o).run P w = .ok (.value v) w':=by
  intro v w' h
  simp[execOp,ho,resolve,invoke,builtin,h]
 unfold n6 at hd
 rw[mj,eF] at hd
 split at hd
 ·simp at hd
 ·rename_i ys hys
  obtain⟨news,ht1,ht2⟩:=y_ hm hy hys
  have hnl:=aR.length (fun(x:t.den) vs (h:af w I t x vs)=>af.length h) ht2
  rw[←g2] at ht1
  have fresh:∀{y:AT},y=ax→(y = .nil t∨y = .cW)→ys.length≤eD →
    aA P F o a w m I ρ ⟨.whole dst (aW m dst) t,[(dst,⟨aW m dst,false,.rows t ys⟩)],[decide (ys.length≤eD)]⟩:=by
   intro y hya hyn hmax
   subst hya
   have hv:=o8 hyn hx
   cases kW:ys with
   |nil=>
    subst kW
    have hn0:news = []:=by rw[←dM,hnl];simp
    subst hn0
    obtain⟨hd,hs⟩:=aC.empty (t:=t) hm dst (aW m dst) (fun b0 h=>lN h) h2
    refine aA.world (v:=.slice none 0 0) (w':=w) (fO ?_) (by rw[MF.dL];exact hd) (by rw[MF.dL];exact hs)
    rw[hv]
    exact k_ h1 fC hk g1 ht1 (bw _) rfl
   |cons y0 ys0=>
    have hpos:0<ys.length:=by rw[kW];simp
    rw[←kW]
    have hrun:=qx (ty:=o.type) (base:=none) (sLen:=0) (sCap:=0) (olds:=[]) h1 fC hk g1 g3 ht1 (by omega) (fun w' _=>by simp[Builtin.firstCells]) (by simpa[eD] using hmax) g4
    have hge:=grownCap_ge w (0+ys.length) 0 E
    obtain⟨hd,hs⟩:=aC.grown (E:=E) (rest:=(Builtin.zeroCells (aQ t (bh t)).cells (grownCap w (0+ys.length) 0 E-(0+ys.length))).toList) hm dst (aW m dst) (fun b0 h=>lN h) h2 ht2 (0+ys.length) (grownCap w (0+ys.length) 0 E) (by omega) hge (by
     rw[cK,qC,hzs,hnl,←bP]
     apply gD
     omega)
    rw[←hv] at hrun
    exact aA.world (fO hrun) (by rw[MF.dL];exact hd) (by rw[MF.dL];exact hs)
  split at hd
  ·rename_i u
   split at hd
   ·rename_i zz hzz
    obtain⟨e,_⟩:=DV.cz hzz
    simp only[Ty.lst.injEq] at e
    subst e
    cases hd
    exact fresh rfl (.inl rfl) (by simpa using hok)
   ·simp at hd
  ·cases hd
   exact fresh rfl (.inr rfl) (by simpa using hok)
  ·rename_i id st u
   split at hd
   ·rename_i xs hro
    cases kV:u.is t with
    |false=>simp[kV] at hd
    |true=>
    have:=Ty.cZ kV
    subst this
    simp only[kV,aG,au] at hd
    subst hd
    have hmax:xs.length+ys.length≤eD:=by simpa using hok
    have hb:=gA hro
    obtain⟨ad,cap,e1,e2,e3⟩:=ue hx hro
    have hblk:=hm.blk id _ hb
    simp only[aS] at hblk
    obtain⟨h0,hblk⟩:=hblk
    have hlt:∀b0,m id=some b0→b0.st<st+1:=by intro b0 h;rw[hb] at h;cases h;exact Nat.lt_succ_self _
    by_cases hroom:xs.length+ys.length≤cap
    ·rcases e3 with e3|⟨B,o',cs,f1,f2,f3,f4⟩
     ·obtain⟨e31,e32,e33⟩:=e3
      subst e31 e32
      have hx0:xs = []:=by rw[←dM];omega
      have hy0:ys = []:=by rw[←dM];omega
      subst hx0 hy0
      have hn0:news = []:=by rw[←dM,hnl];simp
      subst hn0
      obtain⟨hd,hs⟩:=aC.empty (t:=u) hm id (st+1) hlt h2
      refine aA.world (v:=.slice none 0 0) (w':=w) (fO ?_) (by rw[MF.dL];exact hd) (by rw[MF.dL];exact hs)
      rw[e1]
      exact k_ h1 fC hk g1 ht1 (bw _) rfl
     ·subst f2
      rcases hblk with⟨_,hno⟩|⟨B',dA,cs',k1,k2,k3,k4,k5⟩
      ·rw[f1] at hno;cases hno
      ·rw[f1] at k1
       cases k1
       have:=f3.unique k2
       subst this
       have hle:o'+xs.length*u.size+news.length≤cs.length:=by
        rw[hnl,iq,←bP]
        have:=gD u.size hroom
        omega
       obtain⟨w',hr,aM,hsame,hsize,hos,gj,hout⟩:=run_storeCells_cells P B (o'+xs.length*u.size) news 0 cs w f3 (by simpa using hle) (aR.cC (fun x vs h=>af.cC h) ht2)
       simp only[qN] at aM
       have cY:¬I B:=by simpa using k5
       have hlen':=oY hle
       have hd:=aC.write hm id ⟨st,false,.rows u xs⟩ ⟨st+1,false,.rows u (xs++ys)⟩ B o' cs _ hb (fF rfl) (.inl (Nat.lt_succ_self _)) f1 cY f3 aM (by omega) hsame hsize hos gj hout (fun ha hk'=>by
        simp only[aS]
        refine⟨h0,.inr ⟨B,o',_,f1,aM,by rw[hlen'];simp only[cK,bP];omega,?_,by simpa using cY⟩⟩
        intro j x hj
        by_cases hjx:j<xs.length
        ·rw[cL hjx] at hj
         obtain⟨es,q1,q2,q3⟩:=k4 j x hj
         refine⟨es,q1,fun j' hj'=>?_,af.mono ha q3⟩
         rw[←q2 j' hj',aM.cell,f3.cell,jt hle,bY]
         have:(j+1)*u.size≤xs.length*u.size:=gD _ hjx
         rw[bP] at this
         omega
        ·rw[c_ (by omega)] at hj
         obtain⟨pre,mid,post,q1,q2,q3,_⟩:=ht2.split (fun x vs h=>af.length h) hj
         have hml:=af.length q3
         refine⟨mid,hml,fun j' hj'=>?_,af.mono ha q3⟩
         have hjj:j*u.size=xs.length*u.size+(j-xs.length)*u.size:=by rw[←bP];congr 1;omega
         have hnews:news[(j-xs.length)*u.size+j']?=mid[j']? :=by
          rw[q1,bX,c_ (by omega),cL (by omega)]
          congr 1
          omega
         have hnl':(j-xs.length)*u.size+j'<news.length:=by rw[q1];simp;omega
         rw[aM.cell,jt hle,bf (by omega),←hnews]
         congr 1
         omega)
       refine aA.world (v:=.slice (some ⟨B,o',none⟩) (xs.length+ys.length) cap) (w':=w') (fO ?_) (by rw[MF.dL];exact hd) ?_
       ·rw[e1]
        exact k_ h1 fC hk g1 ht1 hroom (by simp only[Addr.jY,g2];exact hr)
       ·rw[MF.dL]
        show aB _ _ _ _ _ _
        unfold aB
        simp only[AT.isAgg,dI,bI,aa]
        refine⟨⟨_,rfl,rfl⟩,cq.of (b:=⟨st+1,false,.rows u (xs++ys)⟩) (by simp[MF.put]) rfl,fun b hb' hs' t' xs' hc=>?_⟩
        simp only[MF.put,cj,au] at hb'
        subst hb'
        cases hc
        exact⟨some ⟨B,o',none⟩,cap,by simp,by simpa using hroom,.inr ⟨B,o',_,f1,rfl,aM,by rw[hlen'];omega⟩⟩
    ·
     have holds:∃olds,aR (af w I u) xs olds∧∀w':World,w'.heap=w.heap→(Builtin.firstCells i0.size xs.length (.slice ad xs.length cap)).run P w' = .ok olds.toArray w':=by
      obtain⟨ad',cap',q1,q2,q3⟩:=rY (t:=u) (ys:=xs) (dv:=⟨.lst u,xs⟩) hm hx (by simp[cQ,hro]) (by simp[DV.as])
      rw[e1] at q1
      cases q1
      rcases q3 with q3|⟨B,off,q3,q4⟩
      ·subst q3
       exact⟨[],rfl,fun w' _=>by cases ad<;>simp[Builtin.firstCells,loadCells,loadCellsFrom]⟩
      ·subst q3
       obtain⟨cs,r1,r2,r3⟩:=q4.cells
       refine⟨cs,r1,fun w' hw=>?_⟩
       have:(loadCells ⟨B,off,none⟩ cs.length).run P w' = .ok cs.toArray w':=qA fun j hj=>by
        rw[←r3 j hj]
        simp[World.cell?,hw]
       simp[Builtin.firstCells,g2,←r2,this]
     obtain⟨olds,ho1,ho2⟩:=holds
     have hol:=aR.length (fun(x:u.den) vs (h:af w I u x vs)=>af.length h) ho1
     have hrun:=qx (ty:=o.type) h1 fC hk g1 g3 ht1 (by omega) ho2 (by simpa[eD] using hmax) g4
     have hge:=grownCap_ge w (xs.length+ys.length) cap E
     obtain⟨hd,hs⟩:=aC.grown (E:=E) (rest:=(Builtin.zeroCells (aQ u (bh u)).cells (grownCap w (xs.length+ys.length) cap E-(xs.length+ys.length))).toList) hm id (st+1) hlt h2 (ho1.append ht2) (xs.length+ys.length) (grownCap w (xs.length+ys.length) cap E) (by simp) hge (by
      rw[cK,qC,hzs,cK,hol,hnl,←bP,←bP]
      apply gD
      omega)
     rw[←e1] at hrun
     exact aA.world (fO hrun) (by rw[MF.dL];exact hd) (by rw[MF.dL];exact hs)
   ·simp at hd
  ·rename_i id st off len u
   split at hd
   ·rename_i xs hro
    cases kV:u.is t with
    |false=>simp[kV] at hd
    |true=>
    have:=Ty.cZ kV
    subst this
    simp only[kV,aG,au] at hd
    subst hd
    have hroom:off+len+ys.length≤xs.length:=by simpa using hok
    have hb:=gA hro
    obtain⟨ad,cap,e1,e2,kM,e3⟩:=m_ hx hro
    have qc:len+ys.length≤cap:=by omega
    have rP:∀(w':World) (e:iI w' ρ id u.size off ad cap),az w' I (m.put id ⟨st,false,.rows u (Go.Ab.over xs (off+len) ys)⟩) ρ (.piece id st off (len+ys.length) u) (.slice ad (len+ys.length) cap):=by
     intro w' e
     show aB _ _ _ _ _ _
     unfold aB
     simp only[AT.isAgg,dI,bI,aa]
     refine⟨⟨_,rfl,rfl⟩,cq.of (b:=⟨st,false,.rows u (Go.Ab.over xs (off+len) ys)⟩) (by simp[MF.put]) rfl,fun b hb' hs' t' xs' hc=>?_⟩
     simp only[MF.put,cj,au] at hb'
     subst hb'
     cases hc
     exact⟨ad,cap,rfl,qc,by rw[ve hroom];omega,e⟩
    rcases aC.over P hm hb ht2 (off+len) hroom with⟨q1,q2,q3⟩|⟨B,o',w',q1,q2,q3,q4⟩
    ·subst q1
     have hy0:ys = []:=by rw[←dM];have:=hroom;rw[nQ] at this;omega
     subst hy0
     have hn0:news = []:=by rw[←dM,hnl];simp
     subst hn0
     refine aA.world (v:=.slice ad (len+0) cap) (w':=w) (fO ?_) (by rw[MF.dL];exact q3) (by rw[MF.dL];exact rP w e3)
     rw[e1]
     refine k_ h1 fC hk g1 ht1 qc ?_
     cases ad with
     |none=>rfl
     |some ad=>rfl
    ·by_cases hn0:news = []
     ·
      subst hn0
      have kW:ys = []:=by
       rw[←dM]
       have:ys.length*u.size=0:=by rw[←hnl];rfl
       rcases Nat.mul_eq_zero.1 this with h|h
       ·exact h
       ·omega
      subst kW
      have hw:w'=w:=by
       simp[storeCells] at q2
       exact q2.symm
      subst hw
      refine aA.world (v:=.slice ad (len+0) cap) (w':=w') (fO ?_) (by rw[MF.dL];exact q3) (by rw[MF.dL];exact rP w' e3)
      rw[e1]
      refine k_ h1 fC hk g1 ht1 qc ?_
      cases ad with
      |none=>rfl
      |some ad=>rfl
     ·have e30:=e3
      rcases e3.1 with e3|⟨B',dA,cs,r1,r2,r3,r4⟩
      ·exfalso
       have:ys.length=0:=by omega
       apply hn0
       rw[←dM,hnl,this]
       simp
      ·rw[q1] at r1
       cases r1
       subst r2
       obtain⟨cs',s1,s2⟩:=q4 cs r3
       refine aA.world (v:=.slice (some ⟨B,o'+off*u.size,none⟩) (len+ys.length) cap) (w':=w') (fO ?_) (by rw[MF.dL];exact q3) (by rw[MF.dL];exact rP w' (e30.mono rfl fun B2 o2 h2 cs hcs=>by rw[q1] at h2;cases h2;obtain⟨cs',s1,s2⟩:=q4 cs hcs;exact⟨cs',s1,by omega⟩))
       rw[e1]
       refine k_ h1 fC hk g1 ht1 qc ?_
       simp only[Addr.jY,g2]
       rw[←q2]
       congr 3
       rw[bP]
       omega
   ·simp at hd
  ·simp at hd
end
section
variable {P:Program} {F:Fix} {C:Cx} {o:Oper} {a:Act} {w:World} {m:MF} {I:Nat→Prop} {ρ:Pl} {d:aE}
def vG:∀{v:AT} {u:Ty} {d:DV},Typed v u→cQ m v=some d→d.t=u:=by
 intro v
 induction v with
 |leaf t x=>intro u d h hv;simp only[cQ,au] at hv;subst hv;exact h
 |nil t=>intro u d h hv;simp only[cQ,au] at hv;subst hv;exact h.symm
 |whole id st t=>intro u d h hv;simp only[cQ,bE] at hv;obtain⟨r,_,rfl⟩:=hv;exact h.symm
 |piece id st off len t=>intro u d h hv;simp only[cQ,bE] at hv;obtain⟨r,_,rfl⟩:=hv;exact h.symm
 |pair l r ihl ihr=>
  intro u d h hv
  simp only[Typed] at h
  obtain⟨a,b,rfl,h1,h2⟩:=h
  simp only[cQ] at hv
  split at hv
  ·rename_i x y hx hy
   simp only[au] at hv
   subst hv
   simp[ihl h1 hx,ihr h2 hy]
  ·simp at hv
 |_=>intro u d h hv;simp[cQ] at hv
def yJ {pre mid post aP:List Value}(h:mid.length=aP.length):putAt (pre++mid++post) pre.length aP=pre++aP++post:=by
 unfold putAt
 have e1:(pre++mid++post).take pre.length=pre:=by rw[bX,List.take_left]
 have e2:(pre++mid++post).drop (pre.length+mid.length)=post:=by rw[←cK,List.drop_left]
 rw[←h,e1,e2]
def sJ {T:Nat}{t:Ty}{v:Value}{vs cs:List Value}{B off:Nat}(hT:aJ P t T)(hv:v.cells=vs.toArray)(hl:vs.length=t.size)(h1:∀v∈vs,v.oneCell'=true)(hc:Cells w B cs)(hfit:off+vs.length≤cs.length) :
  ∃w',(Instr.storeAt T (.pointer (some ⟨B,off,none⟩)) v).run P w = .ok () w'∧Cells w' B (putAt cs off vs)∧(∀k,k≠B→w'.heap[k]?=w.heap[k]?)∧w'.heap.size=w.heap.size ∧
   w'.os=w.os∧w'.tape=w.tape∧w'.output=w.output:=by
 obtain⟨w',hr,aM,h2⟩:=run_storeCells_cells P B off vs 0 cs w hc (by simpa using hfit) h1
 refine⟨w',?_,by simpa using aM,h2⟩
 simp[Instr.storeAt,Instr.sureAddr,storeVar,hT.info.run_sizeOf,hv,hl,hr]
def xB {T:Nat}{xo vo:Operand}{ax av:AT}(hC:bW P C)(ho:o.op = .store T xo vo)(hm:aD F m w I ρ)(hx:az w I m ρ ax (a.eval xo))(hv:az w I m ρ av (a.eval vo))
  (mj:∀id st row p,ax = .ptr id st row p→∀s fz rs t xs,cur m id st≠some ⟨s,fz,.deep rs t xs⟩) (hd:mI C m T ax av=some d):aA P F o a w m I ρ d:=by
 unfold mI at hd
 split at hd
 ·rename_i id st p u hu
  have hT:=hC.ty hu
  split at hd
  ·rename_i st' t b hc
   obtain⟨hb,hst⟩:=cR hc
   simp only at hst
   subst hst
   cases hi:dK (t.at p) u&&av.fits u with
   |false=>simp[hi] at hd
   |true=>
    simp only[hi,aG] at hd
    simp only[aF] at hi
    have dh:=g_ hi.1
    have hty:=j5 hi.2
    split at hd
    ·rename_i b' hset
     cases hd
     have hx':=cn (a:=.aV id st' p) rfl hx (by simp) (by simp) (by simp) (by simp)
     simp only[aa] at hx'
     obtain⟨_,_,h3⟩:=hx'
     obtain⟨e0,B,e1,e2⟩:=h3 _ hb rfl t b rfl
     simp only[eG,dY] at e2
     have hblk:=hm.blk id _ hb
     simp only[aS] at hblk
     obtain⟨ht,B',cs,k1,k2,k3,k4⟩:=hblk
     rw[e1] at k1
     cases k1
     obtain⟨aP,fP,hmid⟩:=aB.pack hty ((gN hty).1 hv)
     have hlen:=hty.length hmid
     have hone:=aa.cC hty hmid
     have hcells:(a.eval vo).cells=aP.toArray:=by rw[fP];exact gG hT hlen hone
     obtain⟨ht2,pre,mid,post,q1,q2,q3,q4⟩:=lU p ht k3 e0 hset dh hty hmid
     obtain⟨w',hr,aM,hsame,hsize,hos,gj,hout⟩:=sJ hT hcells hlen hone k2 (off:=t.off p) (by rw[q1];simp;omega)
     rw[q1,←q2,yJ (by omega)] at aM
     have cY:¬I B:=by simpa using k4
     have hd:=aC.write hm id _ ⟨st',false,.var t b'⟩ B 0 cs _ hb (kf rfl) (.inr ⟨rfl,rfl⟩) e1 cY k2 aM (by rw[q1];simp;omega) hsame hsize hos gj hout (fun ha hk=>by
      simp only[aS]
      exact⟨ht2,B,_,e1,aM,q4.mono ha hk,by simpa using cY⟩)
     exact aA.skip (w':=w') (by simp[execOp,ho,e2,hr]) (by rw[MF.dL];exact hd) rfl
    ·simp at hd
  ·simp at hd
 ·rename_i id st row p u hu
  have hT:=hC.ty hu
  split at hd
  ·rename_i st' t xs hc
   obtain⟨hb,hst⟩:=cR hc
   simp only at hst
   subst hst
   cases hi:dK (t.at p) u&&av.fits u && !(bT (Nat.beq id) av.ids) with
   |false=>simp[hi] at hd
   |true=>
    simp only[hi,aG] at hd
    simp only[aF] at hi
    have dh:=g_ hi.1.1
    have hty:=j5 hi.1.2
    have hnot:¬id∈av.ids:=by
     have h2:=hi.2
     intro hin
     have:∀l:List Nat,id∈l→bT (Nat.beq id) l=true:=by
      intro l
      induction l with
      |nil=>simp
      |cons x l ih=>
       intro h
       simp only[bT,kE]
       rcases aX.1 h with h|h
       ·subst h;exact .inl (Nat.beq_refl id)
       ·exact .inr (ih h)
     simp[this _ hin] at h2
    split at hd
    ·rename_i s y hvv
     split at hd
     ·rename_i r hr0
      split at hd
      ·rename_i z hz
       cases hd
       have hsu:=vG hty hvv
       simp only at hsu
       subst hsu
       have hx':=cn (a:=.ptr id st' row p) rfl hx (by simp) (by simp) (by simp) (by simp)
       simp only[aa] at hx'
       obtain⟨_,_,h3⟩:=hx'
       obtain⟨e0,kL,B,o',e1,e2⟩:=h3 _ hb rfl t xs.length rfl
       simp only[eG,dY] at e2
       obtain⟨aP,fP,hmid⟩:=aB.pack hty ((gN hty).1 hv)
       have hlen:=hty.length hmid
       have hone:=aa.cC hty hmid
       have hcells:(a.eval vo).cells=aP.toArray:=by rw[fP];exact gG hT hlen hone
       have h1:=aC.freeze hm av.ids
       have gY:af w (dP m ρ I av.ids) s y aP:=qJ hm (fun _ h=>.inl h) (fun i hi b B o' h1 h2 h3=>.inr (.inl ⟨i,hi,b,o',h1,h2,h3⟩)) hvv hmid
       have cV:m.aj (bG m av.ids) id=some ⟨st',false,.rows t xs⟩:=by rw[qL];simp[hnot,hb]
       have hblk:=h1.mem.blk id _ cV
       simp only[aS] at hblk
       obtain⟨h0,hblk⟩:=hblk
       rcases hblk with⟨d_,_⟩|⟨B',dA,cs,k1,k2,k3,k4,k5⟩
       ·subst d_;simp at kL
       ·rw[e1] at k1
        cases k1
        obtain⟨rs,g1,g2,g3⟩:=k4 row _ (mY (z:=t.dflt) kL)
        obtain⟨b2,cH,hbp⟩:=lZ.1 hr0
        obtain⟨_,pre,mid,post,q1,q2,q3,q4⟩:=lU (w:=w) (I:=dP m ρ I av.ids) (m:=m) (ρ:=ρ) p (a:=.leaf t (xs.getD row t.dflt)) (v:=.leaf s y) rfl g3 e0 cH dh rfl gY
        have q5:=oX hbp q4
        obtain⟨ze,hze⟩:=DV.cz hz
        have hrz:af w (dP m ρ I av.ids) t z (pre++aP++post):=by
         cases r with
         |mk rt rx=>
          simp only at ze
          subst ze
          simp only at hze
          subst hze
          exact q5
        have hrow:(row+1)*t.size≤xs.length*t.size:=gD _ kL
        rw[bP] at hrow
        have hrs:rs.length=pre.length+mid.length+post.length:=by rw[q1];simp;omega
        have hfit:o'+row*t.size+t.off p+aP.length≤cs.length:=by omega
        obtain⟨w',hr,aM,hsame,hsize,hos,gj,hout⟩:=sJ hT hcells hlen hone k2 hfit
        have cY:¬dP m ρ I av.ids B:=by simpa using k5
        have hlen':=oY hfit
        have hd:=aC.write h1.mem id _ ⟨st',false,.rows t (xs.set row z)⟩ B o' cs _ cV (fF rfl) (.inr ⟨rfl,by simp[bJ]⟩) e1 cY k2 aM (by omega) hsame hsize hos gj hout (fun ha hk=>by
         simp only[aS]
         refine⟨h0,.inr ⟨B,o',_,e1,aM,by rw[hlen'];simpa using k3,?_,by simpa using cY⟩⟩
         intro j x hj
         by_cases hjr:row=j
         ·subst hjr
          simp only[List.getElem?_set,kL,cj,au] at hj
          subst hj
          refine⟨pre++aP++post,by simp;omega,fun j' hj'=>?_,af.mono ha hrz⟩
          rw[aM.cell,jt hfit]
          by_cases hin:t.off p≤j'∧j'<t.off p+aP.length
          ·rw[bf (by omega),bX,c_ (by omega),cL (by omega)]
           congr 1
           omega
          ·rw[bY (by omega),←k2.cell,g2 j' hj',q1]
           by_cases hlo:j'<pre.length
           ·rw[bX,bX,cL hlo,cL hlo]
           ·rw[c_ (by simp;omega),c_ (by simp;omega)]
            simp only[cK]
            congr 1
            omega
         ·rw[List.getElem?_set_ne hjr] at hj
          obtain⟨es,r1,r2,r3⟩:=k4 j x hj
          refine⟨es,r1,fun j' hj'=>?_,af.mono ha r3⟩
          rw[←r2 j' hj',aM.cell,k2.cell,jt hfit,bY]
          have hpl:t.off p+aP.length≤t.size:=by omega
          rcases Nat.lt_or_ge j row with hlt|hge
          ·have:(j+1)*t.size≤row*t.size:=gD _ hlt
           rw[bP] at this
           omega
          ·have:(row+1)*t.size≤j*t.size:=gD _ (by omega)
           rw[bP] at this
           omega)
        exact aA.skip (w':=w') (by simp[execOp,ho,e2,hr]) (by rw[MF.pq];exact h1.trans hd) rfl
      ·simp at hd
     ·simp at hd
    ·simp at hd
  ·rename_i hc
   exact absurd hc (mj _ _ _ _ rfl _ _ _ _ _)
  ·simp at hd
 ·simp at hd
end
section
variable {P:Program} {F:Fix} {C:Cx} {o:Oper} {a:Act} {w:World} {m:MF} {I:Nat→Prop} {ρ:Pl} {d:aE}
def aJ.under {t:Ty}{T:TypeId}(hT:aJ P t T):∃d,P.underlying T=some d:=by
 unfold aJ at hT
 cases t<;>simp only[TO] at hT<;>first|exact hT.elim|skip
 case unit=>exact⟨_,hT.2.choose_spec.1⟩
 case bool=>exact⟨_,hT.2⟩
 case int k=>exact⟨_,hT.2⟩
 case str=>exact⟨_,hT.2⟩
 case lst u=>exact⟨_,hT.2.choose_spec.1⟩
 case pair a b=>exact⟨_,hT.2.choose_spec.1⟩
 case arr n u=>exact⟨_,hT.2.choose_spec.1⟩
 case ref u=>exact⟨_,hT.2.choose_spec⟩
def sU {k:IntKind}{T:Nat}(hT:aJ P (.int k) T):P.underlying T=some (.int k):=by unfold aJ at hT;simp only[TO] at hT;exact hT.2
def pn {T:Nat}(hT:aJ P .str T):P.underlying T=some .string:=by unfold aJ at hT;simp only[TO] at hT;exact hT.2
def yW {xs:List Int}{B off:Nat}(h:fV w B off 1 (af w I (.int .u8)) xs):∀i,i<xs.length→w.cell? ⟨B,off+i,none⟩=some (.int .u8 (xs.getD i 0)):=by
 intro i hi
 obtain⟨cs,h1,h2,h3⟩:=h i _ (mY (z:=(0:Int)) hi)
 simp only[af] at h3
 have:=h2 0 (by omega)
 subst h3
 simpa using this
def wT {S T:Nat}{x:Operand}{ax:AT}{dst:Nat}(hC:bW P C)(ho:o.op = .convert S T x)(hm:aD F m w I ρ)(hx:az w I m ρ ax (a.eval x))
  (hd:ru C m dst S T ax=some d) (hok:∀b∈d.ok,b=true):aA P F o a w m I ρ d:=by
 unfold ru at hd
 split at hd
 ·rename_i k' n sS k hS hT
  cases hd
  have e:=dD.1 hx
  obtain⟨dS,hdS⟩:=(hC.ty hS).under
  have hdT:=sU (hC.ty hT)
  exact aA.value hm (by simp[execOp,ho,e,convert,run_underlying hdS,run_underlying hdT,Conv.intToInt]) (dD.2 rfl)
 ·rename_i s sS hS hT
  cases hd
  have e:=iX.1 hx
  obtain⟨dS,hdS⟩:=(hC.ty hS).under
  have hdT:=pn (hC.ty hT)
  refine aA.value hm (v:=.string ⟨s.toArray⟩) ?_ (iX.2 rfl)
  simp[execOp,ho,e,convert,run_underlying hdS,run_underlying hdT]
 ·rename_i s hS hT
  cases hd
  have hmax:s.length≤eD:=by simpa using hok
  have e:=iX.1 hx
  have hdS:=pn (hC.ty hS)
  obtain⟨E,h1,h2,h3⟩:=jy (hC.ty hT)
  have hdE:=sU h3
  have hrun:=run_bytes_of_string (P:=P) w S T E ⟨s.toArray⟩ hdS h1 hdE
  have hsz:(⟨s.toArray⟩:ByteArray).size=s.length:=by simp[ByteArray.size]
  have hge:=grownCap_ge w s.length 0 E
  rw[hsz] at hrun
  have hrow:bytesRow ⟨s.toArray⟩ (grownCap w s.length 0 E)=((s.map fun b=>Value.int .u8 b.toNat)++List.replicate (grownCap w s.length 0 E-s.length) (Value.int .u8 0)).toArray:=by
   apply eU
   simp[bytesRow,hsz]
  rw[hrow] at hrun
  have hr:aR (af w I (.int .u8)) (bytesOf s) (s.map fun b=>Value.int .u8 b.toNat):=aR.mono (fun x vs h=>by simpa only[af] using h) (qV s)
  obtain⟨hd,hs⟩:=aC.grown (E:=E) (t:=.int .u8) (rest:=List.replicate (grownCap w s.length 0 E-s.length) (Value.int .u8 0)) hm dst (aW m dst) (fun b0 h=>lN h) (by simp[Ty.size]) hr s.length (grownCap w s.length 0 E) (by simp[bytesOf]) hge (by simp[Ty.size];omega)
   (((s.map fun b=>Value.int .u8 b.toNat)++List.replicate (grownCap w s.length 0 E-s.length) (Value.int .u8 0)).toArray.size,((s.map fun b=>Value.int .u8 b.toNat)++List.replicate (grownCap w s.length 0 E-s.length) (Value.int .u8 0)).toArray.size+1) (fun j hj=>by dsimp only;omega)
  exact aA.world (by simp only[execOp,ho,e,Sem.run_bind,hrun,Result.andThen_ok];rfl) (by rw[MF.dL];exact hd) (by rw[MF.dL];exact hs)
 ·rename_i hS hT
  split at hd
  ·rename_i dv hv
   simp only[bE] at hd
   obtain⟨xs,hxs,rfl⟩:=hd
   obtain⟨E,h1,h2,h3⟩:=jy (hC.ty hS)
   have hdE:=sU h3
   have hdT:=pn (hC.ty hT)
   obtain⟨ad,cap,e1,e2,e3⟩:=rY hm hx hv hxs
   have key:(convert S T (.slice ad xs.length cap)).run P w = .ok (.string ⟨(sM xs).toArray⟩) w:=by
    rcases e3 with e3|⟨B,off,e3,e4⟩
    ·subst e3
     cases ad with
     |none=>exact run_convert_bytes_nil w S E h1 hdE 0 cap T hdT
     |some ad=>
      rw[run_convert_bytes_string w S T E _ _ cap h1 hdE hdT]
      have:(loadCells ad 0).run P w = .ok (([]:List Int).map (Value.int .u8)).toArray w:=by simp[loadCells,loadCellsFrom]
      exact run_bytesToString w ad 0 cap [] this
    ·subst e3
     have:=run_convert_bytes_arg w S E h1 hdE B off xs.length cap xs rfl (yW e4) T hdT
     rw[this]
     rfl
   exact aA.value hm (v:=.string ⟨(sM xs).toArray⟩) (by simp[execOp,ho,e1,key]) (iX.2 rfl)
  ·simp at hd
 ·simp at hd
def xg {T:Nat}{x:Operand}{ax:AT}{n:Int}(hC:bW P C)(ho:o.op = .call ⟨.builtin .len,#[x],#[T]⟩)(hm:aD F m w I ρ)(hx:az w I m ρ ax (a.eval x))
  (hlt:qh C T ax=true) (hn:lK m ax=some n):aA P F o a w m I ρ ⟨.leaf (.int .i64) n,[],[]⟩:=by
 have fin:∀{v:Value},a.eval x=v→(Builtin.len_ #[T] o.type #[v]).run P w = .ok (goInt n) w→aA P F o a w m I ρ ⟨.leaf (.int .i64) n,[],[]⟩:=by
  intro v hv hr
  refine aA.value hm (v:=.int .i64 n) ?_ (dD.2 rfl)
  simp[execOp,ho,resolve,invoke,builtin,hv,hr,goInt]
 have sl:∀{ad:Option Addr} {l c:Nat},(∃t,C.ty T=some (.lst t))→n=(l:Int)→(Builtin.len_ #[T] o.type #[.slice ad l c]).run P w = .ok (goInt n) w:=by
  rintro ad l c ⟨t,ht⟩ rfl
  obtain⟨E,h1,h2,h3⟩:=jy (hC.ty ht)
  simp[Builtin.len_,run_underlying h1]
 have lt:(∀s,ax ≠ .leaf .str s)→∃t,C.ty T=some (.lst t):=by
  intro hne
  unfold qh at hlt
  split at hlt
  ·exact absurd rfl (hne _)
  ·split at hlt
   ·rename_i t ht;exact⟨_,ht⟩
   ·simp at hlt
 unfold lK at hn
 split at hn<;>try simp only[au,reduceCtorEq] at hn
 ·subst hn
  have e:=iX.1 hx
  have ht:=pn (hC.ty (g_ hlt))
  rename_i s
  exact fin e (by have:=run_len_string (P:=P) w T o.type ⟨s.toArray⟩ ht;rw[this];rfl)
 ·rename_i t xs
  have hx':=cn (a:=.leaf (.lst t) xs) rfl hx (by simp) (by simp) (by simp) (by simp)
  simp only[aa,af,eG,dY] at hx'
  obtain⟨ad,cap,e1,_⟩:=hx'
  exact fin e1 (sl (lt (by simp)) hn.symm)
 ·have e:=o8 (.inl rfl) hx
  exact fin e (sl (lt (by simp)) hn.symm)
 ·have e:=o8 (t:=.unit) (.inr rfl) hx
  exact fin e (sl (lt (by simp)) hn.symm)
 ·split at hn
  ·rename_i xs hr
   obtain⟨b,hb,hst,cA⟩:=ni hr
   obtain⟨ad,cap,e1,_⟩:=nh hx hb hst cA
   exact fin e1 (sl (lt (by simp)) (by simpa using hn.symm))
  ·simp at hn
 ·rename_i id st off len t
  split at hn
  ·rename_i r hr
   obtain⟨fz,xs⟩:=r
   obtain⟨ad,cap,e1,_⟩:=m_ hx hr
   exact fin e1 (sl (lt (by simp)) (by simpa using hn.symm))
  ·simp at hn
end
inductive dN {α β:Type} (R:α→β→Prop):List α→List β→Prop where
 |nil:dN R [] []
 |cons {a:α} {b:β} {l:List α} {l':List β}:R a b→dN R l l'→dN R (a::l) (b::l')
section
variable {P:Program} {F:Fix} {C:Cx} {o:Oper} {a:Act} {w:World} {m:MF} {I:Nat→Prop} {ρ:Pl} {d:aE}
def xq {args:Array Operand}{ts:Array Nat}{as:List AT}(ho:o.op = .call ⟨.builtin .min,args,ts⟩)(hm:aD F m w I ρ)(hs:dN (az w I m ρ) as (args.toList.map a.eval))
  (hd:minD as=some d):aA P F o a w m I ρ d:=by
 unfold minD at hd
 split at hd
 ·rename_i k x k' y
  cases hd
  generalize e0:args.toList.map a.eval=vs at hs
  cases hs with
  |cons h1 h2=>
  cases h2 with
  |cons h3 h4=>
  cases h4
  have e1:=dD.1 h1
  have e2:=dD.1 h3
  subst e1 e2
  refine aA.value hm (v:=.int k (if y<x then y else x)) ?_ (dD.2 rfl)
  simp[execOp,ho,resolve,invoke,builtin,Builtin.min_,e0,Builtin.min2]
 ·simp at hd
def xp {args:Array Operand}{ts:Array Nat}{as:List AT}(ho:o.op = .call ⟨.builtin .max,args,ts⟩)(hm:aD F m w I ρ)(hs:dN (az w I m ρ) as (args.toList.map a.eval))
  (hd:maxD as=some d):aA P F o a w m I ρ d:=by
 unfold maxD at hd
 split at hd
 ·rename_i k x k' y
  cases hd
  generalize e0:args.toList.map a.eval=vs at hs
  cases hs with
  |cons h1 h2=>
  cases h2 with
  |cons h3 h4=>
  cases h4
  have e1:=dD.1 h1
  have e2:=dD.1 h3
  subst e1 e2
  refine aA.value hm (v:=.int k (if x<y then y else x)) ?_ (dD.2 rfl)
  simp[execOp,ho,resolve,invoke,builtin,Builtin.max_,e0,Builtin.max2]
 ·simp at hd
def lV {x:AT}{v:Value}(h:x.slot=true):az w I m ρ x v↔aB w I m ρ x v:=by
 cases x<;>first|exact Iff.rfl|simp[AT.slot,AT.one] at h
def yz {x:AT}{v:Value}(h:x.one=true)(hs:az w I m ρ x v):aa w I m ρ x [v]:=by
 have ha:x.isAgg=false:=by
  cases x with
  |leaf t y=>
   show t.isAgg=false
   simp only[AT.one] at h
   cases hb:t.isAgg with
   |false=>rfl
   |true=>rw[hb] at h;cases h
  |nest _ _ _ _ _ u=>
   show u.isAgg=false
   simp only[AT.one] at h
   cases hb:u.isAgg with
   |false=>rfl
   |true=>rw[hb] at h;cases h
  |pair l r=>simp[AT.one] at h
  |_=>rfl
 refine cn ha hs ?_ ?_ ?_ ?_
 ·intro l r e;subst e;simp[AT.one] at h
 ·intro e;subst e;simp[AT.one] at h
 ·intro e;subst e;simp[AT.one] at h
 ·intro g b e;subst e;simp[AT.one] at h
def zi:∀{x y:AT} {i:Nat} {vs:List Value},de w I m ρ x vs→cB (jS x) i=some y→∃v,vs[i]?=some v∧aB w I m ρ y v:=by
 intro x
 induction x with
 |bL l r _ ihr=>
  intro y i vs h hn
  simp only[de] at h
  obtain⟨v,vs',rfl,h1,h2⟩:=h
  cases i with
  |zero=>simp only[jS,cB,au] at hn;subst hn;exact⟨v,rfl,h1⟩
  |succ i=>simp only[jS,cB] at hn;simpa using ihr h2 hn
 |_=>intro y i vs h hn;simp[jS,cB] at hn
def wV {x:Operand}{i:Nat}{ax:AT}(ho:o.op = .extract x i)(hm:aD F m w I ρ)(hx:az w I m ρ ax (a.eval x))(hd:rC ax i=some d):aA P F o a w m I ρ d:=by
 unfold rC at hd
 split at hd
 ·rename_i y hy
  cases hs:y.slot with
  |false=>simp[hs] at hd
  |true=>
   simp only[hs,aG,au] at hd
   subst hd
   cases ax<;>try (simp[jS,cB] at hy;done)
   rename_i l r
   obtain⟨arr,e,ht⟩:=hx
   obtain⟨v,hv,fD⟩:=zi ht hy
   refine aA.value hm (v:=v) ?_ ((lV hs).2 fD)
   have:arr[i]?=some v:=by simpa using hv
   simp[execOp,ho,e,Instr.extract,this]
 ·simp at hd
def vH:∀{as:List AT} {vs:List Value},dN (az w I m ρ) as vs→cN AT.one as=true→aa w I m ρ (nM as) vs
 | [],_,h,_=>by cases h;rfl
 |x::as,_,h,hall=>by
  cases h with
  |cons h1 h2=>
  simp only[cN,aF] at hall
  exact⟨_,_,rfl,yz hall.1 h1,vH h2 hall.2⟩
def xj {g:Nat}{first caps:Array Operand}{as:List AT}(ho:o.op = .makeFunc (.func g) first caps)(hm:aD F m w I ρ)(hf:first.toList.isEmpty=true)(hs:dN (az w I m ρ) as (caps.toList.map a.eval))(hall:cN AT.one as=true) :
  aA P F o a w m I ρ ⟨.fn g (nM as),[],[]⟩:=by
 have h0:first = #[]:=by
  apply eU
  simpa using hf
 subst h0
 refine aA.value hm (v:=.func (.func g) #[] (caps.map a.eval)) (by simp[execOp,ho,Instr.makeFunc]) ?_
 show aB _ _ _ _ _ _
 unfold aB
 simp only[AT.isAgg,dI,bI,aa]
 exact⟨_,rfl,by simpa using vH hs hall⟩
def xu {x:Operand}{ax:AT}(ho:o.op = .nilCheck x)(hm:aD F m w I ρ)(hx:az w I m ρ ax (a.eval x))(hd:lP m ax=some d):aA P F o a w m I ρ d:=by
 have fin:∀{ad:Addr},a.eval x = .pointer (some ad)→aA P F o a w m I ρ ⟨ax,[],[]⟩:=fun e=>aA.value hm (v:=a.eval x) (by simp[execOp,ho,e]) hx
 unfold lP at hd
 split at hd
 ·rename_i id st row p
  split at hd
  ·rename_i st' fz t xs hc
   cases hd
   obtain⟨hb,hst⟩:=cR hc
   have hx':=cn (a:=.ptr id st row p) rfl hx (by simp) (by simp) (by simp) (by simp)
   simp only[aa] at hx'
   obtain⟨_,_,h3⟩:=hx'
   obtain⟨_,_,B,o',_,e2⟩:=h3 _ hb hst t xs.length rfl
   exact fin (by simpa using e2)
  ·rename_i st' fz rs t xs hc
   cases hd
   obtain⟨hb,hst⟩:=cR hc
   have hx':=cn (a:=.ptr id st row p) rfl hx (by simp) (by simp) (by simp) (by simp)
   simp only[aa] at hx'
   obtain⟨_,_,h3⟩:=hx'
   obtain⟨_,_,B,o',_,e2⟩:=h3 _ hb hst t xs.length rfl
   exact fin (by simpa using e2)
  ·simp at hd
 ·rename_i id st p
  split at hd
  ·rename_i st' fz t b hc
   cases hd
   obtain⟨hb,hst⟩:=cR hc
   have hx':=cn (a:=.aV id st p) rfl hx (by simp) (by simp) (by simp) (by simp)
   simp only[aa] at hx'
   obtain⟨_,_,h3⟩:=hx'
   obtain⟨_,B,_,e2⟩:=h3 _ hb hst t b rfl
   exact fin (by simpa using e2)
  ·simp at hd
 ·rename_i t y
  cases hd
  have hx':=cn (a:=.leaf (.ref t) y) rfl hx (by simp) (by simp) (by simp) (by simp)
  simp only[aa,af,eG,dY] at hx'
  obtain⟨B,off,e,_⟩:=hx'
  exact fin e
 ·simp at hd
def xw {c x y:Operand}{ac ax ay:AT}(ho:o.op = .pick c x y)(hm:aD F m w I ρ)(hc:az w I m ρ ac (a.eval c))(hx:a.eval c = .bool true→az w I m ρ ax (a.eval x))(hy:a.eval c = .bool false→az w I m ρ ay (a.eval y))
  (hd:oW ac ax ay=some d):aA P F o a w m I ρ d:=by
 unfold oW at hd
 split at hd
 ·rename_i g t u t' u'
  have e:=fS.1 hc
  split at hd
  ·rename_i ht
   subst ht
   cases hd
   cases g with
   |true=>exact aA.value hm (v:=a.eval x) (by simp[execOp,ho,e,asBool]) (hx e)
   |false=>exact aA.value hm (v:=a.eval y) (by simp[execOp,ho,e,asBool]) (hy e)
  ·simp at hd
 ·simp at hd
end
section
variable {P:Program} {F:Fix} {C:Cx} {o:Oper} {a:Act} {w:World} {m:MF} {I:Nat→Prop} {ρ:Pl} {d:aE}
def xy {T:Nat}{x l h k:Operand}{ax al ah ak:AT}(hC:bW P C)(ho:o.op = .slice T x (some l) (some h) (some k))(hm:aD F m w I ρ)
  (hx:az w I m ρ ax (a.eval x)) (hl:az w I m ρ al (a.eval l)) (hh:az w I m ρ ah (a.eval h)) (hk:az w I m ρ ak (a.eval k))
  (hd:sK C m T ax al ah ak=some d) (hok:∀b∈d.ok,b=true):aA P F o a w m I ρ d:=by
 unfold sK at hd
 split at hd
 ·rename_i id st t u a0 b0 c0 hu h1 h2 h3
  split at hd
  ·rename_i xs hr
   obtain⟨hii,hd⟩:=aH hd
   cases hd
   have:=Ty.cZ hii
   subst this
   simp only[aX,iG,or_false,iH,forall_eq,gQ] at hok
   obtain⟨E,e1,e2,e3⟩:=jy (hC.ty hu)
   obtain⟨bb,hb',oz,cA⟩:=ni hr
   obtain⟨ad,cap,f1,f2,_⟩:=nh hx hb' oz cA
   obtain⟨ka,hka⟩:=jk h1 hl
   obtain⟨kb,hkb⟩:=jk h2 hh
   obtain⟨kc,hkc⟩:=jk h3 hk
   have b1:=run_sliceBound (P:=P) w kc c0 cap BoundsCode.slice3Acap (by omega) (by omega)
   have b2:=run_sliceBound (P:=P) w kb b0 c0.toNat BoundsCode.slice3B (by omega) (by omega)
   have b3:=run_sliceBound (P:=P) w ka a0 b0.toNat BoundsCode.slice3C (by omega) (by omega)
   refine aA.value hm (v:=.slice (if c0.toNat=a0.toNat then ad else ad.map (·.add (a0.toNat*t.size))) (b0.toNat-a0.toNat) (c0.toNat-a0.toNat)) ?_ ?_
   ·simp[execOp,ho,f1,Instr.sliceAt,run_underlying e1,Instr.slice,Instr.sliceBounds,hka,hkb,hkc,b1,b2,b3,e3.info.run_sizeOf]
   ·show aB _ _ _ _ _ _
    unfold aB
    simp only[AT.isAgg,dI,bI,aa]
    exact⟨rfl,fun v hv=>by simp only[eH] at hv;subst hv;rfl⟩
  ·cases hd
 ·cases hd
def zy (z:List Value)(n:Nat):(Builtin.zeroCells z.toArray n).toList=(List.replicate n z).flatten:=by
 have:=oJ z n
 rw[←this]
 simp[Builtin.zeroCells,madeCells]
def wS {T:Nat}{xo:Operand}{ax:AT}(hC:bW P C)(ho:o.op = .call ⟨.builtin .clear,#[xo],#[T]⟩)(hm:aD F m w I ρ)
  (hx:az w I m ρ ax (a.eval xo)) (hd:q_ C m T ax=some d):aA P F o a w m I ρ d:=by
 unfold q_ at hd
 split at hd
 ·rename_i t id st off len u ht
  split at hd
  ·rename_i xs hro
   obtain⟨hb0,hd⟩:=aH hd
   cases hd
   simp only[aF] at hb0
   have:=Ty.cZ hb0.2
   subst this
   obtain⟨E,h1,h2,h3⟩:=hC.el ht
   obtain⟨i0,g1,g2,g3,g4⟩:=h3.info.info
   obtain⟨z1,z2⟩:=lq (w:=w) (I:=I) (m:=m) (ρ:=ρ) h3
   have gr:=gG h3 (z1.length z2) (aa.cC z1 z2)
   have hzl:=z1.length z2
   have hb:=gA hro
   obtain⟨ad,cap,e1,e2,kM,e3⟩:=m_ hx hro
   have hrun0:(zeroValue E).run P w = .ok (aQ u (bh u)) w:=h3.info.vq
   have hz:=(qM (w:=w) (I:=I) hb0.1).1 h3
   have hys:aR (af w I u) (List.replicate len u.dflt) (List.replicate len (bh u)).flatten:=aR.replicate hz len
   have hk:off+(List.replicate len u.dflt).length≤xs.length:=by simp;omega
   have fO:∀{w':World},(Builtin.clear_ #[T] o.type #[a.eval xo]).run P w = .ok (.tuple #[]) w'→(execOp a.eval o).run P w = .ok (.value (.tuple #[])) w':=by
    intro w' h
    simp[execOp,ho,resolve,invoke,builtin,h]
   by_cases hl0:len=0
   ·subst hl0
    have:Go.Ab.over xs off (List.replicate 0 u.dflt)=xs:=by simp[Go.Ab.over]
    rw[this]
    have e:m.put id ⟨st,false,.rows u xs⟩=m:=by
     funext j
     simp only[MF.put]
     by_cases hj:id=j
     ·subst hj;rw[bf rfl,hb]
     ·rw[bY hj]
    refine aA.world (v:=.tuple #[]) (w':=w) (fO ?_) (by rw[MF.dL,e];exact aC.refl hm) rfl
    rw[e1]
    cases ad<;>simp[Builtin.clear_,run_underlying h1]
   ·rcases aC.over P hm hb hys off hk with⟨q1,q2,q3⟩|⟨B,o',w',q1,q2,q3,q4⟩
    ·subst q1;simp at hk;omega
    ·rcases e3.1 with e3|⟨B',dA,cs,r1,r2,r3,r4⟩
     ·omega
     ·rw[q1] at r1
      cases r1
      subst r2
      refine aA.world (v:=.tuple #[]) (w':=w') (fO ?_) (by rw[MF.dL];exact q3) rfl
      rw[e1]
      have hzz:(Builtin.zeroCells (aQ u (bh u)).cells len).toList=(List.replicate len (bh u)).flatten:=by
       rw[gr];exact zy _ _
      cases len with
      |zero=>exact absurd rfl hl0
      |succ k=>simp[Builtin.clear_,run_underlying h1,hrun0,hzz,q2]
  ·cases hd
 ·cases hd
end
section
variable {P:Program} {F:Fix} {C:Cx} {o:Oper} {a:Act} {w:World} {m:MF} {I:Nat→Prop} {ρ:Pl} {d:aE}
def MF.on (m:MF)(p:Nat→Bool):MF:=fun i=>bif p i then m i else none
def MF.lR {p:Nat→Bool}{i:Nat}{b:ag}(h:m.on p i=some b):p i=true∧m i=some b:=by
 unfold MF.on at h
 cases hp:p i with
 |true=>simpa[hp] using h
 |false=>simp[hp] at h
def MF.kZ {p:Nat→Bool}{i:Nat}(h:p i=true):m.on p i=m i:=by simp[MF.on,h]
def aa.sub {m':MF}{ρ':Pl}(hs:∀id b,m id=some b→m' id=some b∧ρ' id=ρ id):∀{x:AT} {vs:List Value},aa w I m ρ x vs→aa w I m' ρ' x vs:=by
 have ref:∀{id st:Nat},cq m id st→cq m' id st∧m' id=m id∧ρ' id=ρ id:=by
  rintro id st ⟨b,hb,h⟩
  obtain⟨h1,h2⟩:=hs id b hb
  exact⟨⟨b,h1,h⟩,by rw[h1,hb],h2⟩
 intro x
 induction x with
 |leaf t x=>intro vs h;exact h
 |whole id st t=>
  intro vs h
  simp only[aa] at h ⊢
  obtain⟨h1,h2,h3⟩:=h
  obtain⟨r1,r2,r3⟩:=ref h2
  refine⟨h1,r1,fun b hb hst u xs hc=>?_⟩
  obtain⟨ad,cap,e1,e2,e3⟩:=h3 b (r2▸hb) hst u xs hc
  exact⟨ad,cap,e1,e2,by unfold fU at *;rw[r3];exact e3⟩
 |piece id st off len t=>
  intro vs h
  simp only[aa] at h ⊢
  obtain⟨h1,h2,h3⟩:=h
  obtain⟨r1,r2,r3⟩:=ref h2
  refine⟨h1,r1,fun b hb hst u xs hc=>?_⟩
  obtain⟨ad,cap,e1,e2,kM,e3⟩:=h3 b (r2▸hb) hst u xs hc
  exact⟨ad,cap,e1,e2,kM,by unfold iI fU at *;rw[r3];exact e3⟩
 |nil t=>intro vs h;exact h
 |cW=>intro vs h;exact h
 |pair l r ihl ihr=>
  intro vs h
  simp only[aa] at h ⊢
  obtain⟨v1,v2,e,h1,h2⟩:=h
  exact⟨v1,v2,e,ihl h1,ihr h2⟩
 |undef n=>intro vs h;exact h
 |aV id st p=>
  intro vs h
  simp only[aa] at h ⊢
  obtain⟨h1,h2,h3⟩:=h
  obtain⟨r1,r2,r3⟩:=ref h2
  refine⟨h1,r1,fun b hb hst t a hc=>?_⟩
  rw[r3]
  exact h3 b (r2▸hb) hst t a hc
 |ptr id st row p=>
  intro vs h
  simp only[aa] at h ⊢
  obtain⟨h1,h2,h3⟩:=h
  obtain⟨r1,r2,r3⟩:=ref h2
  refine⟨h1,r1,fun b hb hst t xs hc=>?_⟩
  rw[r3]
  exact h3 b (r2▸hb) hst t xs hc
 |nest id st rs row p u=>
  intro vs h
  simp only[aa] at h ⊢
  obtain⟨h1,h10,h2,h3⟩:=h
  obtain⟨r1,r2,r3⟩:=ref h2
  refine⟨h1,h10,r1,fun b hb hst r t xs hc=>?_⟩
  rw[r3]
  exact h3 b (r2▸hb) hst r t xs hc
 |fn f c ih=>
  intro vs h
  simp only[aa] at h ⊢
  obtain⟨caps,e,h⟩:=h
  exact⟨caps,e,ih h⟩
 |bL l r ihl ihr=>
  intro vs h
  simp only[aa] at h ⊢
  obtain⟨v,vs',e,h1,h2⟩:=h
  exact⟨v,vs',e,ihl h1,ihr h2⟩
 |cJ=>intro vs h;exact h
 |bM T a ih=>intro vs h;simp only[aa] at h
 |any=>intro vs h;simp only[aa] at h
def aa.cut {p:Nat→Bool}:∀{x:AT} {vs:List Value},(∀id∈x.ids,p id=true)→aa w I m ρ x vs→aa w I (m.on p) ρ x vs:=by
 have ref:∀{id st:Nat},p id=true→cq m id st→cq (m.on p) id st:=by
  rintro id st hp ⟨b,hb,h⟩
  exact⟨b,by rw[MF.kZ hp,hb],h⟩
 intro x
 induction x with
 |leaf t x=>intro vs _ h;exact h
 |whole id st t=>
  intro vs hp h
  simp only[aa] at h ⊢
  obtain⟨h1,h2,h3⟩:=h
  have hpi:p id=true:=hp id (by simp[AT.ids])
  exact⟨h1,ref hpi h2,fun b hb=>h3 b (by rwa[MF.kZ hpi] at hb)⟩
 |piece id st off len t=>
  intro vs hp h
  simp only[aa] at h ⊢
  obtain⟨h1,h2,h3⟩:=h
  have hpi:p id=true:=hp id (by simp[AT.ids])
  exact⟨h1,ref hpi h2,fun b hb=>h3 b (by rwa[MF.kZ hpi] at hb)⟩
 |nil t=>intro vs _ h;exact h
 |cW=>intro vs _ h;exact h
 |pair l r ihl ihr=>
  intro vs hp h
  simp only[aa] at h ⊢
  obtain⟨v1,v2,e,h1,h2⟩:=h
  exact⟨v1,v2,e,ihl (fun id hi=>hp id (bD.2 (.inl hi))) h1,ihr (fun id hi=>hp id (bD.2 (.inr hi))) h2⟩
 |undef n=>intro vs _ h;exact h
 |aV id st q=>
  intro vs hp h
  simp only[aa] at h ⊢
  obtain⟨h1,h2,h3⟩:=h
  have hpi:p id=true:=hp id (by simp[AT.ids])
  exact⟨h1,ref hpi h2,fun b hb=>h3 b (by rwa[MF.kZ hpi] at hb)⟩
 |ptr id st row q=>
  intro vs hp h
  simp only[aa] at h ⊢
  obtain⟨h1,h2,h3⟩:=h
  have hpi:p id=true:=hp id (by simp[AT.ids])
  exact⟨h1,ref hpi h2,fun b hb=>h3 b (by rwa[MF.kZ hpi] at hb)⟩
 |nest id st rs row q u=>
  intro vs hp h
  simp only[aa] at h ⊢
  obtain⟨h1,h10,h2,h3⟩:=h
  have hpi:p id=true:=hp id (by simp[AT.ids])
  exact⟨h1,h10,ref hpi h2,fun b hb=>h3 b (by rwa[MF.kZ hpi] at hb)⟩
 |fn f c ih=>
  intro vs hp h
  simp only[aa] at h ⊢
  obtain⟨caps,e,h⟩:=h
  exact⟨caps,e,ih (fun id hi=>hp id hi) h⟩
 |bL l r ihl ihr=>
  intro vs hp h
  simp only[aa] at h ⊢
  obtain⟨v,vs',e,h1,h2⟩:=h
  exact⟨v,vs',e,ihl (fun id hi=>hp id (bD.2 (.inl hi))) h1,ihr (fun id hi=>hp id (bD.2 (.inr hi))) h2⟩
 |cJ=>intro vs _ h;exact h
 |bM T a ih=>intro vs _ h;simp only[aa] at h
 |any=>intro vs _ h;simp only[aa] at h
def aB.sub {m':MF}{ρ':Pl}(hs:∀id b,m id=some b→m' id=some b∧ρ' id=ρ id){x:AT}{v:Value}(h:aB w I m ρ x v):aB w I m' ρ' x v:=by
 unfold aB at *
 split
 ·rename_i hh;rw[bf hh] at h;obtain⟨arr,e,h⟩:=h;exact⟨arr,e,h.sub hs⟩
 ·rename_i hh;rw[bY hh] at h;exact h.sub hs
def aB.cut {p:Nat→Bool}{x:AT}{v:Value}(hp:∀id∈x.ids,p id=true)(h:aB w I m ρ x v):aB w I (m.on p) ρ x v:=by
 unfold aB at *
 split
 ·rename_i hh;rw[bf hh] at h;obtain⟨arr,e,h⟩:=h;exact⟨arr,e,h.cut hp⟩
 ·rename_i hh;rw[bY hh] at h;exact h.cut hp
def de.sub {m':MF}{ρ':Pl}(hs:∀id b,m id=some b→m' id=some b∧ρ' id=ρ id):∀{x:AT} {vs:List Value},de w I m ρ x vs→de w I m' ρ' x vs:=by
 intro x
 induction x with
 |bL l r _ ih=>intro vs h;simp only[de] at h ⊢;obtain⟨v,vs',e,h1,h2⟩:=h;exact⟨v,vs',e,h1.sub hs,ih h2⟩
 |cJ=>intro vs h;exact h
 |_=>intro vs h;simp only[de] at h
def de.cut {p:Nat→Bool}:∀{x:AT} {vs:List Value},(∀id∈x.ids,p id=true)→de w I m ρ x vs→de w I (m.on p) ρ x vs:=by
 intro x
 induction x with
 |bL l r _ ih=>
  intro vs hp h
  simp only[de] at h ⊢
  obtain⟨v,vs',e,h1,h2⟩:=h
  exact⟨v,vs',e,h1.cut (fun id hi=>hp id (bD.2 (.inl hi))),ih (fun id hi=>hp id (bD.2 (.inr hi))) h2⟩
 |cJ=>intro vs _ h;exact h
 |_=>intro vs _ h;simp only[de] at h
def az.sub {m':MF}{ρ':Pl}(hs:∀id b,m id=some b→m' id=some b∧ρ' id=ρ id){x:AT}{v:Value}(h:az w I m ρ x v):az w I m' ρ' x v:=by
 cases x<;>simp only[az] at h ⊢ <;>first
  |exact h
  | (obtain⟨arr,e,h⟩:=h;exact⟨arr,e,h.sub hs⟩)
  |exact aB.sub hs h
def az.cut {p:Nat→Bool}{x:AT}{v:Value}(hp:∀id∈x.ids,p id=true)(h:az w I m ρ x v):az w I (m.on p) ρ x v:=by
 cases x<;>simp only[az] at h ⊢ <;>first
  |exact h
  | (obtain⟨arr,e,h⟩:=h;exact⟨arr,e,h.cut hp⟩)
  |exact aB.cut hp h
def mQ (m:MF)(p:Nat→Bool):Prop:=∀id b t x,p id=true→m id=some b→b.c = .var t x→∀j∈x.ids,p j=true
def aD.cut {p:Nat→Bool}(hm:aD F m w I ρ)(bO:mQ m p) :
  aD ⟨w,I,fun B=>∃id b,p id=true∧m id=some b∧b.live∧bR ρ id b B,F.G⟩ (m.on p) w I ρ:=by
 refine⟨fun id b hb=>?_,fun id id' b b' B o o' h1 h2=>hm.inj id id' b b' B o o' (MF.lR h1).2 (MF.lR h2).2,hm.aY,fun B h=>h,fun B h=>.inl h,fun id b B o' hb hl hr=>.inr ⟨id,b,(MF.lR hb).1,(MF.lR hb).2,hl,.inl ⟨_,hr⟩⟩,fun id b hb hd=>?dp,fun B _ _=>rfl,bw _,rfl,rfl,rfl,hm.fY⟩
 obtain⟨hp,hb0⟩:=MF.lR hb
 have h:=hm.blk id b hb0
 unfold aS at h ⊢
 split
 ·trivial
 ·rename_i t x e
  simp only[e] at h
  obtain⟨h1,B,cs,h2,h3,h4,h5⟩:=h
  exact⟨h1,B,cs,h2,h3,h4.cut (bO id b t x hp hb0 e),h5⟩
 ·rename_i t xs e
  simp only[e] at h
  exact h
 ·rename_i rs t xs e
  simp only[e] at h
  exact h
 case dp=>
  obtain⟨hp,hb0⟩:=MF.lR hb
  obtain⟨k1,k2⟩:=hm.dp id b hb0 hd
  refine⟨k1,fun B hB=>?_⟩
  obtain⟨q1,q2,q3⟩:=k2 B hB
  exact⟨.inr ⟨id,b,hp,hb0,fA hd,.inr ⟨hd,hB⟩⟩,fun id' b' o h1 h2=>q2 id' b' o (MF.lR h1).2 h2,fun id' b' h1 h2 h3=>q3 id' b' (MF.lR h1).2 h2 h3⟩
def sW {p:Nat→Bool}{l:List (Nat×ag)}(_hp:∀x∈l,p x.1=true)(i:Nat)(h:p i=true):(m.on p).aj l i=m.aj l i:=by
 unfold MF.aj
 rw[MF.kZ h]
def fh {α:Type}:∀{l:List (Nat×α)} {i:Nat} {x:α},find l i=some x→(i,x)∈l
 | [],i,x,h=>by simp[find] at h
 | (j,y)::l,i,x,h=>by
  rw[aI] at h
  split at h
  ·rename_i e
   subst e
   cases h
   simp
  ·exact gP _ (fh h)
def vR {p:Nat→Bool}{l:List (Nat×ag)}(hp:∀x∈l,p x.1=true)(i:Nat)(h:p i=false):m.aj l i=m i∧(m.on p).aj l i=none:=by
 have:find l i=none:=by
  cases hf:find l i with
  |none=>rfl
  |some b=>have:=hp _ (fh hf);simp[h] at this
 simp[MF.aj,this,MF.on,h]
def Pl.on (p:Nat→Bool)(ρ' ρ:Pl):Pl:=⟨fun id=>bif p id then ρ' id else ρ id,fun id=>bif p id then ρ'.d id else ρ.d id⟩
def aC.lift {p:Nat→Bool}{l:List (Nat×ag)}{w':World}{I':Nat→Prop}{ρ':Pl}(hm:aD F m w I ρ)(hp:∀x∈l,p x.1=true)
  (hd:aC ⟨w,I,fun B=>∃id b,p id=true∧m id=some b∧b.live∧bR ρ id b B,F.G⟩ (m.on p) ((m.on p).aj l) w w' I I' ρ ρ') :
  aC F m (m.aj l) w w' I I' ρ (Pl.on p ρ' ρ)∧(∀id b,(m.on p).aj l id=some b→m.aj l id=some b∧(Pl.on p ρ' ρ) id=ρ' id):=by
 have hsub:∀id b,(m.on p).aj l id=some b→m.aj l id=some b∧(Pl.on p ρ' ρ) id=ρ' id:=by
  intro id b hb
  cases hpi:p id with
  |true=>rw[sW hp id hpi] at hb;exact⟨hb,by simp[Pl.on,hpi]⟩
  |false=>rw[(vR hp id hpi).2] at hb;cases hb
 have hin:∀id,p id=true→∀b,m.aj l id=some b→(m.on p).aj l id=some b:=fun id hpi b hb=>by rw[sW hp id hpi];exact hb
 have hout:∀id,p id=false→m.aj l id=m id:=fun id hpi=>(vR hp id hpi).1
 have e1:∀id,p id=true→(Pl.on p ρ' ρ) id=ρ' id∧(Pl.on p ρ' ρ).d id=ρ'.d id:=fun id h=>by simp[Pl.on,h]
 have e2:∀id,p id=false→(Pl.on p ρ' ρ) id=ρ id∧(Pl.on p ρ' ρ).d id=ρ.d id:=fun id h=>by simp[Pl.on,h]
 have hkeep:∀id b B,p id=false→m id=some b→b.live→bR ρ id b B→w'.heap[B]?=w.heap[B]?∧(I' B→I B)∧B<w.heap.size ∧
   ¬∃id b,p id=true∧m id=some b∧b.live∧bR ρ id b B:=by
  intro id b B hpi hb hl hr
  have hlt:B<w.heap.size:=by
   rcases hr with⟨o,hr⟩|⟨hdp,hr⟩
   ·exact hm.lt hb hl hr
   ·exact(hm.dlt hb hdp hr).1
  have hnx:¬∃id b,p id=true∧m id=some b∧b.live∧bR ρ id b B:=by
   rintro⟨id2,b2,h1,h2,h3,h4⟩
   have:=hm.js hb hl hr h2 h3 h4
   subst this
   simp[hpi] at h1
  refine⟨hd.mem.frame B hlt hnx,fun hI=>?_,hlt,hnx⟩
  rcases hd.mem.gZ B hI with h|h|h
  ·exact h
  ·exact absurd hlt (Nat.not_lt.2 h)
  ·exact absurd h hnx
 have hk:dc m (m.aj l) ρ (Pl.on p ρ' ρ) w w':=by
  refine⟨fun id b hb=>?_,fun id b b' rs t u xs ys hb hb' hst hc aM B o hB=>?_⟩
  ·cases hpi:p id with
   |true=>
    obtain⟨b',h1,h2⟩:=hd.keep.keep id b (by rw[MF.kZ hpi];exact hb)
    rw[sW hp id hpi] at h1
    rw[(e1 id hpi).1]
    exact⟨b',h1,h2⟩
   |false=>
    refine⟨b,by rw[hout id hpi];exact hb,?_⟩
    exact .inr ⟨rfl,bJ.refl _,(e2 id hpi).1,fun hl B o' hr cs hc=>⟨cs,hc.of_same (hkeep id b B hpi hb hl (.inl ⟨_,hr⟩)).1,bw _⟩⟩
  ·cases hpi:p id with
   |true=>exact hd.keep.nest id b b' rs t u xs ys (by rw[MF.kZ hpi];exact hb) (hin id hpi b' hb') hst hc aM B o hB
   |false=>exact(hkeep id b B hpi hb (by unfold ag.live;rw[hc];trivial) (.inl ⟨_,hB⟩)).1
 have mixed:∀i j bi bj B,p i=true→p j=false→m.aj l i=some bi→m.aj l j=some bj→bi.live→bj.live→bR ρ' i bi B→bR ρ j bj B→False:=by
  intro i j bi bj B hpi cO jM hbj hli hlj hri hrj
  rw[hout j cO] at hbj
  obtain⟨_,_,hlt,hnx⟩:=hkeep j bj B cO hbj hlj hrj
  have:w.heap.size≤B∨∃id b,p id=true∧m id=some b∧b.live∧bR ρ id b B:=by
   rcases hri with⟨o,hri⟩|⟨hdp,hri⟩
   ·exact hd.mem.mine i bi B o (hin i hpi bi jM) hli hri
   ·exact((hd.mem.dp i bi (hin i hpi bi jM) hdp).2 B hri).1
  rcases this with h|h
  ·exact absurd hlt (Nat.not_lt.2 h)
  ·exact hnx h
 have up:∀B,(w.heap.size≤B∨∃id b,p id=true∧m id=some b∧b.live∧bR ρ id b B)→F.w0.heap.size≤B∨F.X0 B:=by
  rintro B (h|⟨id2,b2,h1,h2,h3,⟨o,h4⟩|⟨h4,h5⟩⟩)
  ·exact .inl (mL hm.size h)
  ·exact hm.mine id2 b2 B o h2 h3 h4
  ·exact((hm.dp id2 b2 h2 h4).2 B h5).1
 refine⟨⟨hd.agree,hk,?_⟩,hsub⟩
 refine { blk:=?_,inj:=?_,aY:=hd.mem.aY,iE:=fun B h=>hd.mem.iE B (hm.iE B h),gZ:=?_,mine:=?_,dp:=?_,frame:=?_,size:=mL hm.size hd.mem.size,os:=hd.mem.os.trans hm.os,tape:=hd.mem.tape.trans hm.tape,output:=hd.mem.output.trans hm.output,fY:=F.G.mono hd.agree hm.fY }
 ·intro id b hb
  cases hpi:p id with
  |true=>
   have h:=hd.mem.blk id b (hin id hpi b hb)
   obtain⟨hρ,oA⟩:=e1 id hpi
   unfold aS at h ⊢
   split
   ·trivial
   ·rename_i t x e
    simp only[e] at h
    obtain⟨h1,B,cs,h2,h3,h4,h5⟩:=h
    exact⟨h1,B,cs,hρ.trans h2,h3,h4.sub hsub,h5⟩
   ·rename_i t xs e
    simp only[e] at h
    obtain⟨h0,h⟩:=h
    refine⟨h0,h.imp (fun⟨h1,h2⟩=>⟨h1,hρ.trans h2⟩) ?_⟩
    rintro⟨B,o',cs,h2,h3⟩
    exact⟨B,o',cs,hρ.trans h2,h3⟩
   ·rename_i rs t xs e
    simp only[e] at h
    obtain⟨h0,h⟩:=h
    refine⟨h0,h.imp (fun⟨h1,h2,h3⟩=>⟨h1,hρ.trans h2,oA.trans h3⟩) ?_⟩
    rintro⟨B,o',cs,h2,h3⟩
    exact⟨B,o',cs,hρ.trans h2,by rw[oA];exact h3⟩
  |false=>
   rw[hout id hpi] at hb
   refine(hm.blk id b hb).mono hd.agree hk (e2 id hpi).1 (e2 id hpi).2 (fun B o' hr hl=>?_) fun hdp B hB=>?_
   ·obtain⟨h1,h2,_⟩:=hkeep id b B hpi hb hl (.inl ⟨_,hr⟩)
    exact⟨h1,h2⟩
   ·obtain⟨h1,h2,_⟩:=hkeep id b B hpi hb (fA hdp) (.inr ⟨hdp,hB⟩)
    exact⟨h1,h2⟩
 ·intro id id' b b' B o1 o2 hb hb' hl hl' hr hr'
  cases hpi:p id with
  |true=>
   rw[(e1 id hpi).1] at hr
   cases cO:p id' with
   |true=>
    rw[(e1 id' cO).1] at hr'
    exact hd.mem.inj id id' b b' B o1 o2 (hin id hpi b hb) (hin id' cO b' hb') hl hl' hr hr'
   |false=>
    rw[(e2 id' cO).1] at hr'
    exact(mixed id id' b b' B hpi cO hb hb' hl hl' (.inl ⟨_,hr⟩) (.inl ⟨_,hr'⟩)).elim
  |false=>
   rw[(e2 id hpi).1] at hr
   cases cO:p id' with
   |true=>
    rw[(e1 id' cO).1] at hr'
    exact(mixed id' id b' b B cO hpi hb' hb hl' hl (.inl ⟨_,hr'⟩) (.inl ⟨_,hr⟩)).elim
   |false=>
    rw[(e2 id' cO).1] at hr'
    rw[hout id hpi] at hb
    rw[hout id' cO] at hb'
    exact hm.inj id id' b b' B o1 o2 hb hb' hl hl' hr hr'
 ·intro B hB
  rcases hd.mem.gZ B hB with h|h|h
  ·exact hm.gZ B h
  ·exact .inr (up B (.inl h))
  ·exact .inr (up B (.inr h))
 ·intro id b B o' hb hl hr
  cases hpi:p id with
  |true=>
   rw[(e1 id hpi).1] at hr
   exact up B (hd.mem.mine id b B o' (hin id hpi b hb) hl hr)
  |false=>
   rw[(e2 id hpi).1] at hr
   rw[hout id hpi] at hb
   exact hm.mine id b B o' hb hl hr
 ·intro id b hb hdp
  cases hpi:p id with
  |true=>
   rw[(e1 id hpi).2]
   obtain⟨k1,k2⟩:=hd.mem.dp id b (hin id hpi b hb) hdp
   refine⟨k1,fun B hB=>⟨up B (k2 B hB).1,fun id' b' o h1 h2 h3=>?_,fun id' b' h1 h2 h3=>?_⟩⟩
   ·cases cO:p id' with
    |true=>rw[(e1 id' cO).1] at h3;exact(k2 B hB).2.1 id' b' o (hin id' cO b' h1) h2 h3
    |false=>rw[(e2 id' cO).1] at h3;exact mixed id id' b b' B hpi cO hb h1 (fA hdp) h2 (.inr ⟨hdp,hB⟩) (.inl ⟨_,h3⟩)
   ·cases cO:p id' with
    |true=>rw[(e1 id' cO).2] at h3;exact(k2 B hB).2.2 id' b' (hin id' cO b' h1) h2 h3
    |false=>rw[(e2 id' cO).2] at h3;exact(mixed id id' b b' B hpi cO hb h1 (fA hdp) (fA h2) (.inr ⟨hdp,hB⟩) (.inr ⟨h2,h3⟩)).elim
  |false=>
   rw[(e2 id hpi).2]
   have hb0:=hb
   rw[hout id hpi] at hb0
   obtain⟨k1,k2⟩:=hm.dp id b hb0 hdp
   refine⟨k1,fun B hB=>⟨(k2 B hB).1,fun id' b' o h1 h2 h3=>?_,fun id' b' h1 h2 h3=>?_⟩⟩
   ·cases cO:p id' with
    |true=>rw[(e1 id' cO).1] at h3;exact mixed id' id b' b B cO hpi h1 hb h2 (fA hdp) (.inl ⟨_,h3⟩) (.inr ⟨hdp,hB⟩)
    |false=>rw[(e2 id' cO).1] at h3;rw[hout id' cO] at h1;exact(k2 B hB).2.1 id' b' o h1 h2 h3
   ·cases cO:p id' with
    |true=>rw[(e1 id' cO).2] at h3;exact(mixed id' id b' b B cO hpi h1 hb (fA h2) (fA hdp) (.inr ⟨h2,h3⟩) (.inr ⟨hdp,hB⟩)).elim
    |false=>rw[(e2 id' cO).2] at h3;rw[hout id' cO] at h1;exact(k2 B hB).2.2 id' b' h1 h2 h3
 ·intro B hB hX
  have hlt:B<w.heap.size:=Nat.lt_of_lt_of_le hB hm.size
  refine(hd.mem.frame B hlt ?_).trans (hm.frame B hB hX)
  intro h
  rcases up B (.inr h) with h|h
  ·exact absurd hB (Nat.not_lt.2 h)
  ·exact hX h
def aA.lift {p:Nat→Bool}(hm:aD F m w I ρ)(bO:mQ m p)(hp:∀x∈d.aj,p x.1=true)(hg:∀F',F'.G=F.G→aD F' (m.on p) w I ρ→aA P F' o a w (m.on p) I ρ d):aA P F o a w m I ρ d:=by
 intro K Q h
 refine hg ⟨w,I,fun B=>∃id b,p id=true∧m id=some b∧b.live∧bR ρ id b B,F.G⟩ rfl (hm.cut bO) K Q fun v w' I' ρ' hd hs=>?_
 obtain⟨h1,h2⟩:=aC.lift hm hp hd
 exact h v w' I' _ h1 (hs.sub h2)
end
def cF (w:World)(I:Nat→Prop):(t:Ty)→t.den→List Value→List Nat→Prop
 |.own t,xs,vs,Bs=>∃a cap,vs = [.slice a xs.length cap]∧xs.length≤cap∧((a=none∧cap=0∧Bs = []) ∨
  ∃B o cs,a=some ⟨B,o,none⟩∧Cells w B cs∧o+cap*t.size≤cs.length∧fV w B o t.size (af w I t) xs∧¬I B∧Bs = [B])
 |.pair a b,x,vs,Bs=>∃v1 v2 B1 B2,vs=v1++v2∧Bs=B1++B2∧cF w I a x.1 v1 B1∧cF w I b x.2 v2 B2
 |.unit,x,vs,Bs=>Bs = []∧af w I .unit x vs
 |.bool,x,vs,Bs=>Bs = []∧af w I .bool x vs
 |.int k,x,vs,Bs=>Bs = []∧af w I (.int k) x vs
 |.str,x,vs,Bs=>Bs = []∧af w I .str x vs
 |.lst t,x,vs,Bs=>Bs = []∧af w I (.lst t) x vs
 |.arr n t,x,vs,Bs=>Bs = []∧af w I (.arr n t) x vs
 |.ref t,x,vs,Bs=>Bs = []∧af w I (.ref t) x vs
section
variable {P:Program} {F:Fix} {C:Cx} {o:Oper} {a:Act} {w:World} {m:MF} {I:Nat→Prop} {ρ:Pl} {d:aE}
def cF.ga:∀{t:Ty} {x:t.den} {vs:List Value},af w I t x vs→cF w I t x vs []:=by
 intro t
 induction t with
 |own t _=>intro x vs h;simp only[af] at h
 |pair a b aL aK=>
  intro x vs h
  simp only[af] at h
  obtain⟨v1,v2,e,h1,h2⟩:=h
  exact⟨v1,v2,[],[],e,rfl,aL h1,aK h2⟩
 |_=>intro x vs h;exact⟨rfl,h⟩
def cF.rep:∀{t:Ty} {x:t.den} {vs:List Value} {Bs:List Nat},t.eM=false→cF w I t x vs Bs→af w I t x vs∧Bs = []:=by
 intro t
 induction t with
 |own t _=>intro x vs Bs h;simp[Ty.eM] at h
 |pair a b aL aK=>
  intro x vs Bs h hr
  simp only[Ty.eM,jD] at h
  obtain⟨v1,v2,B1,B2,e,eb,h1,h2⟩:=hr
  obtain⟨k1,k2⟩:=aL h.1 h1
  obtain⟨k3,k4⟩:=aK h.2 h2
  refine⟨?_,by rw[eb,k2,k4];rfl⟩
  simp only[af]
  exact⟨v1,v2,e,k1,k3⟩
 |_=>intro x vs Bs _ hr;exact⟨hr.2,hr.1⟩
def cF.length:∀{t:Ty} {x:t.den} {vs:List Value} {Bs:List Nat},cF w I t x vs Bs→vs.length=t.size:=by
 intro t
 induction t with
 |own t _=>intro x vs Bs h;obtain⟨a,cap,e,_⟩:=h;simp[e,Ty.size]
 |pair a b aL aK=>
  intro x vs Bs h
  obtain⟨v1,v2,B1,B2,e,eb,h1,h2⟩:=h
  simp[e,Ty.size,aL h1,aK h2]
 |_=>intro x vs Bs h;exact af.length h.2
def cF.cC:∀{t:Ty} {x:t.den} {vs:List Value} {Bs:List Nat},cF w I t x vs Bs→∀v∈vs,v.oneCell'=true:=by
 intro t
 induction t with
 |own t _=>intro x vs Bs h;obtain⟨a,cap,e,_⟩:=h;simp[e,Value.oneCell']
 |pair a b aL aK=>
  intro x vs Bs h v hv
  obtain⟨v1,v2,B1,B2,e,eb,h1,h2⟩:=h
  subst e
  rcases bB.1 hv with h|h
  ·exact aL h1 v h
  ·exact aK h2 v h
 |_=>intro x vs Bs h;exact af.cC h.2
def aN (m:MF)(ρ:Pl)(id B:Nat):Prop:=∃b,m id=some b∧b.live∧b.fz=false∧bR ρ id b B
def aN.inj (hm:aD F m w I ρ){i j B:Nat}(hi:aN m ρ i B)(hj:aN m ρ j B):i=j:=by
 obtain⟨b,h1,h2,_,h4⟩:=hi
 obtain⟨b',h1',h2',_,h4'⟩:=hj
 exact hm.js h1 h2 h4 h1' h2' h4'
def aN.iU (hm:aD F m w I ρ){i B:Nat}(h:aN m ρ i B):¬I B:=by
 obtain⟨b,h1,h2,h3,h4⟩:=h
 intro hI
 rcases h4 with⟨o,h4⟩|⟨h4,h5⟩
 ·have hblk:=hm.blk i b h1
  unfold aS at hblk
  unfold ag.live at h2
  cases hc:b.c with
  |dead=>simp[hc] at h2
  |var t x=>
   simp only[hc] at hblk
   obtain⟨_,B',cs,e1,_,_,e2⟩:=hblk
   rw[h4] at e1;cases e1
   rw[e2.2 hI] at h3;cases h3
  |rows t ys=>
   simp only[hc] at hblk
   rcases hblk.2 with⟨_,e1⟩|⟨B',dA,cs,e1,_,_,_,e2⟩
   ·rw[h4] at e1;cases e1
   ·rw[h4] at e1;cases e1
    rw[e2.2 hI] at h3;cases h3
  |deep rs t ys=>
   simp only[hc] at hblk
   rcases hblk.2 with⟨_,e1,_⟩|⟨B',dA,cs,e1,_,_,_,e2⟩
   ·rw[h4] at e1;cases e1
   ·rw[h4] at e1;cases e1
    exact e2 hI
 ·exact(hm.dlt h1 h4 h5).2 hI
def aN.lt (hm:aD F m w I ρ){i B:Nat}(h:aN m ρ i B):B<w.heap.size:=by
 obtain⟨b,h1,h2,h3,h4⟩:=h
 rcases h4 with⟨o,h4⟩|⟨h4,h5⟩
 ·exact hm.lt h1 h2 h4
 ·exact(hm.dlt h1 h4 h5).1
def aN.up (hm:aD F m w I ρ){i B:Nat}(h:aN m ρ i B):F.w0.heap.size≤B∨F.X0 B:=by
 obtain⟨b,h1,h2,h3,h4⟩:=h
 rcases h4 with⟨o,h4⟩|⟨h4,h5⟩
 ·exact hm.mine i b B o h1 h2 h4
 ·exact((hm.dp i b h1 h4).2 B h5).1
def jr (hm:aD F m w I ρ){l l' Bs Bs':List Nat}(hn:(l++l').Nodup)(h:Bs.Nodup)(h':Bs'.Nodup)(hl:∀B∈Bs,∃id∈l,aN m ρ id B)(hl':∀B∈Bs',∃id∈l',aN m ρ id B):(Bs++Bs').Nodup:=by
 rw[cM]
 refine⟨h,h',fun x hx y hy e=>?_⟩
 subst e
 obtain⟨i,hi,h1⟩:=hl x hx
 obtain⟨j,hj,h2⟩:=hl' x hy
 have:=h1.inj hm h2
 subst this
 exact(cM.1 hn).2.2 i hi i hj rfl
def sC {id st:Nat}{t:Ty}{xs:List t.den}{vs:List Value}{I':Nat→Prop}(hm:aD F m w I ρ)(hr:aa w I m ρ (.whole id st t) vs)(hro:rowsOf m id st t=some (false,xs))
  (hI:∀B,I B→I' B) (hn:∀B,aN m ρ id B→¬I' B):∃Bs,cF w I' (.own t) xs vs Bs∧(Bs = []∨∃B,Bs = [B]∧aN m ρ id B):=by
 have hb:=gA hro
 simp only[aa] at hr
 obtain⟨_,_,h3⟩:=hr
 obtain⟨ad,cap,e1,e2,e3⟩:=h3 _ hb rfl t xs.length rfl
 have hblk:=hm.blk id _ hb
 simp only[aS] at hblk
 obtain⟨h0,hblk⟩:=hblk
 rcases e3 with e3|⟨B',dA,cs',g1,g2,g3,g4⟩
 ·exact⟨[],⟨ad,cap,e1,e2,.inl ⟨e3.1,e3.2.1,rfl⟩⟩,.inl rfl⟩
 ·rcases hblk with⟨_,hno⟩|⟨B,o',cs,f1,f2,f3,f4,f5⟩
  ·rw[hno] at g1;cases g1
  ·rw[f1] at g1
   cases g1
   have bU:aN m ρ id B':=⟨_,hb,fF rfl,rfl,.inl ⟨dA,f1⟩⟩
   refine⟨[B'],⟨ad,cap,e1,e2,.inr ⟨B',dA,cs',g2,g3,g4,f4.mono (fun _=>rfl) (fun x vs h=>af.mono ⟨hI,fun _ _=>rfl⟩ h),hn B' bU,rfl⟩⟩,.inr ⟨B',rfl,bU⟩⟩
def vD {I':Nat→Prop}(hm:aD F m w I ρ)(hI:∀B,I B→I' B):∀{x:AT} {d:DV} {vs:List Value},jx m x=some d→aa w I m ρ x vs→(∀id∈x.ids,∀B,aN m ρ id B→¬I' B)→x.ids.Nodup →
  ∃Bs,cF w I' d.t d.x vs Bs∧Bs.Nodup∧∀B∈Bs,∃id∈x.ids,aN m ρ id B:=by
 intro x
 induction x with
 |leaf t x=>intro d vs h hr _ _;simp only[jx,au] at h;subst h;exact⟨[],cF.ga (af.mono ⟨hI,fun _ _=>rfl⟩ hr),by simp,by simp⟩
 |nil t=>
  intro d vs h hr _ _
  simp only[jx,au] at h
  subst h
  simp only[aa] at hr
  subst hr
  exact⟨[],⟨none,0,by simp,by simp,.inl ⟨rfl,rfl,rfl⟩⟩,by simp,by simp⟩
 |whole id st t=>
  intro d vs h hr hn _
  simp only[jx] at h
  split at h
  ·rename_i xs hro
   simp only[au] at h
   subst h
   obtain⟨Bs,h1,h2⟩:=sC hm hr hro hI (hn id (by simp[AT.ids]))
   refine⟨Bs,h1,?_,?_⟩
   ·rcases h2 with rfl|⟨B,rfl,_⟩<;>simp
   ·rcases h2 with rfl|⟨B,rfl,h2⟩
    ·simp
    ·intro B' bg
     simp only[eH] at bg
     subst bg
     exact⟨id,by simp[AT.ids],h2⟩
  ·simp at h
 |pair l r ihl ihr=>
  intro d vs h hr hn hnd
  simp only[jx] at h
  split at h
  ·rename_i x y hx hy
   simp only[au] at h
   subst h
   simp only[aa] at hr
   obtain⟨v1,v2,rfl,h1,h2⟩:=hr
   have happ:(app l.ids r.ids)=l.ids++r.ids:=by
    generalize l.ids=q
    induction q with
    |nil=>rfl
    |cons z q ih=>simp[app,ih]
   simp only[AT.ids,happ,cM] at hnd
   obtain⟨B1,k1,k2,k3⟩:=ihl hx h1 (fun id hi=>hn id (bD.2 (.inl hi))) hnd.1
   obtain⟨B2,k4,k5,k6⟩:=ihr hy h2 (fun id hi=>hn id (bD.2 (.inr hi))) hnd.2.1
   refine⟨B1++B2,⟨v1,v2,B1,B2,rfl,rfl,k1,k4⟩,?_,?_⟩
   ·exact jr hm (cM.2 hnd) k2 k5 k3 k6
   ·intro B hB
    rcases bB.1 hB with hB|hB
    ·obtain⟨i,j,k⟩:=k3 B hB;exact⟨i,bD.2 (.inl j),k⟩
    ·obtain⟨i,j,k⟩:=k6 B hB;exact⟨i,bD.2 (.inr j),k⟩
  ·simp at h
 |_=>intro d vs h hr _ _;simp[jx] at h
def bF.u6 {t:Ty}(ht:t.aO=false){B:Nat}:∀{xs:List t.den} {off:Nat},fV w B off t.size (af w I t) xs→bF w B t.size (aq w I t) off xs []
 | [],_,_=>rfl
 |x::xs,off,h=>by
  obtain⟨cs,h1,h2,h3⟩:=h 0 x rfl
  refine⟨cs,[],[],rfl,h1,fun j hj=>by simpa using h2 j hj,aq.ga ht h3,bF.u6 ht fun i y hy=>?_⟩
  obtain⟨ds,k1,k2,k3⟩:=h (i+1) y (by simpa using hy)
  refine⟨ds,k1,fun j hj=>?_,k3⟩
  have:off+(i+1)*t.size+j=off+t.size+i*t.size+j:=by rw[bP];omega
  rw[←this];exact k2 j hj
def qs {id st:Nat}{t:Ty}{xs:List t.den}(h:oU m id st t=some xs):(m id=some ⟨st,false,.rows t xs⟩∧t.aO=false)∨∃fz rs,m id=some ⟨st,fz,.deep rs t xs⟩:=by
 unfold oU at h
 split at h
 ·rename_i st' u ys hc
  obtain⟨hb,hst⟩:=cR hc
  cases hl:u.aO with
  |true=>simp[hl] at h
  |false=>
   rw[hl] at h
   obtain⟨e,he⟩:=DV.cz h
   simp only[Ty.lst.injEq] at e
   subst e
   simp only at he hst
   subst he hst
   exact .inl ⟨hb,hl⟩
 ·rename_i st' fz rs u ys hc
  obtain⟨hb,hst⟩:=cR hc
  obtain⟨e,he⟩:=DV.cz h
  simp only[Ty.lst.injEq] at e
  subst e
  simp only at he hst
  subst he hst
  exact .inr ⟨fz,rs,hb⟩
 ·simp at h
def vf {id st:Nat}{t:Ty}{xs:List t.den}{vs:List Value}{I':Nat→Prop}(hm:aD F m w I ρ)(hr:aa w I m ρ (.whole id st t) vs)(hro:oU m id st t=some xs)
  (hI:∀B,I B→I' B) (hn:∀B,aN m ρ id B→¬I' B):∃Bs,aq w I' (.lst t) xs vs Bs∧Bs.Nodup∧∀B∈Bs,aN m ρ id B:=by
 have ha:bN I I' w w:=⟨hI,fun _ _=>rfl⟩
 obtain⟨b,hb,hst,cA⟩:∃b,m id=some b∧b.st=st∧b.c.arr=some (t,xs.length):=by
  rcases qs hro with⟨h,_⟩|⟨fz,rs,h⟩
  ·exact⟨_,h,rfl,rfl⟩
  ·exact⟨_,h,rfl,rfl⟩
 simp only[aa] at hr
 obtain⟨_,_,h3⟩:=hr
 obtain⟨ad,cap,e1,e2,e3⟩:=h3 _ hb hst t xs.length cA
 simp only[aq]
 rcases e3 with e3|⟨B',dA,cs',g1,g2,g3,g4⟩
 ·exact⟨[],⟨ad,cap,e1,e2,.inl ⟨e3.1,e3.2.1,rfl⟩⟩,by simp,by simp⟩
 ·rcases qs hro with⟨h,hl⟩|⟨fz,rs,h⟩
  ·have hblk:=hm.blk id _ h
   simp only[aS] at hblk
   rcases hblk.2 with⟨_,hno⟩|⟨B,o',cs,f1,f2,f3,f4,f5⟩
   ·rw[hno] at g1;cases g1
   ·rw[f1] at g1
    cases g1
    have bU:aN m ρ id B':=⟨_,h,fF rfl,rfl,.inl ⟨_,f1⟩⟩
    exact⟨[B'],⟨ad,cap,e1,e2,.inr ⟨B',dA,cs',[],g2,g3,g4,bF.u6 hl (f4.mono (fun _=>rfl) (fun x vs h=>af.mono ha h)),hn B' bU,rfl⟩⟩,by simp,by simpa using bU⟩
  ·have hblk:=hm.blk id _ h
   simp only[aS] at hblk
   obtain⟨hfz,hblk⟩:=hblk
   subst hfz
   rcases hblk with⟨_,hno,_⟩|⟨B,o',cs,f1,f2,f3,f4,f5⟩
   ·rw[hno] at g1;cases g1
   ·rw[f1] at g1
    cases g1
    have bU:aN m ρ id B':=⟨_,h,trivial,rfl,.inl ⟨_,f1⟩⟩
    have hmd:∀B∈ρ.d id,aN m ρ id B:=fun B hB=>⟨_,h,trivial,rfl,.inr ⟨trivial,hB⟩⟩
    obtain⟨q1,q2⟩:=hm.dp id _ h trivial
    refine⟨B'::ρ.d id,⟨ad,cap,e1,e2,.inr ⟨B',dA,cs',_,g2,g3,g4,f4.mono (fun _=>rfl) (fun x vs D hD h=>aq.mono ha (fun B hB=>⟨rfl,fun kO=>absurd kO (hn B (hmd B (hD B hB)))⟩) h),hn B' bU,rfl⟩⟩,?_,?_⟩
    ·rw[cX]
     exact⟨fun hin=>(q2 B' hin).2.1 id _ _ h trivial f1,q1⟩
    ·intro B hB
     rcases aX.1 hB with e|hB
     ·subst e;exact bU
     ·exact hmd B hB
end
section
variable {P:Program} {F:Fix} {C:Cx} {o:Oper} {a:Act} {w:World} {m:MF} {I:Nat→Prop} {ρ:Pl} {d:aE}
structure gU (w:World) (I:Nat→Prop) (m:MF) (l:List (Nat×ag)) (n e:Nat) (Bs:List Nat) (pl:Pl):Prop where
 le:n≤e
 gM:∀i b,find l i=some b→n≤i∧i<e
 all:∀i,n≤i→i<e→∃b,find l i=some b
 blk:∀i b,find l i=some b→b.fz=false∧(∃u ys,b.c = .rows u ys)∧b.st=aW m i∧∀m' ρ',ρ' i=pl i→aS w I m' ρ' i b
 src:∀i B o,n≤i→i<e→pl i=some (B,o)→B∈Bs
 one:∀i j B o o',n≤i→i<e→n≤j→j<e→pl i=some (B,o)→pl j=some (B,o')→i=j
def gU.nil (n:Nat)(pl:Pl):gU w I m [] n n [] pl:=
 ⟨bw _,fun i b h=>by simp[find] at h,fun i h h'=>by omega,fun i b h=>by simp[find] at h,fun i B o h h'=>by omega,fun i j B o o' h h'=>by omega⟩
def gU.congr {l:List (Nat×ag)}{n e:Nat}{Bs:List Nat}{pl eS:Pl}(h:gU w I m l n e Bs pl)(hp:∀i,n≤i→i<e→eS i=pl i):gU w I m l n e Bs eS:=by
 refine⟨h.le,h.gM,h.all,fun i b hb=>?_,fun i B o h1 h2 h3=>h.src i B o h1 h2 (by rw[←hp i h1 h2];exact h3),fun i j B o o' h1 h2 h3 h4 h5 h6=>h.one i j B o o' h1 h2 h3 h4 (by rw[←hp i h1 h2];exact h5) (by rw[←hp j h3 h4];exact h6)⟩
 obtain⟨k1,k2,k3,k4⟩:=h.blk i b hb
 obtain⟨r1,r2⟩:=h.gM i b hb
 exact⟨k1,k2,k3,fun m' ρ' hρ=>k4 m' ρ' (hρ.trans (hp i r1 r2))⟩
def gU.app {l1 l2:List (Nat×ag)}{n k e:Nat}{B1 B2:List Nat}{pl:Pl}(h1:gU w I m l1 n k B1 pl)(h2:gU w I m l2 k e B2 pl)(hnd:(B1++B2).Nodup) :
  gU w I m (app l1 l2) n e (B1++B2) pl:=by
 have hle:=h1.le
 have hle2:=h2.le
 have hf:∀i b,find (Ab.app l1 l2) i=some b→find l1 i=some b∨find l2 i=some b:=by
  intro i b h
  rw[cS] at h
  split at h
  ·rename_i b' hb';exact .inl (by rw[hb',h])
  ·exact .inr h
 rw[cM] at hnd
 have mix:∀i j B o o',n≤i→i<k→k≤j→j<e→pl i=some (B,o)→pl j=some (B,o')→False:=by
  intro i j B o o' a1 a2 a3 a4 a5 a6
  exact hnd.2.2 B (h1.src i B o a1 a2 a5) B (h2.src j B o' a3 a4 a6) rfl
 refine⟨by omega,fun i b h=>?_,fun i hi hi'=>?_,fun i b h=>?_,fun i B o hi hi' h=>?_,fun i j B o o' a1 a2 a3 a4 a5 a6=>?_⟩
 ·rcases hf i b h with h|h
  ·have:=h1.gM i b h;omega
  ·have:=h2.gM i b h;omega
 ·rw[cS]
  by_cases hik:i<k
  ·obtain⟨b,hb⟩:=h1.all i hi hik
   exact⟨b,by simp[hb]⟩
  ·obtain⟨b,hb⟩:=h2.all i (by omega) hi'
   cases hf1:find l1 i with
   |some b'=>exact⟨b',rfl⟩
   |none=>exact⟨b,hb⟩
 ·rcases hf i b h with h|h
  ·exact h1.blk i b h
  ·exact h2.blk i b h
 ·rw[bB]
  by_cases hik:i<k
  ·exact .inl (h1.src i B o hi hik h)
  ·exact .inr (h2.src i B o (by omega) hi' h)
 ·by_cases hi:i<k<;>by_cases hj:j<k
  ·exact h1.one i j B o o' a1 hi a3 hj a5 a6
  ·exact(mix i j B o o' a1 hi (by omega) a4 a5 a6).elim
  ·exact(mix j i B o' o a3 hj (by omega) a2 a6 a5).elim
  ·exact h2.one i j B o o' (by omega) a2 (by omega) a4 a5 a6
def oC (m:MF):∀{t:Ty} {x:t.den} {vs:List Value} {Bs:List Nat} (n:Nat),cF w I t x vs Bs→Bs.Nodup →
  ∃pl:Pl,gU w I m (aZ m t x n).2.1 n (aZ m t x n).2.2 Bs pl ∧
   ∀m' ρ',(∀i b,find (aZ m t x n).2.1 i=some b→m' i=some b∧ρ' i=pl i)→aa w I m' ρ' (aZ m t x n).1 vs:=by
 intro t
 induction t with
 |own t _=>
  intro x vs Bs n h hnd
  obtain⟨ad,cap,e,hl,h⟩:=h
  simp only[aZ]
  rcases h with⟨hn0,h0,hB⟩|⟨B,o',cs,e1,e2,e3,e4,e5,e6⟩
  ·subst hB
   refine⟨⟨fun _=>none,fun _=>[]⟩,⟨by omega,fun i b h=>?_,fun i h1 h2=>⟨_,by rw[aI,bf (show n=i by omega)]⟩,fun i b h=>?_,fun i B o h1 h2 h=>by simp at h,fun i j B o o' h1 h2 h3 h4=>by omega⟩,fun m' ρ' h=>?_⟩
   ·rw[aI] at h;split at h
    ·omega
    ·simp[find] at h
   ·rw[aI] at h
    split at h
    ·rename_i hni
     subst hni
     cases h
     have hx0:x = []:=by rw[←dM];omega
     refine⟨rfl,⟨_,_,rfl⟩,rfl,fun m' ρ' hρ=>?_⟩
     simp only[aS]
     exact⟨trivial,.inl ⟨hx0,hρ⟩⟩
    ·simp[find] at h
   ·obtain⟨h1,h2⟩:=h n _ (by rw[aI,bf rfl])
    simp only[aa]
    refine⟨⟨_,e,rfl⟩,cq.of h1 rfl,fun b hb hs u ys hc=>?_⟩
    rw[h1] at hb
    cases hb
    cases hc
    exact⟨ad,cap,e,hl,.inl ⟨hn0,h0,h2⟩⟩
  ·subst e6
   refine⟨⟨fun _=>some (B,o'),fun _=>[]⟩,⟨by omega,fun i b h=>?_,fun i h1 h2=>⟨_,by rw[aI,bf (show n=i by omega)]⟩,fun i b h=>?_,fun i B' o h1 h2 h=>by cases h;simp,fun i j B o o' h1 h2 h3 h4=>by omega⟩,fun m' ρ' h=>?_⟩
   ·rw[aI] at h;split at h
    ·omega
    ·simp[find] at h
   ·rw[aI] at h
    split at h
    ·rename_i hni
     subst hni
     cases h
     refine⟨rfl,⟨_,_,rfl⟩,rfl,fun m' ρ' hρ=>?_⟩
     simp only[aS]
     have:=gD t.size hl
     exact⟨trivial,.inr ⟨B,o',cs,hρ,e2,by omega,e4,by simpa using e5⟩⟩
    ·simp[find] at h
   ·obtain⟨h1,h2⟩:=h n _ (by rw[aI,bf rfl])
    simp only[aa]
    refine⟨⟨_,e,rfl⟩,cq.of h1 rfl,fun b hb hs u ys hc=>?_⟩
    rw[h1] at hb
    cases hb
    cases hc
    exact⟨ad,cap,e,hl,.inr ⟨B,o',cs,h2,e1,e2,e3⟩⟩
 |pair t u iht ihu=>
  intro x vs Bs n h hnd
  cases ho:(Ty.pair t u).eM with
  |false=>
   obtain⟨h1,h2⟩:=h.rep ho
   subst h2
   simp only[aZ,ho,eF]
   exact⟨⟨fun _=>none,fun _=>[]⟩,gU.nil n _,fun m' ρ' _=>h1⟩
  |true=>
   obtain⟨v1,v2,B1,B2,e,eb,h1,h2⟩:=h
   subst eb
   simp only[aZ,ho,aG]
   have dw:=cM.1 hnd
   obtain⟨p1,k1,k2⟩:=iht n h1 dw.1
   obtain⟨p2,k3,k4⟩:=ihu (aZ m t x.1 n).2.2 h2 dw.2.1
   refine⟨⟨fun i=>if i<(aZ m t x.1 n).2.2 then p1 i else p2 i,fun i=>if i<(aZ m t x.1 n).2.2 then p1.d i else p2.d i⟩,gU.app (k1.congr fun i _ hi=>by simp[hi]) (k3.congr fun i hi _=>by simp[Nat.not_lt.2 hi]) hnd,fun m' ρ' h=>?_⟩
   simp only[aa]
   refine⟨v1,v2,e,k2 m' ρ' fun i b hb=>?_,k4 m' ρ' fun i b hb=>?_⟩
   ·have hr:=k1.gM i b hb
    have:=h i b (by rw[cS,hb])
    simpa[hr.2] using this
   ·have hr:=k3.gM i b hb
    have:find (aZ m t x.1 n).2.1 i=none:=by
     cases hf:find (aZ m t x.1 n).2.1 i with
     |none=>rfl
     |some b'=>have:=k1.gM i b' hf;omega
    have:=h i b (by rw[cS,this];exact hb)
    simpa[Nat.not_lt.2 hr.1] using this
 |_=>
  intro x vs Bs n h hnd
  obtain⟨hb,h⟩:=h
  subst hb
  exact⟨⟨fun _=>none,fun _=>[]⟩,gU.nil n _,fun m' ρ' _=>h⟩
end
def mP (w:World)(I:Nat→Prop):(t:Ty)→t.den→List Value→Prop
 |.pair a b,x,vs=>∃v l,vs=v::l∧a.isAgg=false∧af w I a x.1 [v]∧mP w I b x.2 l
 |.unit,_,vs=>vs = []
 |_,_,_=>False
def ArgO (w:World)(I:Nat→Prop):Arg→Value→List Nat→Prop
 |.v d,v,Bs=>∃cs,v=aQ d.t cs∧cF w I d.t d.x cs Bs
 |.d y,v,Bs=>∃cs,v=aQ y.t cs∧aq w I y.t y.x cs Bs
 |.p d,v,Bs=>∃B cs B1,v = .pointer (some ⟨B,0,none⟩)∧Cells w B cs∧¬I B∧cF w I d.t d.x cs B1∧Bs=B::B1
 |.m t xs,v,Bs=>cF w I (.own t) xs [v] Bs
 |.f g d,v,Bs=>Bs = []∧∃caps:Array Value,v = .func (.func g) #[] caps∧mP w I d.t d.x caps.toList
def mO (w:World)(I:Nat→Prop):List Arg→List Value→List Nat→Prop
 | [],[],Bs=>Bs = []
 |x::l,v::vs,Bs=>∃B1 B2,Bs=B1++B2∧ArgO w I x v B1∧mO w I l vs B2
 |_,_,_=>False
def mS (w:World)(I:Nat→Prop):RV→Value→List Nat→Prop
 |.v d,v,Bs=>∃cs,v=aQ d.t cs∧cF w I d.t d.x cs Bs
 |.d y,v,Bs=>∃cs,v=aQ y.t cs∧aq w I y.t y.x cs Bs
 |.p d,v,Bs=>∃B cs B1,v = .pointer (some ⟨B,0,none⟩)∧Cells w B cs∧¬I B∧cF w I d.t d.x cs B1∧Bs=B::B1
def gV (w:World)(I:Nat→Prop):List RV→List Value→List Nat→Prop
 | [],[],Bs=>Bs = []
 |x::l,v::vs,Bs=>∃B1 B2,Bs=B1++B2∧mS w I x v B1∧gV w I l vs B2
 |_,_,_=>False
def l7 (w:World)(I:Nat→Prop)(outs:List RV)(v:Value)(Bs:List Nat):Prop:=
 match outs with
 | [x]=>mS w I x v Bs
 |l=>∃arr,v = .tuple arr∧gV w I l arr.toList Bs
def Grown (w w':World)(cs:List Value):Prop:=∀B o n cap,Value.slice (some ⟨B,o,none⟩) n cap∈cs→∀ds,Cells w B ds→∃ds',Cells w' B ds'∧ds.length≤ds'.length
def cy (w w':World)(I:Nat→Prop):List Arg→List Value→List DV→List Nat→Prop
 | [],_,[],Bs=>Bs = []
 |.p d::l,v::vs,u::us,Bs=>∃B cs B1 B2,v = .pointer (some ⟨B,0,none⟩)∧Cells w' B cs∧¬I B∧u.t=d.t∧cF w' I u.t u.x cs B1∧Bs=B::(B1++B2)∧cy w w' I l vs us B2
 |.m t xs::l,v::vs,u::us,Bs=>∃ys B1 B2,u=⟨.own t,ys⟩∧ys.length=xs.length∧cF w' I (.own t) ys [v] B1∧Bs=B1++B2 ∧
  (∀B∈B1,∀cs,Cells w B cs→∃cs',Cells w' B cs'∧cs.length≤cs'.length)∧cy w w' I l vs us B2
 |.d y::l,v::vs,u::us,Bs=>∃cs B1 B2,v=aQ y.t cs∧u.t=y.t∧aq w' I u.t u.x cs B1∧Bs=B1++B2∧Grown w w' cs∧cy w w' I l vs us B2
 |.v _::l,_::vs,us,Bs=>cy w w' I l vs us Bs
 |.f _ _::l,_::vs,us,Bs=>cy w w' I l vs us Bs
 |_,_,_,_=>False
def Holds (P:Program)(G:jG)(f:FuncId)(args:List Arg)(r:Res):Prop:=
 ∀(w:World) (I:Nat→Prop) (vals:List Value) (Bs:List Nat),(∀B,I B→B<w.heap.size)→G.ok w I→mO w I args vals Bs→Bs.Nodup→(∀B∈Bs,¬I B) →
  Calls P f vals.toArray w fun e w'=>∃v I' Ys Zs,e = .returned v∧l7 w' I' r.outs v Ys∧cy w w' I' args vals r.kB Zs∧(Ys++Zs).Nodup ∧
   (∀B∈Ys++Zs,(B∈Bs∨w.heap.size≤B)∧¬I' B)∧bN I I' w w'∧(∀B,I' B→B<w'.heap.size∧(I B∨w.heap.size≤B∨B∈Bs)) ∧
   (∀B,B<w.heap.size→¬B∈Bs→w'.heap[B]?=w.heap[B]?)∧w.heap.size≤w'.heap.size∧w'.os=w.os∧w'.tape=w.tape∧w'.output=w.output
section
variable {P:Program} {F:Fix} {C:Cx} {o:Oper} {a:Act} {w:World} {m:MF} {I:Nat→Prop} {ρ:Pl} {d:aE}
def qt:∀(p:Path) {t:Ty},ef p t→∃u,t.at p=some u
 | [],t,_=>⟨t,rfl⟩
 |.fst::p,t,h=>by cases t<;>simp only[ef] at h;simp only[Ty.at];exact qt p h
 |.snd::p,t,h=>by cases t<;>simp only[ef] at h;simp only[Ty.at];exact qt p h
 |.idx i::p,t,h=>by cases t<;>simp only[ef] at h;simp only[Ty.at];exact qt p h.2
def vC {I':Nat→Prop}(hm:aD F m w I ρ)(hI:∀B,I B→I' B):∀{a:AT} {d:DV} {vs:List Value},
  (∀id,id∈a.ids→∀b B,m id=some b→b.live→bR ρ id b B→I' B)→iF m a=some d→aa w I m ρ a vs→af w I' d.t d.x vs:=by
 have ha:bN I I' w w:=⟨hI,fun _ _=>rfl⟩
 have rows:∀{id st:Nat} {t:Ty} {xs:List t.den},h_ m id st t=some xs→(∀b B,m id=some b→b.live→bR ρ id b B→I' B) →
   xs = []∨∃B o,ρ id=some (B,o)∧I' B∧fV w B o t.size (af w I' t) xs:=by
  intro id st t xs hl hf
  rcases rW hl with⟨fz,hb⟩|⟨fz,rs,hb⟩
  ·have hblk:=hm.blk id _ hb
   simp only[aS] at hblk
   rcases hblk.2 with⟨d_,_⟩|⟨B,o',cs,f1,f2,f3,f4,_⟩
   ·exact .inl d_
   ·exact .inr ⟨B,o',f1,hf _ B hb (fF rfl) (.inl ⟨o',f1⟩),f4.mono (fun _=>rfl) (fun x vs h=>af.mono ha h)⟩
  ·have hblk:=hm.blk id _ hb
   simp only[aS] at hblk
   rcases hblk.2 with⟨d_,_⟩|⟨B,o',cs,f1,f2,f3,f4,_⟩
   ·exact .inl d_
   ·refine .inr ⟨B,o',f1,hf _ B hb trivial (.inl ⟨o',f1⟩),f4.at fun x vs D hD h=>aq.lend hI (fun B hB=>hf _ B hb trivial (.inr ⟨trivial,hD B hB⟩)) h⟩
 intro a
 induction a with
 |leaf t x=>intro d vs _ h hr;simp only[iF,au] at h;subst h;exact af.mono ha hr
 |nil t=>
  intro d vs _ h hr
  simp only[iF,au] at h
  subst h
  simp only[aa] at hr
  subst hr
  simp only[af]
  exact⟨none,0,rfl,by simp,.inl trivial⟩
 |whole id st t=>
  intro d vs hf h hr
  simp only[iF,bE] at h
  obtain⟨xs,hro,rfl⟩:=h
  obtain⟨b,hb,hst,cA⟩:=ni hro
  simp only[aa] at hr
  obtain⟨_,_,h3⟩:=hr
  obtain⟨ad,cap,e1,e2,e3⟩:=h3 _ hb hst t xs.length cA
  replace e3:=e3.weak
  simp only[af]
  refine⟨ad,cap,e1,e2,?_⟩
  rcases rows hro (hf id (by simp[AT.ids])) with d_|⟨B,o',f1,f2,f3⟩
  ·exact .inl d_
  ·rcases e3 with e3|⟨B',dA,cs',g1,g2,g3,g4⟩
   ·left
    rw[←dM]
    omega
   ·right
    rw[f1] at g1
    cases g1
    exact⟨B,o',by simpa using g2,f2,f3⟩
 |piece id st off len t=>
  intro d vs hf h hr
  simp only[iF,bE] at h
  obtain⟨xs,hro,rfl⟩:=h
  obtain⟨b,hb,hst,cA⟩:=ni hro
  simp only[aa] at hr
  obtain⟨_,_,h3⟩:=hr
  obtain⟨ad,cap,e1,e2,kM,e3⟩:=h3 _ hb hst t xs.length cA
  simp only[af]
  have hl:((xs.drop off).take len).length=len:=by simp;omega
  refine⟨ad,cap,by rw[hl];exact e1,by rw[hl];exact e2,?_⟩
  rcases rows hro (hf id (by simp[AT.ids])) with d_|⟨B,o',f1,f2,f3⟩
  ·left;subst d_;simp
  ·rcases e3 with e3|⟨B',dA,cs',g1,g2,g3,g4⟩
   ·left
    rw[←dM]
    omega
   ·right
    rw[f1] at g1
    cases g1
    exact⟨B,o'+off*t.size,by simpa using g2,f2,f3.piece off len⟩
 |pair l r ihl ihr=>
  intro d vs hf h hr
  simp only[iF] at h
  split at h
  ·rename_i x y hx hy
   simp only[au] at h
   subst h
   simp only[aa] at hr
   obtain⟨v1,v2,rfl,h1,h2⟩:=hr
   simp only[af]
   exact⟨v1,v2,rfl,ihl (fun id hi=>hf id (bD.2 (.inl hi))) hx h1,ihr (fun id hi=>hf id (bD.2 (.inr hi))) hy h2⟩
  ·simp at h
 |_=>intro d vs _ h hr;simp[iF] at h
def vE {I':Nat→Prop}(hm:aD F m w I ρ)(hI:∀B,I B→I' B){x:AT}{d:DV}{v:Value}(hf:∀id∈dU m x.ids,∀b B,m id=some b→b.live→bR ρ id b B→I' B)
  (h:toR m x=some d) (hs:x.slot=true) (hv:az w I m ρ x v):∃cs,v=aQ d.t cs∧af w I' d.t d.x cs∧(d.t.isAgg=false→cs = [v]):=by
 have hsub:∀(l:List Nat) (id:Nat),id∈l→id∈dU m l:=by
  intro l
  induction l with
  |nil=>intro id h;simp at h
  |cons x l ih=>
   intro id h
   simp only[dU,aX]
   rcases aX.1 h with h|h
   ·exact .inl h
   ·exact .inr (bD.2 (.inr (ih id h)))
 have main:∀{x:AT},x.slot=true→az w I m ρ x v→(∀id∈dU m x.ids,∀b B,m id=some b→b.live→bR ρ id b B→I' B)→iF m x=some d→∃cs,v=aQ d.t cs∧af w I' d.t d.x cs∧(d.t.isAgg=false→cs = [v]):=by
  intro x hs hv hf h
  have hag:x.isAgg=d.t.isAgg:=by
   cases x<;>simp only[iF,reduceCtorEq,au] at h
   case leaf t y=>subst h;rfl
   case nil t=>subst h;rfl
   case whole id st t=>simp only[bE] at h;obtain⟨_,_,rfl⟩:=h;rfl
   case piece id st off len t=>simp only[bE] at h;obtain⟨_,_,rfl⟩:=h;rfl
   case pair l r=>
    split at h
    ·simp only[au] at h;subst h;rfl
    ·simp at h
  have fD:=(lV hs).1 hv
  unfold aB at fD
  rw[hag] at fD
  cases hd:d.t.isAgg with
  |true=>
   rw[hd,bf rfl] at fD
   obtain⟨arr,e,hr⟩:=fD
   exact⟨arr.toList,by simp[aQ,hd,e],vC hm hI (fun id hi=>hf id (hsub _ id hi)) h hr,fun h=>by simp at h⟩
  |false=>
   simp only[hd,dI,bI] at fD
   exact⟨[v],by simp[aQ,hd],vC hm hI (fun id hi=>hf id (hsub _ id hi)) h fD,fun _=>rfl⟩
 unfold toR at h
 split at h
 ·rename_i id st p
  split at h
  ·rename_i st' fz t b hc
   obtain⟨hb,hst⟩:=cR hc
   simp only at hst
   split at h
   ·rename_i dv gH
    cases hz:Nat.ble 1 dv.t.size with
    |false=>simp[hz] at h
    |true=>
     simp only[hz,aG,au] at h
     subst h
     obtain⟨c,hc1,iB⟩:=lZ.1 gH
     have hx':=cn (a:=.aV id st p) rfl hv (by simp) (by simp) (by simp) (by simp)
     simp only[aa] at hx'
     obtain⟨_,_,h3⟩:=hx'
     obtain⟨e0,B,e1,e2⟩:=h3 _ hb hst t b rfl
     simp only[eG,dY] at e2
     have hblk:=hm.blk id _ hb
     simp only[aS] at hblk
     obtain⟨ht,B',cs,k1,k2,k3,k4⟩:=hblk
     rw[e1] at k1
     cases k1
     have hIB:I' B:=hf id (hsub _ id (by simp[AT.ids])) _ B hb (kf rfl) (.inl ⟨0,e1⟩)
     have lF:∀j∈b.ids,j∈dU m (AT.aV id st p).ids:=by
      intro j hj
      simp only[AT.ids,dU,hb,aX]
      exact .inr (bD.2 (.inl hj))
     have hsubid:∀(p:Path) {a b:AT},a.get p=some b→∀j∈b.ids,j∈a.ids:=by
      intro p
      induction p with
      |nil=>intro a b h;simp only[AT.get,au] at h;subst h;exact fun j hj=>hj
      |cons s p ih=>
       intro a b h j hj
       cases s<;>cases a<;>try (simp[AT.get] at h;done)
       case fst.pair l r=>simp only[AT.get] at h;exact bD.2 (.inl (ih h j hj))
       case snd.pair l r=>simp only[AT.get] at h;exact bD.2 (.inr (ih h j hj))
       case fst.leaf t x=>cases t<;>try (simp[AT.get] at h;done)
                          simp only[AT.get] at h;have:=ih h j hj;simp[AT.ids] at this
       case snd.leaf t x=>cases t<;>try (simp[AT.get] at h;done)
                          simp only[AT.get] at h;have:=ih h j hj;simp[AT.ids] at this
       case idx.leaf i t x=>cases t<;>try (simp[AT.get] at h;done)
                            simp only[AT.get] at h;have:=ih h j hj;simp[AT.ids] at this
     obtain⟨u,hu⟩:=qt p e0
     obtain⟨f0,pre,mid,post,f1,f2,f3,f4⟩:=j6 p ht k3 e0 hc1 hu
     have hty:=vG f0 iB
     have gY:=qJ hm hI (fun id hi b B o h1 h2 h3=>hf id (lF id (hsubid p hc1 id hi)) b B h1 h2 (.inl ⟨o,h3⟩)) iB f4
     have hml:=af.length gY
     refine⟨[v],by simp[aQ,Ty.isAgg],?_,fun _=>rfl⟩
     simp only[af]
     refine⟨B,t.off p,by simp[e2],hIB,fu hz,mid,hml,fun j hj=>?_,gY⟩
     rw[f1] at k2
     exact tN k2 f2 j (by omega)
   ·simp at h
  ·simp at h
 ·exact main hs hv hf h
end
section
variable {P:Program} {F:Fix} {C:Cx} {o:Oper} {a:Act} {w:World} {m:MF} {I:Nat→Prop} {ρ:Pl} {d:aE}
def bZ {α:Type}(l l':List α):app l l'=l++l':=by
 induction l with
 |nil=>rfl
 |cons x l ih=>simp[app,ih]
def zh {x:AT}{d:DV}(h:cQ m x=some d):x.slot=true∧x.isAgg=d.t.isAgg:=by
 cases x<;>simp only[cQ,reduceCtorEq,au] at h
 case leaf t y=>subst h;exact⟨rfl,rfl⟩
 case nil t=>subst h;exact⟨rfl,rfl⟩
 case whole id st t=>simp only[bE] at h;obtain⟨_,_,rfl⟩:=h;exact⟨rfl,rfl⟩
 case piece id st off len t=>simp only[bE] at h;obtain⟨_,_,rfl⟩:=h;exact⟨rfl,rfl⟩
 case pair l r=>
  split at h
  ·simp only[au] at h;subst h;exact⟨rfl,rfl⟩
  ·simp at h
def zc {x:AT}{d:DV}(h:iF m x=some d):x.slot=true∧x.isAgg=d.t.isAgg:=by
 cases x<;>simp only[iF,reduceCtorEq,au] at h
 case leaf t y=>subst h;exact⟨rfl,rfl⟩
 case nil t=>subst h;exact⟨rfl,rfl⟩
 case whole id st t=>simp only[bE] at h;obtain⟨_,_,rfl⟩:=h;exact⟨rfl,rfl⟩
 case piece id st off len t=>simp only[bE] at h;obtain⟨_,_,rfl⟩:=h;exact⟨rfl,rfl⟩
 case pair l r=>
  split at h
  ·simp only[au] at h;subst h;exact⟨rfl,rfl⟩
  ·simp at h
def sr {t u:Ty}{x:t.den}{p:Path}{d:DV}(hp:t.at p=some u)(hpp:p.pairs=true)(h:(AT.get p (.leaf t x)).bind AT.pure=some d):∃y,d=⟨u,y⟩∧AT.get p (.leaf t x)=some (.leaf u y):=by
 have main:∀(p:Path) {t u:Ty} {x:t.den},t.at p=some u→p.pairs=true→∃y,AT.get p (.leaf t x)=some (.leaf u y):=by
  intro p
  induction p with
  |nil=>intro t u x h _;simp only[Ty.at,au] at h;subst h;exact⟨x,rfl⟩
  |cons s p ih=>
   intro t u x h hpp
   cases s with
   |fst=>cases t<;>simp only[Ty.at,reduceCtorEq] at h;simp only[AT.get];exact ih h (by simpa[Path.pairs] using hpp)
   |snd=>cases t<;>simp only[Ty.at,reduceCtorEq] at h;simp only[AT.get];exact ih h (by simpa[Path.pairs] using hpp)
   |idx i=>simp[Path.pairs] at hpp
 obtain⟨y,hy⟩:=main p (x:=x) hp hpp
 rw[hy] at h
 simp only[pF,AT.pure,au] at h
 exact⟨y,h.symm,hy⟩
def vB {x:AT}{d:DV}(h:eT m x=some d):x.slot=true∧x.isAgg=d.t.isAgg:=by
 cases x<;>simp only[eT,reduceCtorEq,au] at h
 case leaf t y=>cases hl:t.aO<;>rw[hl] at h<;>simp at h;subst h;exact⟨rfl,rfl⟩
 case nil t=>subst h;exact⟨rfl,rfl⟩
 case whole id st t=>simp only[bE] at h;obtain⟨_,_,rfl⟩:=h;exact⟨rfl,rfl⟩
 case pair l r=>
  split at h
  ·simp only[au] at h;subst h;exact⟨rfl,rfl⟩
  ·simp at h
 case nest id st rs row p u=>
  split at h
  ·obtain⟨h1,h⟩:=aH h
   simp only[aF] at h1
   obtain⟨y,e,_⟩:=sr (g_ h1.2) h1.1.2 h
   subst e
   exact⟨rfl,rfl⟩
  ·simp at h
def vF {x:AT}{d:DV}(h:toR m x=some d):x.slot=true∧x.isAgg=d.t.isAgg:=by
 unfold toR at h
 split at h
 ·split at h
  ·split at h
   ·rename_i dv _
    cases hz:Nat.ble 1 dv.t.size with
    |false=>simp[hz] at h
    |true=>simp only[hz,aG,au] at h;subst h;exact⟨rfl,rfl⟩
   ·simp at h
  ·simp at h
 ·exact zc h
def zd {x:AT}{d:DV}(h:jx m x=some d):x.slot=true∧x.isAgg=d.t.isAgg:=by
 cases x<;>simp only[jx,reduceCtorEq,au] at h
 case leaf t y=>subst h;exact⟨rfl,rfl⟩
 case nil t=>subst h;exact⟨rfl,rfl⟩
 case whole id st t=>split at h<;>simp at h;subst h;exact⟨rfl,rfl⟩
 case pair l r=>
  split at h
  ·simp only[au] at h;subst h;exact⟨rfl,rfl⟩
  ·simp at h
def qE {x:AT}{t:Ty}{v:Value}(hs:x.slot=true)(ha:x.isAgg=t.isAgg)(hv:az w I m ρ x v):∃cs,v=aQ t cs∧aa w I m ρ x cs:=by
 have fD:=(lV hs).1 hv
 unfold aB at fD
 rw[ha] at fD
 cases hd:t.isAgg with
 |true=>
  rw[hd,bf rfl] at fD
  obtain⟨arr,e,hr⟩:=fD
  exact⟨arr.toList,by simp[aQ,hd,e],hr⟩
 |false=>
  simp only[hd,dI,bI] at fD
  exact⟨[v],by simp[aQ,hd],fD⟩
def toC_ok {I':Nat→Prop}(hm:aD F m w I ρ)(hI:∀B,I B→I' B):∀{x:AT} {d:DV} {vs:List Value},(∀id∈dU m x.ids,∀b B,m id=some b→b.live→bR ρ id b B→I' B)→toC m x=some d→aa w I m ρ x vs→mP w I' d.t d.x vs:=by
 have hsplit:∀(l l':List Nat) (id:Nat),id∈dU m l∨id∈dU m l'→id∈dU m (app l l'):=by
  intro l l' id
  induction l with
  |nil=>intro h;rcases h with h|h
        ·simp[dU] at h
        ·exact h
  |cons x l ih=>
   intro h
   simp only[app,dU,aX,bD] at h ⊢
   rcases h with(h|h|h)|h
   ·exact .inl h
   ·exact .inr (.inl h)
   ·exact .inr (.inr (ih (.inl h)))
   ·exact .inr (.inr (ih (.inr h)))
 intro x
 induction x with
 |bL l r _ ihr=>
  intro d vs hf h hr
  simp only[toC] at h
  split at h
  ·rename_i x y hx hy
   cases hag:x.t.isAgg with
   |true=>simp[hag] at h
   |false=>
    simp only[hag,eF,au] at h
    subst h
    simp only[aa] at hr
    obtain⟨v,vs',rfl,h1,h2⟩:=hr
    obtain⟨hs,ha⟩:=vF hx
    have hsl:az w I m ρ l v:=(lV hs).2 (by unfold aB;rw[ha,hag];simpa using h1)
    obtain⟨cs,_,k2,k3⟩:=vE hm hI (fun id hi=>hf id (hsplit _ _ id (.inl hi))) hx hs hsl
    rw[k3 hag] at k2
    exact⟨v,vs',rfl,hag,k2,ihr (fun id hi=>hf id (hsplit _ _ id (.inr hi))) hy h2⟩
  ·simp at h
 |cJ=>intro d vs _ h hr;simp only[toC,au] at h;subst h;simp only[aa] at hr;simp only[mP];exact hr
 |_=>intro d vs _ h hr;simp[toC] at h
end
section
variable {P:Program} {F:Fix} {C:Cx} {o:Oper} {a:Act} {w:World} {m:MF} {I:Nat→Prop} {ρ:Pl} {d:aE}
def Fits (l:List (Nat×ag))(pl:Pl)(m':MF)(ρ':Pl):Prop:=∀j c,find l j=some c→m' j=some c∧ρ' j=pl j∧ρ'.d j=pl.d j
structure br (w:World) (I:Nat→Prop) (l:List (Nat×ag)) (Bs:List Nat) (pl:Pl):Prop where
 blk:∀i b,find l i=some b→b.fz=false∧b.live∧∀m' ρ',Fits l pl m' ρ'→aS w I m' ρ' i b
 src:∀i b B,find l i=some b→bR pl i b B→B∈Bs
 one:∀i j b c B,find l i=some b→find l j=some c→bR pl i b B→bR pl j c B→i=j
 dn:∀i b,find l i=some b→b.bH→(pl.d i).Nodup∧∀B∈pl.d i,∀o,pl i≠some (B,o)
def bR.plain {ρ:Pl}{i B:Nat}{b:ag}(h:bR ρ i b B)(hd:¬b.bH):∃o,ρ i=some (B,o):=h.resolve_right fun h=>hd h.1
def gU.new {l:List (Nat×ag)}{n e:Nat}{Bs:List Nat}{pl:Pl}(h:gU w I m l n e Bs pl):br w I l Bs pl:=by
 have hnd:∀i b,find l i=some b→¬b.bH:=by
  intro i b hb
  obtain⟨k1,⟨u,ys,k2⟩,k3,k4⟩:=h.blk i b hb
  unfold ag.bH;rw[k2];exact fun h=>h
 refine⟨fun i b hb=>?_,fun i b B hb hp=>?_,fun i j b c B hb hc hp hq=>?_,fun i b hb hd=>absurd hd (hnd i b hb)⟩
 ·obtain⟨k1,⟨u,ys,k2⟩,k3,k4⟩:=h.blk i b hb
  exact⟨k1,fF k2,fun m' ρ' hf=>k4 m' ρ' (hf i b hb).2.1⟩
 ·obtain⟨o,hp⟩:=hp.plain (hnd i b hb)
  obtain⟨r1,r2⟩:=h.gM i b hb
  exact h.src i B o r1 r2 hp
 ·obtain⟨o,hp⟩:=hp.plain (hnd i b hb)
  obtain⟨o',hq⟩:=hq.plain (hnd j c hc)
  obtain⟨r1,r2⟩:=h.gM i b hb
  obtain⟨r3,r4⟩:=h.gM j c hc
  exact h.one i j B o o' r1 r2 r3 r4 hp hq
def br.nil (pl:Pl):br w I [] [] pl:=⟨fun i b h=>by simp[find] at h,fun i b B h=>by simp[find] at h,fun i j b c B h=>by simp[find] at h,fun i b h=>by simp[find] at h⟩
def bK (l:List (Nat×ag))(p q:Pl):Pl:=⟨fun i=>match find l i with | some _=>p i|none=>q i,fun i=>match find l i with | some _=>p.d i|none=>q.d i⟩
def Fits.left {l1 l2:List (Nat×ag)}{p q:Pl}{m':MF}{ρ':Pl}(h:Fits (app l1 l2) (bK l1 p q) m' ρ'):Fits l1 p m' ρ':=by
 intro j c hc
 have:=h j c (by rw[cS,hc])
 simpa[bK,hc] using this
def Fits.right {l1 l2:List (Nat×ag)}{p q:Pl}{m':MF}{ρ':Pl}(hd:∀i b c,find l1 i=some b→find l2 i=some c→False)(h:Fits (app l1 l2) (bK l1 p q) m' ρ'):Fits l2 q m' ρ':=by
 intro j c hc
 have hn:find l1 j=none:=by
  cases hf:find l1 j with
  |none=>rfl
  |some b=>exact(hd j b c hf hc).elim
 have:=h j c (by rw[cS,hn];exact hc)
 simpa[bK,hn] using this
def br.app {l1 l2:List (Nat×ag)}{B1 B2:List Nat}{p q:Pl}(h1:br w I l1 B1 p)(h2:br w I l2 B2 q)(hnd:∀B∈B1,∀B'∈B2,B≠B')(hd:∀i b c,find l1 i=some b→find l2 i=some c→False) :
  br w I (app l1 l2) (B1++B2) (bK l1 p q):=by
 have hf:∀i b,find (Ab.app l1 l2) i=some b→(find l1 i=some b∧bK l1 p q i=p i∧(bK l1 p q).d i=p.d i)∨(find l2 i=some b∧bK l1 p q i=q i∧(bK l1 p q).d i=q.d i):=by
  intro i b h
  rw[cS] at h
  split at h
  ·rename_i b' hb';exact .inl ⟨by rw[hb',h],by simp[bK,hb'],by simp[bK,hb']⟩
  ·rename_i hb';exact .inr ⟨h,by simp[bK,hb'],by simp[bK,hb']⟩
 have tr:∀{ρ ρ':Pl} {i B:Nat} {b:ag},ρ i=ρ' i∧ρ.d i=ρ'.d i→bR ρ i b B→bR ρ' i b B:=by
  intro ρ ρ' i B b e h
  exact h.imp (fun⟨o,h⟩=>⟨o,e.1▸h⟩) (fun⟨h1,h2⟩=>⟨h1,e.2▸h2⟩)
 refine⟨fun i b h=>?_,fun i b B h hp=>?_,fun i j b c B hb hc hp hq=>?_,fun i b hb hdp=>?_⟩
 ·rcases hf i b h with⟨h,_⟩|⟨h,_⟩
  ·obtain⟨k1,k2,k3⟩:=h1.blk i b h
   exact⟨k1,k2,fun m' ρ' kQ=>k3 m' ρ' kQ.left⟩
  ·obtain⟨k1,k2,k3⟩:=h2.blk i b h
   exact⟨k1,k2,fun m' ρ' kQ=>k3 m' ρ' (kQ.right hd)⟩
 ·rw[bB]
  rcases hf i b h with⟨h,e⟩|⟨h,e⟩
  ·exact .inl (h1.src i b B h (tr e hp))
  ·exact .inr (h2.src i b B h (tr e hp))
 ·rcases hf i b hb with⟨h,e⟩|⟨h,e⟩<;>rcases hf j c hc with⟨h',e'⟩|⟨h',e'⟩
  ·exact h1.one i j b c B h h' (tr e hp) (tr e' hq)
  ·exact(hnd B (h1.src i b B h (tr e hp)) B (h2.src j c B h' (tr e' hq)) rfl).elim
  ·exact(hnd B (h1.src j c B h' (tr e' hq)) B (h2.src i b B h (tr e hp)) rfl).elim
  ·exact h2.one i j b c B h h' (tr e hp) (tr e' hq)
 ·rcases hf i b hb with⟨h,e⟩|⟨h,e⟩
  ·rw[e.1,e.2];exact h1.dn i b h hdp
  ·rw[e.1,e.2];exact h2.dn i b h hdp
def qQ (c:BC)(t:Ty)(xs:List t.den):Prop:=(c = .rows t xs∧t.aO=false)∨∃rs,c = .deep rs t xs
def uS (t:Ty)(xs:List t.den):qQ (lM t xs) t xs:=by
 unfold lM
 cases h:t.aO with
 |true=>exact .inr ⟨0,rfl⟩
 |false=>exact .inl ⟨rfl,h⟩
def hdrPl:List Value→Option (Nat×Nat)
 | [.slice (some a) _ _]=>some (a.block,a.off)
 |_=>none
def br.list {n st:Nat}{c:BC}{t:Ty}{xs:List t.den}{vs:List Value}{Bs:List Nat}(hc:qQ c t xs)(h:aq w I (.lst t) xs vs Bs)(hnd:Bs.Nodup) :
  ∃pl:Pl,br w I [(n,⟨st,false,c⟩)] Bs pl∧pl n=hdrPl vs∧∀m' ρ',Fits [(n,⟨st,false,c⟩)] pl m' ρ'→aa w I m' ρ' (.whole n st t) vs:=by
 have cA:c.arr=some (t,xs.length):=by rcases hc with⟨rfl,_⟩|⟨rs,rfl⟩<;>rfl
 have dJ:(⟨st,false,c⟩:ag).live:=by rcases hc with⟨rfl,_⟩|⟨rs,rfl⟩<;>trivial
 have one:∀i b,find [(n,(⟨st,false,c⟩:ag))] i=some b→n=i∧(⟨st,false,c⟩:ag)=b:=by
  intro i b h
  rw[aI] at h
  split at h
  ·rename_i e;exact⟨e,by simpa using h⟩
  ·simp[find] at h
 have lG:find [(n,(⟨st,false,c⟩:ag))] n=some ⟨st,false,c⟩:=by rw[aI,bf rfl]
 simp only[aq] at h
 obtain⟨ad,cap,e,hl,h⟩:=h
 rcases h with⟨h1,h2,h3⟩|⟨B,o,cs,Ds,h1,h2,h3,h4,h5,h6⟩
 ·subst h3
  have hx0:xs = []:=by rw[←dM];omega
  refine⟨⟨fun _=>none,fun _=>[]⟩,⟨fun i b hb=>?_,fun i b B hb hO=>?_,fun i j b c B hb hc _ _=>(one i b hb).1.symm.trans (one j c hc).1,fun i b hb hd=>⟨by simp,by simp⟩⟩,by rw[e,h1];rfl,fun m' ρ' hf=>?_⟩
  ·obtain⟨rfl,rfl⟩:=one i b hb
   refine⟨rfl,dJ,fun m' ρ' hf=>?_⟩
   obtain⟨_,k2,k3⟩:=hf n _ lG
   unfold aS
   rcases hc with⟨rfl,_⟩|⟨rs,rfl⟩
   ·exact⟨trivial,.inl ⟨hx0,k2⟩⟩
   ·exact⟨rfl,.inl ⟨hx0,k2,k3⟩⟩
  ·rcases hO with⟨o,hO⟩|⟨_,hO⟩
   ·cases hO
   ·simp at hO
  ·obtain⟨k1,k2,k3⟩:=hf n _ lG
   simp only[aa]
   refine⟨⟨_,e,rfl⟩,cq.of k1 rfl,fun b hb hs u k hc=>?_⟩
   rw[k1] at hb
   cases hb
   rw[cA] at hc
   cases hc
   exact⟨ad,cap,e,hl,.inl ⟨h1,h2,k2⟩⟩
 ·subst h6
  have hnc:=cX.1 hnd
  have hmul:=gD t.size hl
  refine⟨⟨fun _=>some (B,o),fun _=>Ds⟩,⟨fun i b hb=>?_,fun i b B' hb hO=>?_,fun i j b c B hb hc _ _=>(one i b hb).1.symm.trans (one j c hc).1,fun i b hb hd=>⟨hnc.2,fun B' bg o' he=>?_⟩⟩,by rw[e,h1];rfl,fun m' ρ' hf=>?_⟩
  ·obtain⟨rfl,rfl⟩:=one i b hb
   refine⟨rfl,dJ,fun m' ρ' hf=>?_⟩
   obtain⟨_,k2,k3⟩:=hf n _ lG
   unfold aS
   rcases hc with⟨rfl,hh⟩|⟨rs,rfl⟩
   ·exact⟨trivial,.inr ⟨B,o,cs,k2,h2,by omega,h4.at fun x vs D _ h=>(aq.rep hh h).1,by simpa using h5⟩⟩
   ·exact⟨rfl,.inr ⟨B,o,cs,k2,h2,by omega,by rw[k3];exact h4,h5⟩⟩
  ·rcases hO with⟨o',hO⟩|⟨_,hO⟩
   ·cases hO;exact lu
   ·exact gP _ hO
  ·cases he
   exact hnc.1 bg
  ·obtain⟨k1,k2,k3⟩:=hf n _ lG
   simp only[aa]
   refine⟨⟨_,e,rfl⟩,cq.of k1 rfl,fun b hb hs u k hc=>?_⟩
   rw[k1] at hb
   cases hb
   rw[cA] at hc
   cases hc
   exact⟨ad,cap,e,hl,.inr ⟨B,o,cs,k2,h1,h2,h3⟩⟩
def oB (m:MF):∀(t:Ty) (x:t.den) (n:Nat),n≤(aU m t x n).2.2:=by
 intro t
 induction t with
 |lst t _=>intro x n;simp[aU]
 |pair a b aL aK=>
  intro x n
  cases ho:(Ty.pair a b).aO with
  |false=>simp[aU,ho]
  |true=>
   simp only[aU,ho,aG]
   have:=aL x.1 n
   have:=aK x.2 (aU m a x.1 n).2.2
   omega
 |_=>intro x n;simp[aU]
def xP (m:MF):∀{t:Ty} {x:t.den} {vs:List Value} {Bs:List Nat} (n:Nat),aq w I t x vs Bs→Bs.Nodup →
  ∃pl:Pl,br w I (aU m t x n).2.1 Bs pl∧(∀i b,find (aU m t x n).2.1 i=some b→n≤i∧i<(aU m t x n).2.2∧b.st=aW m i) ∧
   ∀m' ρ',Fits (aU m t x n).2.1 pl m' ρ'→aa w I m' ρ' (aU m t x n).1 vs:=by
 intro t
 have mA:∀{vs:List Value} {Bs:List Nat} {n:Nat} {av:AT},Bs = []→(∀m' ρ',aa w I m' ρ' av vs)→∃pl:Pl,br w I [] Bs pl∧(∀i b,find ([]:Mem) i=some b→n≤i∧i<n∧b.st=aW m i)∧∀m' ρ',Fits [] pl m' ρ'→aa w I m' ρ' av vs:=by
  intro vs Bs n av e h
  subst e
  exact⟨⟨fun _=>none,fun _=>[]⟩,br.nil _,fun i b h=>by simp[find] at h,fun m' ρ' _=>h m' ρ'⟩
 induction t with
 |lst t _=>
  intro x vs Bs n h hnd
  obtain⟨pl,h1,_,h2⟩:=br.list (n:=n) (st:=aW m n) (uS t x) h hnd
  refine⟨pl,h1,fun i b hb=>?_,h2⟩
  simp only[aU,aI] at hb
  split at hb
  ·rename_i e
   subst e
   cases hb
   exact⟨bw _,by simp[aU],rfl⟩
  ·simp[find] at hb
 |pair a b aL aK=>
  intro x vs Bs n h hnd
  cases ho:(Ty.pair a b).aO with
  |false=>
   obtain⟨h1,h2⟩:=aq.rep ho h
   simp only[aU,ho,eF]
   exact mA h2 fun _ _=>h1
  |true=>
   simp only[aq] at h
   obtain⟨v1,v2,B1,B2,e,eb,h1,h2⟩:=h
   subst eb
   simp only[aU,ho,aG]
   have dw:=cM.1 hnd
   obtain⟨p1,k1,k2,k3⟩:=aL n h1 dw.1
   obtain⟨p2,q1,q2,q3⟩:=aK (aU m a x.1 n).2.2 h2 dw.2.1
   have hle:=oB m a x.1 n
   have hle2:=oB m b x.2 (aU m a x.1 n).2.2
   have gX:∀i b' c,find (aU m a x.1 n).2.1 i=some b'→find (aU m b x.2 (aU m a x.1 n).2.2).2.1 i=some c→False:=by
    intro i b' c hb hc
    have:=(k2 i b' hb).2.1
    have:=(q2 i c hc).1
    omega
   refine⟨bK (aU m a x.1 n).2.1 p1 p2,br.app k1 q1 dw.2.2 gX,fun i b' hb=>?_,fun m' ρ' hf=>?_⟩
   ·rw[cS] at hb
    split at hb
    ·rename_i c hc
     cases hb
     obtain⟨r1,r2,r3⟩:=k2 i _ hc
     exact⟨r1,by omega,r3⟩
    ·obtain⟨r1,r2,r3⟩:=q2 i b' hb
     exact⟨by omega,r2,r3⟩
   ·simp only[aa]
    exact⟨v1,v2,e,k3 m' ρ' hf.left,q3 m' ρ' (hf.right gX)⟩
 |own t _=>intro x vs Bs n h;simp only[aq] at h
 |ref t _=>intro x vs Bs n h;simp only[aq] at h
 |arr k t _=>intro x vs Bs n h hnd;simp only[aq] at h;simp only[aU];exact mA h.1 fun _ _=>h.2.2
 |_=>intro x vs Bs n h hnd;simp only[aq] at h;simp only[aU];exact mA h.1 fun _ _=>h.2
def rU (m:MF):∀(t:Ty) (x:t.den) (n:Nat),Typed (aU m t x n).1 t:=by
 intro t
 induction t with
 |lst t _=>intro x n;rfl
 |pair a b aL aK=>
  intro x n
  cases ho:(Ty.pair a b).aO with
  |false=>simp only[aU,ho,eF];rfl
  |true=>
   simp only[aU,ho,aG]
   exact⟨_,_,rfl,aL x.1 n,aK x.2 _⟩
 |_=>intro x n;rfl
def br.var {l:List (Nat×ag)}{n st B:Nat}{B1:List Nat}{pl:Pl}{t:Ty}{av:AT}{cs:List Value}(h:br w I l B1 pl)(hc:Cells w B cs)(hI:¬I B)(hB:¬B∈B1)(hn:find l n=none)(ht:Typed av t)
  (hr:∀m' ρ',Fits l pl m' ρ'→aa w I m' ρ' av cs):br w I ((n,⟨st,false,.var t av⟩)::l) (B::B1) (pl.put n (some (B,0))):=by
 have hfit:∀m' ρ',Fits ((n,⟨st,false,.var t av⟩)::l) (pl.put n (some (B,0))) m' ρ'→Fits l pl m' ρ'∧ρ' n=some (B,0):=by
  intro m' ρ' hf
  refine⟨fun j c hc=>?_,?_⟩
  ·have hne:¬n=j:=by rintro rfl;rw[hn] at hc;cases hc
   have:=hf j c (by rw[aI,bY hne];exact hc)
   simpa[Pl.put,hne] using this
  ·have:=(hf n _ (by rw[aI,bf rfl])).2.1
   simpa[Pl.put] using this
 have hput:∀i b B',¬n=i→bR (pl.put n (some (B,0))) i b B'→bR pl i b B':=by
  intro i b B' hne h
  exact h.imp (fun⟨o,h⟩=>⟨o,by simpa[Pl.put,hne] using h⟩) (fun⟨h1,h2⟩=>⟨h1,by simpa[Pl.put,hne] using h2⟩)
 have lG:∀B',bR (pl.put n (some (B,0))) n ⟨st,false,.var t av⟩ B'→B'=B:=by
  intro B' h
  obtain⟨o,h⟩:=h.plain (by simp[ag.bH])
  simp only[Pl.put,cj,au,eE] at h
  exact h.1.symm
 refine⟨fun i b hb=>?_,fun i b B' hb hp=>?_,fun i j b c B' hb hc hp hq=>?_,fun i b hb hdp=>?_⟩
 ·rw[aI] at hb
  split at hb
  ·rename_i e
   subst e
   cases hb
   refine⟨rfl,kf rfl,fun m' ρ' hf=>?_⟩
   obtain⟨k1,k2⟩:=hfit m' ρ' hf
   simp only[aS]
   exact⟨ht,B,cs,k2,hc,hr m' ρ' k1,by simpa using hI⟩
  ·obtain⟨k1,k2,k3⟩:=h.blk i b hb
   exact⟨k1,k2,fun m' ρ' hf=>k3 m' ρ' (hfit m' ρ' hf).1⟩
 ·rw[aI] at hb
  split at hb
  ·rename_i e
   subst e
   cases hb
   simp[lG B' hp]
  ·rename_i hne
   exact gP _ (h.src i b B' hb (hput i b B' hne hp))
 ·rw[aI] at hb hc
  split at hb<;>split at hc
  ·omega
  ·rename_i e hne
   subst e
   cases hb
   rw[lG B' hp] at hq
   exact absurd (h.src j c B hc (hput j c B hne hq)) hB
  ·rename_i hne e
   subst e
   cases hc
   rw[lG B' hq] at hp
   exact absurd (h.src i b B hb (hput i b B hne hp)) hB
  ·rename_i hne hne'
   exact h.one i j b c B' hb hc (hput i b B' hne hp) (hput j c B' hne' hq)
 ·rw[aI] at hb
  split at hb
  ·cases hb;simp[ag.bH] at hdp
  ·rename_i hne
   have:=h.dn i b hb hdp
   simpa[Pl.put,hne] using this
def Ty.imm_id:∀{t:Ty},t.eM=false→t.aY=t:=by
 intro t
 induction t with
 |pair a b aL aK=>
  intro h
  simp only[Ty.eM,jD] at h
  simp[Ty.aY,aL h.1,aK h.2]
 |own t _=>intro h;simp[Ty.eM] at h
 |_=>intro _;rfl
def oD (m:MF):∀(t:Ty) (x:t.den) (n:Nat),Typed (aZ m t x n).1 t.aY:=by
 intro t
 induction t with
 |own t _=>intro x n;rfl
 |pair a b aL aK=>
  intro x n
  cases ho:(Ty.pair a b).eM with
  |false=>
   simp only[aZ,ho,eF]
   rw[Ty.imm_id ho]
   rfl
  |true=>
   simp only[aZ,ho,aG]
   exact⟨_,_,rfl,aL x.1 n,aK x.2 _⟩
 |_=>intro x n;rfl
def xJ:∀(t:Ty),t.aY.size=t.size:=by
 intro t
 induction t with
 |pair a b aL aK=>simp[Ty.aY,Ty.size,aL,aK]
 |_=>rfl
def xH:∀(t:Ty),t.aY.isAgg=t.isAgg:=by
 intro t
 cases t<;>rfl
def qK {x:AT}{t:Ty}(h:Typed x t):x.slot=true:=by
 cases x<;>simp only[Typed] at h<;>first|rfl|exact h.elim
def uq (m:MF):∀(t:Ty) (x:t.den) (n:Nat),n≤(aZ m t x n).2.2:=by
 intro t
 induction t with
 |own t _=>intro x n;simp[aZ]
 |pair a b aL aK=>
  intro x n
  cases ho:(Ty.pair a b).eM with
  |false=>simp[aZ,ho]
  |true=>
   simp only[aZ,ho,aG]
   have:=aL x.1 n
   have:=aK x.2 (aZ m a x.1 n).2.2
   omega
 |_=>intro x n;simp[aZ]
def sY {m':MF}{ρ':Pl}{av:AT}{t:Ty}{cs:List Value}{v:Value}(hty:Typed av t)(dh:aa w I m' ρ' av cs)(e:v=aQ t cs):aB w I m' ρ' av v:=by
 unfold aB
 rw[hty.isAgg]
 unfold aQ at e
 cases ha:t.isAgg with
 |true=>rw[bf rfl];rw[ha,bf rfl] at e;exact⟨_,e,by simpa using dh⟩
 |false=>
  simp only[ha,dI,bI] at e ⊢
  have hl:=hty.length dh
  have hone:t.size=1:=by cases t<;>simp[Ty.isAgg] at ha<;>rfl
  obtain⟨u,rfl⟩:∃u,cs = [u]:=by
   match cs,hl with
   | [u],_=>exact⟨u,rfl⟩
   | [],hl=>simp[hone] at hl
   |_::_::_,hl=>simp[hone] at hl
  simp only[List.headD_cons] at e
  rw[e]
  exact dh
def sB (m:MF):∀{outs:List RV} {vs:List Value} {Bs:List Nat} (n:Nat),gV w I outs vs Bs→Bs.Nodup →
  ∃pl:Pl,br w I (cD m outs n).2 Bs pl∧(∀i b,find (cD m outs n).2 i=some b→n≤i∧b.st=aW m i) ∧
   ∀m' ρ',Fits (cD m outs n).2 pl m' ρ'→dN (fun x v=>x.slot=true∧az w I m' ρ' x v) (cD m outs n).1 vs:=by
 intro outs
 induction outs with
 |nil=>
  intro vs Bs n h hnd
  cases vs with
  |nil=>simp only[gV] at h;subst h;exact⟨⟨fun _=>none,fun _=>[]⟩,br.nil _,fun i b h=>by simp[cD,find] at h,fun m' ρ' _=>.nil⟩
  |cons v vs=>simp[gV] at h
 |cons r outs ih=>
  intro vs Bs n h hnd
  cases vs with
  |nil=>simp[gV] at h
  |cons v vs=>
  obtain⟨B1,B2,rfl,h1,h2⟩:=h
  have dw:=cM.1 hnd
  cases r with
  |v d=>
   obtain⟨cs,e,hr⟩:=h1
   obtain⟨p1,k1,k2⟩:=oC m n hr dw.1
   obtain⟨p2,k3,k4,k5⟩:=ih (aZ m d.t d.x n).2.2 h2 dw.2.1
   have hle:=uq m d.t d.x n
   have gX:∀i b c,find (aZ m d.t d.x n).2.1 i=some b→find (cD m outs (aZ m d.t d.x n).2.2).2 i=some c→False:=by
    intro i b c hb hc
    have:=(k1.gM i b hb).2
    have:=(k4 i c hc).1
    omega
   refine⟨bK (aZ m d.t d.x n).2.1 p1 p2,br.app k1.new k3 dw.2.2 gX,fun i b hb=>?_,fun m' ρ' hf=>?_⟩
   ·simp only[cD,cS] at hb
    split at hb
    ·rename_i b' hb'
     cases hb
     exact⟨(k1.gM i b hb').1,(k1.blk i b hb').2.2.1⟩
    ·have:=k4 i b hb
     exact⟨by omega,this.2⟩
   ·simp only[cD]
    have hty:=oD m d.t d.x n
    have dh:=k2 m' ρ' fun i b h=>⟨(hf.left i b h).1,(hf.left i b h).2.1⟩
    refine .cons ⟨qK hty,(lV (qK hty)).2 ?_⟩ (k5 m' ρ' (hf.right gX))
    exact sY hty dh (by rw[e];unfold aQ;rw[xH])
  |d y=>
   obtain⟨cs,e,hr⟩:=h1
   obtain⟨p1,k1,k2,k6⟩:=xP m n hr dw.1
   obtain⟨p2,k3,k4,k5⟩:=ih (aU m y.t y.x n).2.2 h2 dw.2.1
   have hle:=oB m y.t y.x n
   have gX:∀i b c,find (aU m y.t y.x n).2.1 i=some b→find (cD m outs (aU m y.t y.x n).2.2).2 i=some c→False:=by
    intro i b c hb hc
    have:=(k2 i b hb).2.1
    have:=(k4 i c hc).1
    omega
   refine⟨bK (aU m y.t y.x n).2.1 p1 p2,br.app k1 k3 dw.2.2 gX,fun i b hb=>?_,fun m' ρ' hf=>?_⟩
   ·simp only[cD,cS] at hb
    split at hb
    ·rename_i b' hb'
     cases hb
     obtain⟨r1,_,r3⟩:=k2 i b hb'
     exact⟨r1,r3⟩
    ·have:=k4 i b hb
     exact⟨by omega,this.2⟩
   ·simp only[cD]
    have hty:=rU m y.t y.x n
    have dh:=k6 m' ρ' hf.left
    refine .cons ⟨qK hty,(lV (qK hty)).2 ?_⟩ (k5 m' ρ' (hf.right gX))
    exact sY hty dh e
  |p d=>
   obtain⟨B,cs,B0,e,hc,hI,hr,rfl⟩:=h1
   have hnc:=cX.1 dw.1
   obtain⟨p1,k1,k2⟩:=oC m (n+1) hr hnc.2
   obtain⟨p2,k3,k4,k5⟩:=ih (aZ m d.t d.x (n+1)).2.2 h2 dw.2.1
   have hle:=uq m d.t d.x (n+1)
   have hn:find (aZ m d.t d.x (n+1)).2.1 n=none:=by
    cases hf:find (aZ m d.t d.x (n+1)).2.1 n with
    |none=>rfl
    |some b=>have:=(k1.gM n b hf).1;omega
   have hty:=oD m d.t d.x (n+1)
   have hv:=br.var (st:=aW m n) k1.new hc hI hnc.1 hn hty fun m' ρ' hf=>k2 m' ρ' fun i b h=>⟨(hf i b h).1,(hf i b h).2.1⟩
   have gX:∀i b c,find ((n,⟨aW m n,false,.var d.t.aY (aZ m d.t d.x (n+1)).1⟩)::(aZ m d.t d.x (n+1)).2.1) i=some b→find (cD m outs (aZ m d.t d.x (n+1)).2.2).2 i=some c→False:=by
    intro i b c hb hc
    have:=(k4 i c hc).1
    rw[aI] at hb
    split at hb
    ·omega
    ·have:=(k1.gM i b hb).2
     omega
   refine⟨_,br.app hv k3 dw.2.2 gX,fun i b hb=>?_,fun m' ρ' hf=>?_⟩
   ·simp only[cD,aI,cS] at hb
    split at hb
    ·rename_i e
     subst e
     cases hb
     exact⟨bw _,rfl⟩
    ·split at hb
     ·rename_i b' hb'
      cases hb
      have:=(k1.gM i b hb').1
      exact⟨by omega,(k1.blk i b hb').2.2.1⟩
     ·have:=k4 i b hb
      exact⟨by omega,this.2⟩
   ·simp only[cD]
    refine .cons ⟨rfl,?_⟩ (k5 m' ρ' (hf.right gX))
    obtain⟨q1,q2,_⟩:=Fits.left (l1:=(n,⟨aW m n,false,.var d.t.aY (aZ m d.t d.x (n+1)).1⟩)::(aZ m d.t d.x (n+1)).2.1) (l2:=(cD m outs (aZ m d.t d.x (n+1)).2.2).2) hf n _ (by rw[aI,bf rfl])
    show aB _ _ _ _ _ _
    unfold aB
    simp only[AT.isAgg,dI,bI,aa]
    refine⟨by rw[e];exact gF.pointer _,cq.of q1 rfl,fun b hb hs t' a' aM=>?_⟩
    rw[q1] at hb
    cases hb
    cases aM
    exact⟨trivial,B,by rw[q2];simp[Pl.put],by simp[e,Ty.off]⟩
end
end Go.Ab
