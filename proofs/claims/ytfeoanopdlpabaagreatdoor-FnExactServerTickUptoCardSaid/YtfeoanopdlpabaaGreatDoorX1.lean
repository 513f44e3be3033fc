import GoSem.Core.Code
import GoSem.Core.View
import GoSem.Op.String
import GoSem.Dispatch
import Derived.Calls
import Derived.Orders
import Derived.Laws.CopyRow
import Derived.Laws.AppendOwn
import Derived.Laws.OwnMore
import Derived.Laws.MakeOwn
import Derived.Laws.Rows
import Derived.Tactics
import Derived.Laws.StructEq
import Derived.Laws.Small
import Derived.Laws.Strings
set_option linter.defProp false
def bY:=@if_neg
def cj:=@if_true
def cK:=@List.length_append
def zl3:=@List.length_take
def zl4:=@List.length_drop
def zl5:=@List.getElem?_drop
def kF {α:Type _}{a:α}{as:List α}:(a::as).length=as.length+1:=rfl
def bf:=@if_pos
def zl8:=@List.getElem?_eq_none
def bP:=@Nat.add_mul
def bB:=@List.mem_append
def dX:=@List.mem_append_left
def dH:=@List.mem_append_right
def gP:=@List.mem_cons_of_mem
def dM:=@List.length_eq_zero_iff
def jD:=@Bool.or_eq_false_iff
def zl16:=@List.set_cons_zero
def zl17 {α:Type _}(as:List α): []++as=as:=rfl
def bw:=@Nat.le_refl
def bX:=@List.append_assoc
def zl20:=@List.cons_append
def au:=@Option.some.injEq
def lZ:=@Option.bind_eq_some_iff
def iZ {α β:Type _}(a:α)(f:α→β):(some a).map f=some (f a):=rfl
def pF:=@Option.bind_some
def aX:=@List.mem_cons
def nO:=@List.getD_eq_getElem?_getD
def pG:=@List.getElem?_eq_getElem
def bE:=@Option.map_eq_some_iff
def mK:=@List.replicate_succ
def cU:=@Nat.eq_of_beq_eq_true
def mL:=@Nat.le_trans
def bI:=@if_false
def eE:=@Prod.mk.injEq
def c_:=@List.getElem?_append_right
def cL:=@List.getElem?_append_left
def aG {α:Type _}{a b:α}:cond true a b=a:=rfl
def iq:=@Nat.add_assoc
def aF:=@Bool.and_eq_true
def eF {α:Type _}{a b:α}:cond false a b=b:=rfl
def lu:=@List.mem_cons_self
def fu:=@Nat.le_of_ble_eq_true
def eG:=@List.cons.injEq
def dY:=@and_true
def dI:=@Bool.false_eq_true
def eU:=@Array.ext'
def iG:=@List.not_mem_nil
def iH:=@forall_eq_or_imp
def gQ:=@decide_eq_true_eq
def kC:=@Nat.lt_irrefl
def qN:=@Nat.add_zero
def kD {α β:Type _}{f:α→β}{a:α}{l:List α}:(a::l).map f=f a::l.map f:=rfl
def jE:=@Nat.zero_add
def jV:=@List.append_nil
def zl54:=@List.map_append
def kE:=@Bool.or_eq_true
def eV:=@List.mem_map
def zl57:=@List.take_of_length_le
def nQ {α:Type _}:([]:List α).length=0:=rfl
def gD:=@Nat.mul_le_mul_right
def eH:=@List.mem_singleton
def cM:=@List.nodup_append
def cX:=@List.nodup_cons
def i_:=@Bool.not_eq_true'
def l5:=@List.Perm.append_right
def l6:=@List.perm_append_comm
def zl66:=@List.length_set
def zl67:=@List.length_replicate
def zl68:=@List.take_append_drop
def mM:=@Array.mem_toList_iff
def zl70:(!true)=false:=rfl
def pH:=@Bool.false_or
def ja {α:Type _}{a:α}{l:List α}:(a::l)[0]?=some a:=rfl
def zl73:=@decide_true
def kG:=@Bool.and_false
def pI:=@decide_false
def zl76 (b:Bool):(true || b)=true:=rfl
def mN:=@List.getElem?_eq_some_iff
def zl78:=@beq_iff_eq
def zl79:=@of_decide_eq_true
def lz:=@Nat.zero_le
def zl81:=@Bool.and_eq_false_iff
def zl82:=@List.sum_cons
def zl83:=@Nat.eq_zero_or_pos
def zl84:=@List.drop_zero
def zl85:=@Classical.choose_spec
def zl86:=@decide_eq_true
def zl87:=@List.set_append_right
def zl88:=@List.take_succ_eq_append_getElem
def zl89:=@beq_eq_false_iff_ne
def zl90:=@decide_eq_false
def zl91:=@Int.tdiv_eq_ediv_of_nonneg
def zl92:=@Bool.and_self
def zl93 (b:Bool):(false&&b)=false:=rfl
def zl94 (n:Nat):((n:Int)).toNat=n:=rfl
def zl95:=@beq_self_eq_true
def zl96:=@List.getElem_mem
def zl97:=@decide_eq_false_iff_not
def zl98:(!false)=true:=rfl
def zl99:=@Bool.or_true
def zl100:=@List.getElem_of_mem
def zl101:=@of_decide_eq_false
def zl102:=@List.take_length
def zl103 {α:Type _}{a:α}: [a].length=1:=rfl
def zl104:=@List.singleton_append
def zl105:=@Bool.eq_iff_iff
def zl106:=@decide_eq_true_iff
def zl107:=@UInt8.lt_iff_toNat_lt
def zl108 (b:Bool):(true&&b)=b:=rfl
def zl109:=@List.drop_eq_getElem_cons
def zl110:=@List.take_append_of_le_length
def zl111:=@Int.natCast_nonneg
def zl112:=@List.eraseIdx_eq_take_drop_succ
def zl113:=@List.length_eraseIdx_of_lt
def zl114:=@Option.some.inj
def zog {α β:Type}[Inhabited β](f:α→Option β)(x:α):β:=match f x with | some y=>y|none=>default
def zov {α β:Type}[Inhabited β]{f:α→Option β}{x:α}{y:β}(h:f x=some y):zog f x=y:=by unfold zog;rw[h]
def zv {α β:Type}[Inhabited β]{f:α→Option β}:∀x y,f x=some y→zog f x=y:=fun _ _ h=>zov h
def zdt {p:Prop}[Decidable p](h:p:=by omega):decide p=true:=decide_eq_true h
def zdf {p:Prop}[Decidable p](h:¬p:=by omega):decide p=false:=decide_eq_false h
namespace Go.Ab
inductive Ty where
 |unit|bool|int (k:IntKind)|str
 |lst (t:Ty)|own (t:Ty)|pair (a b:Ty)|arr (n:Nat) (t:Ty)|ref (t:Ty)
 deriving DecidableEq,Repr,Inhabited
@[reducible] def Ty.den:Ty→Type
 |.unit=>Unit
 |.bool=>Bool
 |.int _=>Int
 |.str=>List UInt8
 |.lst t=>List t.den
 |.own t=>List t.den
 |.pair a b=>a.den×b.den
 |.arr _ t=>List t.den
 |.ref t=>t.den
def Ty.size:Ty→Nat
 |.unit=>0
 |.pair a b=>a.size+b.size
 |.arr n t=>n*t.size
 |_=>1
def Ty.dflt:(t:Ty)→t.den
 |.unit=>()
 |.bool=>false
 |.int _=>0
 |.str=>[]
 |.lst _=>[]
 |.own _=>[]
 |.pair a b=>(a.dflt,b.dflt)
 |.arr n t=>List.replicate n t.dflt
 |.ref t=>t.dflt
def Ty.isAgg:Ty→Bool
 |.unit | .pair _ _ | .arr _ _=>true
 |_=>false
def Ty.eM:Ty→Bool
 |.own _=>true
 |.pair a b=>a.eM || b.eM
 |_=>false
def Ty.aO:Ty→Bool
 |.lst _ | .ref _=>true
 |.own t | .arr _ t=>t.aO
 |.pair a b=>a.aO || b.aO
 |_=>false
def app {α:Type}:List α→List α→List α
 | [],b=>b
 |x::a,b=>x::app a b
def bT {α:Type}(p:α→Bool):List α→Bool
 | []=>false
 |x::l=>p x || bT p l
def cN {α:Type}(p:α→Bool):List α→Bool
 | []=>true
 |x::l=>p x&&cN p l
def bu {α β:Type}(f:α→β):List α→List β
 | []=>[]
 |x::l=>f x::bu f l
def eg {α β:Type}(f:α→Option β):List α→List β
 | []=>[]
 |x::l=>match f x with | some y=>y::eg f l|none=>eg f l
def fM {α β:Type}(f:α→List β):List α→List β
 | []=>[]
 |x::l=>app (f x) (fM f l)
def cB {α:Type}:List α→Nat→Option α
 | [],_=>none
 |x::_,0=>some x
 |_::l,n+1=>cB l n
def upto:Nat→List Nat
 |0=>[]
 |n+1=>app (upto n) [n]
def lJ:IntKind→IntKind→Bool
 |.i8,.i8 | .i16,.i16 | .i32,.i32 | .i64,.i64 | .u8,.u8 | .u16,.u16 | .u32,.u32 | .u64,.u64=>true
 |_,_=>false
def Ty.is (a b:Ty):Bool:=if a=b then true else false
def dK (o:Option Ty)(t:Ty):Bool:=match o with | some u=>u.is t|none=>false
structure DV where
 t:Ty
 x:t.den
def DV.as (d:DV)(t:Ty):Option t.den:=if h:d.t=t then some (h▸d.x) else none
inductive PS where
 |fst|snd|idx (i:Nat)
 deriving DecidableEq,Repr
abbrev Path:=List PS
inductive AT where
 |leaf (t:Ty) (x:t.den)
 |whole (id st:Nat) (t:Ty)
 |piece (id st off len:Nat) (t:Ty)
 |nil (t:Ty)
 |cW
 |pair (l r:AT)
 |undef (n:Nat)
 |aV (id st:Nat) (path:Path)
 |ptr (id st row:Nat) (path:Path)
 |fn (f:FuncId) (caps:AT)
 |bL (l r:AT)
 |cJ
 |nest (id st rs row:Nat) (p:Path) (u:Ty)
 |bM (g:List (Nat×Bool)) (a:AT)
 |any
inductive BC where
 |var (t:Ty) (a:AT)
 |rows (t:Ty) (xs:List t.den)
 |deep (rs:Nat) (t:Ty) (xs:List t.den)
 |dead
def Path.pairs:Path→Bool
 | []=>true
 |.idx _::_=>false
 |_::p=>Path.pairs p
def BC.arr:BC→Option (Ty×Nat)
 |.rows t xs | .deep _ t xs=>some (t,xs.length)
 |_=>none
structure ag where
 st:Nat
 fz:Bool
 c:BC
abbrev Mem:=List (Nat×ag)
structure St where
 env:List (Nat×AT)
 mem:Mem
 ok:List Bool
def find {α:Type}:List (Nat×α)→Nat→Option α
 | [],_=>none
 | (i,a)::l,j=>bif Nat.beq i j then some a else find l j
def AT.isAgg:AT→Bool
 |.leaf t _=>t.isAgg
 |.pair _ _=>true
 |.nest _ _ _ _ _ u=>u.isAgg
 |_=>false
def AT.get:Path→AT→Option AT
 | [],a=>some a
 |.fst::p,.pair l _=>l.get p
 |.snd::p,.pair _ r=>r.get p
 |.fst::p,.leaf (.pair a _) x=>AT.get p (.leaf a x.1)
 |.snd::p,.leaf (.pair _ b) x=>AT.get p (.leaf b x.2)
 |.idx i::p,.leaf (.arr _ t) xs=>AT.get p (.leaf t (xs.getD i t.dflt))
 |_::_,_=>none
def AT.pure:AT→Option DV
 |.leaf t x=>some ⟨t,x⟩
 |.nil t=>some ⟨.lst t,[]⟩
 |.pair l r=>match l.pure,r.pure with
  |some a,some b=>some ⟨.pair a.t b.t,(a.x,b.x)⟩
  |_,_=>none
 |_=>none
def AT.set:Path→AT→AT→Option AT
 | [],_,v=>some v
 |.fst::p,.pair l r,v=>(AT.set p l v).map (.pair · r)
 |.snd::p,.pair l r,v=>(AT.set p r v).map (.pair l ·)
 |.fst::p,.leaf (.pair a b) x,v=>(AT.set p (.leaf a x.1) v).map (.pair · (.leaf b x.2))
 |.snd::p,.leaf (.pair a b) x,v=>(AT.set p (.leaf b x.2) v).map (.pair (.leaf a x.1) ·)
 |.idx i::p,.leaf (.arr n t) xs,v=>
  match(AT.set p (.leaf t (xs.getD i t.dflt)) v).bind AT.pure with
  |some d=>(d.as t).map fun y=>.leaf (.arr n t) (xs.set i y)
  |none=>none
 |_::_,_,_=>none
def Ty.at:Path→Ty→Option Ty
 | [],t=>some t
 |.fst::p,.pair a _=>a.at p
 |.snd::p,.pair _ b=>b.at p
 |.idx _::p,.arr _ t=>t.at p
 |_::_,_=>none
def Ty.off:Path→Ty→Nat
 |.fst::p,.pair a _=>a.off p
 |.snd::p,.pair a b=>a.size+b.off p
 |.idx i::p,.arr _ t=>i*t.size+t.off p
 |_,_=>0
def AT.fits:AT→Ty→Bool
 |.leaf t _,u=>t.is u
 |.whole _ _ t,.lst u | .piece _ _ _ _ t,.lst u | .nil t,.lst u=>t.is u
 |.pair l r,.pair a b=>l.fits a&&r.fits b
 |_,_=>false
def Ty.aY:Ty→Ty
 |.own t=>.lst t
 |.pair a b=>.pair a.aY b.aY
 |t=>t
def cur (m:Nat→Option ag)(id st:Nat):Option ag:=
 match m id with
 |some b=>bif Nat.beq b.st st then some b else none
 |none=>none
def rowsOf (m:Nat→Option ag)(id st:Nat)(t:Ty):Option (Bool×List t.den):=
 match cur m id st with
 |some ⟨_,fz,.rows u xs⟩=>(DV.as ⟨.lst u,xs⟩ (.lst t)).map fun ys=>(fz,ys)
 |_=>none
def h_ (m:Nat→Option ag)(id st:Nat)(t:Ty):Option (List t.den):=
 match cur m id st with
 |some ⟨_,_,.rows u xs⟩=>DV.as ⟨.lst u,xs⟩ (.lst t)
 |some ⟨_,_,.deep _ u xs⟩=>DV.as ⟨.lst u,xs⟩ (.lst t)
 |_=>none
def oU (m:Nat→Option ag)(id st:Nat)(t:Ty):Option (List t.den):=
 match cur m id st with
 |some ⟨_,false,.rows u xs⟩=>bif u.aO then none else DV.as ⟨.lst u,xs⟩ (.lst t)
 |some ⟨_,_,.deep _ u xs⟩=>DV.as ⟨.lst u,xs⟩ (.lst t)
 |_=>none
def cQ (m:Nat→Option ag):AT→Option DV
 |.leaf t x=>some ⟨t,x⟩
 |.nil t=>some ⟨.lst t,[]⟩
 |.whole id st t=>(rowsOf m id st t).map fun r=>⟨.lst t,r.2⟩
 |.piece id st off len t=>(rowsOf m id st t).map fun r=>⟨.lst t,(r.2.drop off).take len⟩
 |.pair l r=>match cQ m l,cQ m r with
  |some a,some b=>some ⟨.pair a.t b.t,(a.x,b.x)⟩
  |_,_=>none
 |_=>none
def iF (m:Nat→Option ag):AT→Option DV
 |.leaf t x=>some ⟨t,x⟩
 |.nil t=>some ⟨.lst t,[]⟩
 |.whole id st t=>(h_ m id st t).map fun r=>⟨.lst t,r⟩
 |.piece id st off len t=>(h_ m id st t).map fun r=>⟨.lst t,(r.drop off).take len⟩
 |.pair l r=>match iF m l,iF m r with
  |some a,some b=>some ⟨.pair a.t b.t,(a.x,b.x)⟩
  |_,_=>none
 |_=>none
def eT (m:Nat→Option ag):AT→Option DV
 |.leaf t x=>bif t.aO then none else some ⟨t,x⟩
 |.nil t=>some ⟨.lst t,[]⟩
 |.whole id st t=>(oU m id st t).map fun r=>⟨.lst t,r⟩
 |.pair l r=>match eT m l,eT m r with
  |some a,some b=>some ⟨.pair a.t b.t,(a.x,b.x)⟩
  |_,_=>none
 |.nest id st rs row p u=>match cur m id st with
  |some ⟨_,_,.deep rs' t xs⟩=>bif Nat.beq rs rs'&&p.pairs&&dK (t.at p) u then(AT.get p (.leaf t (xs.getD row t.dflt))).bind AT.pure else none
  |_=>none
 |_=>none
def toR (m:Nat→Option ag):AT→Option DV
 |.aV id st p=>match cur m id st with
  |some ⟨_,_,.var _ a⟩=>match(a.get p).bind (cQ m) with
   |some d=>bif Nat.ble 1 d.t.size then some ⟨.ref d.t,d.x⟩ else none
   |none=>none
  |_=>none
 |a=>iF m a
def toC (m:Nat→Option ag):AT→Option DV
 |.bL l r=>match toR m l,toC m r with
  |some a,some b=>bif a.t.isAgg then none else some ⟨.pair a.t b.t,(a.x,b.x)⟩
  |_,_=>none
 |.cJ=>some ⟨.unit,()⟩
 |_=>none
def jx (m:Nat→Option ag):AT→Option DV
 |.leaf t x=>some ⟨t,x⟩
 |.nil t=>some ⟨.own t,[]⟩
 |.whole id st t=>match rowsOf m id st t with
  |some (false,xs)=>some ⟨.own t,xs⟩
  |_=>none
 |.pair l r=>match jx m l,jx m r with
  |some a,some b=>some ⟨.pair a.t b.t,(a.x,b.x)⟩
  |_,_=>none
 |_=>none
def AT.ids:AT→List Nat
 |.whole id _ _ | .piece id _ _ _ _ | .ptr id _ _ _ | .aV id _ _ | .nest id _ _ _ _ _=>[id]
 |.pair l r | .bL l r=>app l.ids r.ids
 |.fn _ c=>c.ids
 |.bM _ a=>a.ids
 |_=>[]
def dU (m:Nat→Option ag):List Nat→List Nat
 | []=>[]
 |i::l=>i::app (match m i with | some ⟨_,_,.var _ a⟩=>a.ids|_=>[]) (dU m l)
def inj (st:Nat):(t:Ty)→t.den→Nat→AT×List (Nat×ag)×Nat
 |.own t,xs,n=>(.whole n st t,[(n,⟨st,false,.rows t xs⟩)],n+1)
 |.pair a b,x,n=>
  bif(Ty.pair a b).eM then
   let l:=inj st a x.1 n
   let r:=inj st b x.2 l.2.2
   (.pair l.1 r.1,app l.2.1 r.2.1,r.2.2)
  else(.leaf (.pair a b) x,[],n)
 |t,x,n=>(.leaf t x,[],n)
inductive Arg where
 |v (d:DV)
 |d (d:DV)
 |p (d:DV)
 |m (t:Ty) (xs:List t.den)
 |f (g:FuncId) (caps:DV)
inductive RV where
 |v (d:DV)
 |d (d:DV)
 |p (d:DV)
structure Res where
 outs:List RV
 kB:List DV:=[]
 ok:List Bool:=[]
inductive Mode where
 |v|d|p|m|k|f
structure TI where
 t:Ty
 e:Nat:=0
structure Cx where
 gB:List (Nat×TI)
 fns:List (Nat×List Mode×(List Arg→Option Res))
 dp:Bool:=false
 gl:List (Nat×DV):=[]
def Cx.ty (C:Cx)(t:Nat):Option Ty:=(find C.gB t).map (·.t)
def Cx.eqt (C:Cx)(t:Nat):Option Ty:=match find C.gB t with
 |some ⟨u,1⟩=>some u
 |_=>none
def Cx.el (C:Cx)(t:Nat):Option Ty:=match find C.gB t with
 |some ⟨.lst u,_⟩=>some u
 |_=>none
def jC:Ty→AT
 |.lst t=>.nil t
 |.pair a b=>.pair (jC a) (jC b)
 |.ref _=>.undef 1
 |t=>.leaf t t.dflt
def eD:Nat:=34359738368
def pZ:Value→AT
 |.bool b=>.leaf .bool b
 |.int k n=>.leaf (.int k) n
 |.string s=>.leaf .str s.data.toList
 |.slice none 0 0=>.cW
 |_=>.any
def operand (C:Cx)(env:List (Nat×AT)):Operand→AT
 |.tmp t=>(find env t).getD .any
 |.const v=>pZ v
 |.global g=>match find C.gl g with | some d=>.leaf (.ref d.t) d.x|none=>.any
 |.func f=>.fn f .cJ
def Cx.co (C:Cx)(t:Nat):AT→AT
 |.cW=>match C.el t with | some u=>.nil u|none=>.cW
 |a=>a
structure aE where
 av:AT
 aj:List (Nat×ag):=[]
 ok:List Bool:=[]
def aW (m:Nat→Option ag)(id:Nat):Nat:=match m id with | some b=>b.st+1|none=>0
def aZ (m:Nat→Option ag):(t:Ty)→t.den→Nat→AT×List (Nat×ag)×Nat
 |.own t,xs,n=>(.whole n (aW m n) t,[(n,⟨aW m n,false,.rows t xs⟩)],n+1)
 |.pair a b,x,n=>
  bif(Ty.pair a b).eM then
   let l:=aZ m a x.1 n
   let r:=aZ m b x.2 l.2.2
   (.pair l.1 r.1,app l.2.1 r.2.1,r.2.2)
  else(.leaf (.pair a b) x,[],n)
 |t,x,n=>(.leaf t x,[],n)
def lM (t:Ty)(xs:List t.den):BC:=bif t.aO then .deep 0 t xs else .rows t xs
def aU (m:Nat→Option ag):(t:Ty)→t.den→Nat→AT×List (Nat×ag)×Nat
 |.lst t,xs,n=>(.whole n (aW m n) t,[(n,⟨aW m n,false,lM t xs⟩)],n+1)
 |.pair a b,x,n=>
  bif(Ty.pair a b).aO then
   let l:=aU m a x.1 n
   let r:=aU m b x.2 l.2.2
   (.pair l.1 r.1,app l.2.1 r.2.1,r.2.2)
  else(.leaf (.pair a b) x,[],n)
 |t,x,n=>(.leaf t x,[],n)
def pS (op:BinOp)(k:IntKind)(x y:Int):Int:=
 let a:=BitVec.ofInt k.bits x
 let b:=BitVec.ofInt k.bits y
 match op with
 |.and=>k.wrap (a &&& b).toNat
 |.or=>k.wrap (a |||b).toNat
 |.xor=>k.wrap (a ^^^ b).toNat
 |_=>k.wrap (a &&& ~~~b).toNat
def oE (op:BinOp)(k:IntKind)(a b:Int):Option aE:=
 match op with
 |.add=>some ⟨.leaf (.int k) (k.wrap (a+b)),[],[]⟩
 |.sub=>some ⟨.leaf (.int k) (k.wrap (a-b)),[],[]⟩
 |.mul=>some ⟨.leaf (.int k) (k.wrap (a*b)),[],[]⟩
 |.quo=>some ⟨.leaf (.int k) (k.wrap (a.tdiv b)),[],[b != 0]⟩
 |.rem=>some ⟨.leaf (.int k) (a.tmod b),[],[b != 0]⟩
 |.and | .or | .xor | .andNot=>some ⟨.leaf (.int k) (pS op k a b),[],[]⟩
 |.eql=>some ⟨.leaf .bool (a==b),[],[]⟩
 |.neq=>some ⟨.leaf .bool (a != b),[],[]⟩
 |.lss=>some ⟨.leaf .bool (decide (a<b)),[],[]⟩
 |.leq=>some ⟨.leaf .bool (decide (a≤b)),[],[]⟩
 |.gtr=>some ⟨.leaf .bool (decide (a>b)),[],[]⟩
 |.geq=>some ⟨.leaf .bool (decide (a≥b)),[],[]⟩
 |_=>none
def sN (op:BinOp)(a b:List UInt8):Option aE:=
 match op with
 |.add=>some ⟨.leaf .str (a++b),[],[decide (a.length+b.length≤eD)]⟩
 |.eql=>some ⟨.leaf .bool (a==b),[],[]⟩
 |.neq=>some ⟨.leaf .bool (!(a==b)),[],[]⟩
 |.lss=>some ⟨.leaf .bool (Op.bytesLess a b),[],[]⟩
 |.leq=>some ⟨.leaf .bool (Op.bytesLess a b || a==b),[],[]⟩
 |.gtr=>some ⟨.leaf .bool (!(Op.bytesLess a b || a==b)),[],[]⟩
 |.geq=>some ⟨.leaf .bool (!Op.bytesLess a b),[],[]⟩
 |_=>none
def Ty.flat:Ty→Bool
 |.unit=>true
 |.pair (.int _) b=>b.flat
 |.pair .bool b=>b.flat
 |.pair .str b=>b.flat
 |_=>false
def iN:(t:Ty)→t.den→t.den→Bool
 |.unit,_,_=>true
 |.bool,x,y=>x==y
 |.int _,x,y=>@BEq.beq Int _ x y
 |.str,x,y=>@BEq.beq (List UInt8) _ x y
 |.pair a b,x,y=>iN a x.1 y.1&&iN b x.2 y.2
 |_,_,_=>false
def oo:BinOp→Option Bool
 |.eql=>some false
 |.neq=>some true
 |_=>none
def binD (C:Cx)(T:Nat)(op:BinOp)(x y:AT):Option aE:=
 match op,x,y with
 |.shl,.leaf (.int k) a,.leaf (.int _) b=>some ⟨.leaf (.int k) (k.wrap (a*2 ^ (min b.toNat k.bits))),[],[decide (0≤b)]⟩
 |.shr,.leaf (.int k) a,.leaf (.int _) b=>some ⟨.leaf (.int k) (a.fdiv (2 ^ (min b.toNat k.bits))),[],[decide (0≤b)]⟩
 |op,.leaf (.int k) a,.leaf (.int k') b=>bif lJ k k' then oE op k a b else none
 |op,.leaf .str a,.leaf .str b=>sN op a b
 |.eql,.leaf .bool a,.leaf .bool b=>bif dK (C.ty T) .bool then some ⟨.leaf .bool (a==b),[],[]⟩ else none
 |.neq,.leaf .bool a,.leaf .bool b=>bif dK (C.ty T) .bool then some ⟨.leaf .bool (!(a==b)),[],[]⟩ else none
 |op,x,y=>match oo op,C.eqt T with
  |some n,some t=>bif t.flat&&x.fits t&&y.fits t then
   match x.pure,y.pure with
   |some d,some e=>match d.as t,e.as t with
    |some p,some q=>some ⟨.leaf .bool (bif n then !iN t p q else iN t p q),[],[]⟩
    |_,_=>none
   |_,_=>none
   else none
  |_,_=>none
def unD (op:UnOp)(x:AT):Option aE:=
 match op,x with
 |.neg,.leaf (.int k) n=>some ⟨.leaf (.int k) (k.wrap (0-n)),[],[]⟩
 |.xor,.leaf (.int k) n=>some ⟨.leaf (.int k) (pS .xor k (if k.signed then -1 else k.max) n),[],[]⟩
 |.not,.leaf .bool b=>some ⟨.leaf .bool (!b),[],[]⟩
 |_,_=>none
def bytesOf:List UInt8→List Int:=List.map fun b=>(b.toNat:Int)
def sM:List Int→List UInt8:=List.map fun n=>UInt8.ofNat n.toNat
def lK (m:Nat→Option ag):AT→Option Int
 |.leaf .str s=>some s.length
 |.leaf (.lst _) xs=>some xs.length
 |.nil _=>some 0
 |.cW=>some 0
 |.whole id st t=>match h_ m id st t with
  |some xs=>some xs.length
  |none=>none
 |.piece id st _ len t=>match rowsOf m id st t with
  |some _=>some len
  |none=>none
 |_=>none
def qh (C:Cx)(T:Nat):AT→Bool
 |.leaf .str _=>dK (C.ty T) .str
 |_=>match C.ty T with | some (.lst _)=>true|_=>false
def lH (C:Cx)(m:Nat→Option ag)(T:Nat)(x:AT)(i:Int):Option aE:=
 match x,C.ty T with
 |.leaf (.lst t) xs,some (.lst u)=>bif t.is u then some ⟨.leaf (.ref t) (xs.getD i.toNat t.dflt),[],[decide (0≤i),decide (i<xs.length)]⟩ else none
 |.whole id st t,some (.lst u)=>bif t.is u then
  match h_ m id st t with
  |some xs=>some ⟨.ptr id st i.toNat [],[],[decide (0≤i),decide (i<xs.length)]⟩
  |none=>none
  else none
 |.piece id st off len t,some (.lst u)=>bif t.is u then
  match rowsOf m id st t with
  |some _=>some ⟨.ptr id st (off+i.toNat) [],[],[decide (0≤i),decide (i<len)]⟩
  |none=>none
  else none
 |.leaf (.ref (.arr n t)) xs,some (.arr n' u)=>bif Nat.beq n n'&&t.is u then some ⟨.leaf (.ref t) (xs.getD i.toNat t.dflt),[],[decide (0≤i),decide (i<n)]⟩ else none
 |.aV id st p,some (.arr n u)=>match cur m id st with
  |some ⟨_,_,.var t _⟩=>bif dK (t.at p) (.arr n u) then some ⟨.aV id st (app p [.idx i.toNat]),[],[decide (0≤i),decide (i<n)]⟩ else none
  |_=>none
 |_,_=>none
def rZ (C:Cx)(m:Nat→Option ag)(T:Nat)(x:AT):Option aE:=
 match x,C.ty T with
 |.leaf (.ref t) y,some u=>bif t.is u then some ⟨.leaf t y,[],[]⟩ else none
 |.aV id st p,some u=>match cur m id st with
  |some ⟨_,_,.var t a⟩=>bif dK (t.at p) u then(match a.get p with | some b=>some ⟨b,[],[]⟩|none=>none) else none
  |_=>none
 |.ptr id st row p,some u=>match cur m id st with
  |some ⟨_,_,.rows t xs⟩=>bif dK (t.at p) u then(match AT.get p (.leaf t (xs.getD row t.dflt)) with | some b=>some ⟨b,[],[]⟩|none=>none) else none
  |some ⟨_,_,.deep rs t xs⟩=>bif dK (t.at p) u&&p.pairs then
   (bif u.aO then some ⟨.nest id st rs row p u,[],[]⟩ else match AT.get p (.leaf t (xs.getD row t.dflt)) with | some b=>some ⟨b,[],[]⟩|none=>none) else none
  |_=>none
 |_,_=>none
def ag.bG:ag→ag
 |⟨st,_,.deep _ _ _⟩=>⟨st+1,false,.dead⟩
 |⟨st,_,c⟩=>⟨st,true,c⟩
def bG (m:Nat→Option ag)(ids:List Nat):List (Nat×ag):=eg (fun i=>match m i with | some b=>some (i,b.bG)|none=>none) ids
def cP (m:Nat→Option ag)(ids:List Nat):List (Nat×ag):=eg (fun i=>(m i).map fun b=>(i,⟨b.st+1,false,.dead⟩)) ids
def nodup:List Nat→Bool
 | []=>true
 |i::l=> !(bT (Nat.beq i) l)&&nodup l
def mI (C:Cx)(m:Nat→Option ag)(T:Nat)(x v:AT):Option aE:=
 match x,C.ty T with
 |.aV id st p,some u=>match cur m id st with
  |some ⟨_,false,.var t a⟩=>bif dK (t.at p) u&&v.fits u then(match AT.set p a v with | some a'=>some ⟨.any,[(id,⟨st,false,.var t a'⟩)],[]⟩|none=>none) else none
  |_=>none
 |.ptr id st row p,some u=>match cur m id st with
  |some ⟨_,false,.rows t xs⟩=>bif dK (t.at p) u&&v.fits u && !(bT (Nat.beq id) v.ids) then
   match cQ m v with
   |some ⟨s,y⟩=>match(AT.set p (.leaf t (xs.getD row t.dflt)) (.leaf s y)).bind AT.pure with
    |some r=>match r.as t with
     |some z=>some ⟨.any,(id,⟨st,false,.rows t (xs.set row z)⟩)::bG m v.ids,[]⟩
     |none=>none
    |none=>none
   |none=>none
   else none
  |some ⟨_,false,.deep rs t xs⟩=>bif dK (t.at p) u&&v.fits u&&p.pairs && !(bT (Nat.beq id) v.ids)&&nodup v.ids then
   match eT m v with
   |some ⟨s,y⟩=>match(AT.set p (.leaf t (xs.getD row t.dflt)) (.leaf s y)).bind AT.pure with
    |some r=>match r.as t with
     |some z=>some ⟨.any,(id,⟨st,false,.deep (rs+1) t (xs.set row z)⟩)::cP m v.ids,[]⟩
     |none=>none
    |none=>none
   |none=>none
   else none
  |_=>none
 |_,_=>none
def bA:Nat→Path
 |0=>[.fst]
 |n+1=>.snd::bA n
def kn:Option Ty→Bool
 |some t=>Nat.ble 1 t.size
 |none=>false
def lD (C:Cx)(m:Nat→Option ag)(T:Nat)(x:AT)(f:Nat):Option aE:=
 match x,C.ty T with
 |.leaf (.ref t) y,some u=>bif t.is u then
  match u.at (bA f),AT.get (bA f) (.leaf t y) with
  |some v,some (.leaf s z)=>bif Nat.ble 1 v.size then some ⟨.leaf (.ref s) z,[],[]⟩ else none
  |_,_=>none
  else none
 |.aV id st p,some u=>match cur m id st with
  |some ⟨_,_,.var t _⟩=>bif dK (t.at p) u&&kn (u.at (bA f)) then some ⟨.aV id st (app p (bA f)),[],[]⟩ else none
  |_=>none
 |.ptr id st row p,some u=>match cur m id st with
  |some ⟨_,_,.rows t _⟩=>bif dK (t.at p) u&&kn (u.at (bA f)) then some ⟨.ptr id st row (app p (bA f)),[],[]⟩ else none
  |some ⟨_,_,.deep _ t _⟩=>bif dK (t.at p) u&&kn (u.at (bA f)) then some ⟨.ptr id st row (app p (bA f)),[],[]⟩ else none
  |_=>none
 |_,_=>none
def rD (C:Cx)(T:Nat)(x:AT)(f:Nat):Option aE:=
 match C.ty T with
 |some t=>bif x.fits t then
  match t.at (bA f),AT.get (bA f) x with
  |some _,some b=>some ⟨b,[],[]⟩
  |_,_=>none
  else none
 |none=>none
def rT (C:Cx)(T:Nat)(x:AT)(i:Int):Option aE:=
 match x,C.ty T with
 |.leaf .str s,some .str=>some ⟨.leaf (.int .u8) ((s.getD i.toNat 0).toNat:Int),[],[decide (0≤i),decide (i<s.length)]⟩
 |.leaf (.arr n (.int k)) xs,some (.arr n' (.int k'))=>bif Nat.beq n n'&&lJ k k' then some ⟨.leaf (.int k) (xs.getD i.toNat 0),[],[decide (0≤i),decide (i<n)]⟩ else none
 |_,_=>none
def cG:Option Ty→AT→AT
 |some (.lst t),.cW=>.nil t
 |_,a=>a
def k9 (t:Ty)(i:Nat):Path:=match t with
 |.arr _ _=>[.idx i]
 |_=>bA i
def sD (t:Ty)(i:Nat):Bool:=match t with
 |.arr n _=>Nat.ble (i+1) n
 |_=>true
def l9 (t:Ty):AT→List (Nat×AT)→Option AT
 |a,[]=>some a
 |a,(i,v)::l=>match t.at (k9 t i) with
  |some u=>bif(cG (some u) v).fits u&&sD t i then
   match AT.set (k9 t i) a (cG (some u) v) with
   |some a'=>l9 t a' l
   |none=>none
   else none
  |none=>none
def qY (C:Cx)(T:Nat)(parts:List (Nat×AT)):Option aE:=
 match C.ty T with
 |some t=>bif t.isAgg then(l9 t (jC t) parts).map (⟨·,[],[]⟩) else none
 |none=>none
def nj (m:Nat→Option ag)(t:Ty)(len:Nat):List t.den→List (Nat×AT)→Option (List t.den)
 |xs,[]=>some xs
 |xs,(i,v)::l=>bif Nat.ble (i+1) len&&(cG (some t) v).fits t then
  match cQ m (cG (some t) v) with
  |some d=>match d.as t with
   |some y=>nj m t len (xs.set i y) l
   |none=>none
  |none=>none
  else none
def Ty.jF:Ty→Bool
 |.own _ | .ref _=>false
 |.pair a b=>a.jF&&b.jF
 |_=>true
def oH (m:Nat→Option ag)(t:Ty)(n:Nat):List (Nat×AT)→Option (List t.den)
 | []=>some []
 | (i,v)::l=>bif Nat.beq i n&&(cG (some t) v).fits t then
  match eT m (cG (some t) v) with
  |some d=>match d.as t,oH m t (n+1) l with
   |some y,some ys=>some (y::ys)
   |_,_=>none
  |none=>none
  else none
def mU (C:Cx)(m:Nat→Option ag)(dst T len:Nat)(parts:List (Nat×AT)):Option aE:=
 match C.el T with
 |some t=>bif C.dp&&t.aO then
  bif Nat.beq parts.length len&&Nat.ble (len*t.size) 16777216&&nodup (dst::fM (fun p=>p.2.ids) parts) then(oH m t 0 parts).map fun xs=>
   ⟨.whole dst (aW m dst) t,(dst,⟨aW m dst,false,.deep 0 t xs⟩)::cP m (fM (fun p=>p.2.ids) parts),[]⟩ else none
  else bif t.jF&&Nat.ble (len*t.size) 16777216 && !(bT (Nat.beq dst) (fM (fun p=>p.2.ids) parts)) then(nj m t len (List.replicate len t.dflt) parts).map fun xs=>
   ⟨.whole dst (aW m dst) t,(dst,⟨aW m dst,false,.rows t xs⟩)::bG m (fM (fun p=>p.2.ids) parts),[]⟩
  else none
 |none=>none
def Ty.kK:Ty→Bool
 |.own _ | .ref _=>false
 |.pair a b=>a.kK&&b.kK
 |.arr _ t=>t.jF && !t.aO
 |_=>true
def nr (C:Cx)(m:Nat→Option ag)(dst T:Nat)(l c:Int):Option aE:=
 match C.el T with
 |some t=>bif t.jF&&(t.kK || !C.dp) then some ⟨.whole dst (aW m dst) t,[(dst,⟨aW m dst,false,bif C.dp&&t.aO then .deep 0 t (List.replicate l.toNat t.dflt) else .rows t (List.replicate l.toNat t.dflt)⟩)],[decide (0≤l),decide (l≤c),decide (c≤eD)]⟩ else none
 |none=>none
def gK:AT→Option Int
 |.leaf (.int _) n=>some n
 |_=>none
def j3 (d:Int):Option AT→Option Int
 |none=>some d
 |some a=>gK a
def sL (C:Cx)(m:Nat→Option ag)(T:Nat)(x:AT)(lo hi:Option AT):Option aE:=
 match lK m x with
 |none=>none
 |some n=>
  match j3 0 lo,j3 n hi with
  |some l,some h=>
   match x,C.ty T with
   |.leaf .str s,some .str=>some ⟨.leaf .str ((s.drop l.toNat).take (h-l).toNat),[],[decide (0≤l),decide (l≤h),decide (h≤n)]⟩
   |.leaf (.lst t) xs,some (.lst u)=>bif t.is u then some ⟨.leaf (.lst t) ((xs.drop l.toNat).take (h-l).toNat),[],[decide (0≤l),decide (l≤h),decide (h≤n)]⟩ else none
   |.whole id st t,some (.lst u)=>bif t.is u then some ⟨.piece id st l.toNat (h-l).toNat t,[],[decide (0≤l),decide (l≤h),decide (h≤n)]⟩ else none
   |.piece id st off _len t,some (.lst u)=>bif t.is u then
    match rowsOf m id st t with
    |some r=>some ⟨.piece id st (off+l.toNat) (h-l).toNat t,[],[decide (0≤l),decide (l≤h),decide ((off:Int)+h≤(r.2.length:Int))]⟩
    |none=>none
    else none
   |_,_=>none
  |_,_=>none
def ru (C:Cx)(m:Nat→Option ag)(dst S T:Nat)(x:AT):Option aE:=
 match x,C.ty S,C.ty T with
 |.leaf (.int _) n,some _,some (.int k)=>some ⟨.leaf (.int k) (k.wrap n),[],[]⟩
 |.leaf .str s,some _,some .str=>some ⟨.leaf .str s,[],[]⟩
 |.leaf .str s,some .str,some (.lst (.int .u8))=>some ⟨.whole dst (aW m dst) (.int .u8),[(dst,⟨aW m dst,false,.rows (.int .u8) (bytesOf s)⟩)],[decide (s.length≤eD)]⟩
 |a,some (.lst (.int .u8)),some .str=>match cQ m a with
  |some d=>(d.as (.lst (.int .u8))).map fun xs=>⟨.leaf .str (sM xs),[],[]⟩
  |none=>none
 |_,_,_=>none
def tailD (m:Nat→Option ag)(t:Ty)(y:AT):Option (List t.den):=
 match y,t with
 |.leaf .str s,.int .u8=>some (bytesOf s)
 |a,t=>(cQ m (cG (some (.lst t)) a)).bind fun d=>d.as (.lst t)
def tC (C:Cx)(m:Nat→Option ag)(dst:Nat)(t:Ty)(x y:AT):Option aE:=
 match y with
 |.whole jd sj _u'=>match cur m jd sj with
  |some ⟨_,false,.deep _ v zs⟩=>match DV.as ⟨.lst v,zs⟩ (.lst t) with
   |none=>none
   |some ys=>
    let mk:Option aE:=bif C.dp && !(Nat.beq dst jd) then some ⟨.whole dst (aW m dst) t,(dst,⟨aW m dst,false,.deep 0 t ys⟩)::cP m [jd],[decide (ys.length≤eD)]⟩ else none
    match x with
    |.nil u=>bif t.is u then mk else none
    |.cW=>mk
    |.whole id st u=>match cur m id st with
     |some ⟨_,false,.deep rs v' ws⟩=>match DV.as ⟨.lst v',ws⟩ (.lst t) with
      |some xs=>bif u.is t && !(Nat.beq id jd) then some ⟨.whole id (st+1) t,(id,⟨st+1,false,.deep (rs+1) t (xs++ys)⟩)::cP m [jd],[decide (xs.length+ys.length≤eD)]⟩ else none
      |none=>none
     |_=>none
    |_=>none
  |_=>none
 |_=>none
def rV (m:Nat→Option ag):AT→Bool
 |.whole id st _=>match cur m id st with | some ⟨_,_,.deep _ _ _⟩=>true|_=>false
 |_=>false
def over {α:Type}(xs:List α)(k:Nat)(ys:List α):List α:=xs.take k++(ys++xs.drop (k+ys.length))
def n6 (C:Cx)(m:Nat→Option ag)(dst:Nat)(t:Ty)(x y:AT):Option aE:=
 bif rV m y then tC C m dst t x y else
 match tailD m t y with
 |none=>none
 |some ys=>
  match x with
  |.nil u=>match(DV.mk (.lst u) []).as (.lst t) with
   |some _=>some ⟨.whole dst (aW m dst) t,[(dst,⟨aW m dst,false,.rows t ys⟩)],[decide (ys.length≤eD)]⟩
   |none=>none
  |.cW=>some ⟨.whole dst (aW m dst) t,[(dst,⟨aW m dst,false,.rows t ys⟩)],[decide (ys.length≤eD)]⟩
  |.whole id st u=>match rowsOf m id st t with
   |some (false,xs)=>bif u.is t then some ⟨.whole id (st+1) t,[(id,⟨st+1,false,.rows t (xs++ys)⟩)],[decide (xs.length+ys.length≤eD)]⟩ else none
   |_=>none
  |.piece id st off len u=>match rowsOf m id st t with
   |some (false,xs)=>bif u.is t then some ⟨.piece id st off (len+ys.length) t,[(id,⟨st,false,.rows t (over xs (off+len) ys)⟩)],[decide (off+len+ys.length≤xs.length)]⟩ else none
   |_=>none
  |_=>none
def mkArg (m:Nat→Option ag):Mode→AT→Option Arg
 |.v,a=>(toR m a).map .v
 |.d,a=>(eT m a).map .d
 |.p,.aV id st []=>match cur m id st with
  |some ⟨_,false,.var _ a⟩=>(jx m a).map .p
  |_=>none
 |.m,.whole id st t=>match rowsOf m id st t with
  |some (false,xs)=>some (.m t xs)
  |_=>none
 |.m,.nil t=>some (.m t [])
 |.k,a=>(jx m a).map .v
 |.f,.fn g c=>(toC m c).map (.f g)
 |_,_=>none
def mC (m:Nat→Option ag):List Mode→List AT→Option (List Arg)
 | [],[]=>some []
 |o::os,a::as=>match mkArg m o a,mC m os as with
  |some x,some xs=>some (x::xs)
  |_,_=>none
 |_,_=>none
def ku (m:Nat→Option ag):AT→DV→Option (List (Nat×ag))
 |.leaf _ _,_=>some []
 |.nil _,_=>some []
 |.whole id st t,d=>match d.as (.lst t) with
  |some ys=>match cur m id st with
   |some ⟨_,_,.rows _ _⟩=>some [(id,⟨st,false,.rows t ys⟩)]
   |some ⟨_,_,.deep rs _ _⟩=>some [(id,⟨st,false,.deep (rs+1) t ys⟩)]
   |_=>none
  |none=>none
 |.pair l r,⟨.pair a b,x⟩=>match ku m l ⟨a,x.1⟩,ku m r ⟨b,x.2⟩ with
  |some u,some v=>some (app u v)
  |_,_=>none
 |.nest id st _ row p u,d=>match cur m id st with
  |some ⟨_,_,.deep rs t xs⟩=>bif d.t.is u then
   match(AT.set p (.leaf t (xs.getD row t.dflt)) (.leaf d.t d.x)).bind AT.pure with
   |some r=>match r.as t with
    |some z=>some [(id,⟨st,false,.deep rs t (xs.set row z)⟩)]
    |none=>none
   |none=>none
   else none
  |_=>none
 |_,_=>none
def dW (m:Nat→Option ag):List Mode→List AT→List DV→Option (List (Nat×ag))
 | [],[],[]=>some []
 |.p::os,.aV id st []::as,d::ds=>match cur m id st,dW m os as ds with
  |some ⟨_,_,.var t _⟩,some u=>bif t.is d.t.aY then
   let n:=aZ m d.t d.x ((id+1)*1000)
   some ((id,⟨st,false,.var t n.1⟩)::app n.2.1 u)
   else none
  |_,_=>none
 |.m::os,.whole id st t::as,d::ds=>match d.as (.own t),dW m os as ds with
  |some ys,some u=>some ((id,⟨st,false,.rows t ys⟩)::u)
  |_,_=>none
 |.m::os,.nil _::as,_::ds=>dW m os as ds
 |.d::os,a::as,d::ds=>match ku m a d,dW m os as ds with
  |some u,some v=>some (app u v)
  |_,_=>none
 |.v::os,_::as,ds=>dW m os as ds
 |.k::os,_::as,ds=>dW m os as ds
 |.f::os,_::as,ds=>dW m os as ds
 |_,_,_=>none
def sZ (m:Nat→Option ag)(id:Nat):List Nat:=match m id with
 |some ⟨_,_,.var _ a⟩=>a.ids
 |_=>[]
def f_ (m:Nat→Option ag):List Mode→List AT→List Nat
 |.p::os,.aV id _ _::as=>app (sZ m id) (f_ m os as)
 |.k::os,a::as=>app a.ids (f_ m os as)
 |_::os,_::as=>f_ m os as
 |_,_=>[]
def eO:List Mode→List AT→List Nat
 |.p::os,.aV id _ _::as=>id::eO os as
 |.m::os,.whole id _ _::as=>id::eO os as
 |.d::os,a::as=>app a.ids (eO os as)
 |_::os,_::as=>eO os as
 |_,_=>[]
def RV.qk:RV→Bool
 |.v x | .p x=>x.t.aO
 |.d _=>false
def jT:List Arg→List DV→Bool
 |.p _::l,d::ds | .m _ _::l,d::ds=>d.t.aO || jT l ds
 |.d _::l,_::ds=>jT l ds
 |.v _::l,ds | .f _ _::l,ds=>jT l ds
 |_,_=>false
def cD (m:Nat→Option ag):List RV→Nat→List AT×List (Nat×ag)
 | [],_=>([],[])
 |.v d::l,n=>
  let a:=aZ m d.t d.x n
  let r:=cD m l a.2.2
  (a.1::r.1,app a.2.1 r.2)
 |.d d::l,n=>
  let a:=aU m d.t d.x n
  let r:=cD m l a.2.2
  (a.1::r.1,app a.2.1 r.2)
 |.p d::l,n=>
  let a:=aZ m d.t d.x (n+1)
  let r:=cD m l a.2.2
  (.aV n (aW m n) []::r.1,(n,⟨aW m n,false,.var d.t.aY a.1⟩)::app a.2.1 r.2)
def nM:List AT→AT
 | []=>.cJ
 |a::l=>.bL a (nM l)
def oneOf:List AT→AT
 | [a]=>a
 |l=>nM l
def gx (m:Nat→Option ag):List Mode→List AT→List Nat
 |.v::os,a::as=>app (dU m a.ids) (gx m os as)
 |.f::os,a::as=>app (dU m a.ids) (gx m os as)
 |_::os,_::as=>gx m os as
 |_,_=>[]
def pR (l l':List Nat):Bool:=cN (fun x=> !(bT (Nat.beq x) l')) l
def q8 (C:Cx)(m:Nat→Option ag)(dst f:Nat)(args:List AT):Option aE:=
 match find C.fns f with
 |none=>none
 |some (cI,den)=>
  let ke:=eO cI args
  let ki:=f_ m cI args
  let le:=gx m cI args
  bif nodup (app ke ki)&&pR le (app ke ki) then
   match mC m cI args with
   |none=>none
   |some ar=>match den ar with
   |none=>none
   |some r=>
    match dW m cI args r.kB with
    |none=>none
    |some u=>
     let o:=cD m r.outs ((dst+1)*1000)
     bif nodup (bu (fun x=>x.1) (app o.2 u)) then
      some ⟨oneOf o.1,app o.2 (app u (app (cP m ki) (bif bT RV.qk r.outs || jT ar r.kB then bG m le else []))),r.ok⟩
     else none
  else none
def jS:AT→List AT
 |.bL a l=>a::jS l
 |_=>[]
def AT.one:AT→Bool
 |.leaf t _=> !t.isAgg
 |.nest _ _ _ _ _ u=> !u.isAgg
 |.whole _ _ _ | .piece _ _ _ _ _ | .nil _ | .cW | .undef _ | .aV _ _ _ | .ptr _ _ _ _ | .fn _ _=>true
 |_=>false
def l_:AT→Bool
 |.bL l r=>l.one&&l_ r
 |.cJ=>true
 |_=>false
def AT.slot:AT→Bool
 |.pair _ _ | .leaf _ _ | .nest _ _ _ _ _ _=>true
 |a=>a.one
def rC (x:AT)(i:Nat):Option aE:=
 match cB (jS x) i with
 |some a=>bif a.slot then some ⟨a,[],[]⟩ else none
 |none=>none
def lP (m:Nat→Option ag):AT→Option aE
 |.ptr id st row p=>match cur m id st with
  |some ⟨_,_,.rows _ _⟩=>some ⟨.ptr id st row p,[],[]⟩
  |some ⟨_,_,.deep _ _ _⟩=>some ⟨.ptr id st row p,[],[]⟩
  |_=>none
 |.aV id st p=>match cur m id st with
  |some ⟨_,_,.var _ _⟩=>some ⟨.aV id st p,[],[]⟩
  |_=>none
 |.leaf (.ref t) x=>some ⟨.leaf (.ref t) x,[],[]⟩
 |_=>none
def minD:List AT→Option aE
 | [.leaf (.int k) x,.leaf (.int _) y]=>some ⟨.leaf (.int k) (if y<x then y else x),[],[]⟩
 |_=>none
def maxD:List AT→Option aE
 | [.leaf (.int k) x,.leaf (.int _) y]=>some ⟨.leaf (.int k) (if x<y then y else x),[],[]⟩
 |_=>none
def pW (C:Cx):List Nat→List AT→List AT
 |t::ts,a::as=>C.co t a::pW C ts as
 |_,as=>as
def q_ (C:Cx)(m:Nat→Option ag)(T:Nat)(x:AT):Option aE:=
 match C.el T,x with
 |some t,.piece id st off len u=>match rowsOf m id st t with
  |some (false,xs)=>bif t.jF&&u.is t then some ⟨.cJ,[(id,⟨st,false,.rows t (over xs off (List.replicate len t.dflt))⟩)],[]⟩ else none
  |_=>none
 |_,_=>none
def sK (C:Cx)(m:Nat→Option ag)(T:Nat)(x l h k:AT):Option aE:=
 match x,C.ty T,gK l,gK h,gK k with
 |.whole id st t,some (.lst u),some a,some b,some c=>match h_ m id st t with
  |some xs=>bif t.is u then some ⟨.undef 1,[],[decide (0≤a),decide (a≤b),decide (b≤c),decide (c≤xs.length)]⟩ else none
  |none=>none
 |_,_,_,_,_=>none
def tL (C:Cx)(m:Nat→Option ag)(dst:Nat)(b:Builtin)(ts:List Nat)(args:List AT):Option aE:=
 match b,ts,args with
 |.len,[T],[a]=>bif qh C T a then
  match lK m a with
  |some n=>some ⟨.leaf (.int .i64) n,[],[]⟩
  |none=>none
  else none
 |.append,[t,t2],[x,y]=>match C.el t,C.ty t2 with
  |some u,some (.lst _)|some u,some .str=>n6 C m dst u x y
  |_,_=>none
 |.min,_,as=>minD as
 |.max,_,as=>maxD as
 |.clear,[T],[a]=>q_ C m T a
 |_,_,_=>none
def oW (c a b:AT):Option aE:=
 match c,a,b with
 |.leaf .bool g,.leaf t x,.leaf t' y=>if h:t'=t then some ⟨.leaf t (bif g then x else(h▸y)),[],[]⟩ else none
 |_,_,_=>none
def dF (C:Cx)(m:Nat→Option ag)(dst:Nat)(ρ:Operand→AT)(o:Oper):Option aE:=
 match o.op with
 |.move x | .assign x=>some ⟨C.co o.type (ρ x),[],[]⟩
 |.alloc T=>match C.ty T with
  |some t=>some ⟨.aV dst (aW m dst) [],[(dst,⟨aW m dst,false,.var t (jC t)⟩)],[]⟩
  |none=>none
 |.box T x=>match C.ty T with
  |some t=>bif(C.co T (ρ x)).fits t then some ⟨.aV dst (aW m dst) [],[(dst,⟨aW m dst,false,.var t (C.co T (ρ x))⟩)],[]⟩ else none
  |none=>none
 |.build T parts=>qY C T (bu (fun p=>(p.1,ρ p.2)) parts.toList)
 |.buildSlice T len parts=>mU C m dst T len (bu (fun p=>(p.1,ρ p.2)) parts.toList)
 |.load T x=>rZ C m T (ρ x)
 |.store T x v=>mI C m T (ρ x) (C.co T (ρ v))
 |.binOp op T x y _=>binD C T op (ρ x) (ρ y)
 |.unOp op _ x=>unD op (ρ x)
 |.convert S T x=>ru C m dst S T (ρ x)
 |.makeSlice T l c=>match gK (ρ l),gK (ρ c) with
  |some a,some b=>nr C m dst T a b
  |_,_=>none
 |.slice T x lo hi none=>sL C m T (ρ x) (lo.map ρ) (hi.map ρ)
 |.slice T x (some l) (some h) (some k)=>sK C m T (ρ x) (ρ l) (ρ h) (ρ k)
 |.fieldAddr T x f=>lD C m T (ρ x) f
 |.field T x f=>rD C T (ρ x) f
 |.indexAddr T x i=>match gK (ρ i) with
  |some n=>lH C m T (ρ x) n
  |none=>none
 |.index T x i=>match gK (ρ i) with
  |some n=>rT C T (ρ x) n
  |none=>none
 |.extract x i=>rC (ρ x) i
 |.makeFunc (.func g) first caps=>bif first.toList.isEmpty&&cN AT.one (bu ρ caps.toList) then some ⟨.fn g (nM (bu ρ caps.toList)),[],[]⟩ else none
 |.nilCheck x=>lP m (ρ x)
 |.call ⟨.builtin b,args,ts⟩=>tL C m dst b ts.toList (pW C ts.toList (bu ρ args.toList))
 |.call ⟨.value g,args,ts⟩=>match ρ g with
  |.fn f caps=>bif l_ caps then q8 C m dst f (app (pW C ts.toList (bu ρ args.toList)) (jS caps)) else none
  |_=>none
 |_=>none
abbrev eY:=List (Nat×Bool)
def n8 (a b:Bool):Bool:=match a,b with | true,true|false,false=>true|_,_=>false
def hasTag (T:eY)(s:Nat)(w:Bool):Bool:=bT (fun t=>Nat.beq t.1 s&&n8 t.2 w) T
def o9 (A T:eY):Bool:=cN (fun t=>hasTag T t.1 t.2) A
def gL (C:Cx)(env:List (Nat×AT))(T:eY)(x:Operand):AT:=
 match operand C env x with
 |.bM A a=>bif o9 A T then a else .any
 |a=>a
def lX (env:List (Nat×AT))(s:Nat)(w:Bool):eY:=
 match find env s with
 |some (.bM A _)=>(s,w)::A
 |_=>[(s,w)]
def dom (mem:Mem)(dst:Nat)(as:List AT):List Nat:=dst::dU (find mem) (fM AT.ids as)
def dy (D:List Nat)(i:Nat):Bool:=bT (fun d=>Nat.beq d i || Nat.beq ((d+1)*1000) (i-i % 1000)) D
def view (mem:Mem)(D:List Nat)(i:Nat):Option ag:=bif dy D i then find mem i else none
def p5 (o:Oper):Nat:=o.dst.getD 999
structure pM where
 D:List Nat
 W:List Nat
 R:List Nat
 d:Option Nat
 sh:Bool:=false
 ks:Bool:=false
 vs:Bool:=false
 kv:Bool:=false
def guardOf (env:List (Nat×AT))(ops:List Oper)(o:Oper):Option eY:=
 match o.guard with
 |none=>some []
 |some (j,want)=>((cB ops j).bind (·.dst)).map fun s=>lX env s want
def lW (env:List (Nat×AT))(s:Nat)(w:Bool):Bool:=
 match find env s with
 |some (.leaf .bool b)|some (.bM _ (.leaf .bool b))=>bif w then b else !b
 |_=>true
def jw (env:List (Nat×AT)):eY→Bool
 | []=>true
 | [(s,w)]=>lW env s w
 | (s,w)::l=>lW env s w&&jw env l
def qn (g:Bool):List Bool→List Bool:=bu fun c=> !g || c
def sP:Operand→Option Nat
 |.tmp t=>some t
 |_=>none
def j4 (C:Cx)(env:List (Nat×AT))(T:eY)(m:Nat→Option ag)(o:Oper):Option aE:=
 match o.op with
 |.pick c a b=>match sP c with
  |some s=>oW (gL C env T c) (gL C env (app (lX env s true) T) a) (gL C env (app (lX env s false) T) b)
  |none=>none
 |_=>dF C m (p5 o) (gL C env T) o
def tO (mem:Mem)(D:List Nat):Bool:=
 cN (fun x=> !dy D x.1 || (match find mem x.1 with | some ⟨_,_,.var _ a⟩=>cN (dy D) a.ids|_=>true)) mem
structure Rec where
 o:Oper
 T:eY
 D:List Nat
 d:aE
 d0:aE
 kv:Bool
def oG (env:List (Nat×AT)):eY→Bool
 | []=>true
 | (s,_)::l=>(match find env s with
  |some (.leaf .bool _)=>true
  |some (.bM A (.leaf .bool _))=>o9 A l
  |_=>false)&&oG env l
def sg (c:Bool):Option ag→ag→Option ag
 |none,⟨st,false,.rows t xs⟩=>bif Nat.ble 1 t.size then some ⟨st,false,.rows t (bif c then xs else [])⟩ else none
 |none,b=>some ⟨b.st+1,false,.dead⟩
 |some ⟨st,_,.dead⟩,b=>bif Nat.ble st b.st then some ⟨b.st+1,false,.dead⟩ else none
 |some ⟨st,false,.var t a⟩,⟨st',false,.var t' a'⟩=>bif Nat.beq st st'&&t.is t' then
  match a.pure,a'.pure with
  |some d,some e=>match d.as t,e.as t with
   |some x,some y=>some ⟨st,false,.var t (.leaf t (bif c then y else x))⟩
   |_,_=>none
  |_,_=>none
  else none
 |_,_=>none
def kY (c:Bool)(m:Nat→Option ag):List (Nat×ag)→Option (List (Nat×ag))
 | []=>some []
 | (i,b)::l=>match sg c (m i) b,kY c m l with
  |some b',some l'=>bif bT (fun x=>Nat.beq x.1 i) l then none else some ((i,b')::l')
  |_,_=>none
def nH (env:List (Nat×AT))(m:Nat→Option ag)(T:eY)(d:aE):Option aE:=
 bif T.isEmpty || d.aj.isEmpty then some d else
 bif oG env T then(match kY (jw env T) m d.aj with | some u=>some { d with aj:=u }|none=>none) else none
def nv:Option ag→Bool
 |some ⟨_,_,.var _ _⟩=>false
 |_=>true
def u0 (m:Nat→Option ag)(l:List (Nat×ag)):Bool:=cN (fun x=>nv (m x.1)&&nv (some x.2)) l
def lS (C:Cx)(ops:List Oper)(o:Oper)(st:St):Option Rec:=
 match guardOf st.env ops o with
 |none=>none
 |some T=>
  let D:=dom st.mem (p5 o) (bu (gL C st.env T) o.op.operands.toList)
  match j4 C st.env T (view st.mem D) o with
  |none=>none
  |some d=>
   bif cN (fun x=>dy D x.1) d.aj&&tO st.mem D then(match nH st.env (find st.mem) T d with | some d'=>some ⟨o,T,D,d',d,u0 (find st.mem) d'.aj⟩|none=>none) else none
def jB (T:eY)(a:AT):AT:=
 match T with
 | []=>(match a with | .bM _ _=>.any|a=>a)
 |T=>.bM T a
def okT (env:List (Nat×AT)):eY→List Bool→List Bool
 | [],l=>l
 |T,l=>qn (jw env T) l
def Rec.go (r:Rec)(st:St):St:=
 ⟨(match r.o.dst with | some s=>(s,jB r.T r.d.av)::st.env|none=>st.env),app r.d.aj st.mem,app (okT st.env r.T r.d.ok) st.ok⟩
def looks (ops:List Oper)(o:Oper):List Nat:=
 app (eg sP o.op.operands.toList) (match o.guard with
  |some (j,_)=>match(cB ops j).bind (·.dst) with | some s=>[s]|none=>[]
  |none=>[])
def fE (o:Oper):Bool:=match o.op with
 |.indexAddr _ _ _=>true
 |_=>false
def mz (r:Rec):Bool:=match r.o.op,r.d.aj with
 |.store _ _ _,[(_,⟨_,_,.rows _ _⟩)]=>r.T.isEmpty
 |_,_=>false
def fQ (r:Rec):Bool:=match r.o.op,r.d0.av with
 |.move _,_=>true
 |.nilCheck _,.aV _ _ _=>true
 |.fieldAddr _ _ _,.aV _ _ _=>true
 |_,_=>false
def Rec.gi (ops:List Oper)(r:Rec):pM:=⟨r.D,bu (fun x=>x.1) r.d.aj,looks ops r.o,r.o.dst,fE r.o,mz r,fQ r,r.kv⟩
def mD (C:Cx)(ops:List Oper):List Oper→St→Option (St×List Rec)
 | [],st=>some (st,[])
 |o::l,st=>match lS C ops o st with
  |some r=>match mD C ops l (r.go st) with
   |some (st',rs)=>some (st',r::rs)
   |none=>none
  |none=>none
def ff (acc:List Nat):List Edge→Nat
 | []=>0
 |e::l=>match e.ground with
  |.gcOnly _ | .textOnly _=>ff acc l
  |_=>Nat.lor (Nat.lor (2 ^ e.on) ((cB acc e.on).getD 0)) (ff acc l)
def fK:List Oper→List Nat→List Nat
 | [],acc=>acc
 |o::l,acc=>fK l (app acc [ff acc o.after.toList])
def qD (d:Option Nat)(R:List Nat):Bool:=match d with
 |some s=> !(bT (Nat.beq s) R)
 |none=>true
def jI (f g:pM):Bool:=(((f.ks&&g.sh) || (f.kv&&g.vs)) || cN (fun i=> !dy g.D i) f.W)&&(((g.ks&&f.sh) || (g.kv&&f.vs)) || cN (fun i=> !dy f.D i) g.W)&&qD f.d g.R&&qD g.d f.R
def free (bits:List Nat)(fs:List pM):Nat→Bool
 |0=>true
 |j+1=>free bits fs j&&Nat.ble ((cB bits j).getD 0+1) (2 ^ j) &&
  cN (fun i=>Nat.testBit ((cB bits j).getD 0) i || (match cB fs i,cB fs j with | some f,some g=>jI f g|_,_=>false)) (upto j)
def kj:List (Nat×AT)→List (Nat×AT)
 | []=>[]
 | (s,.bM _ _)::l=>(s,.any)::kj l
 |x::l=>x::kj l
def oZ (C:Cx)(ops:List Oper)(draw:Bool)(st:St):Option St:=
 match mD C ops ops st with
 |none=>none
 |some (st',rs)=>
  let r:St:=bif bT (fun o=>o.guard.isSome) ops then { st' with env:=kj st'.env } else st'
  bif draw then(bif free (fK ops []) (bu (Rec.gi ops) rs) ops.length then some r else none) else some r
def oq:Nat→List Oper→Bool
 |_,[]=>true
 |n,o::l=>(match o.guard with | some (g,_)=>Nat.ble (g+1) n|none=>true)&&oq (n+1) l
def oR (n:Nat)(ops:List Oper):Bool:=
 nodup (eg (fun o=>o.dst) ops)&&oq 0 ops&&cN (fun o=>match o.dst with | some s=>Nat.ble (s+1) n|none=>true) ops
def codeOk (n:Nat):Code→Bool
 |.region _ ops _=>oR n ops.toList
 |.seq a b=>codeOk n a&&codeOk n b
 |.cond _ a b=>codeOk n a&&codeOk n b
 |.block _ c | .loop c | .scope c=>codeOk n c
 |_=>true
def base:Nat:=500000000
def eR:Nat:=700000000
def dz:AT→Nat→AT×List (Nat×ag)×Nat
 |.nil t,n=>(.whole n 0 t,[(n,⟨0,false,.rows t []⟩)],n+1)
 |.pair a b,n=>let l:=dz a n;let r:=dz b l.2.2;(.pair l.1 r.1,app l.2.1 r.2.1,r.2.2)
 |.bL a b,n=>let l:=dz a n;let r:=dz b l.2.2;(.bL l.1 r.1,app l.2.1 r.2.1,r.2.2)
 |.fn f c,n=>let l:=dz c n;(.fn f l.1,l.2.1,l.2.2)
 |a,n=>(a,[],n)
def iS:List (Nat×AT)→Nat→List (Nat×AT)×List (Nat×ag)×Nat
 | [],n=>([],[],n)
 | (s,a)::l,n=>let x:=dz a n;let r:=iS l x.2.2;((s,x.1)::r.1,app x.2.1 r.2.1,r.2.2)
def fR (b:ag)(n:Nat):ag×List (Nat×ag)×Nat:=match b with
 |⟨st,fz,.var t a⟩=>let x:=dz a n;(⟨st,fz,.var t x.1⟩,x.2.1,x.2.2)
 |b=>(b,[],n)
def iT:Mem→Nat→Mem×List (Nat×ag)×Nat
 | [],n=>([],[],n)
 | (i,b)::l,n=>let x:=fR b n;let r:=iT l x.2.2;((i,x.1)::r.1,app x.2.1 r.2.1,r.2.2)
def pid (s:Nat):Nat:=900+s
def gu (i:Nat):Bool:=Nat.ble 900 i&&Nat.ble i 989
def pids:Mem→List Nat→List Nat
 | [],acc=>acc
 | (i,_)::l,acc=>bif gu i && !(bT (Nat.beq i) acc) then pids l (app acc [i]) else pids l acc
def curIds (m:Nat→Option ag):AT→List Nat
 |.whole id st _ | .piece id st _ _ _ | .ptr id st _ _ | .aV id st _=>match cur m id st with | some _=>[id]|none=>[]
 |.pair l r | .bL l r=>app (curIds m l) (curIds m r)
 |.fn _ c=>curIds m c
 |_=>[]
structure Ren where
 map:List (Nat×Nat)
 todo:List Nat
 next:Nat
def pO:List Nat→Ren→Ren
 | [],r=>r
 |i::l,r=>match find r.map i with
  |some _=>pO l r
  |none=>pO l ⟨app r.map [(i,r.next)],app r.todo [i],r.next+1⟩
def qw (m:Mem):Nat→Ren→List (Nat×Nat)
 |0,r=>r.map
 |n+1,r=>match r.todo with
  | []=>r.map
  |id::l=>match find m id with
   |some ⟨_,_,.var _ a⟩=>qw m n (pO (curIds (find m) a) { r with todo:=l })
   |_=>qw m n { r with todo:=l }
def ju (m:Nat→Option ag)(μ:List (Nat×Nat))(id st:Nat)(f:Nat→AT):AT:=
 match cur m id st with
 |some _=>match find μ id with
  |some j=>f j
  |none=>.undef 1
 |none=>.undef 1
def oN:AT→AT→AT
 |.leaf s x,.leaf t y=>.leaf (.pair s t) (x,y)
 |a,b=>.pair a b
def cT (m:Nat→Option ag)(μ:List (Nat×Nat)):AT→AT
 |.whole id st t=>ju m μ id st fun j=>.whole j 0 t
 |.piece id st off len t=>ju m μ id st fun j=>.piece j 0 off len t
 |.ptr id st row p=>ju m μ id st fun j=>.ptr j 0 row p
 |.aV id st p=>ju m μ id st fun j=>.aV j 0 p
 |.pair a b=>oN (cT m μ a) (cT m μ b)
 |.bL a b=>.bL (cT m μ a) (cT m μ b)
 |.fn f c=>.fn f (cT m μ c)
 |.bM _ _=>.any
 |.nest _ _ _ _ _ u=>.undef u.size
 |a=>a
def AT.fo:AT→Bool
 |.nest _ _ _ _ _ _=>false
 |.pair a b=>a.fo&&b.fo
 |.bL a b=>a.fo&&b.fo
 |_=>true
def nJ (m:Nat→Option ag)(μ:List (Nat×Nat)):AT→AT
 |.nest _ _ _ _ _ _=>.any
 |a=>bif a.fo then cT m μ a else .any
def fH (m:Nat→Option ag)(μ:List (Nat×Nat))(i:Nat):ag:=
 match m i with
 |none=>⟨0,false,.dead⟩
 |some ⟨st,fz,c⟩=>bif gu i && !(Nat.beq st 0) then⟨1,false,.dead⟩ else
  match c with
  |.var t a=>⟨0,fz,.var t (cT m μ a)⟩
  |.deep _ t xs=>⟨0,fz,.deep 0 t xs⟩
  |c=>⟨0,fz,c⟩
def jP (env:List (Nat×AT)):List Nat→List (Nat×AT)
 | []=>[]
 |s::l=>match find env s with | some a=>(s,a)::jP env l|none=>jP env l
def nD (i:Nat)(b:ag):Mem→Mem
 | []=>[(i,b)]
 | (j,c)::l=>bif Nat.ble i j then(i,b)::(j,c)::l else(j,c)::nD i b l
def mH:Mem→Mem
 | []=>[]
 | (i,b)::l=>nD i b (mH l)
def uo (m:Nat→Option ag):List (Nat×AT)→List Nat
 | []=>[]
 | (_,a)::l=>app (curIds m a) (uo m l)
def uniq:Mem→List Nat→Mem
 | [],_=>[]
 | (i,b)::l,seen=>bif bT (Nat.beq i) seen then uniq l seen else(i,b)::uniq l (i::seen)
def renOk (mem:Mem)(μ:List (Nat×Nat)):Bool:=
 nodup (bu (fun x=>x.1) μ)&&nodup (bu (fun x=>x.2) μ)&&cN (fun x=> !gu x.2 || Nat.beq x.1 x.2) μ &&
  cN (fun x=> !gu x.1 || (match find μ x.1 with | some j=>Nat.beq j x.1|none=>false)) mem
def sE (keep:List Nat)(st:St):St:=
 let e:=iS (jP st.env keep) eR
 let m:=iT (uniq st.mem []) e.2.2
 ⟨e.1,app m.1 (app e.2.1 m.2.1),st.ok⟩
def sF (st:St):Option St:=
 let ps:=pids st.mem []
 let μ:=qw st.mem 100 (pO (uo (find st.mem) st.env) ⟨bu (fun i=>(i,i)) ps,ps,base⟩)
 bif renOk st.mem μ&&cN (fun x=>match x.2.c with | .var _ a=>a.fo|_=>true) st.mem then some ⟨bu (fun x=>(x.1,nJ (find st.mem) μ x.2)) st.env,mH (bu (fun x=>(x.2,fH (find st.mem) μ x.1)) μ),st.ok⟩ else none
def plain (keep:List Nat)(st:St):Option St:=
 bif cN (fun x=>Nat.ble (x.1+1) eR) st.mem then sF (sE keep st) else none
inductive AS where
 |leaf (t:Ty)|whole (id:Nat) (t:Ty)|piece (id:Nat) (t:Ty)|cW|pair (l r:AS)|undef (n:Nat)
 |ptr (id:Nat) (path:Path)|aV (id:Nat) (path:Path)|fn (f:FuncId) (c:AS)|bL (l r:AS)|cJ|any
@[reducible] def AS.den:AS→Type
 |.leaf t=>t.den
 |.piece _ _=>Nat×Nat
 |.pair l r=>l.den×r.den
 |.bL l r=>l.den×r.den
 |.ptr _ _=>Nat
 |.fn _ c=>c.den
 |_=>Unit
def AS.of:(s:AS)→s.den→AT
 |.leaf t,x=>.leaf t x
 |.whole id t,_=>.whole id 0 t
 |.piece id t,x=>.piece id 0 x.1 x.2 t
 |.cW,_=>.cW
 |.pair l r,x=>.pair (l.of x.1) (r.of x.2)
 |.undef n,_=>.undef n
 |.ptr id p,row=>.ptr id 0 row p
 |.aV id p,_=>.aV id 0 p
 |.fn f c,x=>.fn f (c.of x)
 |.bL l r,x=>.bL (l.of x.1) (r.of x.2)
 |.cJ,_=>.cJ
 |.any,_=>.any
def gy:Path→Path→Bool
 | [],[]=>true
 |.fst::p,.fst::q=>gy p q
 |.snd::p,.snd::q=>gy p q
 |.idx i::p,.idx j::q=>Nat.beq i j&&gy p q
 |_,_=>false
def AS.data:(s:AS)→AT→Option s.den
 |.leaf t,.leaf u x=>DV.as ⟨u,x⟩ t
 |.whole id t,.whole jd 0 u=>bif Nat.beq id jd&&t.is u then some () else none
 |.piece id t,.piece jd 0 o n u=>bif Nat.beq id jd&&t.is u then some (o,n) else none
 |.cW,.cW=>some ()
 |.pair l r,.pair a b=>match l.data a,r.data b with
  |some x,some y=>some (x,y)
  |_,_=>none
 |.bL l r,.bL a b=>match l.data a,r.data b with
  |some x,some y=>some (x,y)
  |_,_=>none
 |.undef n,.undef k=>bif Nat.beq n k then some () else none
 |.ptr id p,.ptr jd 0 row q=>bif Nat.beq id jd&&gy p q then some row else none
 |.aV id p,.aV jd 0 q=>bif Nat.beq id jd&&gy p q then some () else none
 |.fn f c,.fn g d=>bif Nat.beq f g then c.data d else none
 |.cJ,.cJ=>some ()
 |.any,.any=>some ()
 |_,_=>none
inductive BS where
 |var (t:Ty) (a:AS)|rows (t:Ty)|deep (t:Ty)
@[reducible] def BS.den:BS→Type
 |.var _ a=>a.den
 |.rows t=>List t.den
 |.deep t=>List t.den
def BS.of:(s:BS)→s.den→BC
 |.var t a,x=>.var t (a.of x)
 |.rows t,x=>.rows t x
 |.deep t,x=>.deep 0 t x
def BS.data:(s:BS)→BC→Option s.den
 |.var t a,.var u b=>bif t.is u then a.data b else none
 |.rows t,.rows u xs=>DV.as ⟨.lst u,xs⟩ (.lst t)
 |.deep t,.deep 0 u xs=>DV.as ⟨.lst u,xs⟩ (.lst t)
 |_,_=>none
structure Sh where
 env:List (Nat×AS)
 mem:List (Nat×Bool×BS)
@[reducible] def oe:List (Nat×AS)→Type
 | []=>Unit
 | [(_,a)]=>a.den
 | (_,a)::l=>a.den×oe l
@[reducible] def oK:List (Nat×Bool×BS)→Type
 | []=>Unit
 | [(_,_,a)]=>a.den
 | (_,_,a)::l=>a.den×oK l
def om:(l:List (Nat×AS))→oe l→List (Nat×AT)
 | [],_=>[]
 | [(s,a)],x=>[(s,a.of x)]
 | (s,a)::b::l,x=>(s,a.of x.1)::om (b::l) x.2
def oL:(l:List (Nat×Bool×BS))→oK l→Mem
 | [],_=>[]
 | [(s,fz,a)],x=>[(s,⟨0,fz,a.of x⟩)]
 | (s,fz,a)::b::l,x=>(s,⟨0,fz,a.of x.1⟩)::oL (b::l) x.2
def kN:(l:List (Nat×AS))→List (Nat×AT)→Option (oe l)
 | [],[]=>some ()
 | [(s,a)],[(s',b)]=>bif Nat.beq s s' then a.data b else none
 | (s,a)::a'::l,(s',b)::l'=>bif Nat.beq s s' then match a.data b,kN (a'::l) l' with
   |some x,some y=>some (x,y)
   |_,_=>none
  else none
 |_,_=>none
def jQ:(l:List (Nat×Bool×BS))→Mem→Option (oK l)
 | [],[]=>some ()
 | [(s,f,a)],[(s',⟨0,f',b⟩)]=>bif Nat.beq s s'&&n8 f f' then a.data b else none
 | (s,f,a)::a'::l,(s',⟨0,f',b⟩)::l'=>bif Nat.beq s s'&&n8 f f' then match a.data b,jQ (a'::l) l' with
   |some x,some y=>some (x,y)
   |_,_=>none
  else none
 |_,_=>none
@[reducible] def Sh.den (s:Sh):Type:=oe s.env×oK s.mem
def Sh.of (s:Sh)(x:s.den):St:=⟨om s.env x.1,oL s.mem x.2,[]⟩
def wpA (m:Nat→Option ag):AS→AT→AT
 |.piece _ _,.whole id st t=>match cur m id st with
  |some b=>match b.c.arr with
   |some x=>.piece id st 0 x.2 t
   |none=>.whole id st t
  |none=>.whole id st t
 |_,a=>a
def wpE (m:Nat→Option ag):List (Nat×AS)→List (Nat×AT)→List (Nat×AT)
 |x::l,a::l'=>(a.1,wpA m x.2 a.2)::wpE m l l'
 |_,l'=>l'
def Sh.data (s:Sh)(st:St):Option s.den:=
 match plain (bu (fun e=>e.1) s.env) st with
 |none=>none
 |some p=>match kN s.env (wpE (find p.mem) s.env p.env),jQ s.mem p.mem with
  |some x,some y=>some (x,y)
  |_,_=>none
inductive Ex where
 |norm|exit (id:Nat)|ret
def Ex.is:Ex→Ex→Bool
 |.norm,.norm=>true
 |.exit i,.exit j=>Nat.beq i j
 |.ret,.ret=>true
 |_,_=>false
abbrev fJ:=List (Ex×Sh)
@[reducible] def fJ.den:fJ→Type
 | []=>Empty
 | [(_,s)]=>s.den
 | (_,s)::l=>s.den⊕fJ.den l
def fJ.data:(l:fJ)→Ex→St→Option l.den
 | [],_,_=>none
 | [(e,s)],f,st=>bif e.is f then s.data st else none
 | (e,s)::b::l,f,st=>match(bif e.is f then s.data st else none) with
  |some x=>some (.inl x)
  |none=>(fJ.data (b::l) f st).map .inr
@[reducible] def sumC {α β γ:Type} (x:α⊕β) (f:α→γ) (g:β→γ):γ:=match x with
 |.inl a=>f a
 |.inr b=>g b
def fJ.go {α:Type}(K:Ex→St→Option α)(ok:List Bool):(l:fJ)→l.den→Option α
 | [],x=>x.elim
 | [(e,s)],x=>K e { s.of x with ok:=ok }
 | (e,s)::b::l,x=>sumC x (fun y=>K e { s.of y with ok:=ok }) (fun z=>fJ.go K ok (b::l) z)
structure cE where
 sh:Sh
 jJ:fJ
 dom:sh.den→Bool
 val:sh.den→jJ.den
def iA:Code→Nat
 |.region id _ _=>id
 |.seq a _=>iA a
 |.block _ c | .loop c | .scope c=>iA c
 |_=>0
def jZ:List Bool→Bool
 | []=>true
 | [a]=>a
 |a::l=>a&&jZ l
def rq (env:List (Nat×AT))(C:Cx)(c:Operand):Option Bool:=
 match operand C env c with
 |.leaf .bool g=>some g
 |_=>none
def keyOf:Code→Nat
 |.region id _ _=>id
 |.seq a _=>keyOf a
 |.cond _ a b=>1000000+(bif Nat.beq (keyOf a) 0 then keyOf b else keyOf a)
 |.block _ c | .loop c=>1000000+keyOf c
 |.scope c=>keyOf c
 |_=>0
def pT (lt:List (Nat×cE)):Code→Option cE
 |.cond c a b=>find lt (keyOf (.cond c a b))
 |.block i c=>find lt (keyOf (.block i c))
 |_=>none
def goBox {α:Type}(K:Ex→St→Option α)(L:cE)(st:St):Option α:=
 match L.sh.data st with
 |some x=>bif L.dom x then fJ.go K st.ok L.jJ (L.val x) else none
 |none=>none
def r6 (lt:List (Nat×cE))(k:Nat)(st:St):Option cE:=match find lt k with
 |some L=>match L.sh.data st with
  |some _=>some L
  |none=>find lt (k+500000)
 |none=>none
def fX {α:Type}(C:Cx)(lt:List (Nat×cE)):Code→(Ex→St→Option α)→St→Option α
 |.skip,K,st=>K .norm st
 |.region _ ops draw,K,st=>match oZ C ops.toList draw st with
  |some st'=>bif jZ st'.ok then K .norm { st' with ok:=[] } else none
  |none=>none
 |.seq a b,K,st=>match pT lt a with
  |some L=>goBox (fun e st'=>match e with
   |.norm=>fX C lt b K st'
   |e=>K e st') L st
  |none=>fX C lt a (fun e st'=>match e with
   |.norm=>fX C lt b K st'
   |e=>K e st') st
 |.cond c a b,K,st=>match rq st.env C c with
  |some g=>bif g then fX C lt a K st else fX C lt b K st
  |none=>none
 |.block id c,K,st=>fX C lt c (fun e st'=>match e with
  |.exit i=>bif Nat.beq i id then K .norm st' else K e st'
  |e=>K e st') st
 |.loop c,K,st=>match r6 lt (iA c) st with
  |some L=>match L.sh.data st with
   |some x=>bif L.dom x then fJ.go K st.ok L.jJ (L.val x) else none
   |none=>none
  |none=>none
 |.exit id,K,st=>K (.exit id) st
 |.scope c,K,st=>fX C lt c K st
 |.label _,K,st=>K .norm st
 |.ret,K,st=>K .ret st
 |_,_,_=>none
def round (C:Cx)(lt:List (Nat×cE))(c:Code)(L:cE)(x:L.sh.den):Option (L.sh.den⊕L.jJ.den):=
 fX C lt c (fun e st=>bif jZ st.ok then(match e with
  |.norm=>(L.sh.data st).map .inl
  |e=>(L.jJ.data e st).map .inr) else none) (L.sh.of x)
def boxR (C:Cx)(lt:List (Nat×cE))(c:Code)(L:cE)(x:L.sh.den):Option L.jJ.den:=
 fX C lt c (fun e st=>bif jZ st.ok then L.jJ.data e st else none) (L.sh.of x)
inductive Comes {X Y:Type} (r:X→Option (X⊕Y)):X→Y→Prop where
 |out {x:X} {y:Y}:r x=some (.inr y)→Comes r x y
 |again {x x':X} {y:Y}:r x=some (.inl x')→Comes r x' y→Comes r x y
def q9:(t:Ty)→t.den→AT
 |.pair a b,x=>.bL (.leaf a x.1) (q9 b x.2)
 |_,_=>.cJ
def od (s:Nat):Nat:=950+10*s
def dZ (s:Nat):Arg→AT×Mem
 |.d d=>let a:=aU (fun _=>none) d.t d.x (od s);(a.1,a.2.1)
 |.v d=>let a:=aZ (fun _=>none) d.t d.x ((pid s+1)*1000);(a.1,a.2.1)
 |.p d=>let a:=aZ (fun _=>none) d.t d.x ((pid s+1)*1000);(.aV (pid s) 0 [],(pid s,⟨0,false,.var d.t.aY a.1⟩)::a.2.1)
 |.m t xs=>(.whole (pid s) 0 t,[(pid s,⟨0,false,.rows t xs⟩)])
 |.f g d=>(.fn g (q9 d.t d.x),[])
def n7:Nat→List Arg→St→St
 |_,[],st=>st
 |s,a::l,st=>let r:=dZ s a;n7 (s+1) l { st with env:=app st.env [(s,r.1)],mem:=app st.mem r.2 }
structure aT where
 own:List Nat:=[]
 aY:List Nat:=[]
def aT.app (a b:aT):aT:=⟨Ab.app a.own b.own,Ab.app a.aY b.aY⟩
def gC (m:Nat→Option ag):(t:Ty)→AT→Option (t.den×aT)
 |.own t,.whole id st u=>match rowsOf m id st u with
  |some (false,xs)=>match(DV.mk (.own u) xs).as (.own t) with
   |some ys=>some (ys,⟨[id],[]⟩)
   |none=>none
  |_=>none
 |.own t,.piece id st 0 len u=>match rowsOf m id st u with
  |some (false,xs)=>match(DV.mk (.own u) (xs.take len)).as (.own t) with
   |some ys=>some (ys,⟨[id],[]⟩)
   |none=>none
  |_=>none
 |.own t,.nil u=>match(DV.mk (.own u) []).as (.own t) with
  |some ys=>some (ys,{})
  |none=>none
 |.own _,.cW=>some ([],{})
 |.pair a b,.pair l r=>match gC m a l,gC m b r with
  |some (x,i),some (y,j)=>some ((x,y),i.app j)
  |_,_=>none
 |t,a=>bif t.eM then none else match cQ m (cG (some t) a) with
  |some d=>match d.as t with
   |some x=>some (x,⟨[],dU m a.ids⟩)
   |none=>none
  |none=>none
def qG (m:Nat→Option ag)(t:Ty)(a:AT):Option (t.den×aT):=
 match eT m (cG (some t) a) with
 |some d=>match d.as t with
  |some x=>some (x,⟨a.ids,[]⟩)
  |none=>none
 |none=>none
def jA (m:Nat→Option ag):(t:Ty)→t.den→Nat→Option (t.den×List Nat×Nat)
 |.lst t,_,n=>bif gu n then match oU m n 0 t with
  |some xs=>some (xs,[n],n+1)
  |none=>none
  else none
 |.pair a b,x,n=>bif(Ty.pair a b).aO then
  match jA m a x.1 n with
  |some (y,l,k)=>match jA m b x.2 k with
   |some (z,l',e)=>some ((y,z),app l l',e)
   |none=>none
  |none=>none
  else some (x,[],n)
 |_,x,n=>some (x,[],n)
inductive Want where
 |v (t:Ty)|d (t:Ty)|p (t:Ty)
def nk (C:Cx)(st:St):ResultVar→Option AT
 |.tmp s=>find st.env s
 |.cell s T=>match find st.env s,C.ty T with
  |some (.aV id s0 []),some u=>match cur (find st.mem) id s0 with
   |some ⟨_,_,.var t a⟩=>bif t.is u then some a else none
   |_=>none
  |_,_=>none
def iW (C:Cx)(st:St):List ResultVar→List Want→Option (List RV×aT)
 | [],[]=>some ([],{})
 |r::rs,w::ws=>match nk C st r,iW C st rs ws with
  |some a,some (l,ids)=>match w,a with
   |.v t,a=>match gC (find st.mem) t a with
    |some (x,i)=>some (.v ⟨t,x⟩::l,i.app ids)
    |none=>none
   |.d t,a=>match qG (find st.mem) t a with
    |some (x,i)=>some (.d ⟨t,x⟩::l,i.app ids)
    |none=>none
   |.p t,.aV id s []=>match cur (find st.mem) id s with
    |some ⟨_,false,.var _ b⟩=>match gC (find st.mem) t b with
     |some (x,i)=>some (.p ⟨t,x⟩::l,(aT.mk [id] []).app (i.app ids))
     |none=>none
    |_=>none
   |_,_=>none
  |_,_=>none
 |_,_=>none
def gO (st:St):Nat→List Arg→Option (List DV×aT)
 |_,[]=>some ([],{})
 |s,.p d::l=>match find st.mem (pid s),gO st (s+1) l with
  |some ⟨0,false,.var _ a⟩,some (r,ids)=>match gC (find st.mem) d.t a with
   |some (x,i)=>some (⟨d.t,x⟩::r,(aT.mk [pid s] []).app (i.app ids))
   |none=>none
  |_,_=>none
 |s,.m t _::l=>match rowsOf (find st.mem) (pid s) 0 t,gO st (s+1) l with
  |some (false,xs),some (r,ids)=>some (⟨.own t,xs⟩::r,(aT.mk [pid s] []).app ids)
  |_,_=>none
 |s,.d d::l=>match jA (find st.mem) d.t d.x (od s),gO st (s+1) l with
  |some (x,i,_),some (r,ids)=>some (⟨d.t,x⟩::r,(aT.mk i []).app ids)
  |_,_=>none
 |s,_::l=>gO st (s+1) l
def finish (C:Cx)(fn:Func)(args:List Arg)(ws:List Want)(st:St):Option (List RV×List DV):=
 match iW C st fn.results.toList ws,gO st 0 args with
 |some (o,i),some (u,j)=>
  let k:=i.app j
  bif nodup k.own&&cN (fun x=> !(bT (Nat.beq x) k.own)) k.aY then(bif jZ st.ok then some (o,u) else none) else none
 |_,_=>none
inductive PT where
 |v (t:Ty)|d (t:Ty)|p (t:Ty)|m (t:Ty)|k (t:Ty)|f (g:FuncId) (t:Ty)
@[reducible] def PT.den:PT→Type
 |.v t | .d t | .p t | .k t | .f _ t=>t.den
 |.m t=>List t.den
def PT.mode:PT→Mode
 |.v _=>.v | .d _=>.d | .p _=>.p | .m _=>.m | .k _=>.k | .f _ _=>.f
def PT.arg:(p:PT)→p.den→Arg
 |.v t,x=>.v ⟨t,x⟩
 |.d t,x=>.d ⟨t,x⟩
 |.k t,x=>.v ⟨t,x⟩
 |.p t,x=>.p ⟨t,x⟩
 |.m t,x=>.m t x
 |.f g t,x=>.f g ⟨t,x⟩
@[reducible] def jf:List PT→Type
 | []=>Unit
 | [p]=>p.den
 |p::l=>p.den×jf l
def iY:(l:List PT)→jf l→List Arg
 | [],_=>[]
 | [p],x=>[p.arg x]
 |p::q::l,x=>p.arg x.1::iY (q::l) x.2
@[reducible] def jU:List PT→Type
 | []=>Unit
 |.p t::l | .d t::l=>t.den×jU l
 |.m t::l=>List t.den×jU l
 |.v _::l | .k _::l | .f _ _::l=>jU l
def kr:(l:List PT)→jU l→List DV
 | [],_=>[]
 |.p t::l,x | .d t::l,x=>⟨t,x.1⟩::kr l x.2
 |.m t::l,x=>⟨.own t,x.1⟩::kr l x.2
 |.v _::l,x | .k _::l,x | .f _ _::l,x=>kr l x
@[reducible] def Want.den:Want→Type
 |.v t | .d t | .p t=>t.den
def Want.rv:(w:Want)→w.den→RV
 |.v t,x=>.v ⟨t,x⟩
 |.d t,x=>.d ⟨t,x⟩
 |.p t,x=>.p ⟨t,x⟩
@[reducible] def k7:List Want→Type
 | []=>Unit
 | [w]=>w.den
 |w::l=>w.den×k7 l
def o_:(l:List Want)→k7 l→List RV
 | [],_=>[]
 | [w],x=>[w.rv x]
 |w::u::l,x=>w.rv x.1::o_ (u::l) x.2
def mE (C:Cx)(st:St)(r:ResultVar):(w:Want)→Option (w.den×aT)
 |.v t=>match nk C st r with
  |some a=>gC (find st.mem) t a
  |none=>none
 |.d t=>match nk C st r with
  |some a=>qG (find st.mem) t a
  |none=>none
 |.p t=>match nk C st r with
  |some (.aV id s [])=>match cur (find st.mem) id s with
   |some ⟨_,false,.var _ b⟩=>match gC (find st.mem) t b with
    |some (x,i)=>some (x,(aT.mk [id] []).app i)
    |none=>none
   |_=>none
  |_=>none
def nA (C:Cx)(st:St):List ResultVar→(l:List Want)→Option (k7 l×aT)
 | [],[]=>some ((),{})
 | [r],[w]=>mE C st r w
 |r::r'::rs,w::u::ws=>match mE C st r w,nA C st (r'::rs) (u::ws) with
  |some (x,i),some (y,j)=>some ((x,y),i.app j)
  |_,_=>none
 |_,_=>none
def kA (st:St):Nat→(l:List PT)→List Arg→Option (jU l×aT)
 |_,[],_=>some ((),{})
 |s,.p t::l,_::as=>match find st.mem (pid s),kA st (s+1) l as with
  |some ⟨0,false,.var _ a⟩,some (r,ids)=>match gC (find st.mem) t a with
   |some (x,i)=>some ((x,r),(aT.mk [pid s] []).app (i.app ids))
   |none=>none
  |_,_=>none
 |s,.m t::l,_::as=>match rowsOf (find st.mem) (pid s) 0 t,kA st (s+1) l as with
  |some (false,xs),some (r,ids)=>some ((xs,r),(aT.mk [pid s] []).app ids)
  |_,_=>none
 |s,.d t::l,.d d::as=>match d.as t with
  |some x0=>match jA (find st.mem) t x0 (od s),kA st (s+1) l as with
   |some (x,i,_),some (r,ids)=>some ((x,r),(aT.mk i []).app ids)
   |_,_=>none
  |none=>none
 |s,.v _::l,_::as|s,.k _::l,_::as|s,.f _ _::l,_::as=>kA st (s+1) l as
 |_,_,_=>none
def finT (C:Cx)(fn:Func)(ps:List PT)(as:List Arg)(ws:List Want)(st:St):Option (k7 ws×jU ps):=
 match nA C st fn.results.toList ws,kA st 0 ps as with
 |some (o,i),some (u,j)=>
  let k:=i.app j
  bif nodup k.own&&cN (fun x=> !(bT (Nat.beq x) k.own)) k.aY then(bif jZ st.ok then some (o,u) else none) else none
 |_,_=>none
def evT (C:Cx)(lt:List (Nat×cE))(fn:Func)(ps:List PT)(ws:List Want)(xs:jf ps):Option (k7 ws×jU ps):=
 match fn.body with
 |none=>none
 |some c=>
  let st:=n7 0 (iY ps xs) ⟨[],[],[]⟩
  bif codeOk fn.ntmps c&&Nat.ble (iY ps xs).length fn.ntmps&&Nat.ble (iY ps xs).length 50&&Nat.ble ws.length 3&&nodup (bu (fun x=>x.1) st.mem) then fX C lt c (fun e st=>match e with
   |.exit _=>none
   |_=>finT C fn ps (iY ps xs) ws st) st else none
structure jW where
 id:FuncId
 ps:List PT
 ws:List Want
 fn:jf ps→Option (k7 ws×jU ps)
 val:jf ps→k7 ws×jU ps
def isSm {α:Type}:Option α→Bool
 |some _=>true
 |none=>false
def jW.res (c:jW)(x:jf c.ps):Res:=⟨o_ c.ws (c.val x).1,kr c.ps (c.val x).2,[isSm (c.fn x)]⟩
def PT.of:(p:PT)→Arg→Option p.den
 |.v t,.v y | .k t,.v y | .p t,.p y | .d t,.d y=>y.as t
 |.m t,.m u xs=>(DV.mk (.own u) xs).as (.own t)
 |.f g t,.f h y=>bif Nat.beq g h then y.as t else none
 |_,_=>none
def oQ:(l:List PT)→List Arg→Option (jf l)
 | [],[]=>some ()
 | [p],[a]=>p.of a
 |p::q::l,a::as=>match p.of a,oQ (q::l) as with
  |some x,some y=>some (x,y)
  |_,_=>none
 |_,_=>none
def jW.entry (c:jW):Nat×List Mode×(List Arg→Option Res):=(c.id,c.ps.map PT.mode,fun as=>(oQ c.ps as).map c.res)
def pL {X Y:Type}(r:X→Option (X⊕Y))(x:X):Prop:=∃y,Comes r x y
noncomputable def pY {X Y:Type} (r:X→Option (X⊕Y)) (x:X):Bool:=@decide (pL r x) (Classical.propDecidable _)
noncomputable def oa {X Y:Type} (r:X→Option (X⊕Y)) (y0:Y) (x:X):Y:=@dite Y (pL r x) (Classical.propDecidable _) (fun h=>Classical.choose h) (fun _=>y0)
noncomputable def nq (sh:Sh) (jJ:fJ) (y0:jJ.den) (r:sh.den→Option (sh.den⊕jJ.den)):cE:=⟨sh,jJ,pY r,oa r y0⟩
def Cells (w:World)(B:Nat)(cs:List Value):Prop:=
 ∃e fr,w.heap[B]?=some (.cells cs.toArray e fr)∧∀j,j<cs.length→¬(fr.1≤j∧j<fr.2)
def Cells.lt {w:World}{B:Nat}{cs:List Value}(h:Cells w B cs):B<w.heap.size:=by
 obtain⟨e,fr,h,_⟩:=h
 exact(Array.getElem?_eq_some_iff.1 h).1
def Cells.cell {w:World}{B:Nat}{cs:List Value}(h:Cells w B cs)(j:Nat):w.cell? ⟨B,j,none⟩=cs[j]? :=by
 obtain⟨e,fr,h,_⟩:=h
 simp[World.cell?,h]
def Cells.frozen {w:World}{B:Nat}{cs:List Value}(h:Cells w B cs){j:Nat}(hj:j<cs.length):w.frozen? ⟨B,j,none⟩=false:=by
 obtain⟨e,fr,h,hf⟩:=h
 have:=hf j hj
 simp only[World.frozen?,h]
 simpa using this
def Cells.of_same {w w':World}{B:Nat}{cs:List Value}(h:Cells w B cs)(hs:w'.heap[B]?=w.heap[B]?):Cells w' B cs:=by
 obtain⟨e,fr,h,hf⟩:=h
 exact⟨e,fr,hs.trans h,hf⟩
def Cells.unique {w:World}{B:Nat}{cs ds:List Value}(h:Cells w B cs)(h':Cells w B ds):cs=ds:=by
 obtain⟨e,fr,h,_⟩:=h
 obtain⟨e',fr',h',_⟩:=h'
 rw[h] at h'
 simp at h'
 exact h'.1
def Cells.alloc (w:World)(cs:Array Value)(e:TypeId)(fr:Nat×Nat:=(0,0))(hfr:∀j,j<cs.size→¬(fr.1≤j∧j<fr.2):=by simp):Cells (w.alloc (.cells cs e fr)) w.heap.size cs.toList:=
 ⟨e,fr,by simpa using heap_alloc_new w _,fun j hj=>hfr j (by simpa using hj)⟩
def xG (w:World)(a:Addr)(v:Value)(k:Nat)(h:k≠a.block):(w.setCell a v).heap[k]?=w.heap[k]? :=by
 simp only[World.setCell,Array.getElem?_modify]
 rw[bY (by omega)]
def Cells.set {w:World}{B:Nat}{cs:List Value}(h:Cells w B cs)(j:Nat)(v:Value):Cells (w.setCell ⟨B,j,none⟩ v) B (cs.set j v):=by
 obtain⟨e,fr,h,hf⟩:=h
 refine⟨e,fr,?_,fun i hi=>hf i (by simpa using hi)⟩
 simp only[World.setCell,Array.getElem?_modify,cj,h]
 simp
def putAt (cs:List Value)(o:Nat)(vs:List Value):List Value:=cs.take o++vs++cs.drop (o+vs.length)
def oY {cs:List Value}{o:Nat}{vs:List Value}(h:o+vs.length≤cs.length):(putAt cs o vs).length=cs.length:=by
 simp only[putAt,cK,zl3,zl4]
 omega
def jt {cs:List Value}{o:Nat}{vs:List Value}(h:o+vs.length≤cs.length)(j:Nat) :
  (putAt cs o vs)[j]?=if o≤j∧j<o+vs.length then vs[j-o]? else cs[j]? :=by
 simp only[putAt,List.getElem?_append,cK,zl3,List.getElem?_take,zl5]
 have:min o cs.length=o:=by omega
 rw[this]
 by_cases h1:j<o
 ·simp[h1,show j<o+vs.length by omega,show ¬o≤j by omega]
 ·by_cases h2:j<o+vs.length
  ·simp[h1,h2,show o≤j by omega]
  ·simp[h2,show o≤j by omega]
   congr 1
   omega
def yI {cs:List Value}{o:Nat}{v:Value}{vs:List Value}(h:o+(v::vs).length≤cs.length) :
  putAt (cs.set o v) (o+1) vs=putAt cs o (v::vs):=by
 apply List.ext_getElem?
 intro j
 rw[jt (by simp at h ⊢;omega),jt h]
 simp only[kF] at h ⊢
 by_cases h1:o+1≤j∧j<o+1+vs.length
 ·rw[bf h1,bf (by omega)]
  have:j-o=(j-(o+1))+1:=by omega
  rw[this]
  simp
 ·rw[bY h1]
  by_cases h2:o=j
  ·subst h2
   rw[bf (by omega)]
   simp[show o<cs.length by omega]
  ·rw[bY (by omega)]
   simp[h2]
def run_storeCells_cells (P:Program)(B o:Nat):∀(vs:List Value) (i:Nat) (cs:List Value) (w:World),Cells w B cs→o+i+vs.length≤cs.length →
  (∀v∈vs,v.oneCell'=true) →
  ∃w',(storeCells ⟨B,o,none⟩ vs i).run P w = .ok () w'∧Cells w' B (putAt cs (o+i) vs)∧(∀k,k≠B→w'.heap[k]?=w.heap[k]?)∧w'.heap.size=w.heap.size ∧
   w'.os=w.os∧w'.tape=w.tape∧w'.output=w.output
 | [],i,cs,w,hc,_,_=>⟨w,rfl,by simpa[putAt] using hc,fun _ _=>rfl,rfl,rfl,rfl,rfl⟩
 |v::rest,i,cs,w,hc,hl,h1=>by
  have hi:o+i<cs.length:=by simp at hl;omega
  have hadd:(⟨B,o,none⟩:Addr).add i=⟨B,o+i,none⟩:=by unfold Addr.add;split<;>simp_all
  have hst:(store ((⟨B,o,none⟩:Addr).add i) v).run P w = .ok () (w.setCell ⟨B,o+i,none⟩ v):=by
   rw[hadd,run_store P w _ v _ (h1 v (by simp)),hc.cell]
   simp[hc.frozen hi,hi]
  obtain⟨w',hr,aM,hk,hs,ho,ht,hu⟩:=run_storeCells_cells P B o rest (i+1) (cs.set (o+i) v) (w.setCell ⟨B,o+i,none⟩ v) (hc.set _ _) (by simp at hl ⊢;omega) (fun x hx=>h1 x (by simp[hx]))
  refine⟨w',?_,?_,fun k hk'=>(hk k hk').trans (xG _ _ _ _ hk'),by simpa using hs,ho,ht,hu⟩
  ·simp only[storeCells,Sem.run_bind,hst,Result.andThen_ok,hr]
  ·have:=yI (cs:=cs) (o:=o+i) (v:=v) (vs:=rest) (by simp at hl ⊢;omega)
   rw[←this,show o+i+1=o+(i+1) by omega]
   exact aM
def qA {P:Program}{w:World}{B o:Nat}{vs:List Value}(h:∀j,j<vs.length→w.cell? ⟨B,o+j,none⟩=vs[j]?) :
  (loadCells ⟨B,o,none⟩ vs.length).run P w = .ok vs.toArray w:=by
 refine run_loadCells_list (P:=P) w _ vs fun j v hv=>?_
 have hj:j<vs.length:=by
  rcases Nat.lt_or_ge j vs.length with h|h
  ·exact h
  ·simp[zl8 h] at hv
 have:(⟨B,o,none⟩:Addr).add j=⟨B,o+j,none⟩:=by unfold Addr.add;split<;>simp_all
 rw[this,h j hj,hv]
def fV {α:Type}(w:World)(B off sz:Nat)(R:α→List Value→Prop)(xs:List α):Prop:=
 ∀(i:Nat) (x:α),xs[i]?=some x→∃cs:List Value,cs.length=sz∧(∀j,j<sz→w.cell? ⟨B,off+i*sz+j,none⟩=cs[j]?)∧R x cs
def aR {α:Type}(R:α→List Value→Prop):List α→List Value→Prop
 | [],vs=>vs = []
 |x::xs,vs=>∃v1 v2,vs=v1++v2∧R x v1∧aR R xs v2
def af (w:World)(I:Nat→Prop):(t:Ty)→t.den→List Value→Prop
 |.unit,_,vs=>vs = []
 |.bool,x,vs=>vs = [.bool x]
 |.int k,x,vs=>vs = [.int k x]
 |.str,x,vs=>vs = [.string ⟨x.toArray⟩]
 |.lst t,xs,vs=>∃a cap,vs = [.slice a xs.length cap]∧xs.length≤cap ∧
  (xs = []∨∃B off,a=some ⟨B,off,none⟩∧I B∧fV w B off t.size (af w I t) xs)
 |.own _,_,_=>False
 |.pair a b,x,vs=>∃v1 v2,vs=v1++v2∧af w I a x.1 v1∧af w I b x.2 v2
 |.arr n t,xs,vs=>xs.length=n∧aR (af w I t) xs vs
 |.ref t,x,vs=>∃B off,vs = [.pointer (some ⟨B,off,none⟩)]∧I B∧0<t.size ∧
  ∃cs:List Value,cs.length=t.size∧(∀j,j<t.size→w.cell? ⟨B,off+j,none⟩=cs[j]?)∧af w I t x cs
def aR.length {α:Type}{R:α→List Value→Prop}{n:Nat}(hR:∀x vs,R x vs→vs.length=n):∀{xs:List α} {vs:List Value},aR R xs vs→vs.length=xs.length*n
 | [],_,h=>by cases h;simp
 |x::xs,vs,⟨v1,v2,h,h1,h2⟩=>by
  subst h
  rw[cK,hR _ _ h1,aR.length hR h2,kF,bP]
  omega
def af.length {w:World}{I:Nat→Prop}: {t:Ty} → {x:t.den} → {vs:List Value}→af w I t x vs→vs.length=t.size
 |.unit,_,_,h=>by simp only[af] at h;simp[h,Ty.size]
 |.bool,_,_,h=>by simp only[af] at h;simp[h,Ty.size]
 |.int _,_,_,h=>by simp only[af] at h;simp[h,Ty.size]
 |.str,_,_,h=>by simp only[af] at h;simp[h,Ty.size]
 |.lst _,_,_,h=>by simp only[af] at h;obtain⟨a,cap,h,_⟩:=h;simp[h,Ty.size]
 |.own _,_,_,h=>by simp only[af] at h
 |.pair a b,_,_,h=>by
  simp only[af] at h
  obtain⟨v1,v2,h,h1,h2⟩:=h
  simp[h,Ty.size,af.length h1,af.length h2]
 |.arr n t,_,_,h=>by
  simp only[af] at h
  rw[aR.length (fun x vs h=>af.length h) h.2,h.1]
  rfl
 |.ref _,_,_,h=>by simp only[af] at h;obtain⟨B,off,h,_⟩:=h;simp[h,Ty.size]
def aR.mono {α:Type}{R R':α→List Value→Prop}(hR:∀x vs,R x vs→R' x vs):∀{xs:List α} {vs:List Value},aR R xs vs→aR R' xs vs
 | [],_,h=>h
 |_::_,_,⟨v1,v2,h,h1,h2⟩=>⟨v1,v2,h,hR _ _ h1,aR.mono hR h2⟩
structure bN (I I':Nat→Prop) (w w':World):Prop where
 sub:∀b,I b→I' b
 same:∀b,I b→w'.heap[b]?=w.heap[b]?
def bN.refl (I:Nat→Prop)(w:World):bN I I w w:=⟨fun _ h=>h,fun _ _=>rfl⟩
def bN.trans {I I' b_:Nat→Prop}{w w' w'':World}(h:bN I I' w w')(k:bN I' b_ w' w''):bN I b_ w w'':=
 ⟨fun b hb=>k.sub b (h.sub b hb),fun b hb=>(k.same b (h.sub b hb)).trans (h.same b hb)⟩
def bN.cell {I I':Nat→Prop}{w w':World}(h:bN I I' w w'){B:Nat}(hB:I B)(o:Nat):w'.cell? ⟨B,o,none⟩=w.cell? ⟨B,o,none⟩:=
 World.cell?_of_block (w:=w) (h.same B hB)
def fV.mono {α:Type}{w w':World}{B off sz:Nat}{R R':α→List Value→Prop}{xs:List α}(h:fV w B off sz R xs)
  (hc:∀o,w'.cell? ⟨B,o,none⟩=w.cell? ⟨B,o,none⟩) (hR:∀x vs,R x vs→R' x vs):fV w' B off sz R' xs:=by
 intro i x hx
 obtain⟨cs,h1,h2,h3⟩:=h i x hx
 exact⟨cs,h1,fun j hj=>(hc _).trans (h2 j hj),hR _ _ h3⟩
def af.mono {w w':World}{I I':Nat→Prop}(ha:bN I I' w w'): {t:Ty} → {x:t.den} → {vs:List Value}→af w I t x vs→af w' I' t x vs
 |.unit,_,_,h=>by simpa only[af] using h
 |.bool,_,_,h=>by simpa only[af] using h
 |.int _,_,_,h=>by simpa only[af] using h
 |.str,_,_,h=>by simpa only[af] using h
 |.lst t,_,_,h=>by
  simp only[af] at h ⊢
  obtain⟨a,cap,h1,h2,h3⟩:=h
  refine⟨a,cap,h1,h2,h3.imp id ?_⟩
  rintro⟨B,off,h4,h5,h6⟩
  exact⟨B,off,h4,ha.sub _ h5,h6.mono (fun o=>ha.cell h5 o) (fun x vs h=>af.mono ha h)⟩
 |.own _,_,_,h=>by simp only[af] at h
 |.pair a b,_,_,h=>by
  simp only[af] at h ⊢
  obtain⟨v1,v2,h,h1,h2⟩:=h
  exact⟨v1,v2,h,af.mono ha h1,af.mono ha h2⟩
 |.arr n t,_,_,h=>by
  simp only[af] at h ⊢
  exact⟨h.1,aR.mono (fun x vs h=>af.mono ha h) h.2⟩
 |.ref t,_,_,h=>by
  simp only[af] at h ⊢
  obtain⟨B,off,h1,h2,h3,cs,h4,h5,h6⟩:=h
  exact⟨B,off,h1,ha.sub _ h2,h3,cs,h4,fun j hj=>(ha.cell h2 _).trans (h5 j hj),af.mono ha h6⟩
def aR.cC {α:Type}{R:α→List Value→Prop}(hR:∀x vs,R x vs→∀v∈vs,v.oneCell'=true):∀{xs:List α} {vs:List Value},aR R xs vs→∀v∈vs,v.oneCell'=true
 | [],_,h,v,hv=>by cases h;simp at hv
 |_::_,_,⟨v1,v2,h,h1,h2⟩,v,hv=>by
  subst h
  rcases bB.1 hv with h|h
  ·exact hR _ _ h1 v h
  ·exact aR.cC hR h2 v h
def af.cC {w:World}{I:Nat→Prop}: {t:Ty} → {x:t.den} → {vs:List Value}→af w I t x vs→∀v∈vs,v.oneCell'=true
 |.unit,_,_,h=>by simp only[af] at h;simp[h]
 |.bool,_,_,h=>by simp only[af] at h;simp[h,Value.oneCell']
 |.int _,_,_,h=>by simp only[af] at h;simp[h,Value.oneCell']
 |.str,_,_,h=>by simp only[af] at h;simp[h,Value.oneCell']
 |.lst _,_,_,h=>by simp only[af] at h;obtain⟨a,cap,h,_⟩:=h;simp[h,Value.oneCell']
 |.own _,_,_,h=>by simp only[af] at h
 |.pair a b,_,_,h=>by
  simp only[af] at h
  obtain⟨v1,v2,h,h1,h2⟩:=h
  subst h
  intro v hv
  rcases bB.1 hv with h|h
  ·exact af.cC h1 v h
  ·exact af.cC h2 v h
 |.arr n t,_,_,h=>by
  simp only[af] at h
  exact aR.cC (fun x vs h=>af.cC h) h.2
 |.ref _,_,_,h=>by simp only[af] at h;obtain⟨B,off,h,_⟩:=h;simp[h,Value.oneCell']
def bF {α:Type}(w:World)(B sz:Nat)(R:α→List Value→List Nat→Prop):Nat→List α→List Nat→Prop
 |_,[],Ds=>Ds = []
 |off,x::xs,Ds=>∃cs D1 D2,Ds=D1++D2∧cs.length=sz∧(∀j,j<sz→w.cell? ⟨B,off+j,none⟩=cs[j]?)∧R x cs D1∧bF w B sz R (off+sz) xs D2
def aq (w:World)(I:Nat→Prop):(t:Ty)→t.den→List Value→List Nat→Prop
 |.lst t,xs,vs,Bs=>∃a cap,vs = [.slice a xs.length cap]∧xs.length≤cap∧((a=none∧cap=0∧Bs = []) ∨
  ∃B o cs Ds,a=some ⟨B,o,none⟩∧Cells w B cs∧o+cap*t.size≤cs.length∧bF w B t.size (aq w I t) o xs Ds∧¬I B∧Bs=B::Ds)
 |.pair a b,x,vs,Bs=>∃v1 v2 B1 B2,vs=v1++v2∧Bs=B1++B2∧aq w I a x.1 v1 B1∧aq w I b x.2 v2 B2
 |.unit,x,vs,Bs=>Bs = []∧af w I .unit x vs
 |.bool,x,vs,Bs=>Bs = []∧af w I .bool x vs
 |.int k,x,vs,Bs=>Bs = []∧af w I (.int k) x vs
 |.str,x,vs,Bs=>Bs = []∧af w I .str x vs
 |.arr n t,x,vs,Bs=>Bs = []∧t.aO=false∧af w I (.arr n t) x vs
 |.own _,_,_,_=>False
 |.ref _,_,_,_=>False
def aq.length {w:World}{I:Nat→Prop}:∀{t:Ty} {x:t.den} {vs:List Value} {Bs:List Nat},aq w I t x vs Bs→vs.length=t.size:=by
 intro t
 induction t with
 |lst t _=>intro x vs Bs h;simp only[aq] at h;obtain⟨a,cap,e,_⟩:=h;simp[e,Ty.size]
 |pair a b aL aK=>
  intro x vs Bs h
  simp only[aq] at h
  obtain⟨v1,v2,B1,B2,e,eb,h1,h2⟩:=h
  simp[e,Ty.size,aL h1,aK h2]
 |arr n t _=>intro x vs Bs h;simp only[aq] at h;exact af.length h.2.2
 |own t _=>intro x vs Bs h;simp only[aq] at h
 |ref t _=>intro x vs Bs h;simp only[aq] at h
 |_=>intro x vs Bs h;simp only[aq] at h;exact af.length h.2
def aq.cC {w:World}{I:Nat→Prop}:∀{t:Ty} {x:t.den} {vs:List Value} {Bs:List Nat},aq w I t x vs Bs→∀v∈vs,v.oneCell'=true:=by
 intro t
 induction t with
 |lst t _=>intro x vs Bs h;simp only[aq] at h;obtain⟨a,cap,e,_⟩:=h;simp[e,Value.oneCell']
 |pair a b aL aK=>
  intro x vs Bs h v hv
  simp only[aq] at h
  obtain⟨v1,v2,B1,B2,e,eb,h1,h2⟩:=h
  subst e
  rcases bB.1 hv with h|h
  ·exact aL h1 v h
  ·exact aK h2 v h
 |arr n t _=>intro x vs Bs h;simp only[aq] at h;exact af.cC h.2.2
 |own t _=>intro x vs Bs h;simp only[aq] at h
 |ref t _=>intro x vs Bs h;simp only[aq] at h
 |_=>intro x vs Bs h;simp only[aq] at h;exact af.cC h.2
def bF.mono {α:Type}{w w':World}{B sz:Nat}{R R':α→List Value→List Nat→Prop}(hc:∀o,w'.cell? ⟨B,o,none⟩=w.cell? ⟨B,o,none⟩) :
  ∀{xs:List α} {off:Nat} {Ds:List Nat},(∀x vs D,(∀B∈D,B∈Ds)→R x vs D→R' x vs D)→bF w B sz R off xs Ds→bF w' B sz R' off xs Ds
 | [],_,_,_,h=>h
 |x::xs,off,Ds,hR,h=>by
  obtain⟨cs,D1,D2,e,h1,h2,h3,h4⟩:=h
  subst e
  exact⟨cs,D1,D2,rfl,h1,fun j hj=>(hc _).trans (h2 j hj),hR _ _ _ (fun B hB=>dX _ hB) h3,
   bF.mono hc (fun x vs D hD=>hR x vs D fun B hB=>dH _ (hD B hB)) h4⟩
def aq.mono {w w':World}{I I':Nat→Prop}(ha:bN I I' w w'):∀{t:Ty} {x:t.den} {vs:List Value} {Bs:List Nat},
  (∀B∈Bs,w'.heap[B]?=w.heap[B]?∧(I' B→I B))→aq w I t x vs Bs→aq w' I' t x vs Bs:=by
 intro t
 induction t with
 |lst t ih=>
  intro x vs Bs hB h
  simp only[aq] at h ⊢
  obtain⟨a,cap,e,hl,h⟩:=h
  refine⟨a,cap,e,hl,h.imp id ?_⟩
  rintro⟨B,o,cs,Ds,h1,h2,h3,h4,h5,h6⟩
  subst h6
  obtain⟨k1,k2⟩:=hB B (by simp)
  exact⟨B,o,cs,Ds,h1,h2.of_same k1,h3,h4.mono (fun o=>World.cell?_of_block (w:=w) k1) (fun x vs D hD h=>ih (fun B' bg=>hB B' (gP _ (hD B' bg))) h),fun h=>h5 (k2 h),rfl⟩
 |pair a b aL aK=>
  intro x vs Bs hB h
  simp only[aq] at h ⊢
  obtain⟨v1,v2,B1,B2,e,eb,h1,h2⟩:=h
  subst eb
  exact⟨v1,v2,B1,B2,e,rfl,aL (fun B hb=>hB B (dX _ hb)) h1,aK (fun B hb=>hB B (dH _ hb)) h2⟩
 |arr n t _=>intro x vs Bs _ h;simp only[aq] at h ⊢;exact⟨h.1,h.2.1,af.mono ha h.2.2⟩
 |own t _=>intro x vs Bs _ h;simp only[aq] at h
 |ref t _=>intro x vs Bs _ h;simp only[aq] at h
 |_=>intro x vs Bs _ h;simp only[aq] at h ⊢;exact⟨h.1,af.mono ha h.2⟩
def bF.at {α:Type}{w:World}{B sz:Nat}{R:α→List Value→List Nat→Prop}{R':α→List Value→Prop} :
  ∀{xs:List α} {off:Nat} {Ds:List Nat},(∀x vs D,(∀B∈D,B∈Ds)→R x vs D→R' x vs)→bF w B sz R off xs Ds→fV w B off sz R' xs
 | [],_,_,_,_=>by intro i x hx;simp at hx
 |x::xs,off,Ds,hR,h=>by
  obtain⟨cs,D1,D2,e,h1,h2,h3,h4⟩:=h
  subst e
  have ih:=bF.at (R':=R') (fun x vs D hD=>hR x vs D fun B hB=>dH _ (hD B hB)) h4
  intro i y hy
  cases i with
  |zero=>simp at hy;subst hy;exact⟨cs,h1,fun j hj=>by simpa using h2 j hj,hR _ _ _ (fun B hB=>dX _ hB) h3⟩
  |succ i=>
   obtain⟨cs',k1,k2,k3⟩:=ih i y (by simpa using hy)
   refine⟨cs',k1,fun j hj=>?_,k3⟩
   have:off+(i+1)*sz+j=off+sz+i*sz+j:=by rw[bP];omega
   rw[this];exact k2 j hj
def aq.lend {w:World}{I I':Nat→Prop}(hI:∀B,I B→I' B):∀{t:Ty} {x:t.den} {vs:List Value} {Bs:List Nat},(∀B∈Bs,I' B)→aq w I t x vs Bs→af w I' t x vs:=by
 intro t
 induction t with
 |lst t ih=>
  intro x vs Bs hB h
  simp only[aq] at h
  simp only[af]
  obtain⟨a,cap,e,hl,h⟩:=h
  refine⟨a,cap,e,hl,?_⟩
  rcases h with⟨h1,h2,h3⟩|⟨B,o,cs,Ds,h1,h2,h3,h4,h5,h6⟩
  ·left;rw[←dM];omega
  ·right
   subst h6
   exact⟨B,o,h1,hB B (by simp),h4.at fun x vs D hD h=>ih (fun B' bg=>hB B' (gP _ (hD B' bg))) h⟩
 |pair a b aL aK=>
  intro x vs Bs hB h
  simp only[aq] at h
  simp only[af]
  obtain⟨v1,v2,B1,B2,e,eb,h1,h2⟩:=h
  subst eb
  exact⟨v1,v2,e,aL (fun B hb=>hB B (dX _ hb)) h1,aK (fun B hb=>hB B (dH _ hb)) h2⟩
 |arr n t _=>intro x vs Bs _ h;simp only[aq] at h;exact af.mono ⟨hI,fun _ _=>rfl⟩ h.2.2
 |own t _=>intro x vs Bs _ h;simp only[aq] at h
 |ref t _=>intro x vs Bs _ h;simp only[aq] at h
 |_=>intro x vs Bs _ h;simp only[aq] at h;exact af.mono ⟨hI,fun _ _=>rfl⟩ h.2
def aq.ga {w:World}{I:Nat→Prop}:∀{t:Ty} {x:t.den} {vs:List Value},t.aO=false→af w I t x vs→aq w I t x vs []:=by
 intro t
 induction t with
 |lst t _=>intro x vs h;simp[Ty.aO] at h
 |ref t _=>intro x vs h;simp[Ty.aO] at h
 |own t _=>intro x vs _ h;simp only[af] at h
 |pair a b aL aK=>
  intro x vs hh h
  simp only[Ty.aO,jD] at hh
  simp only[af] at h
  simp only[aq]
  obtain⟨v1,v2,e,h1,h2⟩:=h
  exact⟨v1,v2,[],[],e,rfl,aL hh.1 h1,aK hh.2 h2⟩
 |arr n t _=>intro x vs hh h;unfold aq;exact⟨rfl,by simpa[Ty.aO] using hh,h⟩
 |_=>intro x vs _ h;unfold aq;exact⟨rfl,h⟩
def aq.rep {w:World}{I:Nat→Prop}:∀{t:Ty} {x:t.den} {vs:List Value} {Bs:List Nat},t.aO=false→aq w I t x vs Bs→af w I t x vs∧Bs = []:=by
 intro t
 induction t with
 |lst t _=>intro x vs Bs h;simp[Ty.aO] at h
 |ref t _=>intro x vs Bs h;simp[Ty.aO] at h
 |own t _=>intro x vs Bs _ h;simp only[aq] at h
 |pair a b aL aK=>
  intro x vs Bs hh h
  simp only[Ty.aO,jD] at hh
  simp only[aq] at h
  obtain⟨v1,v2,B1,B2,e,eb,h1,h2⟩:=h
  obtain⟨k1,k2⟩:=aL hh.1 h1
  obtain⟨k3,k4⟩:=aK hh.2 h2
  refine⟨?_,by rw[eb,k2,k4];rfl⟩
  simp only[af]
  exact⟨v1,v2,e,k1,k3⟩
 |arr n t _=>intro x vs Bs _ h;simp only[aq] at h;exact⟨h.2.2,h.1⟩
 |_=>intro x vs Bs _ h;simp only[aq] at h;exact⟨h.2,h.1⟩
def bF.split {α:Type}{w:World}{B sz:Nat}{R:α→List Value→List Nat→Prop} :
  ∀{xs:List α} {off:Nat} {Ds:List Nat} {i:Nat} {x:α},xs[i]?=some x→bF w B sz R off xs Ds →
  ∃D1 Di D2 cs,Ds=D1++Di++D2∧cs.length=sz∧(∀j,j<sz→w.cell? ⟨B,off+i*sz+j,none⟩=cs[j]?)∧R x cs Di ∧
   ∀(w':World) (R':α→List Value→List Nat→Prop) (y:α) (cs':List Value) (Di':List Nat),
    (∀k,¬(off+i*sz≤k∧k<off+i*sz+sz)→w'.cell? ⟨B,k,none⟩=w.cell? ⟨B,k,none⟩) →
    (∀x vs D,(∀b∈D,b∈D1++D2)→R x vs D→R' x vs D)→cs'.length=sz→(∀j,j<sz→w'.cell? ⟨B,off+i*sz+j,none⟩=cs'[j]?)→R' y cs' Di' →
    bF w' B sz R' off (xs.set i y) (D1++Di'++D2)
 | [],_,_,i,x,hx,_=>by simp at hx
 |z::xs,off,Ds,0,x,hx,h=>by
  simp at hx
  subst hx
  obtain⟨cs,D1,D2,e,h1,h2,h3,h4⟩:=h
  subst e
  refine⟨[],D1,D2,cs,by simp,h1,fun j hj=>by simpa using h2 j hj,h3,fun w' R' y cs' Di' hc hR hl hy hr=>?_⟩
  simp only[zl16,zl17]
  refine⟨cs',Di',D2,rfl,hl,fun j hj=>by simpa using hy j hj,hr,?_⟩
  have rest:∀{xs:List α} {o:Nat} {D:List Nat},off+sz≤o→(∀b∈D,b∈D2)→bF w B sz R o xs D→bF w' B sz R' o xs D:=by
   intro xs
   induction xs with
   |nil=>intro o D _ _ h;exact h
   |cons z xs ih=>
    intro o D ho hD h
    obtain⟨cs,E1,E2,e,k1,k2,k3,k4⟩:=h
    subst e
    refine⟨cs,E1,E2,rfl,k1,fun j hj=>(hc _ (by simp;omega)).trans (k2 j hj),hR _ _ _ (fun b hb=>by simpa using hD b (dX _ hb)) k3,
     ih (by omega) (fun b hb=>hD b (dH _ hb)) k4⟩
  exact rest (bw _) (fun b hb=>hb) h4
 |z::xs,off,Ds,i+1,x,hx,h=>by
  simp at hx
  obtain⟨cs0,E1,E2,e,h1,h2,h3,h4⟩:=h
  subst e
  obtain⟨D1,Di,D2,cs,e,k1,k2,k3,k4⟩:=bF.split hx h4
  have ho:off+(i+1)*sz=off+sz+i*sz:=by rw[bP];omega
  refine⟨E1++D1,Di,D2,cs,by rw[e];simp,k1,fun j hj=>by rw[ho];exact k2 j hj,k3,fun w' R' y cs' Di' hc hR hl hy hr=>?_⟩
  simp only[List.set_cons_succ,bX]
  refine⟨cs0,E1,D1++(Di'++D2),rfl,h1,fun j hj=>(hc _ (by rw[ho];omega)).trans (h2 j hj),hR _ _ _ (fun b hb=>by simp[hb]) h3,?_⟩
  have:=k4 w' R' y cs' Di' (fun k hk=>hc k (by rw[ho];exact hk)) (fun x vs D hD=>hR x vs D fun b hb=>by have:=hD b hb;simp only[bX,bB] at this ⊢;exact .inr this) hl (fun j hj=>by have:=hy j hj;rw[ho] at this;exact this) hr
  simpa using this
def bF.app {α:Type}{w:World}{B sz:Nat}{R:α→List Value→List Nat→Prop} :
  ∀{xs ys:List α} {off:Nat} {D1 D2:List Nat},bF w B sz R off xs D1→bF w B sz R (off+xs.length*sz) ys D2→bF w B sz R off (xs++ys) (D1++D2)
 | [],ys,off,D1,D2,h,k=>by
  simp only[bF] at h
  subst h
  simpa using k
 |x::xs,ys,off,D1,D2,h,k=>by
  obtain⟨cs,E1,E2,e,h1,h2,h3,h4⟩:=h
  subst e
  rw[bX,zl20]
  refine⟨cs,E1,E2++D2,rfl,h1,h2,h3,bF.app h4 ?_⟩
  have:off+(x::xs).length*sz=off+sz+xs.length*sz:=by rw[kF,bP];omega
  rw[this] at k
  exact k
def aq.part {w:World}{I:Nat→Prop}:∀(p:Path) {t u:Ty} {x:t.den} {vs:List Value} {Bs:List Nat},p.pairs=true→t.at p=some u→aq w I t x vs Bs →
  ∃(y:u.den) (pre mid post:List Value) (B1 Bm B2:List Nat),AT.get p (.leaf t x)=some (.leaf u y)∧vs=pre++mid++post∧pre.length=t.off p∧Bs=B1++Bm++B2∧aq w I u y mid Bm ∧
   ∀(w':World) (I':Nat→Prop) (z:u.den) (aP:List Value) (gR:List Nat),bN I I' w w'→(∀B∈B1++B2,w'.heap[B]?=w.heap[B]?∧(I' B→I B))→aq w' I' u z aP gR →
    ∃x',(AT.set p (.leaf t x) (.leaf u z)).bind AT.pure=some ⟨t,x'⟩∧aq w' I' t x' (pre++aP++post) (B1++gR++B2)
 | [],t,u,x,vs,Bs,_,hu,h=>by
  simp only[Ty.at,au] at hu
  subst hu
  refine⟨x,[],vs,[],[],Bs,[],rfl,by simp,rfl,by simp,h,fun w' I' z aP gR _ _ hz=>⟨z,rfl,by simpa using hz⟩⟩
 |.fst::p,t,u,x,vs,Bs,hp,hu,h=>by
  cases t<;>simp only[Ty.at,reduceCtorEq] at hu
  rename_i a b
  simp only[aq] at h
  obtain⟨v1,v2,C1,C2,e,eb,h1,h2⟩:=h
  obtain⟨y,pre,mid,post,B1,Bm,B2,k1,k2,k3,k4,k5,k6⟩:=aq.part p (by simpa[Path.pairs] using hp) hu h1
  subst e k2 eb k4
  refine⟨y,pre,mid,post++v2,B1,Bm,B2++C2,by simpa only[AT.get] using k1,by simp,by simpa only[Ty.off] using k3,by simp,k5,fun w' I' z aP gR ha hB hz=>?_⟩
  obtain⟨x',q1,q2⟩:=k6 w' I' z aP gR ha (fun B hb=>hB B (by simp only[bB] at hb ⊢;rcases hb with hb|hb<;>simp[hb])) hz
  obtain⟨s,q3,q4⟩:=lZ.1 q1
  refine⟨(x',x.2),?_,?_⟩
  ·simp only[AT.set,q3,iZ,pF,AT.pure,q4]
  ·simp only[aq]
   exact⟨pre++aP++post,v2,B1++gR++B2,C2,by simp,by simp,q2,aq.mono ha (fun B hb=>hB B (by simp[hb])) h2⟩
 |.snd::p,t,u,x,vs,Bs,hp,hu,h=>by
  cases t<;>simp only[Ty.at,reduceCtorEq] at hu
  rename_i a b
  simp only[aq] at h
  obtain⟨v1,v2,C1,C2,e,eb,h1,h2⟩:=h
  obtain⟨y,pre,mid,post,B1,Bm,B2,k1,k2,k3,k4,k5,k6⟩:=aq.part p (by simpa[Path.pairs] using hp) hu h2
  subst e k2 eb k4
  refine⟨y,v1++pre,mid,post,C1++B1,Bm,B2,by simpa only[AT.get] using k1,by simp,by simp only[Ty.off,cK,aq.length h1,k3],by simp,k5,fun w' I' z aP gR ha hB hz=>?_⟩
  obtain⟨x',q1,q2⟩:=k6 w' I' z aP gR ha (fun B hb=>hB B (by simp only[bB] at hb ⊢;rcases hb with hb|hb<;>simp[hb])) hz
  obtain⟨s,q3,q4⟩:=lZ.1 q1
  refine⟨(x.1,x'),?_,?_⟩
  ·simp only[AT.set,q3,iZ,pF,AT.pure,q4]
  ·simp only[aq]
   exact⟨v1,pre++aP++post,C1,B1++gR++B2,by simp,by simp,aq.mono ha (fun B hb=>hB B (by simp[hb])) h1,q2⟩
 |.idx _::p,t,u,x,vs,Bs,hp,_,_=>by simp[Path.pairs] at hp
def aq.blk {w:World}{I:Nat→Prop}:∀{t:Ty} {x:t.den} {vs:List Value} {Bs:List Nat},aq w I t x vs Bs→∀B∈Bs,B<w.heap.size∧¬I B:=by
 intro t
 induction t with
 |lst t ih=>
  intro x vs Bs h B hB
  simp only[aq] at h
  obtain⟨a,cap,e,hl,h⟩:=h
  rcases h with⟨_,_,h⟩|⟨B0,o,cs,Ds,h1,h2,h3,h4,h5,h6⟩
  ·subst h;simp at hB
  ·subst h6
   have rows:∀(xs:List t.den) (off:Nat) (Ds:List Nat),bF w B0 t.size (aq w I t) off xs Ds→∀B∈Ds,B<w.heap.size∧¬I B:=by
    intro xs
    induction xs with
    |nil=>intro off Ds h B hB;simp only[bF] at h;subst h;simp at hB
    |cons z xs iD=>
     intro off Ds h B hB
     obtain⟨cs,D1,D2,e,_,_,k3,k4⟩:=h
     subst e
     rcases bB.1 hB with hB|hB
     ·exact ih k3 B hB
     ·exact iD _ _ k4 B hB
   rcases aX.1 hB with e|hB
   ·subst e;exact⟨h2.lt,h5⟩
   ·exact rows _ _ _ h4 B hB
 |pair a b aL aK=>
  intro x vs Bs h B hB
  simp only[aq] at h
  obtain⟨v1,v2,B1,B2,e,eb,h1,h2⟩:=h
  subst eb
  rcases bB.1 hB with hB|hB
  ·exact aL h1 B hB
  ·exact aK h2 B hB
 |own t _=>intro x vs Bs h;simp only[aq] at h
 |ref t _=>intro x vs Bs h;simp only[aq] at h
 |_=>intro x vs Bs h B hB;simp only[aq] at h;rw[h.1] at hB;simp at hB
def bF.blk {w:World}{I:Nat→Prop}{t:Ty}{B0:Nat}:∀{xs:List t.den} {off:Nat} {Ds:List Nat},bF w B0 t.size (aq w I t) off xs Ds→∀B∈Ds,B<w.heap.size∧¬I B
 | [],_,_,h,B,hB=>by simp only[bF] at h;subst h;simp at hB
 |_::_,_,_,h,B,hB=>by
  obtain⟨cs,D1,D2,e,_,_,k3,k4⟩:=h
  subst e
  rcases bB.1 hB with hB|hB
  ·exact aq.blk k3 B hB
  ·exact bF.blk k4 B hB
structure Pl where
 f:Nat→Option (Nat×Nat)
 d:Nat→List Nat
instance:CoeFun Pl (fun _=>Nat→Option (Nat×Nat)):=⟨Pl.f⟩
abbrev MF:=Nat→Option ag
def gF (vs:List Value):Prop:=∃v,vs = [v]∧v.oneCell'=true
def cq (m:MF)(id st:Nat):Prop:=∃b,m id=some b∧st≤b.st
def fU (w:World)(ρ:Pl)(id sz:Nat)(a:Option Addr)(cap:Nat):Prop:=
 (a=none∧cap=0∧ρ id=none)∨∃B o cs,ρ id=some (B,o)∧a=some ⟨B,o,none⟩∧Cells w B cs∧o+cap*sz≤cs.length
def iI (w:World)(ρ:Pl)(id sz off:Nat)(a:Option Addr)(cap:Nat):Prop:=
 (cap=0∨∃B o cs,ρ id=some (B,o)∧a=some ⟨B,o+off*sz,none⟩∧Cells w B cs∧o+off*sz+cap*sz≤cs.length)∧(off=0→fU w ρ id sz a cap)
def fU.weak {w:World}{ρ:Pl}{id sz:Nat}{a:Option Addr}{cap:Nat}(h:fU w ρ id sz a cap):iI w ρ id sz 0 a cap:=by
 refine⟨?_,fun _=>h⟩
 rcases h with h|⟨B,o,cs,h1,h2,h3,h4⟩
 ·exact .inl h.2.1
 ·exact .inr ⟨B,o,cs,h1,by simpa using h2,h3,by simpa using h4⟩
def ef:Path→Ty→Prop
 | [],_=>True
 |.fst::p,.pair a _=>ef p a
 |.snd::p,.pair _ b=>ef p b
 |.idx i::p,.arr n t=>i<n∧ef p t
 |_::_,_=>False
def aa (w:World)(I:Nat→Prop)(m:MF)(ρ:Pl):AT→List Value→Prop
 |.leaf t x,vs=>af w I t x vs
 |.whole id st _,vs=>gF vs∧cq m id st∧∀b,m id=some b→b.st=st→∀u n,b.c.arr=some (u,n) →
  ∃a cap,vs = [.slice a n cap]∧n≤cap∧fU w ρ id u.size a cap
 |.piece id st off len _,vs=>gF vs∧cq m id st∧∀b,m id=some b→b.st=st→∀u n,b.c.arr=some (u,n) →
  ∃a cap,vs = [.slice a len cap]∧len≤cap∧(off+len≤n∧n≤off+cap)∧iI w ρ id u.size off a cap
 |.nil _,vs=>vs = [.slice none 0 0]
 |.cW,vs=>vs = [.slice none 0 0]
 |.pair l r,vs=>∃v1 v2,vs=v1++v2∧aa w I m ρ l v1∧aa w I m ρ r v2
 |.undef n,vs=>vs.length=n∧∀v∈vs,v.oneCell'=true
 |.aV id st p,vs=>gF vs∧cq m id st∧∀b,m id=some b→b.st=st→∀t a,b.c = .var t a →
  ef p t∧∃B,ρ id=some (B,0)∧vs = [.pointer (some ⟨B,t.off p,none⟩)]
 |.ptr id st row p,vs=>gF vs∧cq m id st∧∀b,m id=some b→b.st=st→∀t n,b.c.arr=some (t,n) →
  ef p t∧row<n∧∃B o,ρ id=some (B,o)∧vs = [.pointer (some ⟨B,o+row*t.size+t.off p,none⟩)]
 |.nest id st rs row p u,vs=>vs.length=u.size∧(∀v∈vs,v.oneCell'=true)∧cq m id st∧∀b,m id=some b→b.st=st→∀r t xs,b.c = .deep r t xs→rs≤r∧(r=rs →
  t.at p=some u∧p.pairs=true∧row<xs.length∧∃B o,ρ id=some (B,o)∧∀j,j<u.size→w.cell? ⟨B,o+row*t.size+t.off p+j,none⟩=vs[j]?)
 |.fn f c,vs=>∃caps:Array Value,vs = [.func (.func f) #[] caps]∧aa w I m ρ c caps.toList
 |.bL l r,vs=>∃v vs',vs=v::vs'∧aa w I m ρ l [v]∧aa w I m ρ r vs'
 |.cJ,vs=>vs = []
 |.bM _ _,_=>False
 |.any,_=>False
def aB (w:World)(I:Nat→Prop)(m:MF)(ρ:Pl)(a:AT)(v:Value):Prop:=
 if a.isAgg then ∃arr,v = .agg arr∧aa w I m ρ a arr.toList else aa w I m ρ a [v]
def de (w:World)(I:Nat→Prop)(m:MF)(ρ:Pl):AT→List Value→Prop
 |.bL l r,vs=>∃v vs',vs=v::vs'∧aB w I m ρ l v∧de w I m ρ r vs'
 |.cJ,vs=>vs = []
 |_,_=>False
def az (w:World)(I:Nat→Prop)(m:MF)(ρ:Pl)(a:AT)(v:Value):Prop:=
 match a with
 |.bL l r=>∃arr,v = .tuple arr∧de w I m ρ (.bL l r) arr.toList
 |.cJ=>v = .tuple #[]
 |.any=>True
 |.bM _ _=>True
 |a=>aB w I m ρ a v
def fc (tmps:Array Value)(T:eY):Prop:=∀t∈T,tmps.getD t.1 Go.undef = .bool t.2
def ir (w:World)(I:Nat→Prop)(m:MF)(ρ:Pl)(tmps:Array Value)(a:AT)(v:Value):Prop:=
 match a with
 |.bM T b=>(fc tmps T→az w I m ρ b v)∧(¬fc tmps T→v=Go.undef)
 |a=>az w I m ρ a v
def Typed:AT→Ty→Prop
 |.leaf t _,u=>t=u
 |.whole _ _ t,u=>u = .lst t
 |.piece _ _ _ _ t,u=>u = .lst t
 |.nil t,u=>u = .lst t
 |.pair l r,u=>∃a b,u = .pair a b∧Typed l a∧Typed r b
 |.undef n,u=>u.size=n∧u.isAgg=false
 |.nest _ _ _ _ _ t,u=>t=u
 |_,_=>False
def aS (w:World)(I:Nat→Prop)(m:MF)(ρ:Pl)(id:Nat)(b:ag):Prop:=
 match b.c with
 |.dead=>True
 |.var t a=>Typed a t∧∃B cs,ρ id=some (B,0)∧Cells w B cs∧aa w I m ρ a cs∧(b.fz=true↔I B)
 |.rows t xs=>True∧((xs = []∧ρ id=none) ∨
  ∃B o cs,ρ id=some (B,o)∧Cells w B cs∧o+xs.length*t.size≤cs.length∧fV w B o t.size (af w I t) xs∧(b.fz=true↔I B))
 |.deep _ t xs=>b.fz=false∧((xs = []∧ρ id=none∧ρ.d id = []) ∨
  ∃B o cs,ρ id=some (B,o)∧Cells w B cs∧o+xs.length*t.size≤cs.length∧bF w B t.size (aq w I t) o xs (ρ.d id)∧¬I B)
def ag.bH (b:ag):Prop:=match b.c with | .deep _ _ _=>True|_=>False
def ag.live (b:ag):Prop:=match b.c with | .dead=>False|_=>True
structure jG where
 ok:World→(Nat→Prop)→Prop
 mono:∀{w w':World} {I I':Nat→Prop},bN I I' w w'→ok w I→ok w' I'
def jG.none:jG:=⟨fun _ _=>True,fun _ _=>trivial⟩
structure Fix where
 w0:World
 I0:Nat→Prop
 X0:Nat→Prop
 G:jG
structure aD (F:Fix) (m:MF) (w:World) (I:Nat→Prop) (ρ:Pl):Prop where
 blk:∀id b,m id=some b→aS w I m ρ id b
 inj:∀id id' b b' B o o',m id=some b→m id'=some b'→b.live→b'.live→ρ id=some (B,o)→ρ id'=some (B,o')→id=id'
 aY:∀B,I B→B<w.heap.size
 iE:∀B,F.I0 B→I B
 gZ:∀B,I B→F.I0 B∨F.w0.heap.size≤B∨F.X0 B
 mine:∀id b B o,m id=some b→b.live→ρ id=some (B,o)→F.w0.heap.size≤B∨F.X0 B
 dp:∀id b,m id=some b→b.bH→(ρ.d id).Nodup∧∀B∈ρ.d id,(F.w0.heap.size≤B∨F.X0 B)∧(∀id' b' o,m id'=some b'→b'.live→ρ id'≠some (B,o)) ∧
  ∀id' b',m id'=some b'→b'.bH→B∈ρ.d id'→id'=id
 frame:∀B,B<F.w0.heap.size→¬F.X0 B→w.heap[B]?=F.w0.heap[B]?
 size:F.w0.heap.size≤w.heap.size
 os:w.os=F.w0.os
 tape:w.tape=F.w0.tape
 output:w.output=F.w0.output
 fY:F.G.ok w I
def bJ:BC→BC→Prop
 |.var t _,.var u _=>t=u
 |.rows t xs,.rows u ys=>t=u∧xs.length=ys.length
 |.deep rs t xs,.deep rs' u ys=>rs≤rs'∧t=u∧xs.length=ys.length
 |.dead,.dead=>True
 |_,_=>False
structure dc (m m':MF) (ρ ρ':Pl) (w w':World):Prop where
 keep:∀id b,m id=some b→∃b',m' id=some b'∧(b.st<b'.st∨(b.st=b'.st∧bJ b.c b'.c∧ρ' id=ρ id ∧
  (b.live→∀B o,ρ id=some (B,o)→∀cs,Cells w B cs→∃cs',Cells w' B cs'∧cs.length≤cs'.length)))
 nest:∀id b b' rs t u xs ys,m id=some b→m' id=some b'→b.st=b'.st→b.c = .deep rs t xs→b'.c = .deep rs u ys→∀B o,ρ id=some (B,o)→w'.heap[B]?=w.heap[B]?
def uJ {b:ag}{x:Ty×Nat}(h:b.c.arr=some x):b.live:=by
 unfold ag.live;cases hc:b.c<;>simp_all [BC.arr]
def bJ.arr {c c':BC}(h:bJ c c'):c.arr=c'.arr:=by
 cases c<;>cases c'<;>simp_all [bJ,BC.arr]
def cq.mono {m m':MF}{ρ ρ':Pl}{w w':World}(hk:dc m m' ρ ρ' w w'){id st:Nat}(h:cq m id st):cq m' id st:=by
 obtain⟨b,hb,hs⟩:=h
 obtain⟨b',hb',h⟩:=hk.keep id b hb
 exact⟨b',hb',by rcases h with h|h<;>omega⟩
def dc.back {m m':MF}{ρ ρ':Pl}{w w':World}(hk:dc m m' ρ ρ' w w'){id st:Nat}(h:cq m id st){b':ag}(hb':m' id=some b')(hs:b'.st=st) :
  ∃b,m id=some b∧b.st=st∧bJ b.c b'.c∧ρ' id=ρ id∧(b.live→∀B o,ρ id=some (B,o)→∀cs,Cells w B cs→∃cs',Cells w' B cs'∧cs.length≤cs'.length):=by
 obtain⟨b,hb,hle⟩:=h
 obtain⟨b'',me,h⟩:=hk.keep id b hb
 rw[hb'] at me
 cases me
 rcases h with h|⟨h1,h2,h3,h4⟩
 ·omega
 ·exact⟨b,hb,by omega,h2,h3,h4⟩
def fU.mono {w w':World}{ρ ρ':Pl}{id sz:Nat}{a:Option Addr}{cap:Nat}(h:fU w ρ id sz a cap)(hρ:ρ' id=ρ id)
  (hc:∀B o,ρ id=some (B,o)→∀cs,Cells w B cs→∃cs',Cells w' B cs'∧cs.length≤cs'.length):fU w' ρ' id sz a cap:=by
 rcases h with h|⟨B,o,cs,h1,h2,h3,h4⟩
 ·exact .inl ⟨h.1,h.2.1,hρ.trans h.2.2⟩
 ·obtain⟨cs',h5,h6⟩:=hc B o h1 cs h3
  exact .inr ⟨B,o,cs',hρ.trans h1,h2,h5,by omega⟩
def iI.mono {w w':World}{ρ ρ':Pl}{id sz off:Nat}{a:Option Addr}{cap:Nat}(h:iI w ρ id sz off a cap)(hρ:ρ' id=ρ id)
  (hc:∀B o,ρ id=some (B,o)→∀cs,Cells w B cs→∃cs',Cells w' B cs'∧cs.length≤cs'.length):iI w' ρ' id sz off a cap:=by
 refine⟨?_,fun h0=>(h.2 h0).mono hρ hc⟩
 rcases h.1 with h|⟨B,o,cs,h1,h2,h3,h4⟩
 ·exact .inl h
 ·obtain⟨cs',h5,h6⟩:=hc B o h1 cs h3
  exact .inr ⟨B,o,cs',hρ.trans h1,h2,h5,by omega⟩
def aa.mono {w w':World}{I I':Nat→Prop}{m m':MF}{ρ ρ':Pl}(ha:bN I I' w w')(hk:dc m m' ρ ρ' w w') :
  ∀{a:AT} {vs:List Value},aa w I m ρ a vs→aa w' I' m' ρ' a vs:=by
 intro a
 induction a with
 |leaf t x=>intro vs h;exact af.mono ha h
 |whole id st t=>
  intro vs h
  simp only[aa] at h ⊢
  obtain⟨h1,h2,h3⟩:=h
  refine⟨h1,h2.mono hk,fun b' hb' hs u n hc=>?_⟩
  obtain⟨b,hb,hs',hsh,hρ,hcs⟩:=hk.back h2 hb' hs
  rw[←hsh.arr] at hc
  obtain⟨a,cap,e1,e2,e3⟩:=h3 b hb hs' u n hc
  exact⟨a,cap,e1,e2,e3.mono hρ (hcs (uJ hc))⟩
 |piece id st off len t=>
  intro vs h
  simp only[aa] at h ⊢
  obtain⟨h1,h2,h3⟩:=h
  refine⟨h1,h2.mono hk,fun b' hb' hs u n hc=>?_⟩
  obtain⟨b,hb,hs',hsh,hρ,hcs⟩:=hk.back h2 hb' hs
  rw[←hsh.arr] at hc
  obtain⟨a,cap,e1,e2,e3,e4⟩:=h3 b hb hs' u n hc
  exact⟨a,cap,e1,e2,e3,e4.mono hρ (hcs (uJ hc))⟩
 |nil t=>intro vs h;simpa only[aa] using h
 |cW=>intro vs h;simpa only[aa] using h
 |pair l r ihl ihr=>
  intro vs h
  simp only[aa] at h ⊢
  obtain⟨v1,v2,e,h1,h2⟩:=h
  exact⟨v1,v2,e,ihl h1,ihr h2⟩
 |undef n=>intro vs h;simpa only[aa] using h
 |aV id st p=>
  intro vs h
  simp only[aa] at h ⊢
  obtain⟨h1,h2,h3⟩:=h
  refine⟨h1,h2.mono hk,fun b' hb' hs t a hc=>?_⟩
  obtain⟨b,hb,hs',hsh,hρ,hcs⟩:=hk.back h2 hb' hs
  cases hbc:b.c with
  |var t' a'=>
   simp only[hbc,hc,bJ] at hsh
   obtain⟨e0,B,e1,e2⟩:=h3 b hb hs' t' a' hbc
   subst hsh
   exact⟨e0,B,hρ.trans e1,e2⟩
  |rows _ _=>simp[hbc,hc,bJ] at hsh
  |deep _ _ _=>simp[hbc,hc,bJ] at hsh
  |dead=>simp[hbc,hc,bJ] at hsh
 |ptr id st row p=>
  intro vs h
  simp only[aa] at h ⊢
  obtain⟨h1,h2,h3⟩:=h
  refine⟨h1,h2.mono hk,fun b' hb' hs t n hc=>?_⟩
  obtain⟨b,hb,hs',hsh,hρ,hcs⟩:=hk.back h2 hb' hs
  rw[←hsh.arr] at hc
  obtain⟨ep,e0,B,o,e1,e2⟩:=h3 b hb hs' t n hc
  exact⟨ep,e0,B,o,hρ.trans e1,e2⟩
 |nest id st rs row p u=>
  intro vs h
  simp only[aa] at h ⊢
  obtain⟨h1,h10,h2,h3⟩:=h
  refine⟨h1,h10,h2.mono hk,fun b' hb' hs r t xs hc=>?_⟩
  obtain⟨b,hb,hs',hsh,hρ,hcs⟩:=hk.back h2 hb' hs
  cases hbc:b.c with
  |deep r0 t0 ys=>
   simp only[hbc,hc,bJ] at hsh
   obtain⟨g1,g2,g3⟩:=hsh
   subst g2
   obtain⟨k1,k2⟩:=h3 b hb hs' r0 t0 ys hbc
   refine⟨by omega,fun hr=>?_⟩
   have hr0:r0=rs:=by omega
   obtain⟨q1,q2,q3,B,o,q4,q5⟩:=k2 hr0
   have hsame:=hk.nest id b b' r0 t0 t0 ys xs hb hb' (by omega) hbc (by rw[hc,hr,hr0]) B o q4
   exact⟨q1,q2,by omega,B,o,hρ.trans q4,fun j hj=>(World.cell?_of_block (w:=w) hsame).trans (q5 j hj)⟩
  |var _ _=>simp[hbc,hc,bJ] at hsh
  |rows _ _=>simp[hbc,hc,bJ] at hsh
  |dead=>simp[hbc,hc,bJ] at hsh
 |fn f c ih=>
  intro vs h
  simp only[aa] at h ⊢
  obtain⟨caps,e,h⟩:=h
  exact⟨caps,e,ih h⟩
 |bL l r ihl ihr=>
  intro vs h
  simp only[aa] at h ⊢
  obtain⟨v,vs',e,h1,h2⟩:=h
  exact⟨v,vs',e,ihl h1,ihr h2⟩
 |cJ=>intro vs h;simpa only[aa] using h
 |bM T a ih=>intro vs h;simp only[aa] at h
 |any=>intro vs h;simp only[aa] at h
def aB.mono {w w':World}{I I':Nat→Prop}{m m':MF}{ρ ρ':Pl}(ha:bN I I' w w')(hk:dc m m' ρ ρ' w w'){a:AT}{v:Value}(h:aB w I m ρ a v):aB w' I' m' ρ' a v:=by
 unfold aB at *
 split
 ·rename_i hh
  rw[bf hh] at h
  obtain⟨arr,e,h⟩:=h
  exact⟨arr,e,h.mono ha hk⟩
 ·rename_i hh
  rw[bY hh] at h
  exact h.mono ha hk
def de.mono {w w':World}{I I':Nat→Prop}{m m':MF}{ρ ρ':Pl}(ha:bN I I' w w')(hk:dc m m' ρ ρ' w w') :
  ∀{a:AT} {vs:List Value},de w I m ρ a vs→de w' I' m' ρ' a vs
 |.bL l r,vs,h=>by
  simp only[de] at h ⊢
  obtain⟨v,vs',e,h1,h2⟩:=h
  exact⟨v,vs',e,h1.mono ha hk,h2.mono ha hk⟩
 |.cJ,_,h=>by simpa only[de] using h
 |.leaf _ _,_,h | .whole _ _ _,_,h | .piece _ _ _ _ _,_,h | .nil _,_,h | .cW,_,h | .pair _ _,_,h | .undef _,_,h | .aV _ _ _,_,h | .ptr _ _ _ _,_,h
 |.fn _ _,_,h | .bM _ _,_,h | .any,_,h=>by simp only[de] at h
def az.mono {w w':World}{I I':Nat→Prop}{m m':MF}{ρ ρ':Pl}(ha:bN I I' w w')(hk:dc m m' ρ ρ' w w'){a:AT}{v:Value}(h:az w I m ρ a v):az w' I' m' ρ' a v:=by
 unfold az at *
 split
 ·obtain⟨arr,e,h⟩:=h
  exact⟨arr,e,h.mono ha hk⟩
 ·exact h
 ·trivial
 ·trivial
 ·rename_i h1 h2 h3 h4
  cases a<;>first|exact absurd rfl (h1 _ _)|exact absurd rfl h2|exact absurd rfl h3|exact absurd rfl (h4 _ _)|exact aB.mono ha hk h
def ir.mono {w w':World}{I I':Nat→Prop}{m m':MF}{ρ ρ':Pl}(ha:bN I I' w w')(hk:dc m m' ρ ρ' w w'){tmps:Array Value}{a:AT}{v:Value}(h:ir w I m ρ tmps a v):ir w' I' m' ρ' tmps a v:=by
 cases a with
 |bM T b=>exact⟨fun ht=>(h.1 ht).mono ha hk,h.2⟩
 |_=>simp only[ir] at h ⊢;exact h.mono ha hk
def aR.split {α:Type}{R:α→List Value→Prop}{n:Nat}(hR:∀x vs,R x vs→vs.length=n):∀{xs:List α} {vs:List Value} {i:Nat} {x:α},aR R xs vs→xs[i]?=some x →
  ∃pre mid post,vs=pre++mid++post∧pre.length=i*n∧R x mid∧∀y aP,R y aP→aR R (xs.set i y) (pre++aP++post)
 | [],_,_,_,_,hx=>by simp at hx
 |z::xs,vs,0,x,⟨v1,v2,h,h1,h2⟩,hx=>by
  simp at hx
  subst hx
  exact⟨[],v1,v2,by simpa using h,by simp,h1,fun y aP hy=>⟨aP,v2,by simp,hy,h2⟩⟩
 |z::xs,vs,i+1,x,⟨v1,v2,h,h1,h2⟩,hx=>by
  simp at hx
  obtain⟨pre,mid,post,e1,e2,e3,e4⟩:=aR.split hR h2 hx
  refine⟨v1++pre,mid,post,by rw[h,e1];simp,by rw[cK,hR _ _ h1,e2,bP];omega,e3,fun y aP hy=>?_⟩
  exact⟨v1,pre++aP++post,by simp,h1,e4 y aP hy⟩
def gF.length {vs:List Value}(h:gF vs):vs.length=1:=by obtain⟨v,rfl,_⟩:=h;rfl
section
variable {w:World} {I:Nat→Prop} {m:MF} {ρ:Pl}
def Typed.length:∀{a:AT} {t:Ty} {vs:List Value},Typed a t→aa w I m ρ a vs→vs.length=t.size:=by
 intro a
 induction a with
 |leaf u x=>intro t vs ht h;simp only[Typed] at ht;subst ht;exact af.length h
 |whole id st u=>intro t vs ht h;simp only[Typed] at ht;subst ht;simp only[aa] at h;simpa[Ty.size] using h.1.length
 |piece id st off len u=>intro t vs ht h;simp only[Typed] at ht;subst ht;simp only[aa] at h;simpa[Ty.size] using h.1.length
 |nil u=>intro t vs ht h;simp only[Typed] at ht;subst ht;simp only[aa] at h;subst h;rfl
 |pair l r ihl ihr=>
  intro t vs ht h
  simp only[Typed] at ht
  obtain⟨a,b,rfl,h1,h2⟩:=ht
  simp only[aa] at h
  obtain⟨v1,v2,rfl,h3,h4⟩:=h
  simp[Ty.size,ihl h1 h3,ihr h2 h4]
 |undef n=>intro t vs ht h;simp only[Typed] at ht;simp only[aa] at h;omega
 |nest _ _ _ _ _ _=>intro t vs ht h;simp only[Typed] at ht;subst ht;simp only[aa] at h;exact h.1
 |cW=>intro t vs ht h;simp only[Typed] at ht
 |aV _ _ _=>intro t vs ht h;simp only[Typed] at ht
 |ptr _ _ _ _=>intro t vs ht h;simp only[Typed] at ht
 |fn _ _=>intro t vs ht h;simp only[Typed] at ht
 |bL _ _=>intro t vs ht h;simp only[Typed] at ht
 |cJ=>intro t vs ht h;simp only[Typed] at ht
 |bM _ _=>intro t vs ht h;simp only[Typed] at ht
 |any=>intro t vs ht h;simp only[Typed] at ht
def aa.cC:∀{a:AT} {t:Ty} {vs:List Value},Typed a t→aa w I m ρ a vs→∀v∈vs,v.oneCell'=true:=by
 intro a
 induction a with
 |leaf u x=>intro t vs _ h;exact af.cC h
 |whole id st u=>intro t vs _ h;simp only[aa] at h;obtain⟨⟨v,rfl,hv⟩,_⟩:=h;simpa using hv
 |piece id st off len u=>intro t vs _ h;simp only[aa] at h;obtain⟨⟨v,rfl,hv⟩,_⟩:=h;simpa using hv
 |nil u=>intro t vs _ h;simp only[aa] at h;subst h;simp[Value.oneCell']
 |pair l r ihl ihr=>
  intro t vs ht h
  simp only[Typed] at ht
  obtain⟨a,b,rfl,h1,h2⟩:=ht
  simp only[aa] at h
  obtain⟨v1,v2,rfl,h3,h4⟩:=h
  intro v hv
  rcases bB.1 hv with h|h
  ·exact ihl h1 h3 v h
  ·exact ihr h2 h4 v h
 |undef n=>intro t vs _ h;simp only[aa] at h;exact h.2
 |nest _ _ _ _ _ _=>intro t vs _ h;simp only[aa] at h;exact h.2.1
 |cW=>intro t vs ht h;simp only[Typed] at ht
 |aV _ _ _=>intro t vs ht h;simp only[Typed] at ht
 |ptr _ _ _ _=>intro t vs ht h;simp only[Typed] at ht
 |fn _ _=>intro t vs ht h;simp only[Typed] at ht
 |bL _ _=>intro t vs ht h;simp only[Typed] at ht
 |cJ=>intro t vs ht h;simp only[Typed] at ht
 |bM _ _=>intro t vs ht h;simp only[Typed] at ht
 |any=>intro t vs ht h;simp only[Typed] at ht
def Typed.isAgg {a:AT}{t:Ty}(h:Typed a t):a.isAgg=t.isAgg:=by
 cases a<;>simp only[Typed] at h<;>first
  | (subst h;rfl)
  | (obtain⟨_,_,rfl,_⟩:=h;rfl)
  | (simp[AT.isAgg,h.2])
  |exact h.elim
def DV.cz {d:DV}{t:Ty}{x:t.den}(h:d.as t=some x):∃e:d.t=t,e▸d.x=x:=by
 unfold DV.as at h
 split at h
 ·rename_i e
  exact⟨e,by simpa using h⟩
 ·simp at h
def oX:∀{a:AT} {d:DV} {vs:List Value},a.pure=some d→aa w I m ρ a vs→af w I d.t d.x vs:=by
 intro a
 induction a with
 |leaf t x=>intro d vs h hr;simp only[AT.pure,au] at h;subst h;exact hr
 |nil t=>
  intro d vs h hr
  simp only[AT.pure,au] at h
  subst h
  simp only[aa] at hr
  subst hr
  simp only[af]
  exact⟨none,0,rfl,by simp,.inl trivial⟩
 |pair l r ihl ihr=>
  intro d vs h hr
  simp only[AT.pure] at h
  split at h
  ·rename_i x y hx hy
   simp only[au] at h
   subst h
   simp only[aa] at hr
   obtain⟨v1,v2,rfl,h1,h2⟩:=hr
   simp only[af]
   exact⟨v1,v2,rfl,ihl hx h1,ihr hy h2⟩
  ·simp at h
 |_=>intro d vs h hr;simp[AT.pure] at h
def j6:∀(p:Path) {a b:AT} {t u:Ty} {vs:List Value},Typed a t→aa w I m ρ a vs→ef p t→a.get p=some b→t.at p=some u →
  Typed b u∧∃pre mid post,vs=pre++mid++post∧pre.length=t.off p∧mid.length=u.size∧aa w I m ρ b mid
 | [],a,b,t,u,vs,ht,h,_,hg,hu=>by
  simp only[AT.get,au] at hg
  simp only[Ty.at,au] at hu
  subst hg hu
  exact⟨ht,[],vs,[],by simp,by simp[Ty.off],ht.length h,h⟩
 |.fst::p,a,b,t,u,vs,ht,h,hp,hg,hu=>by
  cases a<;>try (simp[AT.get] at hg;done)
  case pair l r=>
   simp only[Typed] at ht
   obtain⟨ta,tb,rfl,h1,h2⟩:=ht
   simp only[aa] at h
   obtain⟨v1,v2,rfl,h3,h4⟩:=h
   simp only[AT.get] at hg
   simp only[Ty.at] at hu
   obtain⟨e0,pre,mid,post,e1,e2,e3,e4⟩:=j6 p h1 h3 hp hg hu
   exact⟨e0,pre,mid,post++v2,by rw[e1];simp,by simpa[Ty.off] using e2,e3,e4⟩
  case leaf s x=>
   simp only[Typed] at ht
   subst ht
   cases s<;>try (simp[AT.get] at hg;done)
   simp only[aa,af] at h
   obtain⟨v1,v2,rfl,h3,h4⟩:=h
   simp only[AT.get] at hg
   simp only[Ty.at] at hu
   obtain⟨e0,pre,mid,post,e1,e2,e3,e4⟩:=j6 p (a:=.leaf _ x.1) rfl h3 hp hg hu
   exact⟨e0,pre,mid,post++v2,by rw[e1];simp,by simpa[Ty.off] using e2,e3,e4⟩
 |.snd::p,a,b,t,u,vs,ht,h,hp,hg,hu=>by
  cases a<;>try (simp[AT.get] at hg;done)
  case pair l r=>
   simp only[Typed] at ht
   obtain⟨ta,tb,rfl,h1,h2⟩:=ht
   simp only[aa] at h
   obtain⟨v1,v2,rfl,h3,h4⟩:=h
   simp only[AT.get] at hg
   simp only[Ty.at] at hu
   obtain⟨e0,pre,mid,post,e1,e2,e3,e4⟩:=j6 p h2 h4 hp hg hu
   exact⟨e0,v1++pre,mid,post,by rw[e1];simp,by simp[Ty.off,h1.length h3,e2],e3,e4⟩
  case leaf s x=>
   simp only[Typed] at ht
   subst ht
   cases s<;>try (simp[AT.get] at hg;done)
   simp only[aa,af] at h
   obtain⟨v1,v2,rfl,h3,h4⟩:=h
   simp only[AT.get] at hg
   simp only[Ty.at] at hu
   obtain⟨e0,pre,mid,post,e1,e2,e3,e4⟩:=j6 p (a:=.leaf _ x.2) rfl h4 hp hg hu
   exact⟨e0,v1++pre,mid,post,by rw[e1];simp,by simp[Ty.off,af.length h3,e2],e3,e4⟩
 |.idx i::p,a,b,t,u,vs,ht,h,hp,hg,hu=>by
  cases a<;>try (simp[AT.get] at hg;done)
  case leaf s xs=>
   simp only[Typed] at ht
   subst ht
   cases s<;>try (simp[AT.get] at hg;done)
   rename_i n s
   simp only[aa,af] at h
   obtain⟨hn,h⟩:=h
   simp only[AT.get] at hg
   simp only[Ty.at] at hu
   obtain⟨hi,hp⟩:=hp
   have hx:xs[i]?=some (xs.getD i s.dflt):=by
    rw[nO]
    rw[pG (by omega)]
    rfl
   obtain⟨pre0,mid0,sG,e1,e2,e3,_⟩:=aR.split (fun x vs h=>af.length h) h hx
   obtain⟨f0,pre,mid,post,f1,f2,f3,f4⟩:=j6 p (a:=.leaf s (xs.getD i s.dflt)) rfl e3 hp hg hu
   exact⟨f0,pre0++pre,mid,post++sG,by rw[e1,f1];simp,by simp[Ty.off,e2,f2],f3,f4⟩
def lU:∀(p:Path) {a a' v:AT} {t u:Ty} {vs aP:List Value},Typed a t→aa w I m ρ a vs→ef p t→AT.set p a v=some a'→t.at p=some u→Typed v u→aa w I m ρ v aP →
  Typed a' t∧∃pre mid post,vs=pre++mid++post∧pre.length=t.off p∧mid.length=u.size∧aa w I m ρ a' (pre++aP++post)
 | [],a,a',v,t,u,vs,aP,ht,h,_,hg,hu,hv,hm=>by
  simp only[AT.set,au] at hg
  simp only[Ty.at,au] at hu
  subst hg hu
  exact⟨hv,[],vs,[],by simp,by simp[Ty.off],ht.length h,by simpa using hm⟩
 |.fst::p,a,a',v,t,u,vs,aP,ht,h,hp,hg,hu,hv,hm=>by
  cases a<;>try (simp[AT.set] at hg;done)
  case pair l r=>
   simp only[Typed] at ht
   obtain⟨ta,tb,rfl,h1,h2⟩:=ht
   simp only[aa] at h
   obtain⟨v1,v2,rfl,h3,h4⟩:=h
   simp only[AT.set,bE] at hg
   obtain⟨l',hl,rfl⟩:=hg
   simp only[Ty.at] at hu
   obtain⟨e0,pre,mid,post,e1,e2,e3,e4⟩:=lU p h1 h3 hp hl hu hv hm
   refine⟨⟨ta,tb,rfl,e0,h2⟩,pre,mid,post++v2,by rw[e1];simp,by simpa[Ty.off] using e2,e3,?_⟩
   simp only[aa]
   exact⟨pre++aP++post,v2,by simp,e4,h4⟩
  case leaf s x=>
   simp only[Typed] at ht
   subst ht
   cases s<;>try (simp[AT.set] at hg;done)
   rename_i ta tb
   simp only[aa,af] at h
   obtain⟨v1,v2,rfl,h3,h4⟩:=h
   simp only[AT.set,bE] at hg
   obtain⟨l',hl,rfl⟩:=hg
   simp only[Ty.at] at hu
   obtain⟨e0,pre,mid,post,e1,e2,e3,e4⟩:=lU p (a:=.leaf _ x.1) rfl h3 hp hl hu hv hm
   refine⟨⟨ta,tb,rfl,e0,rfl⟩,pre,mid,post++v2,by rw[e1];simp,by simpa[Ty.off] using e2,e3,?_⟩
   simp only[aa]
   exact⟨pre++aP++post,v2,by simp,e4,h4⟩
 |.snd::p,a,a',v,t,u,vs,aP,ht,h,hp,hg,hu,hv,hm=>by
  cases a<;>try (simp[AT.set] at hg;done)
  case pair l r=>
   simp only[Typed] at ht
   obtain⟨ta,tb,rfl,h1,h2⟩:=ht
   simp only[aa] at h
   obtain⟨v1,v2,rfl,h3,h4⟩:=h
   simp only[AT.set,bE] at hg
   obtain⟨l',hl,rfl⟩:=hg
   simp only[Ty.at] at hu
   obtain⟨e0,pre,mid,post,e1,e2,e3,e4⟩:=lU p h2 h4 hp hl hu hv hm
   refine⟨⟨ta,tb,rfl,h1,e0⟩,v1++pre,mid,post,by rw[e1];simp,by simp[Ty.off,h1.length h3,e2],e3,?_⟩
   simp only[aa]
   exact⟨v1,pre++aP++post,by simp,h3,e4⟩
  case leaf s x=>
   simp only[Typed] at ht
   subst ht
   cases s<;>try (simp[AT.set] at hg;done)
   rename_i ta tb
   simp only[aa,af] at h
   obtain⟨v1,v2,rfl,h3,h4⟩:=h
   simp only[AT.set,bE] at hg
   obtain⟨l',hl,rfl⟩:=hg
   simp only[Ty.at] at hu
   obtain⟨e0,pre,mid,post,e1,e2,e3,e4⟩:=lU p (a:=.leaf _ x.2) rfl h4 hp hl hu hv hm
   refine⟨⟨ta,tb,rfl,rfl,e0⟩,v1++pre,mid,post,by rw[e1];simp,by simp[Ty.off,af.length h3,e2],e3,?_⟩
   simp only[aa]
   exact⟨v1,pre++aP++post,by simp,h3,e4⟩
 |.idx i::p,a,a',v,t,u,vs,aP,ht,h,hp,hg,hu,hv,hm=>by
  cases a<;>try (simp[AT.set] at hg;done)
  case leaf s xs=>
   simp only[Typed] at ht
   subst ht
   cases s<;>try (simp[AT.set] at hg;done)
   rename_i n s
   simp only[aa,af] at h
   obtain⟨hn,h⟩:=h
   simp only[AT.set] at hg
   simp only[Ty.at] at hu
   obtain⟨hi,hp⟩:=hp
   have hx:xs[i]?=some (xs.getD i s.dflt):=by
    rw[nO]
    rw[pG (by omega)]
    rfl
   split at hg
   ·rename_i d hd
    obtain⟨y,hy,rfl⟩:=bE.1 hg
    obtain⟨b,hb,hbp⟩:=lZ.1 hd
    obtain⟨pre0,mid0,sG,e1,e2,e3,e4⟩:=aR.split (fun x vs h=>af.length h) h hx
    obtain⟨f0,pre,mid,post,f1,f2,f3,f4⟩:=lU p (a:=.leaf s (xs.getD i s.dflt)) rfl e3 hp hb hu hv hm
    have f5:=oX hbp f4
    obtain⟨hdt,hdx⟩:=DV.cz hy
    refine⟨rfl,pre0++pre,mid,post++sG,by rw[e1,f1];simp,by simp[Ty.off,e2,f2],f3,?_⟩
    simp only[aa,af]
    refine⟨by simpa using hn,?_⟩
    have:af w I s y (pre++aP++post):=by
     cases d with
     |mk dt dx=>
      simp only at hdt
      subst hdt
      subst hdx
      exact f5
    have:=e4 y _ this
    simpa[bX] using this
   ·simp at hg
end
def bh:Ty→List Value
 |.unit=>[]
 |.bool=>[.bool false]
 |.int k=>[.int k 0]
 |.str=>[.string ⟨#[]⟩]
 |.lst _=>[.slice none 0 0]
 |.own _=>[.slice none 0 0]
 |.pair a b=>bh a++bh b
 |.arr n t=>(List.replicate n (bh t)).flatten
 |.ref _=>[.pointer none]
def aQ (t:Ty)(cs:List Value):Value:=if t.isAgg then .agg cs.toArray else cs.headD Go.undef
structure iu (P:Program) (t:Ty) (T:TypeId):Prop where
 info:∃i,P.info? T=some i∧i.size=t.size∧i.zero=some (aQ t (bh t))∧i.bytes≤4096
def TO (P:Program):Ty→(TypeId→Prop)×(List Field→Nat→Prop)
 |.unit=>(fun T=>iu P .unit T∧∃fs,P.underlying T=some (.struct fs)∧fs.toList = [],fun fs _=>fs = [])
 |.bool=>(fun T=>iu P .bool T∧P.underlying T=some .bool,fun _ _=>False)
 |.int k=>(fun T=>iu P (.int k) T∧P.underlying T=some (.int k),fun _ _=>False)
 |.str=>(fun T=>iu P .str T∧P.underlying T=some .string,fun _ _=>False)
 |.lst t=>(fun T=>iu P (.lst t) T∧∃E,P.underlying T=some (.slice E)∧0<t.size∧(TO P t).1 E,fun _ _=>False)
 |.own _=>(fun _=>False,fun _ _=>False)
 |.pair a b=>(fun T=>iu P (.pair a b) T∧∃fs,P.underlying T=some (.struct fs) ∧
     ∃f l,fs.toList=f::l∧f.offset=0∧(TO P a).1 f.type∧(TO P b).2 l a.size,
   fun fs off=>∃f l,fs=f::l∧f.offset=off∧(TO P a).1 f.type∧(TO P b).2 l (off+a.size))
 |.arr n t=>(fun T=>iu P (.arr n t) T∧∃E,P.underlying T=some (.array n E)∧1<n∧(∃k,t = .int k)∧(TO P t).1 E,fun _ _=>False)
 |.ref t=>(fun T=>iu P (.ref t) T∧∃E,P.underlying T=some (.pointer E),fun _ _=>False)
def aJ (P:Program)(t:Ty)(T:TypeId):Prop:=(TO P t).1 T
def ck (P:Program)(t:Ty)(fs:List Field)(off:Nat):Prop:=(TO P t).2 fs off
def aJ.info {P:Program}{t:Ty}{T:TypeId}(h:aJ P t T):iu P t T:=by
 unfold aJ at h
 cases t<;>simp only[TO] at h<;>first|exact h.1|exact h.elim
def ck.field {P:Program}:∀(n:Nat) {t u:Ty} {fs:List Field} {off:Nat},ck P t fs off→t.at (bA n)=some u →
  ∃f,fs[n]?=some f∧f.offset=off+t.off (bA n)∧aJ P u f.type
 |n,t,u,fs,off,h,hu=>by
  unfold ck at h
  cases t<;>simp only[TO] at h<;>try exact h.elim
  case unit=>cases n<;>simp[bA,Ty.at] at hu
  case pair a b=>
   obtain⟨f,l,rfl,h1,h2,h3⟩:=h
   cases n with
   |zero=>
    simp only[bA,Ty.at,au] at hu
    subst hu
    exact⟨f,rfl,by simp[bA,Ty.off,h1],h2⟩
   |succ n=>
    simp only[bA,Ty.at] at hu
    obtain⟨g,e1,e2,e3⟩:=ck.field n (t:=b) h3 hu
    exact⟨g,by simpa using e1,by simp[bA,Ty.off,e2];omega,e3⟩
def aJ.field {P:Program}{t u:Ty}{T:TypeId}{n:Nat}(h:aJ P t T)(hu:t.at (bA n)=some u) :
  ∃fs f,P.underlying T=some (.struct fs)∧fs[n]?=some f∧f.offset=t.off (bA n)∧aJ P u f.type:=by
 unfold aJ at h
 cases t with
 |pair a b=>
  simp only[TO] at h
  obtain⟨_,fs,h1,f,l,h2,h3,h4,h5⟩:=h
  obtain⟨g,e1,e2,e3⟩:=ck.field (P:=P) n (t:=.pair a b) (fs:=fs.toList) (off:=0) (by unfold ck;simp only[TO];exact⟨f,l,h2,h3,h4,by simpa using h5⟩) hu
  exact⟨fs,g,h1,by simpa using e1,by simpa using e2,e3⟩
 |_=>cases n<;>simp[bA,Ty.at] at hu
structure EqOk (P:Program) (T:TypeId):Prop where
 held:P.stoodInHeld T=false
 guard:P.eqGuardType P.depth T=false
 names:∀f∈(P.fieldsOf T).toList,f.name ≠ "_"
structure bW (P:Program) (C:Cx):Prop where
 gB:∀T ti,find C.gB T=some ti→aJ P ti.t T
 eqs:∀T ti,find C.gB T=some ti→ti.e=1→EqOk P T
def bW.ty {P:Program}{C:Cx}(h:bW P C){T:Nat}{t:Ty}(ht:C.ty T=some t):aJ P t T:=by
 unfold Cx.ty at ht
 cases hf:find C.gB T with
 |none=>simp[hf] at ht
 |some ti=>simp[hf] at ht;subst ht;exact h.gB T ti hf
def bW.eqt {P:Program}{C:Cx}(h:bW P C){T:Nat}{t:Ty}(ht:C.eqt T=some t):aJ P t T∧EqOk P T:=by
 unfold Cx.eqt at ht
 split at ht
 ·rename_i u hf
  cases ht
  exact⟨h.gB T _ hf,h.eqs T _ hf rfl⟩
 ·cases ht
def bW.el {P:Program}{C:Cx}(h:bW P C){T:Nat}{t:Ty}(ht:C.el T=some t):∃E,P.underlying T=some (.slice E)∧0<t.size∧aJ P t E:=by
 unfold Cx.el at ht
 split at ht
 ·rename_i u e hf
  cases ht
  have:=h.gB T _ hf
  unfold aJ at this
  simp only[TO] at this
  exact this.2
 ·simp at ht
section
variable {P:Program} {t:Ty} {T:TypeId} {w:World}
def iu.run_sizeOf (h:iu P t T):(sizeOf T).run P w = .ok t.size w:=by
 obtain⟨i,h1,h2,_⟩:=h.info
 simp[sizeOf,typeInfo,h1,h2]
def iu.vq (h:iu P t T):(zeroValue T).run P w = .ok (aQ t (bh t)) w:=by
 obtain⟨i,h1,h2,h3,_⟩:=h.info
 simp[zeroValue,typeInfo,h1,h3]
def aJ.qz (h:aJ P t T):(isAgg T).run P w = .ok t.isAgg w:=by
 unfold aJ at h
 unfold isAgg
 cases t<;>simp only[TO] at h<;>first|exact h.elim|skip
 case unit=>obtain⟨_,fs,h,_⟩:=h;simp[run_underlying h,Ty.isAgg]
 case bool=>simp[run_underlying h.2,Ty.isAgg]
 case int k=>simp[run_underlying h.2,Ty.isAgg]
 case str=>simp[run_underlying h.2,Ty.isAgg]
 case lst u=>obtain⟨_,E,h,_⟩:=h;simp[run_underlying h,Ty.isAgg]
 case pair a b=>obtain⟨_,fs,h,_⟩:=h;simp[run_underlying h,Ty.isAgg]
 case arr n u=>obtain⟨_,E,h,_⟩:=h;simp[run_underlying h,Ty.isAgg]
 case ref u=>obtain⟨_,E,h⟩:=h;simp[run_underlying h,Ty.isAgg]
def Ty.qB {P:Program}{t:Ty}{T:TypeId}(_:aJ P t T)(h:t.isAgg=false):t.size=1:=by
 cases t<;>simp[Ty.isAgg] at h<;>rfl
def aJ.vn (h:aJ P t T){B o:Nat}{vs:List Value}(hl:vs.length=t.size)(hc:∀j,j<vs.length→w.cell? ⟨B,o+j,none⟩=vs[j]?) :
  (loadVar T ⟨B,o,none⟩).run P w = .ok (aQ t vs) w:=by
 unfold loadVar
 rw[Sem.run_bind,h.qz]
 simp only[Result.andThen_ok]
 cases ha:t.isAgg with
 |true=>
  have hld:=qA (P:=P) hc
  rw[hl] at hld
  simp[h.info.run_sizeOf,hld,aQ,ha]
 |false=>
  have hs:=Ty.qB h ha
  obtain⟨v,rfl⟩:∃v,vs = [v]:=by
   match vs,hl with
   | [v],_=>exact⟨v,rfl⟩
   | [],hl=>simp[hs] at hl
   |_::_::_,hl=>simp[hs] at hl
  have:=hc 0 (by simp)
  simp at this
  simp[aQ,ha,this]
def gG {vs:List Value}(h:aJ P t T)(hl:vs.length=t.size)(h1:∀v∈vs,v.oneCell'=true):(aQ t vs).cells=vs.toArray:=by
 unfold aQ
 cases ha:t.isAgg with
 |true=>simp[Value.cells]
 |false=>
  have hs:=Ty.qB h ha
  obtain⟨v,rfl⟩:∃v,vs = [v]:=by
   match vs,hl with
   | [v],_=>exact⟨v,rfl⟩
   | [],hl=>simp[hs] at hl
   |_::_::_,hl=>simp[hs] at hl
  have:=h1 v (by simp)
  cases v<;>simp[Value.oneCell'] at this<;>simp[Value.cells]
end
section
variable {w:World} {I:Nat→Prop} {m:MF} {ρ:Pl}
def aB.pack {a:AT}{t:Ty}{v:Value}(ht:Typed a t)(h:aB w I m ρ a v):∃vs,v=aQ t vs∧aa w I m ρ a vs:=by
 unfold aB at h
 unfold aQ
 rw[ht.isAgg] at h
 cases ha:t.isAgg with
 |true=>
  rw[bf ha] at h
  obtain⟨arr,e,h⟩:=h
  exact⟨arr.toList,by simp[e],h⟩
 |false=>
  simp[ha] at h
  exact⟨[v],by simp,h⟩
def aB.unpack {a:AT}{t:Ty}{vs:List Value}{P:Program}{T:TypeId}(ht:Typed a t)(hT:aJ P t T)(h:aa w I m ρ a vs):aB w I m ρ a (aQ t vs):=by
 unfold aB aQ
 rw[ht.isAgg]
 cases ha:t.isAgg with
 |true=>rw[bf rfl,bf rfl];exact⟨vs.toArray,rfl,by simpa using h⟩
 |false=>
  have hs:=Ty.qB hT ha
  have hl:=ht.length h
  obtain⟨v,rfl⟩:∃v,vs = [v]:=by
   match vs,hl with
   | [v],_=>exact⟨v,rfl⟩
   | [],hl=>simp[hs] at hl
   |_::_::_,hl=>simp[hs] at hl
  simpa using h
def gN {a:AT}{v:Value}{t:Ty}(ht:Typed a t):az w I m ρ a v↔aB w I m ρ a v:=by
 cases a<;>simp only[Typed] at ht<;>first|exact Iff.rfl|exact ht.elim
def qW (k:IntKind):∀n,aR (fun(x:Int) (vs:List Value)=>vs = [.int k x]) (List.replicate n 0) (List.replicate n [Value.int k 0]).flatten
 |0=>by simp[aR]
 |n+1=>⟨[.int k 0],_,by simp only[mK,List.flatten_cons],rfl,qW k n⟩
def lq:∀{t:Ty} {T:TypeId} {P:Program},aJ P t T→Typed (jC t) t∧aa w I m ρ (jC t) (bh t):=by
 intro t
 have key:∀{P:Program},((∀T,aJ P t T→Typed (jC t) t∧aa w I m ρ (jC t) (bh t))∧(∀fs off,ck P t fs off→Typed (jC t) t∧aa w I m ρ (jC t) (bh t))):=by
  intro P
  induction t with
  |unit=>exact⟨fun _ _=>⟨rfl,rfl⟩,fun _ _ _=>⟨rfl,rfl⟩⟩
  |bool=>exact⟨fun _ _=>⟨rfl,rfl⟩,fun _ _ _=>⟨rfl,rfl⟩⟩
  |int k=>exact⟨fun _ _=>⟨rfl,rfl⟩,fun _ _ _=>⟨rfl,rfl⟩⟩
  |str=>exact⟨fun _ _=>⟨rfl,rfl⟩,fun _ _ _=>⟨rfl,rfl⟩⟩
  |lst u _=>exact⟨fun _ _=>⟨rfl,rfl⟩,fun _ _ _=>⟨rfl,rfl⟩⟩
  |own u _=>exact⟨fun _ h=>by unfold aJ at h;simp only[TO] at h,fun _ _ h=>by unfold ck at h;simp only[TO] at h⟩
  |pair a b aL aK=>
   refine⟨fun T h=>?_,fun fs off h=>?_⟩
   ·unfold aJ at h
    simp only[TO] at h
    obtain⟨_,fs,_,f,l,_,_,h1,h2⟩:=h
    exact⟨⟨a,b,rfl,(aL.1 _ h1).1,(aK.2 _ _ h2).1⟩,⟨_,_,rfl,(aL.1 _ h1).2,(aK.2 _ _ h2).2⟩⟩
   ·unfold ck at h
    simp only[TO] at h
    obtain⟨f,l,_,_,h1,h2⟩:=h
    exact⟨⟨a,b,rfl,(aL.1 _ h1).1,(aK.2 _ _ h2).1⟩,⟨_,_,rfl,(aL.1 _ h1).2,(aK.2 _ _ h2).2⟩⟩
  |arr n u ih=>
   refine⟨fun T h=>⟨rfl,?_⟩,fun _ _ h=>by unfold ck at h;simp only[TO] at h⟩
   unfold aJ at h
   simp only[TO] at h
   obtain⟨_,E,_,_,⟨k,rfl⟩,h⟩:=h
   simp only[jC,aa,af,bh,Ty.dflt]
   exact⟨by simp,qW k n⟩
  |ref u _=>exact⟨fun _ _=>⟨⟨rfl,rfl⟩,rfl,by simp[bh,Value.oneCell']⟩,fun _ _ _=>⟨⟨rfl,rfl⟩,rfl,by simp[bh,Value.oneCell']⟩⟩
 intro T P h
 exact key.1 T h
end
def aI {α:Type}(i:Nat)(b:α)(l:List (Nat×α))(j:Nat):find ((i,b)::l) j=if i=j then some b else find l j:=by
 simp only[find]
 cases h:Nat.beq i j with
 |true=>simp[cU h]
 |false=>simp[Nat.ne_of_beq_eq_false h]
def cS {α:Type}(l l':List (Nat×α))(j:Nat):find (app l l') j=match find l j with | some b=>some b|none=>find l' j:=by
 induction l with
 |nil=>rfl
 |cons x l ih=>
  obtain⟨i,b⟩:=x
  simp only[app,aI]
  split
  ·rfl
  ·exact ih
def MF.put (m:MF)(n:Nat)(b:ag):MF:=fun i=>if n=i then some b else m i
structure aC (F:Fix) (m m':MF) (w w':World) (I I':Nat→Prop) (ρ ρ':Pl):Prop where
 agree:bN I I' w w'
 keep:dc m m' ρ ρ' w w'
 mem:aD F m' w' I' ρ'
def bJ.refl:∀c:BC,bJ c c
 |.var _ _=>rfl
 |.rows _ _=>⟨rfl,rfl⟩
 |.deep _ _ _=>⟨bw _,rfl,rfl⟩
 |.dead=>trivial
def bJ.trans {a b c:BC}(h:bJ a b)(k:bJ b c):bJ a c:=by
 cases a<;>cases b<;>simp only[bJ] at h<;>cases c<;>simp only[bJ] at k ⊢
 ·exact h.trans k
 ·exact⟨h.1.trans k.1,h.2.trans k.2⟩
 ·exact⟨mL h.1 k.1,h.2.1.trans k.2.1,h.2.2.trans k.2.2⟩
def fA {b:ag}(h:b.bH):b.live:=by
 unfold ag.bH ag.live at *
 cases hb:b.c<;>simp_all
def xZ {b b':ag}(h:bJ b.c b'.c)(hl:b.live):b'.live:=by
 unfold ag.live at *
 cases hb:b.c<;>cases hb':b'.c<;>simp_all [bJ]
def dc.refl (m:MF)(ρ:Pl)(w:World):dc m m ρ ρ w w:=
 ⟨fun _ b hb=>⟨b,hb,.inr ⟨rfl,bJ.refl _,rfl,fun _ _ _ _ cs hc=>⟨cs,hc,bw _⟩⟩⟩,fun _ _ _ _ _ _ _ _ _ _ _ _ _ _ _ _=>rfl⟩
def dc.trans {m m' m'':MF}{ρ ρ' pJ:Pl}{w w' w'':World}(h:dc m m' ρ ρ' w w')(k:dc m' m'' ρ' pJ w' w''):dc m m'' ρ pJ w w'':=by
 refine⟨fun id b hb=>?_,fun id b b'' rs t u xs ys hb me hst hc hc'' B o hB=>?_⟩
 case refine_2=>
  obtain⟨b',hb',h1⟩:=h.keep id b hb
  obtain⟨b3,hb3,h2⟩:=k.keep id b' hb'
  rw[me] at hb3
  cases hb3
  have e1:b.st=b'.st:=by rcases h1 with h1|h1<;>rcases h2 with h2|h2<;>omega
  have e2:b'.st=b''.st:=by omega
  rcases h1 with h1|⟨_,s1,r1,_⟩
  ·omega
  rcases h2 with h2|⟨_,s2,r2,_⟩
  ·omega
  rw[hc] at s1
  rw[hc''] at s2
  cases aM:b'.c with
  |deep r v zs=>
   rw[aM] at s1 s2
   simp only[bJ] at s1 s2
   have:r=rs:=by omega
   subst this
   exact(k.nest id b' b'' r v u zs ys hb' me e2 aM hc'' B o (r1.trans hB)).trans (h.nest id b b' r t v xs zs hb hb' e1 hc aM B o hB)
  |var _ _=>rw[aM] at s1;simp[bJ] at s1
  |rows _ _=>rw[aM] at s1;simp[bJ] at s1
  |dead=>rw[aM] at s1;simp[bJ] at s1
 obtain⟨b',hb',h1⟩:=h.keep id b hb
 obtain⟨b'',me,h2⟩:=k.keep id b' hb'
 refine⟨b'',me,?_⟩
 rcases h1 with h1|⟨h1,h3,h4,h5⟩
 ·rcases h2 with h2|⟨h2,_⟩
  ·exact .inl (by omega)
  ·exact .inl (by omega)
 ·rcases h2 with h2|⟨h2,h6,h7,h8⟩
  ·exact .inl (by omega)
  ·refine .inr ⟨by omega,h3.trans h6,h7.trans h4,fun hl0 B o hB cs hc=>?_⟩
   obtain⟨cs',aM,hl⟩:=h5 hl0 B o hB cs hc
   obtain⟨cs'',hc'',hl'⟩:=h8 (xZ h3 hl0) B o (h4.trans hB) cs' aM
   exact⟨cs'',hc'',by omega⟩
def aC.refl {F:Fix}{m:MF}{w:World}{I:Nat→Prop}{ρ:Pl}(h:aD F m w I ρ):aC F m m w w I I ρ ρ:=⟨bN.refl I w,dc.refl m ρ w,h⟩
def aC.trans {F:Fix}{m m' m'':MF}{w w' w'':World}{I I' b_:Nat→Prop}{ρ ρ' pJ:Pl}(h:aC F m m' w w' I I' ρ ρ')(k:aC F m' m'' w' w'' I' b_ ρ' pJ) :
  aC F m m'' w w'' I b_ ρ pJ:=⟨h.agree.trans k.agree,h.keep.trans k.keep,k.mem⟩
def fF {b:ag}{t:Ty}{xs:List t.den}(h:b.c = .rows t xs):b.live:=by simp[ag.live,h]
def kf {b:ag}{t:Ty}{a:AT}(h:b.c = .var t a):b.live:=by simp[ag.live,h]
def aS.mono {w w':World}{I I':Nat→Prop}{m m':MF}{ρ ρ':Pl}(ha:bN I I' w w')(hk:dc m m' ρ ρ' w w'){id:Nat}{b:ag}(h:aS w I m ρ id b)
  (hρ:ρ' id=ρ id) (oA:ρ'.d id=ρ.d id) (hc:∀B o,ρ id=some (B,o)→b.live→w'.heap[B]?=w.heap[B]?∧(I' B→I B))
  (hd:b.bH→∀B∈ρ.d id,w'.heap[B]?=w.heap[B]?∧(I' B→I B)):aS w' I' m' ρ' id b:=by
 unfold aS at *
 split
 ·trivial
 ·rename_i t a e
  simp only[e] at h
  obtain⟨h1,B,cs,h2,h3,h4,h5⟩:=h
  obtain⟨h6,h7⟩:=hc B 0 h2 (kf e)
  exact⟨h1,B,cs,hρ.trans h2,h3.of_same h6,h4.mono ha hk,h5.trans ⟨ha.sub B,h7⟩⟩
 ·rename_i t xs e
  simp only[e] at h
  obtain⟨h0,h⟩:=h
  refine⟨h0,h.imp (fun⟨h1,h2⟩=>⟨h1,hρ.trans h2⟩) ?_⟩
  rintro⟨B,o,cs,h2,h3,h4,h5,h6⟩
  obtain⟨h7,h8⟩:=hc B o h2 (fF e)
  refine⟨B,o,cs,hρ.trans h2,h3.of_same h7,h4,h5.mono (fun o=>?_) (fun x vs h=>af.mono ha h),h6.trans ⟨ha.sub B,h8⟩⟩
  exact World.cell?_of_block (w:=w) h7
 ·rename_i rs t xs e
  simp only[e] at h
  obtain⟨h0,h⟩:=h
  refine⟨h0,h.imp (fun⟨h1,h2,h3⟩=>⟨h1,hρ.trans h2,oA.trans h3⟩) ?_⟩
  rintro⟨B,o,cs,h2,h3,h4,h5,h6⟩
  have dJ:b.live:=by unfold ag.live;rw[e];trivial
  have j8:b.bH:=by unfold ag.bH;rw[e];trivial
  obtain⟨h7,h8⟩:=hc B o h2 dJ
  refine⟨B,o,cs,hρ.trans h2,h3.of_same h7,h4,?_,fun h=>h6 (h8 h)⟩
  rw[oA]
  exact h5.mono (fun o=>World.cell?_of_block (w:=w) h7) (fun x vs D hD h=>aq.mono ha (fun B hB=>hd j8 B (hD B hB)) h)
def Pl.put (ρ:Pl)(n:Nat)(p:Option (Nat×Nat)):Pl:=⟨fun i=>if n=i then p else ρ i,fun i=>if n=i then [] else ρ.d i⟩
def aD.dlt {F:Fix}{m:MF}{w:World}{I:Nat→Prop}{ρ:Pl}(h:aD F m w I ρ){id:Nat}{b:ag}(hm:m id=some b)(hd:b.bH){B:Nat}(hB:B∈ρ.d id):B<w.heap.size∧¬I B:=by
 have hb:=h.blk id b hm
 unfold ag.bH at hd
 cases hc:b.c with
 |deep rs t xs=>
  simp only[aS,hc] at hb
  rcases hb.2 with⟨_,_,h3⟩|⟨B0,o,cs,_,_,_,h4,_⟩
  ·rw[h3] at hB;simp at hB
  ·exact h4.blk B hB
 |var _ _=>simp[hc] at hd
 |rows _ _=>simp[hc] at hd
 |dead=>simp[hc] at hd
def aC.new {F:Fix}{m:MF}{w:World}{I:Nat→Prop}{ρ:Pl}(h:aD F m w I ρ)(n:Nat)(b:ag)(arr:Array Value)(e:TypeId)(fr:Nat×Nat)(hfr:∀j,j<arr.size→¬(fr.1≤j∧j<fr.2))
  (hst:∀b0,m n=some b0→b0.st<b.st)
  (hb:dc m (m.put n b) ρ (ρ.put n (some (w.heap.size,0))) w (w.alloc (.cells arr e fr)) →
   Cells (w.alloc (.cells arr e fr)) w.heap.size arr.toList →
   aS (w.alloc (.cells arr e fr)) I (m.put n b) (ρ.put n (some (w.heap.size,0))) n b) :
  aC F m (m.put n b) w (w.alloc (.cells arr e fr)) I I ρ (ρ.put n (some (w.heap.size,0))):=by
 have hsame:∀B,B<w.heap.size→(w.alloc (.cells arr e fr)).heap[B]?=w.heap[B]? :=fun B hB=>heap_alloc_old w _ B hB
 have ha:bN I I w (w.alloc (.cells arr e fr)):=⟨fun _ h=>h,fun B hB=>hsame B (h.aY B hB)⟩
 have hlt:∀id b0 B o,m id=some b0→b0.live→ρ id=some (B,o)→B<w.heap.size:=by
  intro id b0 B o hm hl hρ
  have:=h.blk id b0 hm
  unfold aS at this
  unfold ag.live at hl
  cases hc:b0.c with
  |dead=>simp[hc] at hl
  |var t a=>simp only[hc] at this;obtain⟨_,B',cs,e1,e2,_⟩:=this;rw[hρ] at e1;cases e1;exact e2.lt
  |rows t xs=>
   simp only[hc] at this
   rcases this.2 with⟨_,e1⟩|⟨B',o',cs,e1,e2,_⟩
   ·rw[hρ] at e1;cases e1
   ·rw[hρ] at e1;cases e1;exact e2.lt
  |deep rs t xs=>
   simp only[hc] at this
   rcases this.2 with⟨_,e1,_⟩|⟨B',o',cs,e1,e2,_⟩
   ·rw[hρ] at e1;cases e1
   ·rw[hρ] at e1;cases e1;exact e2.lt
 have hk:dc m (m.put n b) ρ (ρ.put n (some (w.heap.size,0))) w (w.alloc (.cells arr e fr)):=by
  refine⟨fun id b0 hm=>?_,fun id b0 b1 rs t u xs ys h0 h1 hs hc0 hc1 B o hB=>hsame B (hlt id b0 B o h0 (by unfold ag.live;rw[hc0];trivial) hB)⟩
  by_cases hid:n=id
  ·subst hid
   exact⟨b,by simp[MF.put],.inl (hst b0 hm)⟩
  ·refine⟨b0,by simp[MF.put,hid,hm],.inr ⟨rfl,bJ.refl _,by simp[Pl.put,hid],fun _ B o hρ cs hc=>⟨cs,hc.of_same (hsame B hc.lt),bw _⟩⟩⟩
 refine⟨ha,hk,?_⟩
 refine { blk:=?_,inj:=?_,aY:=?_,iE:=h.iE,gZ:=h.gZ,mine:=?_,dp:=?_,frame:=?_,size:=?_,os:=h.os,tape:=h.tape,output:=h.output,fY:=F.G.mono ha h.fY }
 ·intro id b0 hm
  by_cases hid:n=id
  ·subst hid
   simp only[MF.put,cj,au] at hm
   subst hm
   exact hb hk (Cells.alloc w arr e fr hfr)
  ·simp only[MF.put,hid,bI] at hm
   exact(h.blk id b0 hm).mono ha hk (by simp[Pl.put,hid]) (by simp[Pl.put,hid]) (fun B o hρ hl=>⟨hsame B (hlt id b0 B o hm hl hρ),fun h=>h⟩)
    fun hd B hB=>⟨hsame B (h.dlt hm hd hB).1,fun h=>h⟩
 ·intro id id' b1 b2 B o o' h1 h2 l1 l2 r1 r2
  simp only[MF.put,Pl.put] at h1 h2 r1 r2
  by_cases e1:n=id
  ·by_cases e2:n=id'
   ·omega
   ·simp only[e1,cj,au,eE] at *
    have:=hlt id' b2 B o' (by simpa[e2] using h2) l2 (by simpa[e2] using r2)
    omega
  ·by_cases e2:n=id'
   ·simp only[e2,cj,au,eE] at *
    have:=hlt id b1 B o (by simpa[e1] using h1) l1 (by simpa[e1] using r1)
    omega
   ·simp only[e1,e2,bI] at *
    exact h.inj id id' b1 b2 B o o' h1 h2 l1 l2 r1 r2
 ·intro B hB
  have:=h.aY B hB
  simp
  omega
 ·intro id b0 B o hm hl hρ
  simp only[MF.put,Pl.put] at hm hρ
  by_cases hid:n=id
  ·simp only[hid,cj,au,eE] at hρ
   exact .inl (by have:=h.size;omega)
  ·simp only[hid,bI] at hm hρ
   exact h.mine id b0 B o hm hl hρ
 ·intro id b0 hm hd
  by_cases hid:n=id
  ·subst hid;simp[Pl.put]
  ·simp only[MF.put,hid,bI] at hm
   have he:(ρ.put n (some (w.heap.size,0))).d id=ρ.d id:=by simp[Pl.put,hid]
   rw[he]
   obtain⟨k1,k2⟩:=h.dp id b0 hm hd
   refine⟨k1,fun B hB=>?_⟩
   obtain⟨q1,q2,q3⟩:=k2 B hB
   have hlt':=(h.dlt hm hd hB).1
   refine⟨q1,fun id' b' o h1 h2=>?_,fun id' b' h1 h2 h3=>?_⟩
   ·by_cases ou:n=id'
    ·simp only[Pl.put,ou,cj,ne_eq,au,eE,not_and]
     intro e;omega
    ·simp only[MF.put,Pl.put,ou,bI] at h1 ⊢
     exact q2 id' b' o h1 h2
   ·by_cases ou:n=id'
    ·simp[Pl.put,ou] at h3
    ·simp only[MF.put,Pl.put,ou,bI] at h1 h3
     exact q3 id' b' h1 h2 h3
 ·intro B hB hX
  rw[hsame B (by have:=h.size;omega)]
  exact h.frame B hB hX
 ·have:=h.size
  simp
  omega
def aC.write {F:Fix}{m:MF}{w w':World}{I:Nat→Prop}{ρ:Pl}(h:aD F m w I ρ)(n:Nat)(b b':ag)(B o:Nat)(cs cs':List Value)
  (hm:m n=some b) (hl:b.live) (hst:b.st<b'.st∨(b.st=b'.st∧bJ b.c b'.c)) (hρ:ρ n=some (B,o)) (hI:¬I B)
  (hcs:Cells w B cs) (hcs':Cells w' B cs') (hlen:cs.length≤cs'.length)
  (hsame:∀k,k≠B→w'.heap[k]?=w.heap[k]?) (hsize:w'.heap.size=w.heap.size) (hos:w'.os=w.os) (gj:w'.tape=w.tape) (hout:w'.output=w.output)
  (hb:bN I I w w'→dc m (m.put n b') ρ ρ w w'→aS w' I (m.put n b') ρ n b') (hnd:¬b'.bH:=by simp[ag.bH]) :
  aC F m (m.put n b') w w' I I ρ ρ:=by
 have ha:bN I I w w':=⟨fun _ h=>h,fun k hk=>hsame k (fun e=>hI (e▸hk))⟩
 have hk:dc m (m.put n b') ρ ρ w w':=by
  refine⟨fun id b0 hm0=>?_,fun id b0 b1 rs t u xs ys h0 h1 hs hc0 hc1 B1 o1 hB=>?_⟩
  case refine_2=>
   by_cases hid:n=id
   ·simp only[MF.put,hid,cj,au] at h1
    subst h1
    exact absurd (by unfold ag.bH;rw[hc1];trivial) hnd
   ·refine hsame B1 fun e=>?_
    subst e
    exact hid (h.inj n id b b0 B1 o o1 hm h0 hl (by unfold ag.live;rw[hc0];trivial) hρ hB)
  by_cases hid:n=id
  ·subst hid
   rw[hm] at hm0
   cases hm0
   refine⟨b',by simp[MF.put],hst.imp id fun hst=>⟨hst.1,hst.2,rfl,fun _ B' o' kX ds hd=>?_⟩⟩
   rw[hρ] at kX
   cases kX
   have:=hcs.unique hd
   subst this
   exact⟨cs',hcs',hlen⟩
  ·refine⟨b0,by simp[MF.put,hid,hm0],.inr ⟨rfl,bJ.refl _,rfl,fun _ B' o' kX ds hd=>?_⟩⟩
   by_cases hB:B'=B
   ·subst hB
    have:=hcs.unique hd
    subst this
    exact⟨cs',hcs',hlen⟩
   ·exact⟨ds,hd.of_same (hsame B' hB),bw _⟩
 refine⟨ha,hk,?_⟩
 have bU:=h.mine n b B o hm hl hρ
 refine { blk:=?_,inj:=?_,aY:=?_,iE:=h.iE,gZ:=h.gZ,mine:=?_,dp:=?_,frame:=?_,size:=by have:=h.size;omega,os:=hos.trans h.os,tape:=gj.trans h.tape,output:=hout.trans h.output,fY:=F.G.mono ha h.fY }
 ·intro id b0 hm0
  by_cases hid:n=id
  ·subst hid
   simp only[MF.put,cj,au] at hm0
   subst hm0
   exact hb ha hk
  ·simp only[MF.put,hid,bI] at hm0
   refine(h.blk id b0 hm0).mono ha hk rfl rfl (fun B' o' kX hl0=>⟨hsame B' fun e=>?_,fun h=>h⟩) (fun hd B' bg=>⟨hsame B' fun e=>?_,fun h=>h⟩)
   ·subst e
    exact hid (h.inj n id b b0 B' o o' hm hm0 hl hl0 hρ kX)
   ·subst e
    exact((h.dp id b0 hm0 hd).2 B' bg).2.1 n b o hm hl hρ
 ·intro id id' b1 b2 C o1 o2 h1 h2 l1 l2 r1 r2
  have fix:∀j bj,(m.put n b') j=some bj→bj.live→∃bj',m j=some bj'∧bj'.live:=by
   intro j bj hj hlj
   by_cases hid:n=j
   ·subst hid;exact⟨b,hm,hl⟩
   ·simp only[MF.put,hid,bI] at hj;exact⟨bj,hj,hlj⟩
  obtain⟨c1,k1,k2⟩:=fix id b1 h1 l1
  obtain⟨c2,k3,k4⟩:=fix id' b2 h2 l2
  exact h.inj id id' c1 c2 C o1 o2 k1 k3 k2 k4 r1 r2
 ·intro k hk
  rw[hsize]
  exact h.aY k hk
 ·intro id b0 C o1 hm0 hl0 hr
  by_cases hid:n=id
  ·subst hid;exact h.mine n b C o1 hm hl hr
  ·simp only[MF.put,hid,bI] at hm0;exact h.mine id b0 C o1 hm0 hl0 hr
 ·intro id b0 hm0 hd
  have back:∀j bj,(m.put n b') j=some bj→bj.bH→m j=some bj:=by
   intro j bj hj hdj
   by_cases hid:n=j
   ·simp only[MF.put,hid,cj,au] at hj;subst hj;exact absurd hdj hnd
   ·simpa only[MF.put,hid,bI] using hj
  obtain⟨k1,k2⟩:=h.dp id b0 (back id b0 hm0 hd) hd
  refine⟨k1,fun B1 hB1=>?_⟩
  obtain⟨q1,q2,q3⟩:=k2 B1 hB1
  refine⟨q1,fun id' b1 o1 h1 h2=>?_,fun id' b1 h1 h2 h3=>q3 id' b1 (back id' b1 h1 h2) h2 h3⟩
  by_cases hid:n=id'
  ·subst hid;exact q2 n b o1 hm hl
  ·simp only[MF.put,hid,bI] at h1;exact q2 id' b1 o1 h1 h2
 ·intro k hk hX
  have:k≠B:=by
   rintro rfl
   rcases bU with h|h
   ·omega
   ·exact hX h
  rw[hsame k this]
  exact h.frame k hk hX
def aC.drew {F:Fix}{m:MF}{w:World}{I:Nat→Prop}{ρ:Pl}(h:aD F m w I ρ):aC F m m w w.drew I I ρ ρ:=by
 have ha:bN I I w w.drew:=⟨fun _ h=>h,fun _ _=>rfl⟩
 have hk:dc m m ρ ρ w w.drew:=⟨fun _ b hb=>⟨b,hb,.inr ⟨rfl,bJ.refl _,rfl,fun _ _ _ _ cs hc=>⟨cs,hc.of_same rfl,bw _⟩⟩⟩,fun _ _ _ _ _ _ _ _ _ _ _ _ _ _ _ _=>rfl⟩
 exact⟨ha,hk,⟨fun id b hm=>(h.blk id b hm).mono ha hk rfl rfl (fun _ _ _ _=>⟨rfl,fun h=>h⟩) fun _ _ _=>⟨rfl,fun h=>h⟩,h.inj,h.aY,h.iE,h.gZ,h.mine,h.dp,h.frame,h.size,h.os,h.tape,h.output,F.G.mono ha h.fY⟩⟩
def aC.stale {F:Fix}{m:MF}{w:World}{I:Nat→Prop}{ρ:Pl}(h:aD F m w I ρ)(n:Nat)(b':ag)(hst:∀b,m n=some b→b.st<b'.st)
  (hb:¬b'.live∨∃t:Ty,b'.c = .rows t []):aC F m (m.put n b') w w I I ρ (ρ.put n none):=by
 have hk:dc m (m.put n b') ρ (ρ.put n none) w w:=by
  refine⟨fun id b0 hm0=>?_,fun _ _ _ _ _ _ _ _ _ _ _ _ _ _ _ _=>rfl⟩
  by_cases hid:n=id
  ·subst hid
   exact⟨b',by simp[MF.put],.inl (hst b0 hm0)⟩
  ·exact⟨b0,by simp[MF.put,hid,hm0],.inr ⟨rfl,bJ.refl _,by simp[Pl.put,hid],fun _ _ _ _ cs hc=>⟨cs,hc,bw _⟩⟩⟩
 have hput:∀j bj B o,(m.put n b') j=some bj→bj.live→(ρ.put n none) j=some (B,o)→n≠j∧m j=some bj∧ρ j=some (B,o):=by
  intro j bj B o h1 _ h2
  by_cases hid:n=j
  ·simp[Pl.put,hid] at h2
  ·simp only[MF.put,Pl.put,hid,bI] at h1 h2
   exact⟨hid,h1,h2⟩
 refine⟨bN.refl I w,hk,⟨fun id b0 hm0=>?_,fun id id' b1 b2 B o o' h1 h2 l1 l2 r1 r2=>?_,h.aY,h.iE,h.gZ,fun id b0 B o h1 l1 r1=>?_,?dp,h.frame,h.size,h.os,h.tape,h.output,h.fY⟩⟩
 ·by_cases hid:n=id
  ·subst hid
   simp only[MF.put,cj,au] at hm0
   subst hm0
   unfold aS
   rcases hb with hb|⟨t,hb⟩
   ·unfold ag.live at hb
    cases hc:b'.c<;>simp[hc] at hb
    trivial
   ·rw[hb]
    exact⟨trivial,.inl ⟨rfl,by simp[Pl.put]⟩⟩
  ·simp only[MF.put,hid,bI] at hm0
   exact(h.blk id b0 hm0).mono (bN.refl I w) hk (by simp[Pl.put,hid]) (by simp[Pl.put,hid]) (fun _ _ _ _=>⟨rfl,fun h=>h⟩) fun _ _ _=>⟨rfl,fun h=>h⟩
 ·obtain⟨_,k1,k2⟩:=hput id b1 B o h1 l1 r1
  obtain⟨_,k3,k4⟩:=hput id' b2 B o' h2 l2 r2
  exact h.inj id id' b1 b2 B o o' k1 k3 l1 l2 k2 k4
 ·obtain⟨_,k1,k2⟩:=hput id b0 B o h1 l1 r1
  exact h.mine id b0 B o k1 l1 k2
 case dp=>
  have hnd:¬b'.bH:=by
   rcases hb with hb|⟨t,hb⟩
   ·exact fun hd=>hb (fA hd)
   ·unfold ag.bH;rw[hb];exact fun h=>h
  have back:∀j bj,(m.put n b') j=some bj→bj.bH→n≠j∧m j=some bj:=by
   intro j bj hj hdj
   by_cases hid:n=j
   ·simp only[MF.put,hid,cj,au] at hj;subst hj;exact absurd hdj hnd
   ·exact⟨hid,by simpa only[MF.put,hid,bI] using hj⟩
  intro id b0 hm0 hd
  obtain⟨e0,e1⟩:=back id b0 hm0 hd
  have he:(ρ.put n none).d id=ρ.d id:=by simp[Pl.put,e0]
  rw[he]
  obtain⟨k1,k2⟩:=h.dp id b0 e1 hd
  refine⟨k1,fun B1 hB1=>?_⟩
  obtain⟨q1,q2,q3⟩:=k2 B1 hB1
  refine⟨q1,fun id' b1 o1 h1 h2 h3=>?_,fun id' b1 h1 h2 h3=>?_⟩
  ·obtain⟨_,g1,g2⟩:=hput id' b1 B1 o1 h1 h2 h3
   exact q2 id' b1 o1 g1 h2 g2
  ·obtain⟨g0,g1⟩:=back id' b1 h1 h2
   exact q3 id' b1 g1 h2 (by simpa[Pl.put,g0] using h3)
def Ty.cZ {a b:Ty}(h:a.is b=true):a=b:=by
 unfold Ty.is at h
 split at h
 ·assumption
 ·simp at h
def cz {d:DV}{t:Ty}{x:t.den}(h:d.as t=some x):d=⟨t,x⟩:=by
 obtain⟨u,y⟩:=d
 unfold DV.as at h
 split at h
 ·rename_i e
  simp only at e
  subst e
  cases h
  rfl
 ·cases h
def aH {α:Type}{b:Bool}{x:Option α}{y:α}(h:(bif b then x else none)=some y):b=true∧x=some y:=by
 cases b<;>simp_all
def cq.of {m:MF}{id st:Nat}{b:ag}(h:m id=some b)(hs:b.st=st):cq m id st:=⟨b,h,by omega⟩
def g_ {o:Option Ty}{t:Ty}(h:dK o t=true):o=some t:=by
 cases o with
 |none=>simp[dK] at h
 |some u=>simp only[dK] at h;rw[Ty.cZ h]
def cR {m:MF}{id st:Nat}{b:ag}(h:cur m id st=some b):m id=some b∧b.st=st:=by
 unfold cur at h
 cases hm:m id with
 |none=>simp[hm] at h
 |some b0=>
  simp only[hm] at h
  cases hb:Nat.beq b0.st st with
  |true=>simp[hb] at h;subst h;exact⟨rfl,cU hb⟩
  |false=>simp[hb] at h
def gA {m:MF}{id st:Nat}{t:Ty}{fz:Bool}{xs:List t.den}(h:rowsOf m id st t=some (fz,xs)):m id=some ⟨st,fz,.rows t xs⟩:=by
 unfold rowsOf at h
 split at h
 ·rename_i st' fz' u ys hc
  obtain⟨h1,h2⟩:=cR hc
  simp only[bE] at h
  obtain⟨zs,hz,he⟩:=h
  obtain⟨e,he'⟩:=DV.cz hz
  simp only at e
  cases e
  simp only at he'
  simp only at h2
  simp only[eE] at he
  obtain⟨rfl,rfl⟩:=he
  subst h2
  subst he'
  exact h1
 ·simp at h
def MF.aj (m:MF)(l:List (Nat×ag)):MF:=fun i=>match find l i with | some b=>some b|none=>m i
def wI (l:List (Nat×ag))(mem:Mem):find (app l mem)=MF.aj (find mem) l:=by
 funext i
 rw[cS]
 unfold MF.aj
 cases find l i<;>rfl
def MF.zl (m:MF):m.aj []=m:=rfl
def MF.dL (m:MF)(n:Nat)(b:ag):m.aj [(n,b)]=m.put n b:=by
 funext i
 simp only[MF.aj,MF.put,aI]
 by_cases h:n=i<;>simp[h,find]
def MF.pq (m:MF)(n:Nat)(b:ag)(l:List (Nat×ag)):m.aj ((n,b)::l)=(m.aj l).put n b:=by
 funext i
 simp only[MF.aj,MF.put,aI]
 by_cases h:n=i<;>simp[h]
def aA (P:Program)(F:Fix)(o:Oper)(a:Act)(w:World)(m:MF)(I:Nat→Prop)(ρ:Pl)(d:aE):Prop:=
 ∀(K:Act→World→Prop) (Q:Exit→Act→World→Prop),
  (∀v w' I' ρ',aC F m (m.aj d.aj) w w' I I' ρ ρ'→az w' I' (m.aj d.aj) ρ' d.av v→K (a.put o.dst v) w')→o.wp P a w K Q
section
variable {P:Program} {F:Fix} {C:Cx} {o:Oper} {a:Act} {w:World} {m:MF} {I:Nat→Prop} {ρ:Pl} {d:aE}
def aA.value {av:AT}{ok:List Bool}{v:Value}(hm:aD F m w I ρ)(hr:(execOp a.eval o).run P w = .ok (.value v) w)(hs:az w I m ρ av v) :
  aA P F o a w m I ρ ⟨av,[],ok⟩:=by
 intro K Q h
 unfold Oper.wp
 rw[hr]
 exact h v w I ρ (aC.refl hm) hs
def aA.world {v:Value}{w':World}{I':Nat→Prop}{ρ':Pl}(hr:(execOp a.eval o).run P w = .ok (.value v) w')(hd:aC F m (m.aj d.aj) w w' I I' ρ ρ')
  (hs:az w' I' (m.aj d.aj) ρ' d.av v):aA P F o a w m I ρ d:=by
 intro K Q h
 unfold Oper.wp
 rw[hr]
 exact h v w' I' ρ' hd hs
def aA.skip {w':World}{I':Nat→Prop}{ρ':Pl}(hr:(execOp a.eval o).run P w = .ok .skip w')(hd:aC F m (m.aj d.aj) w w' I I' ρ ρ')
  (hs:d.av = .any):aA P F o a w m I ρ d:=by
 intro K Q h
 unfold Oper.wp
 rw[hr]
 exact h Go.undef w' I' ρ' hd (by rw[hs];trivial)
def mG {t:Ty}{x:t.den}{v:Value}:az w I m ρ (.leaf t x) v↔aB w I m ρ (.leaf t x) v:=Iff.rfl
def dD {k:IntKind}{n:Int}{v:Value}:az w I m ρ (.leaf (.int k) n) v↔v = .int k n:=by
 rw[mG];unfold aB;simp[AT.isAgg,Ty.isAgg,aa,af]
def fS {b:Bool}{v:Value}:az w I m ρ (.leaf .bool b) v↔v = .bool b:=by
 rw[mG];unfold aB;simp[AT.isAgg,Ty.isAgg,aa,af]
def iX {s:List UInt8}{v:Value}:az w I m ρ (.leaf .str s) v↔v = .string ⟨s.toArray⟩:=by
 rw[mG];unfold aB;simp[AT.isAgg,Ty.isAgg,aa,af]
def cn {a:AT}{v:Value}(h:a.isAgg=false)(hs:az w I m ρ a v)(hn:∀l r,a ≠ .bL l r)(h1:a ≠ .cJ)(h2:a ≠ .any)(h3:∀g b,a ≠ .bM g b):aa w I m ρ a [v]:=by
 unfold az at hs
 split at hs
 ·exact absurd rfl (hn _ _)
 ·exact absurd rfl h1
 ·exact absurd rfl h2
 ·exact absurd rfl (h3 _ _)
 ·unfold aB at hs
  simpa[h] using hs
def pX {T:Nat}{x:AT}{v:Value}(h:az w I m ρ x v):az w I m ρ (C.co T x) v:=by
 unfold Cx.co
 cases x<;>try exact h
 simp only
 split
 ·exact h
 ·exact h
def ua {x:Operand}{av:AT}(ho:o.op = .move x∨o.op = .assign x)(hm:aD F m w I ρ)(hx:az w I m ρ av (a.eval x)):aA P F o a w m I ρ ⟨C.co o.type av,[],[]⟩:=by
 refine aA.value hm (v:=a.eval x) ?_ (pX hx)
 rcases ho with h|h<;>simp[execOp,h]
def tN {B:Nat}{pre mid post:List Value}{k:Nat}(hc:Cells w B (pre++mid++post))(hk:pre.length=k):∀j,j<mid.length→w.cell? ⟨B,k+j,none⟩=mid[j]? :=by
 intro j hj
 rw[hc.cell]
 subst hk
 rw[bX,c_ (by omega),cL (by omega)]
 congr 1
 omega
def ry {id st rs row:Nat}{fz:Bool}{t u:Ty}{xs:List t.den}{p:Path}(hm:aD F m w I ρ)(hb:m id=some ⟨st,fz,.deep rs t xs⟩)(hrow:row<xs.length)(hp:p.pairs=true)(hu:t.at p=some u) :
  ∃(B o:Nat) (cs rcs pre mid post:List Value) (D1 D2 B1 Bm B2:List Nat) (y:u.den),ρ id=some (B,o)∧Cells w B cs∧o+xs.length*t.size≤cs.length∧¬I B∧fz=false ∧
   ρ.d id=D1++(B1++Bm++B2)++D2∧rcs.length=t.size∧(∀j,j<t.size→w.cell? ⟨B,o+row*t.size+j,none⟩=rcs[j]?)∧AT.get p (.leaf t (xs.getD row t.dflt))=some (.leaf u y) ∧
   rcs=pre++mid++post∧pre.length=t.off p∧aq w I u y mid Bm ∧
   ∀(w':World) (I':Nat→Prop) (z:u.den) (aP:List Value) (gR:List Nat),bN I I' w w'→(∀b∈D1++(B1++B2)++D2,w'.heap[b]?=w.heap[b]?∧(I' b→I b)) →
    (∀k,¬(o+row*t.size≤k∧k<o+row*t.size+t.size)→w'.cell? ⟨B,k,none⟩=w.cell? ⟨B,k,none⟩)→(∀j,j<t.size→w'.cell? ⟨B,o+row*t.size+j,none⟩=(pre++aP++post)[j]?)→aq w' I' u z aP gR →
    ∃x',(AT.set p (.leaf t (xs.getD row t.dflt)) (.leaf u z)).bind AT.pure=some ⟨t,x'⟩∧bF w' B t.size (aq w' I' t) o (xs.set row x') (D1++(B1++gR++B2)++D2):=by
 have hblk:=hm.blk id _ hb
 simp only[aS] at hblk
 obtain⟨hfz,hblk⟩:=hblk
 rcases hblk with⟨d_,_⟩|⟨B,o',cs,e3,e4,e5,e6,e7⟩
 ·subst d_;simp at hrow
 ·have hxr:xs[row]?=some (xs.getD row t.dflt):=by
   rw[nO,pG hrow]
   rfl
  obtain⟨D1,Di,D2,rcs,f1,f2,f3,f4,f5⟩:=bF.split hxr e6
  obtain⟨y,pre,mid,post,B1,Bm,B2,g1,g2,g3,g4,g5,g6⟩:=aq.part p hp hu f4
  subst g4
  refine⟨B,o',cs,rcs,pre,mid,post,D1,D2,B1,Bm,B2,y,e3,e4,e5,e7,hfz,f1,f2,f3,g1,g2,g3,g5,fun w' I' z aP gR ha hs hc aM hz=>?_⟩
  obtain⟨x',k1,k2⟩:=g6 w' I' z aP gR ha (fun b hb=>hs b (by simp only[bB] at hb ⊢;rcases hb with hb|hb<;>simp[hb])) hz
  refine⟨x',k1,f5 w' (aq w' I' t) x' (pre++aP++post) (B1++gR++B2) hc (fun x vs D hD h=>aq.mono ha (fun b hb=>hs b (by have:=hD b hb;simp only[bB] at this ⊢;rcases this with h|h<;>simp[h])) h) (by rw[aq.length k2]) aM k2⟩
def xh {T:Nat}{x:Operand}{av:AT}(hC:bW P C)(ho:o.op = .load T x)(hm:aD F m w I ρ)(hx:az w I m ρ av (a.eval x))(hd:rZ C m T av=some d):aA P F o a w m I ρ d:=by
 have fin:∀{B off:Nat} {u:Ty} {b:AT} {vs:List Value},a.eval x = .pointer (some ⟨B,off,none⟩)→aJ P u T→Typed b u→aa w I m ρ b vs →
   (∀j,j<vs.length→w.cell? ⟨B,off+j,none⟩=vs[j]?)→aA P F o a w m I ρ ⟨b,[],[]⟩:=by
  intro B off u b vs he hT ht hr hc
  refine aA.value hm (v:=aQ u vs) ?_ ((gN ht).2 (aB.unpack ht hT hr))
  have:=hT.vn (w:=w) (ht.length hr) hc
  simp[execOp,ho,Instr.loadAt,he,Instr.sureAddr,this]
 unfold rZ at hd
 split at hd
 ·rename_i t y u hu
  have hT:=hC.ty hu
  cases hi:t.is u with
  |false=>simp[hi] at hd
  |true=>
   simp[hi] at hd
   subst hd
   have:=Ty.cZ hi
   subst this
   have hx':=cn (a:=.leaf (.ref t) y) rfl hx (by simp) (by simp) (by simp) (by simp)
   simp only[aa,af] at hx'
   obtain⟨B,off,e1,e2,e3,cs,e4,e5,e6⟩:=hx'
   exact fin (u:=t) (b:=.leaf t y) (by simpa using e1) hT rfl e6 (by rw[e4];exact e5)
 ·rename_i id st p u hu
  have hT:=hC.ty hu
  split at hd
  ·rename_i st' fz t at_ hc
   obtain⟨hb,hst⟩:=cR hc
   cases hi:dK (t.at p) u with
   |false=>simp[hi] at hd
   |true=>
    simp only[hi,aG] at hd
    split at hd
    ·rename_i b hg
     cases hd
     have hx':=cn (a:=.aV id st p) rfl hx (by simp) (by simp) (by simp) (by simp)
     simp only[aa] at hx'
     obtain⟨_,_,h3⟩:=hx'
     obtain⟨e0,B,e1,e2⟩:=h3 _ hb hst t at_ rfl
     have hblk:=hm.blk id _ hb
     simp only[aS] at hblk
     obtain⟨ht,B',cs,e3,e4,e5,_⟩:=hblk
     rw[e1] at e3
     cases e3
     obtain⟨f0,pre,mid,post,f1,f2,f3,f4⟩:=j6 p ht e5 e0 hg (g_ hi)
     subst f1
     exact fin (by simpa using e2) hT f0 f4 (tN e4 f2)
    ·simp at hd
  ·simp at hd
 ·rename_i id st row p u hu
  have hT:=hC.ty hu
  split at hd
  ·rename_i st' fz t xs hc
   obtain⟨hb,hst⟩:=cR hc
   cases hi:dK (t.at p) u with
   |false=>simp[hi] at hd
   |true=>
    simp only[hi,aG] at hd
    split at hd
    ·rename_i b hg
     cases hd
     have hx':=cn (a:=.ptr id st row p) rfl hx (by simp) (by simp) (by simp) (by simp)
     simp only[aa] at hx'
     obtain⟨_,_,h3⟩:=hx'
     obtain⟨e0,kL,B,o',e1,e2⟩:=h3 _ hb hst t xs.length rfl
     have hblk:=hm.blk id _ hb
     simp only[aS] at hblk
     obtain⟨hsz,hblk⟩:=hblk
     rcases hblk with⟨d_,_⟩|⟨B',dA,cs,e3,e4,e5,e6,_⟩
     ·subst d_;simp at kL
     ·rw[e1] at e3
      cases e3
      have hxr:xs[row]?=some (xs.getD row t.dflt):=by
       rw[nO,pG kL]
       rfl
      obtain⟨rs,g1,g2,g3⟩:=e6 row _ hxr
      obtain⟨f0,pre,mid,post,f1,f2,f3,f4⟩:=j6 (w:=w) (I:=I) (m:=m) (ρ:=ρ) p (a:=.leaf t (xs.getD row t.dflt)) rfl g3 e0 hg (g_ hi)
      subst f1
      refine fin (by simpa using e2) hT f0 f4 fun j hj=>?_
      have:=g2 (t.off p+j) (by simp at g1;omega)
      rw[←iq] at this
      rw[this,←f2,bX,c_ (by omega),cL (by omega)]
      congr 1
      omega
    ·simp at hd
  ·rename_i st' fz rs t xs hc
   obtain⟨hb,hst⟩:=cR hc
   simp only at hst
   obtain⟨hi,hd⟩:=aH hd
   simp only[aF] at hi
   obtain⟨hi1,hi2⟩:=hi
   have dh:=g_ hi1
   have hx':=cn (a:=.ptr id st row p) rfl hx (by simp) (by simp) (by simp) (by simp)
   simp only[aa] at hx'
   obtain⟨_,_,h3⟩:=hx'
   obtain⟨e0,hrow,B,o',e1,e2⟩:=h3 _ hb hst t xs.length rfl
   obtain⟨B',dA,cs,rcs,pre,mid,post,D1,D2,B1,Bm,B2,y,f1,f2,f3,f4,f5,f6,f7,f8,f9,f10,f11,f12,_⟩:=ry hm hb hrow hi2 dh
   rw[e1] at f1
   cases f1
   have hml:=aq.length f12
   have hcells:∀j,j<u.size→w.cell? ⟨B,o'+row*t.size+t.off p+j,none⟩=mid[j]? :=by
    intro j hj
    have hl:rcs.length=t.off p+u.size+post.length:=by rw[f10,cK,cK,f11,hml]
    have:=f8 (t.off p+j) (by omega)
    rw[←iq] at this
    rw[this,f10,bX,c_ (by omega),cL (by omega)]
    congr 1
    omega
   cases hl:u.aO with
   |true=>
    rw[hl] at hd
    cases hd
    refine fin (by simpa using e2) hT (b:=.nest id st rs row p u) (vs:=mid) rfl ?_ (by rw[hml];exact hcells)
    simp only[aa]
    refine⟨hml,aq.cC f12,cq.of hb hst,fun b hb' oz r t' xs' aM=>?_⟩
    rw[hb] at hb'
    cases hb'
    cases aM
    exact⟨bw _,fun _=>⟨dh,hi2,hrow,B,o',e1,hcells⟩⟩
   |false=>
    rw[hl] at hd
    simp only[eF,f9,au] at hd
    cases hd
    exact fin (by simpa using e2) hT (b:=.leaf u y) (vs:=mid) rfl (aq.rep hl f12).1 (by rw[hml];exact hcells)
  ·simp at hd
 ·simp at hd
end
section
variable {P:Program} {F:Fix} {C:Cx} {o:Oper} {a:Act} {w:World} {m:MF} {I:Nat→Prop} {ρ:Pl} {d:aE}
def qg {k k':IntKind}(h:lJ k k'=true):k=k':=by
 cases k<;>cases k'<;>first|rfl|simp[lJ] at h
def pU (s:List UInt8):(⟨s.toArray⟩:ByteArray).toList=s:=ByteArray.toList_mk s
def xU {op:BinOp}{k:IntKind}{x y:Int}{T:Nat}(hd:oE op k x y=some d)(hok:∀b∈d.ok,b=true)(hsh:op ≠ .shl∧op ≠ .shr) :
  ∃t r,d=⟨.leaf t r,[],d.ok⟩∧∃v,az w I m ρ (.leaf t r) v∧(binOp op T (.int k x) (.int k y)).run P w = .ok v w:=by
 cases op<;>simp only[oE,au,reduceCtorEq] at hd<;>subst hd
 case quo=>
  have hy:y≠0:=by simpa using hok
  exact⟨_,_,rfl,_,dD.2 rfl,by simp[binOp,Op.intDiv,hy]⟩
 case rem=>
  have hy:y≠0:=by simpa using hok
  exact⟨_,_,rfl,_,dD.2 rfl,by simp[binOp,Op.intDiv,hy]⟩
 all_goals first
  |exact⟨_,_,rfl,_,dD.2 rfl,by simp[binOp,Op.intArith,Op.intBits,pS]⟩
  |exact⟨_,_,rfl,_,fS.2 rfl,by simp[binOp,Op.intCmp]⟩
def y9 {op:BinOp}{x y:List UInt8}{T:Nat}(hd:sN op x y=some d)(hok:∀b∈d.ok,b=true) :
  ∃t r,d=⟨.leaf t r,[],d.ok⟩∧∃v,az w I m ρ (.leaf t r) v∧(binOp op T (.string ⟨x.toArray⟩) (.string ⟨y.toArray⟩)).run P w = .ok v w:=by
 have e1:=pU x
 have e2:=pU y
 cases op<;>simp only[sN,au,reduceCtorEq] at hd<;>subst hd
 case add=>
  have hy:x.length+y.length≤eD:=by simpa using hok
  have hmax:IntKind.i64.max=9223372036854775807:=by decide
  refine⟨_,_,rfl,_,iX.2 rfl,?_⟩
  have:¬(((x.length+y.length:Nat):Int)>IntKind.i64.max):=by rw[hmax];unfold eD at hy;omega
  simp only[binOp,Op.stringOp]
  have hs:((ByteArray.size ⟨x.toArray⟩+ByteArray.size ⟨y.toArray⟩:Nat):Int)=((x.length+y.length:Nat):Int):=by simp[ByteArray.size]
  rw[hs,bY this]
  simp only[Sem.run_pure]
  congr 2
 all_goals exact⟨_,_,rfl,_,fS.2 rfl,by simp[binOp,Op.stringOp,e1,e2]⟩
def rA {op:BinOp}{T:Nat}{x y:Operand}{k k':IntKind}{u v:Int}:(eqGuard op T x y (.int k u) (.int k' v)).run P w = .ok () w:=by
 cases op<;>rfl
def wE {op:BinOp}{T:Nat}{x y:Operand}{u v:ByteArray}:(eqGuard op T x y (.string u) (.string v)).run P w = .ok () w:=by
 cases op<;>rfl
def tW {op:BinOp}{T:Nat}{x y:Operand}{u v:Bool}:(eqGuard op T x y (.bool u) (.bool v)).run P w = .ok () w:=by
 cases op<;>rfl
def xC {op:UnOp}{T:Nat}{x:Operand}{av:AT}(ho:o.op = .unOp op T x)(hm:aD F m w I ρ)(hx:az w I m ρ av (a.eval x))(hd:unD op av=some d) :
  aA P F o a w m I ρ d:=by
 unfold unD at hd
 split at hd<;>simp only[au,reduceCtorEq] at hd<;>subst hd
 ·have:=dD.1 hx
  exact aA.value hm (by simp[execOp,ho,this,Op.unary,Op.intArith]) (dD.2 rfl)
 ·have:=dD.1 hx
  exact aA.value hm (by simp[execOp,ho,this,Op.unary,Op.intBits];rfl) (dD.2 (by simp[pS]))
 ·have:=fS.1 hx
  exact aA.value hm (by simp[execOp,ho,this,Op.unary]) (fS.2 rfl)
def Ty.ny:∀(p q:Path) {t u:Ty},t.at p=some u→t.off (app p q)=t.off p+u.off q
 | [],q,t,u,h=>by simp only[Ty.at,au] at h;subst h;simp[app,Ty.off]
 |.fst::p,q,t,u,h=>by
  cases t<;>simp only[Ty.at,reduceCtorEq] at h
  simp only[app,Ty.off];exact Ty.ny p q h
 |.snd::p,q,t,u,h=>by
  cases t<;>simp only[Ty.at,reduceCtorEq] at h
  simp only[app,Ty.off];rw[Ty.ny p q h];omega
 |.idx i::p,q,t,u,h=>by
  cases t<;>simp only[Ty.at,reduceCtorEq] at h
  simp only[app,Ty.off];rw[Ty.ny p q h];omega
def ef.app:∀(p q:Path) {t u:Ty},t.at p=some u→ef p t→ef q u→ef (app p q) t
 | [],q,t,u,h,_,hq=>by simp only[Ty.at,au] at h;subst h;exact hq
 |.fst::p,q,t,u,h,hp,hq=>by
  cases t<;>simp only[Ty.at,reduceCtorEq] at h
  exact ef.app p q h hp hq
 |.snd::p,q,t,u,h,hp,hq=>by
  cases t<;>simp only[Ty.at,reduceCtorEq] at h
  exact ef.app p q h hp hq
 |.idx i::p,q,t,u,h,hp,hq=>by
  cases t<;>simp only[Ty.at,reduceCtorEq] at h
  exact⟨hp.1,ef.app p q h hp.2 hq⟩
def nB:∀(n:Nat) {t u:Ty},t.at (bA n)=some u→ef (bA n) t
 |0,t,u,h=>by cases t<;>simp only[bA,Ty.at,reduceCtorEq] at h<;>exact trivial
 |n+1,t,u,h=>by
  cases t<;>simp only[bA,Ty.at,reduceCtorEq] at h
  exact nB n h
def Addr.jY (B k n:Nat):(⟨B,k,none⟩:Addr).add n=⟨B,k+n,none⟩:=by
 unfold Addr.add
 split<;>simp_all
def sI {t u:Ty}{T n:Nat}{v:Value}{B k:Nat}(hT:aJ P t T)(hu:t.at (bA n)=some u)(hsz:u.size≠0)(hv:v = .pointer (some ⟨B,k,none⟩)) :
  (Instr.fieldAt T v n).run P w = .ok (.pointer (some ⟨B,k+t.off (bA n),none⟩)) w:=by
 obtain⟨fs,f,h1,h2,h3,h4⟩:=hT.field hu
 subst hv
 simp[Instr.fieldAt,run_underlying h1,h2,Instr.sureAddr,fieldPlace,h4.info.run_sizeOf,hsz,Addr.jY,h3]
def gF.pointer (x:Option Addr):gF [Value.pointer x]:=⟨_,rfl,rfl⟩
end
section
variable {P:Program} {F:Fix} {C:Cx} {o:Oper} {a:Act} {w:World} {m:MF} {I:Nat→Prop} {ρ:Pl} {d:aE}
def j5:∀{x:AT} {t:Ty},x.fits t=true→Typed x t:=by
 intro x
 induction x with
 |leaf u y=>intro t h;simp only[AT.fits] at h;exact(Ty.cZ h).symm▸rfl
 |whole id st u=>intro t h;cases t<;>simp only[AT.fits,reduceCtorEq] at h<;>simp only[Typed];rw[Ty.cZ h]
 |piece id st off len u=>intro t h;cases t<;>simp only[AT.fits,reduceCtorEq] at h<;>simp only[Typed];rw[Ty.cZ h]
 |nil u=>intro t h;cases t<;>simp only[AT.fits,reduceCtorEq] at h<;>simp only[Typed];rw[Ty.cZ h]
 |pair l r ihl ihr=>
  intro t h
  cases t<;>simp only[AT.fits,reduceCtorEq] at h
  simp only[aF] at h
  exact⟨_,_,rfl,ihl h.1,ihr h.2⟩
 |_=>intro t h;cases t<;>simp[AT.fits] at h
def vp {T:Nat}{t:Ty}{xs:Array Value}{k:Nat}{v:Value}(hT:aJ P t T)(ha:t.isAgg=false)(hx:xs[k]?=some v):(part T xs k).run P w = .ok v w:=by
 unfold part
 rw[Sem.run_bind,hT.qz,ha]
 simp[hx]
def wC {d:Nat}:∀{t:Ty} {fs:List Field} {off:Nat} {pre pre' v1 v2:List Value} {x y:t.den},t.flat=true→ck P t fs off→(∀f∈fs,f.name ≠ "_")→af w I t x v1→af w I t y v2 →
  pre.length=off→pre'.length=off→(Op.eqFields (d+1) (pre++v1).toArray (pre'++v2).toArray fs).run P w = .ok (iN t x y) w:=by
 intro t
 induction t with
 |unit=>
  intro fs off pre pre' v1 v2 x y _ hf _ _ _ _ _
  unfold ck at hf
  simp only[TO] at hf
  subst hf
  simp[Op.eqFields,iN]
 |pair a b aL aK=>
  intro fs off pre pre' v1 v2 x y hfl hf hn h1 h2 hp hp'
  unfold ck at hf
  simp only[TO] at hf
  obtain⟨f,l,rfl,ho,hta,hl⟩:=hf
  simp only[af] at h1 h2
  obtain⟨a1,b1,rfl,jK,cV⟩:=h1
  obtain⟨a2,b2,rfl,ha2,cH⟩:=h2
  have hname:=hn f lu
  have hn':∀f∈l,f.name ≠ "_" :=fun g hg=>hn g (gP _ hg)
  have key:∀(c1 c2:Value) (r:Bool),a.isAgg=false→a.size=1→a1 = [c1]→a2 = [c2]→b.flat=true→(Op.equalIn (d+1) f.type c1 c2).run P w = .ok r w →
    (Op.eqFields (d+1) (pre++(a1++b1)).toArray (pre'++(a2++b2)).toArray (f::l)).run P w = .ok (r&&iN b x.2 y.2) w:=by
   intro c1 c2 r kP hsz e1 e2 hfb hr
   subst e1
   subst e2
   have p1:=vp (w:=w) (xs:=(pre++([c1]++b1)).toArray) (k:=f.offset) (v:=c1) hta kP (by rw[ho];simp[←hp])
   have p2:=vp (w:=w) (xs:=(pre'++([c2]++b2)).toArray) (k:=f.offset) (v:=c2) hta kP (by rw[ho];simp[←hp'])
   have eN:=aK (pre:=pre ++ [c1]) (pre':=pre' ++ [c2]) hfb hl hn' cV cH (by simp[hp,hsz]) (by simp[hp',hsz])
   simp only[bX] at eN
   simp only[Op.eqFields,hname,ne_eq,not_false_eq_true,cj,Sem.run_bind,p1,p2,hr,Result.andThen_ok]
   cases r with
   |true=>simpa using eN
   |false=>simp
  cases a with
  |int k=>
   simp only[af] at jK ha2
   have hu:P.underlying f.type=some (.int k):=by simp only[TO] at hta;exact hta.2
   exact key _ _ _ rfl rfl jK ha2 (by simpa[Ty.flat] using hfl) (run_equalIn_int w d f.type k k _ _ hu)
  |bool=>
   simp only[af] at jK ha2
   have hu:P.underlying f.type=some .bool:=by simp only[TO] at hta;exact hta.2
   exact key _ _ _ rfl rfl jK ha2 (by simpa[Ty.flat] using hfl) (run_equalIn_bool' w d f.type _ _ hu)
  |str=>
   simp only[af] at jK ha2
   have hu:P.underlying f.type=some .string:=by simp only[TO] at hta;exact hta.2
   refine key _ _ _ rfl rfl jK ha2 (by simpa[Ty.flat] using hfl) ?_
   rw[run_equalIn_string w d f.type _ _ hu,pU,pU]
   rfl
  |_=>simp[Ty.flat] at hfl
 |_=>intro fs off pre pre' v1 v2 x y hfl;simp[Ty.flat] at hfl
def wU {op:BinOp}{T T2:Nat}{x y:Operand}{ax ay:AT}(hC:bW P C)(ho:o.op = .binOp op T x y T2)(hm:aD F m w I ρ)(hx:az w I m ρ ax (a.eval x))(hy:az w I m ρ ay (a.eval y))
  (hd:(match oo op,C.eqt T with
  |some n,some t=>bif t.flat&&ax.fits t&&ay.fits t then
   match ax.pure,ay.pure with
   |some d,some e=>match d.as t,e.as t with
    |some p,some q=>some ⟨.leaf .bool (bif n then !iN t p q else iN t p q),[],[]⟩
    |_,_=>none
   |_,_=>none
   else none
  |_,_=>(none:Option aE))=some d):aA P F o a w m I ρ d:=by
 split at hd
 ·rename_i n t hn ht
  obtain⟨hc,hd⟩:=aH hd
  simp only[aF] at hc
  obtain⟨⟨hfl,hfx⟩,hfy⟩:=hc
  split at hd
  ·rename_i d1 d2 hp1 hp2
   split at hd
   ·rename_i p q hq1 hq2
    cases hd
    have:=cz hq1
    subst this
    have:=cz hq2
    subst this
    obtain⟨hT,hE⟩:=hC.eqt ht
    have t1:=j5 hfx
    have t2:=j5 hfy
    obtain⟨c1,e1,r1⟩:=aB.pack t1 ((gN t1).1 hx)
    obtain⟨c2,e2,r2⟩:=aB.pack t2 ((gN t2).1 hy)
    have s1:=oX hp1 r1
    have s2:=oX hp2 r2
    have kP:t.isAgg=true:=by cases t<;>first|rfl|simp[Ty.flat] at hfl
    obtain⟨fs,hu,hfs⟩:∃fs,P.underlying T=some (.struct fs)∧ck P t fs.toList 0:=by
     unfold aJ at hT
     cases t with
     |unit=>simp only[TO] at hT;obtain⟨_,fs,h1,h2⟩:=hT;exact⟨fs,h1,by unfold ck;simp only[TO];exact h2⟩
     |pair a b=>simp only[TO] at hT;obtain⟨_,fs,h1,f,l,h2,h3,h4,h5⟩:=hT;exact⟨fs,h1,by unfold ck;simp only[TO];exact⟨f,l,h2,h3,h4,by simpa using h5⟩⟩
     |_=>simp[Ty.flat] at hfl
    have hfo:P.fieldsOf T=fs:=by simp[Program.fieldsOf,hu]
    have hrun:=wC (P:=P) (w:=w) (I:=I) (d:=9998) (pre:=[]) (pre':=[]) (x:=p) (y:=q) hfl hfs (by rw[←hfo];exact hE.names) s1 s2 rfl rfl
    simp only[zl17] at hrun
    have heq:(Op.equalIn 10000 T (.agg c1.toArray) (.agg c2.toArray)).run P w = .ok (iN t p q) w:=by
     rw[show(10000:Nat)=9999+1 from rfl,run_equalIn_agg w 9999 T _ _ (by rw[hfo];exact hu) hE.held,hfo]
     exact hrun
    have g1:a.eval x = .agg c1.toArray:=by rw[e1];simp[aQ,kP]
    have g2:a.eval y = .agg c2.toArray:=by rw[e2];simp[aQ,kP]
    have hgd:=run_eqGuard_agg (P:=P) w op T x y c1.toArray c2.toArray hE.guard
    cases op with
    |eql=>
     simp only[oo,au] at hn
     subst hn
     have hb:(binOp .eql T (.agg c1.toArray) (.agg c2.toArray)).run P w = .ok (.bool (iN t p q)) w:=by rw[run_eql_struct,heq];rfl
     exact aA.value hm (by simp[execOp,ho,g1,g2,hgd,hb]) (fS.2 rfl)
    |neq=>
     simp only[oo,au] at hn
     subst hn
     have hb:(binOp .neq T (.agg c1.toArray) (.agg c2.toArray)).run P w = .ok (.bool (!iN t p q)) w:=by
      have h0:binOp .neq T (.agg c1.toArray) (.agg c2.toArray)=(do pure (.bool (!(←Op.equal T (.agg c1.toArray) (.agg c2.toArray))))):=rfl
      rw[h0,Sem.run_bind]
      have:(Op.equal T (.agg c1.toArray) (.agg c2.toArray)).run P w = .ok (iN t p q) w:=heq
      rw[this]
      rfl
     exact aA.value hm (by simp[execOp,ho,g1,g2,hgd,hb]) (fS.2 rfl)
    |_=>simp[oo] at hn
   ·cases hd
  ·cases hd
 ·cases hd
end
section
variable {P:Program} {F:Fix} {C:Cx} {o:Oper} {a:Act} {w:World} {m:MF} {I:Nat→Prop} {ρ:Pl} {d:aE}
def wM {op:BinOp}{T T2:Nat}{x y:Operand}{ax ay:AT}(hC:bW P C)(ho:o.op = .binOp op T x y T2)(hm:aD F m w I ρ)(hx:az w I m ρ ax (a.eval x))(hy:az w I m ρ ay (a.eval y))
  (hd:binD C T op ax ay=some d) (hok:∀b∈d.ok,b=true):aA P F o a w m I ρ d:=by
 unfold binD at hd
 split at hd
 ·rename_i k p k' q
  simp only[au] at hd
  subst hd
  have e1:=dD.1 hx
  have e2:=dD.1 hy
  have h0:(0:Int)≤q:=by simpa using hok
  have:¬(q:Int)<0:=Int.not_lt.mpr h0
  exact aA.value hm (by simp[execOp,ho,e1,e2,rA,binOp,Op.shift,this]) (dD.2 rfl)
 ·rename_i k p k' q
  simp only[au] at hd
  subst hd
  have e1:=dD.1 hx
  have e2:=dD.1 hy
  have h0:(0:Int)≤q:=by simpa using hok
  have:¬(q:Int)<0:=Int.not_lt.mpr h0
  exact aA.value hm (by simp[execOp,ho,e1,e2,rA,binOp,Op.shift,this]) (dD.2 rfl)
 ·rename_i k p k' q hn1 hn2
  cases hk:lJ k k' with
  |false=>simp[hk] at hd
  |true=>
   simp only[hk,aG] at hd
   have:=qg hk
   subst this
   have e1:=dD.1 hx
   have e2:=dD.1 hy
   obtain⟨t,r,hdd,v,hv,hr⟩:=xU (m:=m) (I:=I) (ρ:=ρ) (w:=w) (P:=P) (T:=T) hd hok ⟨by rintro rfl;simp[oE] at hd,by rintro rfl;simp[oE] at hd⟩
   rw[hdd]
   exact aA.value hm (by simp[execOp,ho,e1,e2,rA,hr]) hv
 ·have e1:=iX.1 hx
  have e2:=iX.1 hy
  obtain⟨t,r,hdd,v,hv,hr⟩:=y9 (m:=m) (I:=I) (ρ:=ρ) (w:=w) (P:=P) (T:=T) hd hok
  rw[hdd]
  exact aA.value hm (by simp[execOp,ho,e1,e2,wE,hr]) hv
 ·rename_i p q
  cases hi:dK (C.ty T) .bool with
  |false=>simp[hi] at hd
  |true=>
   simp only[hi,aG,au] at hd
   subst hd
   have hT:=hC.ty (g_ hi)
   unfold aJ at hT
   simp only[TO] at hT
   have e1:=fS.1 hx
   have e2:=fS.1 hy
   exact aA.value hm (by simp[execOp,ho,e1,e2,tW,run_eql_bool _ _ _ _ hT.2]) (fS.2 rfl)
 ·rename_i p q
  cases hi:dK (C.ty T) .bool with
  |false=>simp[hi] at hd
  |true=>
   simp only[hi,aG,au] at hd
   subst hd
   have hT:=hC.ty (g_ hi)
   unfold aJ at hT
   simp only[TO] at hT
   have e1:=fS.1 hx
   have e2:=fS.1 hy
   exact aA.value hm (by simp[execOp,ho,e1,e2,tW,run_neq_bool _ _ _ _ hT.2]) (fS.2 rfl)
 ·exact wU hC ho hm hx hy hd
def wY {T n:Nat}{x:Operand}{ax:AT}(hC:bW P C)(ho:o.op = .fieldAddr T x n)(hm:aD F m w I ρ)(hx:az w I m ρ ax (a.eval x))
  (hd:lD C m T ax n=some d):aA P F o a w m I ρ d:=by
 unfold lD at hd
 split at hd
 ·rename_i t y u hu
  have hT:=hC.ty hu
  cases hi:t.is u with
  |false=>simp[hi] at hd
  |true=>
   simp only[hi,aG] at hd
   have:=Ty.cZ hi
   subst this
   split at hd
   ·rename_i v' s z fP hg
    cases hs:Nat.ble 1 v'.size with
    |false=>simp[hs] at hd
    |true=>
     simp only[hs,aG,au] at hd
     subst hd
     have hsz:=fu hs
     have hx':=cn (a:=.leaf (.ref t) y) rfl hx (by simp) (by simp) (by simp) (by simp)
     simp only[aa,af,eG,dY] at hx'
     obtain⟨B,off,e1,e2,e3,cs,e4,e5,e6⟩:=hx'
     obtain⟨f0,pre,mid,post,f1,f2,f3,f4⟩:=j6 (w:=w) (I:=I) (m:=m) (ρ:=ρ) (bA n) (a:=.leaf t y) rfl e6 (nB n fP) hg fP
     simp only[Typed] at f0
     subst f0
     refine aA.value hm (v:=.pointer (some ⟨B,off+t.off (bA n),none⟩)) ?_ ?_
     ·have:=sI (w:=w) hT fP (by omega) e1
      simp[execOp,ho,this]
     ·rw[mG]
      unfold aB
      simp only[AT.isAgg,Ty.isAgg,dI,bI,aa,af]
      refine⟨B,_,rfl,e2,by omega,mid,f3,fun j hj=>?_,f4⟩
      have:=e5 (t.off (bA n)+j) (by rw[←e4,f1];simp;omega)
      rw[←iq] at this
      rw[this,f1,bX,c_ (by omega),cL (by omega)]
      congr 1
      omega
   ·simp at hd
 ·rename_i id st p u hu
  have hT:=hC.ty hu
  split at hd
  ·rename_i st' fz t at_ hc
   obtain⟨hb,hst⟩:=cR hc
   cases hi:dK (t.at p) u&&kn (u.at (bA n)) with
   |false=>simp[hi] at hd
   |true=>
    simp only[hi,aG,au] at hd
    subst hd
    simp only[aF] at hi
    have dh:=g_ hi.1
    cases fP:u.at (bA n) with
    |none=>simp[fP,kn] at hi
    |some v'=>
     have hsz:1≤v'.size:=fu (by simpa[fP,kn] using hi.2)
     have hx':=cn (a:=.aV id st p) rfl hx (by simp) (by simp) (by simp) (by simp)
     simp only[aa] at hx'
     obtain⟨_,_,h3⟩:=hx'
     obtain⟨e0,B,e1,e2⟩:=h3 _ hb hst t at_ rfl
     refine aA.value hm (v:=.pointer (some ⟨B,t.off (app p (bA n)),none⟩)) ?_ ?_
     ·have:=sI (w:=w) hT fP (by omega) (by simpa using e2)
      simp[execOp,ho,this,Ty.ny p (bA n) dh]
     ·show aB _ _ _ _ _ _
      unfold aB
      simp only[AT.isAgg,dI,bI,aa]
      refine⟨gF.pointer _,cq.of hb hst,fun b hb' hs t' a' aM=>?_⟩
      rw[hb] at hb'
      cases hb'
      cases aM
      exact⟨ef.app p (bA n) dh e0 (nB n fP),B,e1,rfl⟩
  ·simp at hd
 ·rename_i id st row p u hu
  have hT:=hC.ty hu
  have key:∀{st':Nat} {fz:Bool} {c:BC} {t:Ty} {k:Nat},cur m id st=some ⟨st',fz,c⟩→c.arr=some (t,k)→(bif dK (t.at p) u&&kn (u.at (bA n)) then some (⟨.ptr id st row (app p (bA n)),[],[]⟩:aE) else none)=some d→aA P F o a w m I ρ d:=by
   intro st' fz c t k hc cA hd
   obtain⟨hb,hst⟩:=cR hc
   cases hi:dK (t.at p) u&&kn (u.at (bA n)) with
   |false=>simp[hi] at hd
   |true=>
    simp only[hi,aG,au] at hd
    subst hd
    simp only[aF] at hi
    have dh:=g_ hi.1
    cases fP:u.at (bA n) with
    |none=>simp[fP,kn] at hi
    |some v'=>
     have hsz:1≤v'.size:=fu (by simpa[fP,kn] using hi.2)
     have hx':=cn (a:=.ptr id st row p) rfl hx (by simp) (by simp) (by simp) (by simp)
     simp only[aa] at hx'
     obtain⟨_,_,h3⟩:=hx'
     obtain⟨e0,kL,B,o',e1,e2⟩:=h3 _ hb hst t k cA
     refine aA.value hm (v:=.pointer (some ⟨B,o'+row*t.size+t.off (app p (bA n)),none⟩)) ?_ ?_
     ·have:=sI (w:=w) hT fP (by omega) (by simpa using e2)
      simp[execOp,ho,this,Ty.ny p (bA n) dh,iq]
     ·show aB _ _ _ _ _ _
      unfold aB
      simp only[AT.isAgg,dI,bI,aa]
      refine⟨gF.pointer _,cq.of hb hst,fun b hb' hs t' a' aM=>?_⟩
      rw[hb] at hb'
      cases hb'
      rw[cA] at aM
      cases aM
      exact⟨ef.app p (bA n) dh e0 (nB n fP),kL,B,o',e1,rfl⟩
  split at hd
  ·rename_i st' fz t xs hc
   exact key hc rfl hd
  ·rename_i st' fz rs t xs hc
   exact key hc rfl hd
  ·simp at hd
 ·simp at hd
def wW {T n:Nat}{x:Operand}{ax:AT}(hC:bW P C)(ho:o.op = .field T x n)(hm:aD F m w I ρ)(hx:az w I m ρ ax (a.eval x))
  (hd:rD C T ax n=some d):aA P F o a w m I ρ d:=by
 unfold rD at hd
 split at hd
 ·rename_i t ht
  have hT:=hC.ty ht
  cases hf:ax.fits t with
  |false=>simp[hf] at hd
  |true=>
   simp only[hf,aG] at hd
   have hty:=j5 hf
   split at hd
   ·rename_i u b hu hg
    cases hd
    obtain⟨vs,hv,hvs⟩:=aB.pack hty ((gN hty).1 hx)
    obtain⟨fs,f,h1,h2,h3,h4⟩:=hT.field hu
    obtain⟨f0,pre,mid,post,f1,f2,f3,f4⟩:=j6 (bA n) hty hvs (nB n hu) hg hu
    have kP:t.isAgg=true:=by
     cases t<;>first|rfl|(cases n<;>simp[bA,Ty.at] at hu)
    refine aA.value hm (v:=aQ u mid) ?_ ((gN f0).2 (aB.unpack f0 h4 f4))
    have hpart:(part f.type vs.toArray f.offset).run P w = .ok (aQ u mid) w:=by
     unfold part
     rw[Sem.run_bind,h4.qz]
     simp only[Result.andThen_ok]
     cases ha:u.isAgg with
     |true=>
      have:vs.toArray.extract f.offset (f.offset+u.size)=mid.toArray:=by
       rw[f1,h3,←f2,←f3]
       apply eU
       simp[List.extract_eq_take_drop]
      simp only[cj,Sem.run_bind,h4.info.run_sizeOf,Result.andThen_ok,Sem.run_pure,aQ,ha,this]
     |false=>
      have hs:=Ty.qB h4 ha
      obtain⟨v,rfl⟩:∃v,mid = [v]:=by
       match mid,f3 with
       | [v],_=>exact⟨v,rfl⟩
       | [],hl=>simp[hs] at hl
       |_::_::_,hl=>simp[hs] at hl
      have:vs.toArray[f.offset]?=some v:=by
       rw[f1,h3,←f2]
       simp
      simp[aQ,ha,this]
    simp[execOp,ho,hv,aQ,kP,Instr.field,run_underlying h1,h2,asAgg]
    rw[hpart]
    simp[aQ]
   ·simp at hd
 ·simp at hd
end
end Go.Ab
