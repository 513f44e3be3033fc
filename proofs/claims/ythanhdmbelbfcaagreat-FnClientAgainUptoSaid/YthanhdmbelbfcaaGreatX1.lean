import GoSem.Core.Code
import GoSem.Core.View
import GoSem.Op.String
import GoSem.Dispatch
import Derived.Calls
import Derived.Orders
import Derived.Laws.CopyRow
import Derived.Laws.AppendOwn
import Derived.Laws.OwnMore
import Derived.Laws.MakeOwn
import Derived.Laws.Rows
import Derived.Tactics
import Derived.Laws.StructEq
import Derived.Laws.Small
import Derived.Laws.Strings
set_option linter.defProp false
def cT:=@if_neg
def fE:=@if_true
def eY:=@List.length_append
def zl3:=@List.length_take
def zl4:=@List.length_drop
def zl5:=@List.getElem?_drop
def zl6 {α:Type _}{a:α}{as:List α}:(a::as).length=as.length+1:=rfl
def bQ:=@if_pos
def zl8:=@List.getElem?_eq_none
def cC:=@Nat.add_mul
def bU:=@List.mem_append
def ee:=@List.mem_append_left
def dy:=@List.mem_append_right
def gZ:=@List.mem_cons_of_mem
def eC:=@List.length_eq_zero_iff
def ry:=@Bool.or_eq_false_iff
def zl16:=@List.set_cons_zero
def zl17 {α:Type _}(as:List α): []++as=as:=rfl
def bA:=@Nat.le_refl
def cZ:=@List.append_assoc
def zl20:=@List.cons_append
def aX:=@Option.some.injEq
def l9:=@Option.bind_eq_some_iff
def zl23 {α β:Type _}(a:α)(f:α→β):(some a).map f=some (f a):=rfl
def zl24:=@Option.bind_some
def bN:=@List.mem_cons
def zl26:=@List.getD_eq_getElem?_getD
def zl27:=@List.getElem?_eq_getElem
def cq:=@Option.map_eq_some_iff
def zl29:=@List.replicate_succ
def dH:=@Nat.eq_of_beq_eq_true
def nV:=@Nat.le_trans
def l_:=@if_false
def jX:=@Prod.mk.injEq
def gj:=@List.getElem?_append_right
def eM:=@List.getElem?_append_left
def dW {α:Type _}{a b:α}:cond true a b=a:=rfl
def iM:=@Nat.add_assoc
def bB:=@Bool.and_eq_true
def pO {α:Type _}{a b:α}:cond false a b=b:=rfl
def me:=@List.mem_cons_self
def fc:=@Nat.le_of_ble_eq_true
def jY:=@List.cons.injEq
def jZ:=@and_true
def zl44:=@Bool.false_eq_true
def j0:=@Array.ext'
def zl46:=@List.not_mem_nil
def pP:=@forall_eq_or_imp
def mS:=@decide_eq_true_eq
def lz:=@Nat.lt_irrefl
def zl50:=@Nat.add_zero
def mT {α β:Type _}{f:α→β}{a:α}{l:List α}:(a::l).map f=f a::l.map f:=rfl
def lA:=@Nat.zero_add
def jM:=@List.append_nil
def zl54:=@List.map_append
def rz:=@Bool.or_eq_true
def gG:=@List.mem_map
def zl57:=@List.take_of_length_le
def rA {α:Type _}:([]:List α).length=0:=rfl
def gH:=@Nat.mul_le_mul_right
def i_:=@List.mem_singleton
def cL:=@List.nodup_append
def dN:=@List.nodup_cons
def zl63:=@Bool.not_eq_true'
def mg:=@List.Perm.append_right
def mh:=@List.perm_append_comm
def zl66:=@List.length_set
def zl67:=@List.length_replicate
def zl68:=@List.take_append_drop
def mU:=@Array.mem_toList_iff
def zl70:(!true)=false:=rfl
def zl71:=@Bool.false_or
def zl72 {α:Type _}{a:α}{l:List α}:(a::l)[0]?=some a:=rfl
def zl73:=@decide_true
def zl74:=@Bool.and_false
def zl75:=@decide_false
def zl76 (b:Bool):(true || b)=true:=rfl
def nX:=@List.getElem?_eq_some_iff
def zl78:=@beq_iff_eq
def zl79:=@of_decide_eq_true
def lB:=@Nat.zero_le
def zl81:=@Bool.and_eq_false_iff
def zl82:=@List.sum_cons
def zl83:=@Nat.eq_zero_or_pos
def zl84:=@List.drop_zero
def zl85:=@Classical.choose_spec
def zl86:=@decide_eq_true
def zl87:=@List.set_append_right
def zl88:=@List.take_succ_eq_append_getElem
def zl89:=@beq_eq_false_iff_ne
def zl90:=@decide_eq_false
def zl91:=@Int.tdiv_eq_ediv_of_nonneg
def zl92:=@Bool.and_self
def zl93 (b:Bool):(false&&b)=false:=rfl
def zl94 (n:Nat):((n:Int)).toNat=n:=rfl
def zl95:=@beq_self_eq_true
def zl96:=@List.getElem_mem
def zl97:=@decide_eq_false_iff_not
def zl98:(!false)=true:=rfl
def zl99:=@Bool.or_true
def zl100:=@List.getElem_of_mem
def zl101:=@of_decide_eq_false
def zl102:=@List.take_length
def zl103 {α:Type _}{a:α}: [a].length=1:=rfl
def zl104:=@List.singleton_append
def zl105:=@Bool.eq_iff_iff
def zl106:=@decide_eq_true_iff
def zl107:=@UInt8.lt_iff_toNat_lt
def zl108 (b:Bool):(true&&b)=b:=rfl
def zl109:=@List.drop_eq_getElem_cons
def zl111:=@Int.natCast_nonneg
def zl112:=@List.eraseIdx_eq_take_drop_succ
def zl113:=@List.length_eraseIdx_of_lt
def zog {α β:Type}[Inhabited β](f:α→Option β)(x:α):β:=match f x with | some y=>y|none=>default
def zov {α β:Type}[Inhabited β]{f:α→Option β}{x:α}{y:β}(h:f x=some y):zog f x=y:=by grind [zog]
def zv {α β:Type}[Inhabited β]{f:α→Option β}:∀x y,f x=some y→zog f x=y:=fun _ _ h=>zov h
def zdt {p:Prop}[Decidable p](h:p:=by omega):decide p=true:=decide_eq_true h
def zdf {p:Prop}[Decidable p](h:¬p:=by omega):decide p=false:=decide_eq_false h
namespace Go.Ab
inductive Ty where
 |unit|bool|int (k:IntKind)|str
 |lst (t:Ty)|own (t:Ty)|pair (a b:Ty)|arr (n:Nat) (t:Ty)|ref (t:Ty)
 deriving DecidableEq,Repr,Inhabited
@[reducible] def Ty.den:Ty→Type
 |.unit=>Unit
 |.bool=>Bool
 |.int _=>Int
 |.str=>List UInt8
 |.lst t=>List t.den
 |.own t=>List t.den
 |.pair a b=>a.den×b.den
 |.arr _ t=>List t.den
 |.ref t=>t.den
def Ty.size:Ty→Nat
 |.unit=>0
 |.pair a b=>a.size+b.size
 |.arr n t=>n*t.size
 |_=>1
def Ty.dflt:(t:Ty)→t.den
 |.unit=>()
 |.bool=>false
 |.int _=>0
 |.str=>[]
 |.lst _=>[]
 |.own _=>[]
 |.pair a b=>(a.dflt,b.dflt)
 |.arr n t=>List.replicate n t.dflt
 |.ref t=>t.dflt
def Ty.isAgg:Ty→Bool
 |.unit | .pair _ _ | .arr _ _=>true
 |_=>false
def Ty.fu:Ty→Bool
 |.own _=>true
 |.pair a b=>a.fu || b.fu
 |_=>false
def Ty.aV:Ty→Bool
 |.lst _ | .ref _=>true
 |.own t | .arr _ t=>t.aV
 |.pair a b=>a.aV || b.aV
 |_=>false
def app {α:Type}:List α→List α→List α
 | [],b=>b
 |x::a,b=>x::app a b
def bW {α:Type}(p:α→Bool):List α→Bool
 | []=>false
 |x::l=>p x || bW p l
def cH {α:Type}(p:α→Bool):List α→Bool
 | []=>true
 |x::l=>p x&&cH p l
def bu {α β:Type}(f:α→β):List α→List β
 | []=>[]
 |x::l=>f x::bu f l
def dY {α β:Type}(f:α→Option β):List α→List β
 | []=>[]
 |x::l=>match f x with | some y=>y::dY f l|none=>dY f l
def fG {α β:Type}(f:α→List β):List α→List β
 | []=>[]
 |x::l=>app (f x) (fG f l)
def cY {α:Type}:List α→Nat→Option α
 | [],_=>none
 |x::_,0=>some x
 |_::l,n+1=>cY l n
def upto:Nat→List Nat
 |0=>[]
 |n+1=>app (upto n) [n]
def lO:IntKind→IntKind→Bool
 |.i8,.i8 | .i16,.i16 | .i32,.i32 | .i64,.i64 | .u8,.u8 | .u16,.u16 | .u32,.u32 | .u64,.u64=>true
 |_,_=>false
def Ty.is (a b:Ty):Bool:=if a=b then true else false
def dL (o:Option Ty)(t:Ty):Bool:=match o with | some u=>u.is t|none=>false
structure DV where
 t:Ty
 x:t.den
def DV.as (d:DV)(t:Ty):Option t.den:=if h:d.t=t then some (h▸d.x) else none
inductive PS where
 |fst|snd|idx (i:Nat)
 deriving DecidableEq,Repr
abbrev Path:=List PS
inductive AT where
 |leaf (t:Ty) (x:t.den)
 |whole (id st:Nat) (t:Ty)
 |piece (id st off len:Nat) (t:Ty)
 |nil (t:Ty)
 |dU
 |pair (l r:AT)
 |undef (n:Nat)
 |aR (id st:Nat) (path:Path)
 |ptr (id st row:Nat) (path:Path)
 |fn (f:FuncId) (caps:AT)
 |bJ (l r:AT)
 |dM
 |nest (id st rs row:Nat) (p:Path) (u:Ty)
 |bS (g:List (Nat×Bool)) (a:AT)
 |any
inductive BC where
 |var (t:Ty) (a:AT)
 |rows (t:Ty) (xs:List t.den)
 |deep (rs:Nat) (t:Ty) (xs:List t.den)
 |dead
def Path.pairs:Path→Bool
 | []=>true
 |.idx _::_=>false
 |_::p=>Path.pairs p
def BC.arr:BC→Option (Ty×Nat)
 |.rows t xs | .deep _ t xs=>some (t,xs.length)
 |_=>none
structure aa where
 st:Nat
 fz:Bool
 c:BC
abbrev Mem:=List (Nat×aa)
structure St where
 env:List (Nat×AT)
 mem:Mem
 ok:List Bool
def find {α:Type}:List (Nat×α)→Nat→Option α
 | [],_=>none
 | (i,a)::l,j=>bif Nat.beq i j then some a else find l j
def AT.isAgg:AT→Bool
 |.leaf t _=>t.isAgg
 |.pair _ _=>true
 |.nest _ _ _ _ _ u=>u.isAgg
 |_=>false
def AT.get:Path→AT→Option AT
 | [],a=>some a
 |.fst::p,.pair l _=>l.get p
 |.snd::p,.pair _ r=>r.get p
 |.fst::p,.leaf (.pair a _) x=>AT.get p (.leaf a x.1)
 |.snd::p,.leaf (.pair _ b) x=>AT.get p (.leaf b x.2)
 |.idx i::p,.leaf (.arr _ t) xs=>AT.get p (.leaf t (xs.getD i t.dflt))
 |_::_,_=>none
def AT.pure:AT→Option DV
 |.leaf t x=>some ⟨t,x⟩
 |.nil t=>some ⟨.lst t,[]⟩
 |.pair l r=>match l.pure,r.pure with
  |some a,some b=>some ⟨.pair a.t b.t,(a.x,b.x)⟩
  |_,_=>none
 |_=>none
def AT.set:Path→AT→AT→Option AT
 | [],_,v=>some v
 |.fst::p,.pair l r,v=>(AT.set p l v).map (.pair · r)
 |.snd::p,.pair l r,v=>(AT.set p r v).map (.pair l ·)
 |.fst::p,.leaf (.pair a b) x,v=>(AT.set p (.leaf a x.1) v).map (.pair · (.leaf b x.2))
 |.snd::p,.leaf (.pair a b) x,v=>(AT.set p (.leaf b x.2) v).map (.pair (.leaf a x.1) ·)
 |.idx i::p,.leaf (.arr n t) xs,v=>
  match(AT.set p (.leaf t (xs.getD i t.dflt)) v).bind AT.pure with
  |some d=>(d.as t).map fun y=>.leaf (.arr n t) (xs.set i y)
  |none=>none
 |_::_,_,_=>none
def Ty.at:Path→Ty→Option Ty
 | [],t=>some t
 |.fst::p,.pair a _=>a.at p
 |.snd::p,.pair _ b=>b.at p
 |.idx _::p,.arr _ t=>t.at p
 |_::_,_=>none
def Ty.off:Path→Ty→Nat
 |.fst::p,.pair a _=>a.off p
 |.snd::p,.pair a b=>a.size+b.off p
 |.idx i::p,.arr _ t=>i*t.size+t.off p
 |_,_=>0
def AT.fits:AT→Ty→Bool
 |.leaf t _,u=>t.is u
 |.whole _ _ t,.lst u | .piece _ _ _ _ t,.lst u | .nil t,.lst u=>t.is u
 |.pair l r,.pair a b=>l.fits a&&r.fits b
 |_,_=>false
def Ty.aS:Ty→Ty
 |.own t=>.lst t
 |.pair a b=>.pair a.aS b.aS
 |t=>t
def cur (m:Nat→Option aa)(id st:Nat):Option aa:=
 match m id with
 |some b=>bif Nat.beq b.st st then some b else none
 |none=>none
def rowsOf (m:Nat→Option aa)(id st:Nat)(t:Ty):Option (Bool×List t.den):=
 match cur m id st with
 |some ⟨_,fz,.rows u xs⟩=>(DV.as ⟨.lst u,xs⟩ (.lst t)).map fun ys=>(fz,ys)
 |_=>none
def gU (m:Nat→Option aa)(id st:Nat)(t:Ty):Option (List t.den):=
 match cur m id st with
 |some ⟨_,_,.rows u xs⟩=>DV.as ⟨.lst u,xs⟩ (.lst t)
 |some ⟨_,_,.deep _ u xs⟩=>DV.as ⟨.lst u,xs⟩ (.lst t)
 |_=>none
def o7 (m:Nat→Option aa)(id st:Nat)(t:Ty):Option (List t.den):=
 match cur m id st with
 |some ⟨_,false,.rows u xs⟩=>bif u.aV then none else DV.as ⟨.lst u,xs⟩ (.lst t)
 |some ⟨_,_,.deep _ u xs⟩=>DV.as ⟨.lst u,xs⟩ (.lst t)
 |_=>none
def cR (m:Nat→Option aa):AT→Option DV
 |.leaf t x=>some ⟨t,x⟩
 |.nil t=>some ⟨.lst t,[]⟩
 |.whole id st t=>(rowsOf m id st t).map fun r=>⟨.lst t,r.2⟩
 |.piece id st off len t=>(rowsOf m id st t).map fun r=>⟨.lst t,(r.2.drop off).take len⟩
 |.pair l r=>match cR m l,cR m r with
  |some a,some b=>some ⟨.pair a.t b.t,(a.x,b.x)⟩
  |_,_=>none
 |_=>none
def iK (m:Nat→Option aa):AT→Option DV
 |.leaf t x=>some ⟨t,x⟩
 |.nil t=>some ⟨.lst t,[]⟩
 |.whole id st t=>(gU m id st t).map fun r=>⟨.lst t,r⟩
 |.piece id st off len t=>(gU m id st t).map fun r=>⟨.lst t,(r.drop off).take len⟩
 |.pair l r=>match iK m l,iK m r with
  |some a,some b=>some ⟨.pair a.t b.t,(a.x,b.x)⟩
  |_,_=>none
 |_=>none
def eK (m:Nat→Option aa):AT→Option DV
 |.leaf t x=>bif t.aV then none else some ⟨t,x⟩
 |.nil t=>some ⟨.lst t,[]⟩
 |.whole id st t=>(o7 m id st t).map fun r=>⟨.lst t,r⟩
 |.pair l r=>match eK m l,eK m r with
  |some a,some b=>some ⟨.pair a.t b.t,(a.x,b.x)⟩
  |_,_=>none
 |.nest id st rs row p u=>match cur m id st with
  |some ⟨_,_,.deep rs' t xs⟩=>bif Nat.beq rs rs'&&p.pairs&&dL (t.at p) u then(AT.get p (.leaf t (xs.getD row t.dflt))).bind AT.pure else none
  |_=>none
 |_=>none
def toR (m:Nat→Option aa):AT→Option DV
 |.aR id st p=>match cur m id st with
  |some ⟨_,_,.var _ a⟩=>match(a.get p).bind (cR m) with
   |some d=>bif Nat.ble 1 d.t.size then some ⟨.ref d.t,d.x⟩ else none
   |none=>none
  |_=>none
 |a=>iK m a
def toC (m:Nat→Option aa):AT→Option DV
 |.bJ l r=>match toR m l,toC m r with
  |some a,some b=>bif a.t.isAgg then none else some ⟨.pair a.t b.t,(a.x,b.x)⟩
  |_,_=>none
 |.dM=>some ⟨.unit,()⟩
 |_=>none
def jH (m:Nat→Option aa):AT→Option DV
 |.leaf t x=>some ⟨t,x⟩
 |.nil t=>some ⟨.own t,[]⟩
 |.whole id st t=>match rowsOf m id st t with
  |some (false,xs)=>some ⟨.own t,xs⟩
  |_=>none
 |.pair l r=>match jH m l,jH m r with
  |some a,some b=>some ⟨.pair a.t b.t,(a.x,b.x)⟩
  |_,_=>none
 |_=>none
def AT.ids:AT→List Nat
 |.whole id _ _ | .piece id _ _ _ _ | .ptr id _ _ _ | .aR id _ _ | .nest id _ _ _ _ _=>[id]
 |.pair l r | .bJ l r=>app l.ids r.ids
 |.fn _ c=>c.ids
 |.bS _ a=>a.ids
 |_=>[]
def dR (m:Nat→Option aa):List Nat→List Nat
 | []=>[]
 |i::l=>i::app (match m i with | some ⟨_,_,.var _ a⟩=>a.ids|_=>[]) (dR m l)
def inj (st:Nat):(t:Ty)→t.den→Nat→AT×List (Nat×aa)×Nat
 |.own t,xs,n=>(.whole n st t,[(n,⟨st,false,.rows t xs⟩)],n+1)
 |.pair a b,x,n=>
  bif(Ty.pair a b).fu then
   let l:=inj st a x.1 n
   let r:=inj st b x.2 l.2.2
   (.pair l.1 r.1,app l.2.1 r.2.1,r.2.2)
  else(.leaf (.pair a b) x,[],n)
 |t,x,n=>(.leaf t x,[],n)
inductive Arg where
 |v (d:DV)
 |d (d:DV)
 |p (d:DV)
 |m (t:Ty) (xs:List t.den)
 |f (g:FuncId) (caps:DV)
inductive RV where
 |v (d:DV)
 |d (d:DV)
 |p (d:DV)
structure Res where
 outs:List RV
 kK:List DV:=[]
 ok:List Bool:=[]
inductive Mode where
 |v|d|p|m|k|f
structure TI where
 t:Ty
 e:Nat:=0
structure Cx where
 gF:List (Nat×TI)
 fns:List (Nat×List Mode×(List Arg→Option Res))
 dp:Bool:=false
 gl:List (Nat×DV):=[]
def Cx.ty (C:Cx)(t:Nat):Option Ty:=(find C.gF t).map (·.t)
def Cx.eqt (C:Cx)(t:Nat):Option Ty:=match find C.gF t with
 |some ⟨u,1⟩=>some u
 |_=>none
def Cx.el (C:Cx)(t:Nat):Option Ty:=match find C.gF t with
 |some ⟨.lst u,_⟩=>some u
 |_=>none
def jL:Ty→AT
 |.lst t=>.nil t
 |.pair a b=>.pair (jL a) (jL b)
 |.ref _=>.undef 1
 |t=>.leaf t t.dflt
def eV:Nat:=34359738368
def p9:Value→AT
 |.bool b=>.leaf .bool b
 |.int k n=>.leaf (.int k) n
 |.string s=>.leaf .str s.data.toList
 |.slice none 0 0=>.dU
 |_=>.any
def operand (C:Cx)(env:List (Nat×AT)):Operand→AT
 |.tmp t=>(find env t).getD .any
 |.const v=>p9 v
 |.global g=>match find C.gl g with | some d=>.leaf (.ref d.t) d.x|none=>.any
 |.func f=>.fn f .dM
def Cx.co (C:Cx)(t:Nat):AT→AT
 |.dU=>match C.el t with | some u=>.nil u|none=>.dU
 |a=>a
structure aD where
 av:AT
 ag:List (Nat×aa):=[]
 ok:List Bool:=[]
def aP (m:Nat→Option aa)(id:Nat):Nat:=match m id with | some b=>b.st+1|none=>0
def aZ (m:Nat→Option aa):(t:Ty)→t.den→Nat→AT×List (Nat×aa)×Nat
 |.own t,xs,n=>(.whole n (aP m n) t,[(n,⟨aP m n,false,.rows t xs⟩)],n+1)
 |.pair a b,x,n=>
  bif(Ty.pair a b).fu then
   let l:=aZ m a x.1 n
   let r:=aZ m b x.2 l.2.2
   (.pair l.1 r.1,app l.2.1 r.2.1,r.2.2)
  else(.leaf (.pair a b) x,[],n)
 |t,x,n=>(.leaf t x,[],n)
def lR (t:Ty)(xs:List t.den):BC:=bif t.aV then .deep 0 t xs else .rows t xs
def aY (m:Nat→Option aa):(t:Ty)→t.den→Nat→AT×List (Nat×aa)×Nat
 |.lst t,xs,n=>(.whole n (aP m n) t,[(n,⟨aP m n,false,lR t xs⟩)],n+1)
 |.pair a b,x,n=>
  bif(Ty.pair a b).aV then
   let l:=aY m a x.1 n
   let r:=aY m b x.2 l.2.2
   (.pair l.1 r.1,app l.2.1 r.2.1,r.2.2)
  else(.leaf (.pair a b) x,[],n)
 |t,x,n=>(.leaf t x,[],n)
def pZ (op:BinOp)(k:IntKind)(x y:Int):Int:=
 let a:=BitVec.ofInt k.bits x
 let b:=BitVec.ofInt k.bits y
 match op with
 |.and=>k.wrap (a &&& b).toNat
 |.or=>k.wrap (a |||b).toNat
 |.xor=>k.wrap (a ^^^ b).toNat
 |_=>k.wrap (a &&& ~~~b).toNat
def oL (op:BinOp)(k:IntKind)(a b:Int):Option aD:=
 match op with
 |.add=>some ⟨.leaf (.int k) (k.wrap (a+b)),[],[]⟩
 |.sub=>some ⟨.leaf (.int k) (k.wrap (a-b)),[],[]⟩
 |.mul=>some ⟨.leaf (.int k) (k.wrap (a*b)),[],[]⟩
 |.quo=>some ⟨.leaf (.int k) (k.wrap (a.tdiv b)),[],[b != 0]⟩
 |.rem=>some ⟨.leaf (.int k) (a.tmod b),[],[b != 0]⟩
 |.and | .or | .xor | .andNot=>some ⟨.leaf (.int k) (pZ op k a b),[],[]⟩
 |.eql=>some ⟨.leaf .bool (a==b),[],[]⟩
 |.neq=>some ⟨.leaf .bool (a != b),[],[]⟩
 |.lss=>some ⟨.leaf .bool (decide (a<b)),[],[]⟩
 |.leq=>some ⟨.leaf .bool (decide (a≤b)),[],[]⟩
 |.gtr=>some ⟨.leaf .bool (decide (a>b)),[],[]⟩
 |.geq=>some ⟨.leaf .bool (decide (a≥b)),[],[]⟩
 |_=>none
def tA (op:BinOp)(a b:List UInt8):Option aD:=
 match op with
 |.add=>some ⟨.leaf .str (a++b),[],[decide (a.length+b.length≤eV)]⟩
 |.eql=>some ⟨.leaf .bool (a==b),[],[]⟩
 |.neq=>some ⟨.leaf .bool (!(a==b)),[],[]⟩
 |.lss=>some ⟨.leaf .bool (Op.bytesLess a b),[],[]⟩
 |.leq=>some ⟨.leaf .bool (Op.bytesLess a b || a==b),[],[]⟩
 |.gtr=>some ⟨.leaf .bool (!(Op.bytesLess a b || a==b)),[],[]⟩
 |.geq=>some ⟨.leaf .bool (!Op.bytesLess a b),[],[]⟩
 |_=>none
def Ty.flat:Ty→Bool
 |.unit=>true
 |.pair (.int _) b=>b.flat
 |.pair .bool b=>b.flat
 |.pair .str b=>b.flat
 |_=>false
def iQ:(t:Ty)→t.den→t.den→Bool
 |.unit,_,_=>true
 |.bool,x,y=>x==y
 |.int _,x,y=>@BEq.beq Int _ x y
 |.str,x,y=>@BEq.beq (List UInt8) _ x y
 |.pair a b,x,y=>iQ a x.1 y.1&&iQ b x.2 y.2
 |_,_,_=>false
def ow:BinOp→Option Bool
 |.eql=>some false
 |.neq=>some true
 |_=>none
def binD (C:Cx)(T:Nat)(op:BinOp)(x y:AT):Option aD:=
 match op,x,y with
 |.shl,.leaf (.int k) a,.leaf (.int _) b=>some ⟨.leaf (.int k) (k.wrap (a*2 ^ (min b.toNat k.bits))),[],[decide (0≤b)]⟩
 |.shr,.leaf (.int k) a,.leaf (.int _) b=>some ⟨.leaf (.int k) (a.fdiv (2 ^ (min b.toNat k.bits))),[],[decide (0≤b)]⟩
 |op,.leaf (.int k) a,.leaf (.int k') b=>bif lO k k' then oL op k a b else none
 |op,.leaf .str a,.leaf .str b=>tA op a b
 |.eql,.leaf .bool a,.leaf .bool b=>bif dL (C.ty T) .bool then some ⟨.leaf .bool (a==b),[],[]⟩ else none
 |.neq,.leaf .bool a,.leaf .bool b=>bif dL (C.ty T) .bool then some ⟨.leaf .bool (!(a==b)),[],[]⟩ else none
 |op,x,y=>match ow op,C.eqt T with
  |some n,some t=>bif t.flat&&x.fits t&&y.fits t then
   match x.pure,y.pure with
   |some d,some e=>match d.as t,e.as t with
    |some p,some q=>some ⟨.leaf .bool (bif n then !iQ t p q else iQ t p q),[],[]⟩
    |_,_=>none
   |_,_=>none
   else none
  |_,_=>none
def unD (op:UnOp)(x:AT):Option aD:=
 match op,x with
 |.neg,.leaf (.int k) n=>some ⟨.leaf (.int k) (k.wrap (0-n)),[],[]⟩
 |.xor,.leaf (.int k) n=>some ⟨.leaf (.int k) (pZ .xor k (if k.signed then -1 else k.max) n),[],[]⟩
 |.not,.leaf .bool b=>some ⟨.leaf .bool (!b),[],[]⟩
 |_,_=>none
def bytesOf:List UInt8→List Int:=List.map fun b=>(b.toNat:Int)
def tv:List Int→List UInt8:=List.map fun n=>UInt8.ofNat n.toNat
def lP (m:Nat→Option aa):AT→Option Int
 |.leaf .str s=>some s.length
 |.leaf (.lst _) xs=>some xs.length
 |.nil _=>some 0
 |.dU=>some 0
 |.whole id st t=>match gU m id st t with
  |some xs=>some xs.length
  |none=>none
 |.piece id st _ len t=>match rowsOf m id st t with
  |some _=>some len
  |none=>none
 |_=>none
def qx (C:Cx)(T:Nat):AT→Bool
 |.leaf .str _=>dL (C.ty T) .str
 |_=>match C.ty T with | some (.lst _)=>true|_=>false
def lM (C:Cx)(m:Nat→Option aa)(T:Nat)(x:AT)(i:Int):Option aD:=
 match x,C.ty T with
 |.leaf (.lst t) xs,some (.lst u)=>bif t.is u then some ⟨.leaf (.ref t) (xs.getD i.toNat t.dflt),[],[decide (0≤i),decide (i<xs.length)]⟩ else none
 |.whole id st t,some (.lst u)=>bif t.is u then
  match gU m id st t with
  |some xs=>some ⟨.ptr id st i.toNat [],[],[decide (0≤i),decide (i<xs.length)]⟩
  |none=>none
  else none
 |.piece id st off len t,some (.lst u)=>bif t.is u then
  match rowsOf m id st t with
  |some _=>some ⟨.ptr id st (off+i.toNat) [],[],[decide (0≤i),decide (i<len)]⟩
  |none=>none
  else none
 |.leaf (.ref (.arr n t)) xs,some (.arr n' u)=>bif Nat.beq n n'&&t.is u then some ⟨.leaf (.ref t) (xs.getD i.toNat t.dflt),[],[decide (0≤i),decide (i<n)]⟩ else none
 |.aR id st p,some (.arr n u)=>match cur m id st with
  |some ⟨_,_,.var t _⟩=>bif dL (t.at p) (.arr n u) then some ⟨.aR id st (app p [.idx i.toNat]),[],[decide (0≤i),decide (i<n)]⟩ else none
  |_=>none
 |_,_=>none
def sN (C:Cx)(m:Nat→Option aa)(T:Nat)(x:AT):Option aD:=
 match x,C.ty T with
 |.leaf (.ref t) y,some u=>bif t.is u then some ⟨.leaf t y,[],[]⟩ else none
 |.aR id st p,some u=>match cur m id st with
  |some ⟨_,_,.var t a⟩=>bif dL (t.at p) u then(match a.get p with | some b=>some ⟨b,[],[]⟩|none=>none) else none
  |_=>none
 |.ptr id st row p,some u=>match cur m id st with
  |some ⟨_,_,.rows t xs⟩=>bif dL (t.at p) u then(match AT.get p (.leaf t (xs.getD row t.dflt)) with | some b=>some ⟨b,[],[]⟩|none=>none) else none
  |some ⟨_,_,.deep rs t xs⟩=>bif dL (t.at p) u&&p.pairs then
   (bif u.aV then some ⟨.nest id st rs row p u,[],[]⟩ else match AT.get p (.leaf t (xs.getD row t.dflt)) with | some b=>some ⟨b,[],[]⟩|none=>none) else none
  |_=>none
 |_,_=>none
def aa.bD:aa→aa
 |⟨st,_,.deep _ _ _⟩=>⟨st+1,false,.dead⟩
 |⟨st,_,c⟩=>⟨st,true,c⟩
def bD (m:Nat→Option aa)(ids:List Nat):List (Nat×aa):=dY (fun i=>match m i with | some b=>some (i,b.bD)|none=>none) ids
def cK (m:Nat→Option aa)(ids:List Nat):List (Nat×aa):=dY (fun i=>(m i).map fun b=>(i,⟨b.st+1,false,.dead⟩)) ids
def nodup:List Nat→Bool
 | []=>true
 |i::l=> !(bW (Nat.beq i) l)&&nodup l
def mP (C:Cx)(m:Nat→Option aa)(T:Nat)(x v:AT):Option aD:=
 match x,C.ty T with
 |.aR id st p,some u=>match cur m id st with
  |some ⟨_,false,.var t a⟩=>bif dL (t.at p) u&&v.fits u then(match AT.set p a v with | some a'=>some ⟨.any,[(id,⟨st,false,.var t a'⟩)],[]⟩|none=>none) else none
  |_=>none
 |.ptr id st row p,some u=>match cur m id st with
  |some ⟨_,false,.rows t xs⟩=>bif dL (t.at p) u&&v.fits u && !(bW (Nat.beq id) v.ids) then
   match cR m v with
   |some ⟨s,y⟩=>match(AT.set p (.leaf t (xs.getD row t.dflt)) (.leaf s y)).bind AT.pure with
    |some r=>match r.as t with
     |some z=>some ⟨.any,(id,⟨st,false,.rows t (xs.set row z)⟩)::bD m v.ids,[]⟩
     |none=>none
    |none=>none
   |none=>none
   else none
  |some ⟨_,false,.deep rs t xs⟩=>bif dL (t.at p) u&&v.fits u&&p.pairs && !(bW (Nat.beq id) v.ids)&&nodup v.ids then
   match eK m v with
   |some ⟨s,y⟩=>match(AT.set p (.leaf t (xs.getD row t.dflt)) (.leaf s y)).bind AT.pure with
    |some r=>match r.as t with
     |some z=>some ⟨.any,(id,⟨st,false,.deep (rs+1) t (xs.set row z)⟩)::cK m v.ids,[]⟩
     |none=>none
    |none=>none
   |none=>none
   else none
  |_=>none
 |_,_=>none
def bF:Nat→Path
 |0=>[.fst]
 |n+1=>.snd::bF n
def kC:Option Ty→Bool
 |some t=>Nat.ble 1 t.size
 |none=>false
def lG (C:Cx)(m:Nat→Option aa)(T:Nat)(x:AT)(f:Nat):Option aD:=
 match x,C.ty T with
 |.leaf (.ref t) y,some u=>bif t.is u then
  match u.at (bF f),AT.get (bF f) (.leaf t y) with
  |some v,some (.leaf s z)=>bif Nat.ble 1 v.size then some ⟨.leaf (.ref s) z,[],[]⟩ else none
  |_,_=>none
  else none
 |.aR id st p,some u=>match cur m id st with
  |some ⟨_,_,.var t _⟩=>bif dL (t.at p) u&&kC (u.at (bF f)) then some ⟨.aR id st (app p (bF f)),[],[]⟩ else none
  |_=>none
 |.ptr id st row p,some u=>match cur m id st with
  |some ⟨_,_,.rows t _⟩=>bif dL (t.at p) u&&kC (u.at (bF f)) then some ⟨.ptr id st row (app p (bF f)),[],[]⟩ else none
  |some ⟨_,_,.deep _ t _⟩=>bif dL (t.at p) u&&kC (u.at (bF f)) then some ⟨.ptr id st row (app p (bF f)),[],[]⟩ else none
  |_=>none
 |_,_=>none
def rY (C:Cx)(T:Nat)(x:AT)(f:Nat):Option aD:=
 match C.ty T with
 |some t=>bif x.fits t then
  match t.at (bF f),AT.get (bF f) x with
  |some _,some b=>some ⟨b,[],[]⟩
  |_,_=>none
  else none
 |none=>none
def sI (C:Cx)(T:Nat)(x:AT)(i:Int):Option aD:=
 match x,C.ty T with
 |.leaf .str s,some .str=>some ⟨.leaf (.int .u8) ((s.getD i.toNat 0).toNat:Int),[],[decide (0≤i),decide (i<s.length)]⟩
 |.leaf (.arr n (.int k)) xs,some (.arr n' (.int k'))=>bif Nat.beq n n'&&lO k k' then some ⟨.leaf (.int k) (xs.getD i.toNat 0),[],[decide (0≤i),decide (i<n)]⟩ else none
 |_,_=>none
def cI:Option Ty→AT→AT
 |some (.lst t),.dU=>.nil t
 |_,a=>a
def kZ (t:Ty)(i:Nat):Path:=match t with
 |.arr _ _=>[.idx i]
 |_=>bF i
def s6 (t:Ty)(i:Nat):Bool:=match t with
 |.arr n _=>Nat.ble (i+1) n
 |_=>true
def mB (t:Ty):AT→List (Nat×AT)→Option AT
 |a,[]=>some a
 |a,(i,v)::l=>match t.at (kZ t i) with
  |some u=>bif(cI (some u) v).fits u&&s6 t i then
   match AT.set (kZ t i) a (cI (some u) v) with
   |some a'=>mB t a' l
   |none=>none
   else none
  |none=>none
def rL (C:Cx)(T:Nat)(parts:List (Nat×AT)):Option aD:=
 match C.ty T with
 |some t=>bif t.isAgg then(mB t (jL t) parts).map (⟨·,[],[]⟩) else none
 |none=>none
def ny (m:Nat→Option aa)(t:Ty)(len:Nat):List t.den→List (Nat×AT)→Option (List t.den)
 |xs,[]=>some xs
 |xs,(i,v)::l=>bif Nat.ble (i+1) len&&(cI (some t) v).fits t then
  match cR m (cI (some t) v) with
  |some d=>match d.as t with
   |some y=>ny m t len (xs.set i y) l
   |none=>none
  |none=>none
  else none
def Ty.j3:Ty→Bool
 |.own _ | .ref _=>false
 |.pair a b=>a.j3&&b.j3
 |_=>true
def qz (m:Nat→Option aa)(t:Ty)(n:Nat):List (Nat×AT)→Option (List t.den)
 | []=>some []
 | (i,v)::l=>bif Nat.beq i n&&(cI (some t) v).fits t then
  match eK m (cI (some t) v) with
  |some d=>match d.as t,qz m t (n+1) l with
   |some y,some ys=>some (y::ys)
   |_,_=>none
  |none=>none
  else none
def m9 (C:Cx)(m:Nat→Option aa)(dst T len:Nat)(parts:List (Nat×AT)):Option aD:=
 match C.el T with
 |some t=>bif C.dp&&t.aV then
  bif Nat.beq parts.length len&&Nat.ble (len*t.size) 16777216&&nodup (dst::fG (fun p=>p.2.ids) parts) then(qz m t 0 parts).map fun xs=>
   ⟨.whole dst (aP m dst) t,(dst,⟨aP m dst,false,.deep 0 t xs⟩)::cK m (fG (fun p=>p.2.ids) parts),[]⟩ else none
  else bif t.j3&&Nat.ble (len*t.size) 16777216 && !(bW (Nat.beq dst) (fG (fun p=>p.2.ids) parts)) then(ny m t len (List.replicate len t.dflt) parts).map fun xs=>
   ⟨.whole dst (aP m dst) t,(dst,⟨aP m dst,false,.rows t xs⟩)::bD m (fG (fun p=>p.2.ids) parts),[]⟩
  else none
 |none=>none
def Ty.dok:Ty→Bool
 |.own _ | .ref _=>false
 |.pair a b=>a.dok&&b.dok
 |.arr _ t=>t.j3 && !t.aV
 |_=>true
def nB (C:Cx)(m:Nat→Option aa)(dst T:Nat)(l c:Int):Option aD:=
 match C.el T with
 |some t=>bif t.j3&&(t.dok || !C.dp) then some ⟨.whole dst (aP m dst) t,[(dst,⟨aP m dst,false,bif C.dp&&t.aV then .deep 0 t (List.replicate l.toNat t.dflt) else .rows t (List.replicate l.toNat t.dflt)⟩)],[decide (0≤l),decide (l≤c),decide (c≤eV)]⟩ else none
 |none=>none
def gS:AT→Option Int
 |.leaf (.int _) n=>some n
 |_=>none
def mz (d:Int):Option AT→Option Int
 |none=>some d
 |some a=>gS a
def tu (C:Cx)(m:Nat→Option aa)(T:Nat)(x:AT)(lo hi:Option AT):Option aD:=
 match lP m x with
 |none=>none
 |some n=>
  match mz 0 lo,mz n hi with
  |some l,some h=>
   match x,C.ty T with
   |.leaf .str s,some .str=>some ⟨.leaf .str ((s.drop l.toNat).take (h-l).toNat),[],[decide (0≤l),decide (l≤h),decide (h≤n)]⟩
   |.leaf (.lst t) xs,some (.lst u)=>bif t.is u then some ⟨.leaf (.lst t) ((xs.drop l.toNat).take (h-l).toNat),[],[decide (0≤l),decide (l≤h),decide (h≤n)]⟩ else none
   |.whole id st t,some (.lst u)=>bif t.is u then some ⟨.piece id st l.toNat (h-l).toNat t,[],[decide (0≤l),decide (l≤h),decide (h≤n)]⟩ else none
   |.piece id st off _len t,some (.lst u)=>bif t.is u then
    match rowsOf m id st t with
    |some r=>some ⟨.piece id st (off+l.toNat) (h-l).toNat t,[],[decide (0≤l),decide (l≤h),decide ((off:Int)+h≤(r.2.length:Int))]⟩
    |none=>none
    else none
   |_,_=>none
  |_,_=>none
def rS (C:Cx)(m:Nat→Option aa)(dst S T:Nat)(x:AT):Option aD:=
 match x,C.ty S,C.ty T with
 |.leaf (.int _) n,some _,some (.int k)=>some ⟨.leaf (.int k) (k.wrap n),[],[]⟩
 |.leaf .str s,some _,some .str=>some ⟨.leaf .str s,[],[]⟩
 |.leaf .str s,some .str,some (.lst (.int .u8))=>some ⟨.whole dst (aP m dst) (.int .u8),[(dst,⟨aP m dst,false,.rows (.int .u8) (bytesOf s)⟩)],[decide (s.length≤eV)]⟩
 |a,some (.lst (.int .u8)),some .str=>match cR m a with
  |some d=>(d.as (.lst (.int .u8))).map fun xs=>⟨.leaf .str (tv xs),[],[]⟩
  |none=>none
 |_,_,_=>none
def tailD (m:Nat→Option aa)(t:Ty)(y:AT):Option (List t.den):=
 match y,t with
 |.leaf .str s,.int .u8=>some (bytesOf s)
 |a,t=>(cR m (cI (some (.lst t)) a)).bind fun d=>d.as (.lst t)
def tX (C:Cx)(m:Nat→Option aa)(dst:Nat)(t:Ty)(x y:AT):Option aD:=
 match y with
 |.whole jd sj _u'=>match cur m jd sj with
  |some ⟨_,false,.deep _ v zs⟩=>match DV.as ⟨.lst v,zs⟩ (.lst t) with
   |none=>none
   |some ys=>
    let mk:Option aD:=bif C.dp && !(Nat.beq dst jd) then some ⟨.whole dst (aP m dst) t,(dst,⟨aP m dst,false,.deep 0 t ys⟩)::cK m [jd],[decide (ys.length≤eV)]⟩ else none
    match x with
    |.nil u=>bif t.is u then mk else none
    |.dU=>mk
    |.whole id st u=>match cur m id st with
     |some ⟨_,false,.deep rs v' ws⟩=>match DV.as ⟨.lst v',ws⟩ (.lst t) with
      |some xs=>bif u.is t && !(Nat.beq id jd) then some ⟨.whole id (st+1) t,(id,⟨st+1,false,.deep (rs+1) t (xs++ys)⟩)::cK m [jd],[decide (xs.length+ys.length≤eV)]⟩ else none
      |none=>none
     |_=>none
    |_=>none
  |_=>none
 |_=>none
def sK (m:Nat→Option aa):AT→Bool
 |.whole id st _=>match cur m id st with | some ⟨_,_,.deep _ _ _⟩=>true|_=>false
 |_=>false
def fZ {α:Type}(xs:List α)(k:Nat)(ys:List α):List α:=xs.take k++(ys++xs.drop (k+ys.length))
def oa (C:Cx)(m:Nat→Option aa)(dst:Nat)(t:Ty)(x y:AT):Option aD:=
 bif sK m y then tX C m dst t x y else
 match tailD m t y with
 |none=>none
 |some ys=>
  match x with
  |.nil u=>match(DV.mk (.lst u) []).as (.lst t) with
   |some _=>some ⟨.whole dst (aP m dst) t,[(dst,⟨aP m dst,false,.rows t ys⟩)],[decide (ys.length≤eV)]⟩
   |none=>none
  |.dU=>some ⟨.whole dst (aP m dst) t,[(dst,⟨aP m dst,false,.rows t ys⟩)],[decide (ys.length≤eV)]⟩
  |.whole id st u=>match rowsOf m id st t with
   |some (false,xs)=>bif u.is t then some ⟨.whole id (st+1) t,[(id,⟨st+1,false,.rows t (xs++ys)⟩)],[decide (xs.length+ys.length≤eV)]⟩ else none
   |_=>none
  |.piece id st off len u=>match rowsOf m id st t with
   |some (false,xs)=>bif u.is t then some ⟨.piece id st off (len+ys.length) t,[(id,⟨st,false,.rows t (fZ xs (off+len) ys)⟩)],[decide (off+len+ys.length≤xs.length)]⟩ else none
   |_=>none
  |_=>none
def mkArg (m:Nat→Option aa):Mode→AT→Option Arg
 |.v,a=>(toR m a).map .v
 |.d,a=>(eK m a).map .d
 |.p,.aR id st []=>match cur m id st with
  |some ⟨_,false,.var _ a⟩=>(jH m a).map .p
  |_=>none
 |.m,.whole id st t=>match rowsOf m id st t with
  |some (false,xs)=>some (.m t xs)
  |_=>none
 |.m,.nil t=>some (.m t [])
 |.k,a=>(jH m a).map .v
 |.f,.fn g c=>(toC m c).map (.f g)
 |_,_=>none
def mL (m:Nat→Option aa):List Mode→List AT→Option (List Arg)
 | [],[]=>some []
 |o::os,a::as=>match mkArg m o a,mL m os as with
  |some x,some xs=>some (x::xs)
  |_,_=>none
 |_,_=>none
def kH (m:Nat→Option aa):AT→DV→Option (List (Nat×aa))
 |.leaf _ _,_=>some []
 |.nil _,_=>some []
 |.whole id st t,d=>match d.as (.lst t) with
  |some ys=>match cur m id st with
   |some ⟨_,_,.rows _ _⟩=>some [(id,⟨st,false,.rows t ys⟩)]
   |some ⟨_,_,.deep rs _ _⟩=>some [(id,⟨st,false,.deep (rs+1) t ys⟩)]
   |_=>none
  |none=>none
 |.pair l r,⟨.pair a b,x⟩=>match kH m l ⟨a,x.1⟩,kH m r ⟨b,x.2⟩ with
  |some u,some v=>some (app u v)
  |_,_=>none
 |.nest id st _ row p u,d=>match cur m id st with
  |some ⟨_,_,.deep rs t xs⟩=>bif d.t.is u then
   match(AT.set p (.leaf t (xs.getD row t.dflt)) (.leaf d.t d.x)).bind AT.pure with
   |some r=>match r.as t with
    |some z=>some [(id,⟨st,false,.deep rs t (xs.set row z)⟩)]
    |none=>none
   |none=>none
   else none
  |_=>none
 |_,_=>none
def eX (m:Nat→Option aa):List Mode→List AT→List DV→Option (List (Nat×aa))
 | [],[],[]=>some []
 |.p::os,.aR id st []::as,d::ds=>match cur m id st,eX m os as ds with
  |some ⟨_,_,.var t _⟩,some u=>bif t.is d.t.aS then
   let n:=aZ m d.t d.x ((id+1)*1000)
   some ((id,⟨st,false,.var t n.1⟩)::app n.2.1 u)
   else none
  |_,_=>none
 |.m::os,.whole id st t::as,d::ds=>match d.as (.own t),eX m os as ds with
  |some ys,some u=>some ((id,⟨st,false,.rows t ys⟩)::u)
  |_,_=>none
 |.m::os,.nil _::as,_::ds=>eX m os as ds
 |.d::os,a::as,d::ds=>match kH m a d,eX m os as ds with
  |some u,some v=>some (app u v)
  |_,_=>none
 |.v::os,_::as,ds=>eX m os as ds
 |.k::os,_::as,ds=>eX m os as ds
 |.f::os,_::as,ds=>eX m os as ds
 |_,_,_=>none
def tJ (m:Nat→Option aa)(id:Nat):List Nat:=match m id with
 |some ⟨_,_,.var _ a⟩=>a.ids
 |_=>[]
def fX (m:Nat→Option aa):List Mode→List AT→List Nat
 |.p::os,.aR id _ _::as=>app (tJ m id) (fX m os as)
 |.k::os,a::as=>app a.ids (fX m os as)
 |_::os,_::as=>fX m os as
 |_,_=>[]
def eH:List Mode→List AT→List Nat
 |.p::os,.aR id _ _::as=>id::eH os as
 |.m::os,.whole id _ _::as=>id::eH os as
 |.d::os,a::as=>app a.ids (eH os as)
 |_::os,_::as=>eH os as
 |_,_=>[]
def RV.qy:RV→Bool
 |.v x | .p x=>x.t.aV
 |.d _=>false
def kJ:List Arg→List DV→Bool
 |.p _::l,d::ds | .m _ _::l,d::ds=>d.t.aV || kJ l ds
 |.d _::l,_::ds=>kJ l ds
 |.v _::l,ds | .f _ _::l,ds=>kJ l ds
 |_,_=>false
def cP (m:Nat→Option aa):List RV→Nat→List AT×List (Nat×aa)
 | [],_=>([],[])
 |.v d::l,n=>
  let a:=aZ m d.t d.x n
  let r:=cP m l a.2.2
  (a.1::r.1,app a.2.1 r.2)
 |.d d::l,n=>
  let a:=aY m d.t d.x n
  let r:=cP m l a.2.2
  (a.1::r.1,app a.2.1 r.2)
 |.p d::l,n=>
  let a:=aZ m d.t d.x (n+1)
  let r:=cP m l a.2.2
  (.aR n (aP m n) []::r.1,(n,⟨aP m n,false,.var d.t.aS a.1⟩)::app a.2.1 r.2)
def nR:List AT→AT
 | []=>.dM
 |a::l=>.bJ a (nR l)
def oneOf:List AT→AT
 | [a]=>a
 |l=>nR l
def gE (m:Nat→Option aa):List Mode→List AT→List Nat
 |.v::os,a::as=>app (dR m a.ids) (gE m os as)
 |.f::os,a::as=>app (dR m a.ids) (gE m os as)
 |_::os,_::as=>gE m os as
 |_,_=>[]
def pY (l l':List Nat):Bool:=cH (fun x=> !(bW (Nat.beq x) l')) l
def rN (C:Cx)(m:Nat→Option aa)(dst f:Nat)(args:List AT):Option aD:=
 match find C.fns f with
 |none=>none
 |some (cG,den)=>
  let ke:=eH cG args
  let ki:=fX m cG args
  let le:=gE m cG args
  bif nodup (app ke ki)&&pY le (app ke ki) then
   match mL m cG args with
   |none=>none
   |some ar=>match den ar with
   |none=>none
   |some r=>
    match eX m cG args r.kK with
    |none=>none
    |some u=>
     let o:=cP m r.outs ((dst+1)*1000)
     bif nodup (bu (fun x=>x.1) (app o.2 u)) then
      some ⟨oneOf o.1,app o.2 (app u (app (cK m ki) (bif bW RV.qy r.outs || kJ ar r.kK then bD m le else []))),r.ok⟩
     else none
  else none
def k9:AT→List AT
 |.bJ a l=>a::k9 l
 |_=>[]
def AT.one:AT→Bool
 |.leaf t _=> !t.isAgg
 |.nest _ _ _ _ _ u=> !u.isAgg
 |.whole _ _ _ | .piece _ _ _ _ _ | .nil _ | .dU | .undef _ | .aR _ _ _ | .ptr _ _ _ _ | .fn _ _=>true
 |_=>false
def m_:AT→Bool
 |.bJ l r=>l.one&&m_ r
 |.dM=>true
 |_=>false
def AT.slot:AT→Bool
 |.pair _ _ | .leaf _ _ | .nest _ _ _ _ _ _=>true
 |a=>a.one
def rX (x:AT)(i:Nat):Option aD:=
 match cY (k9 x) i with
 |some a=>bif a.slot then some ⟨a,[],[]⟩ else none
 |none=>none
def lT (m:Nat→Option aa):AT→Option aD
 |.ptr id st row p=>match cur m id st with
  |some ⟨_,_,.rows _ _⟩=>some ⟨.ptr id st row p,[],[]⟩
  |some ⟨_,_,.deep _ _ _⟩=>some ⟨.ptr id st row p,[],[]⟩
  |_=>none
 |.aR id st p=>match cur m id st with
  |some ⟨_,_,.var _ _⟩=>some ⟨.aR id st p,[],[]⟩
  |_=>none
 |.leaf (.ref t) x=>some ⟨.leaf (.ref t) x,[],[]⟩
 |_=>none
def minD:List AT→Option aD
 | [.leaf (.int k) x,.leaf (.int _) y]=>some ⟨.leaf (.int k) (if y<x then y else x),[],[]⟩
 |_=>none
def maxD:List AT→Option aD
 | [.leaf (.int k) x,.leaf (.int _) y]=>some ⟨.leaf (.int k) (if x<y then y else x),[],[]⟩
 |_=>none
def p6 (C:Cx):List Nat→List AT→List AT
 |t::ts,a::as=>C.co t a::p6 C ts as
 |_,as=>as
def rP (C:Cx)(m:Nat→Option aa)(T:Nat)(x:AT):Option aD:=
 match C.el T,x with
 |some t,.piece id st off len u=>match rowsOf m id st t with
  |some (false,xs)=>bif t.j3&&u.is t then some ⟨.dM,[(id,⟨st,false,.rows t (fZ xs off (List.replicate len t.dflt))⟩)],[]⟩ else none
  |_=>none
 |_,_=>none
def tq (C:Cx)(m:Nat→Option aa)(T:Nat)(x l h k:AT):Option aD:=
 match x,C.ty T,gS l,gS h,gS k with
 |.whole id st t,some (.lst u),some a,some b,some c=>match gU m id st t with
  |some xs=>bif t.is u then some ⟨.undef 1,[],[decide (0≤a),decide (a≤b),decide (b≤c),decide (c≤xs.length)]⟩ else none
  |none=>none
 |_,_,_,_,_=>none
def uh (C:Cx)(m:Nat→Option aa)(dst:Nat)(b:Builtin)(ts:List Nat)(args:List AT):Option aD:=
 match b,ts,args with
 |.len,[T],[a]=>bif qx C T a then
  match lP m a with
  |some n=>some ⟨.leaf (.int .i64) n,[],[]⟩
  |none=>none
  else none
 |.append,[t,t2],[x,y]=>match C.el t,C.ty t2 with
  |some u,some (.lst _)|some u,some .str=>oa C m dst u x y
  |_,_=>none
 |.min,_,as=>minD as
 |.max,_,as=>maxD as
 |.clear,[T],[a]=>rP C m T a
 |_,_,_=>none
def o9 (c a b:AT):Option aD:=
 match c,a,b with
 |.leaf .bool g,.leaf t x,.leaf t' y=>if h:t'=t then some ⟨.leaf t (bif g then x else(h▸y)),[],[]⟩ else none
 |_,_,_=>none
def dF (C:Cx)(m:Nat→Option aa)(dst:Nat)(ρ:Operand→AT)(o:Oper):Option aD:=
 match o.op with
 |.move x | .assign x=>some ⟨C.co o.type (ρ x),[],[]⟩
 |.alloc T=>match C.ty T with
  |some t=>some ⟨.aR dst (aP m dst) [],[(dst,⟨aP m dst,false,.var t (jL t)⟩)],[]⟩
  |none=>none
 |.box T x=>match C.ty T with
  |some t=>bif(C.co T (ρ x)).fits t then some ⟨.aR dst (aP m dst) [],[(dst,⟨aP m dst,false,.var t (C.co T (ρ x))⟩)],[]⟩ else none
  |none=>none
 |.build T parts=>rL C T (bu (fun p=>(p.1,ρ p.2)) parts.toList)
 |.buildSlice T len parts=>m9 C m dst T len (bu (fun p=>(p.1,ρ p.2)) parts.toList)
 |.load T x=>sN C m T (ρ x)
 |.store T x v=>mP C m T (ρ x) (C.co T (ρ v))
 |.binOp op T x y _=>binD C T op (ρ x) (ρ y)
 |.unOp op _ x=>unD op (ρ x)
 |.convert S T x=>rS C m dst S T (ρ x)
 |.makeSlice T l c=>match gS (ρ l),gS (ρ c) with
  |some a,some b=>nB C m dst T a b
  |_,_=>none
 |.slice T x lo hi none=>tu C m T (ρ x) (lo.map ρ) (hi.map ρ)
 |.slice T x (some l) (some h) (some k)=>tq C m T (ρ x) (ρ l) (ρ h) (ρ k)
 |.fieldAddr T x f=>lG C m T (ρ x) f
 |.field T x f=>rY C T (ρ x) f
 |.indexAddr T x i=>match gS (ρ i) with
  |some n=>lM C m T (ρ x) n
  |none=>none
 |.index T x i=>match gS (ρ i) with
  |some n=>sI C T (ρ x) n
  |none=>none
 |.extract x i=>rX (ρ x) i
 |.makeFunc (.func g) first caps=>bif first.toList.isEmpty&&cH AT.one (bu ρ caps.toList) then some ⟨.fn g (nR (bu ρ caps.toList)),[],[]⟩ else none
 |.nilCheck x=>lT m (ρ x)
 |.call ⟨.builtin b,args,ts⟩=>uh C m dst b ts.toList (p6 C ts.toList (bu ρ args.toList))
 |.call ⟨.value g,args,ts⟩=>match ρ g with
  |.fn f caps=>bif m_ caps then rN C m dst f (app (p6 C ts.toList (bu ρ args.toList)) (k9 caps)) else none
  |_=>none
 |_=>none
abbrev eP:=List (Nat×Bool)
def oe (a b:Bool):Bool:=match a,b with | true,true|false,false=>true|_,_=>false
def hasTag (T:eP)(s:Nat)(w:Bool):Bool:=bW (fun t=>Nat.beq t.1 s&&oe t.2 w) T
def pJ (A T:eP):Bool:=cH (fun t=>hasTag T t.1 t.2) A
def iz (C:Cx)(env:List (Nat×AT))(T:eP)(x:Operand):AT:=
 match operand C env x with
 |.bS A a=>bif pJ A T then a else .any
 |a=>a
def l6 (env:List (Nat×AT))(s:Nat)(w:Bool):eP:=
 match find env s with
 |some (.bS A _)=>(s,w)::A
 |_=>[(s,w)]
def dom (mem:Mem)(dst:Nat)(as:List AT):List Nat:=dst::dR (find mem) (fG AT.ids as)
def dK (D:List Nat)(i:Nat):Bool:=bW (fun d=>Nat.beq d i || Nat.beq ((d+1)*1000) (i-i % 1000)) D
def view (mem:Mem)(D:List Nat)(i:Nat):Option aa:=bif dK D i then find mem i else none
def p_ (o:Oper):Nat:=o.dst.getD 999
structure pT where
 D:List Nat
 W:List Nat
 R:List Nat
 d:Option Nat
 sh:Bool:=false
 ks:Bool:=false
 vs:Bool:=false
 kv:Bool:=false
def guardOf (env:List (Nat×AT))(ops:List Oper)(o:Oper):Option eP:=
 match o.guard with
 |none=>some []
 |some (j,want)=>((cY ops j).bind (·.dst)).map fun s=>l6 env s want
def l5 (env:List (Nat×AT))(s:Nat)(w:Bool):Bool:=
 match find env s with
 |some (.leaf .bool b)|some (.bS _ (.leaf .bool b))=>bif w then b else !b
 |_=>true
def jG (env:List (Nat×AT)):eP→Bool
 | []=>true
 | [(s,w)]=>l5 env s w
 | (s,w)::l=>l5 env s w&&jG env l
def qE (g:Bool):List Bool→List Bool:=bu fun c=> !g || c
def tC:Operand→Option Nat
 |.tmp t=>some t
 |_=>none
def jQ (C:Cx)(env:List (Nat×AT))(T:eP)(m:Nat→Option aa)(o:Oper):Option aD:=
 match o.op with
 |.pick c a b=>match tC c with
  |some s=>o9 (iz C env T c) (iz C env (app (l6 env s true) T) a) (iz C env (app (l6 env s false) T) b)
  |none=>none
 |_=>dF C m (p_ o) (iz C env T) o
def uo (mem:Mem)(D:List Nat):Bool:=
 cH (fun x=> !dK D x.1 || (match find mem x.1 with | some ⟨_,_,.var _ a⟩=>cH (dK D) a.ids|_=>true)) mem
structure Rec where
 o:Oper
 T:eP
 D:List Nat
 d:aD
 d0:aD
 kv:Bool
def oN (env:List (Nat×AT)):eP→Bool
 | []=>true
 | (s,_)::l=>(match find env s with
  |some (.leaf .bool _)=>true
  |some (.bS A (.leaf .bool _))=>pJ A l
  |_=>false)&&oN env l
def sU (c:Bool):Option aa→aa→Option aa
 |none,⟨st,false,.rows t xs⟩=>bif Nat.ble 1 t.size then some ⟨st,false,.rows t (bif c then xs else [])⟩ else none
 |none,b=>some ⟨b.st+1,false,.dead⟩
 |some ⟨st,_,.dead⟩,b=>bif Nat.ble st b.st then some ⟨b.st+1,false,.dead⟩ else none
 |some ⟨st,false,.var t a⟩,⟨st',false,.var t' a'⟩=>bif Nat.beq st st'&&t.is t' then
  match a.pure,a'.pure with
  |some d,some e=>match d.as t,e.as t with
   |some x,some y=>some ⟨st,false,.var t (.leaf t (bif c then y else x))⟩
   |_,_=>none
  |_,_=>none
  else none
 |_,_=>none
def kW (c:Bool)(m:Nat→Option aa):List (Nat×aa)→Option (List (Nat×aa))
 | []=>some []
 | (i,b)::l=>match sU c (m i) b,kW c m l with
  |some b',some l'=>bif bW (fun x=>Nat.beq x.1 i) l then none else some ((i,b')::l')
  |_,_=>none
def nO (env:List (Nat×AT))(m:Nat→Option aa)(T:eP)(d:aD):Option aD:=
 bif T.isEmpty || d.ag.isEmpty then some d else
 bif oN env T then(match kW (jG env T) m d.ag with | some u=>some { d with ag:=u }|none=>none) else none
def nH:Option aa→Bool
 |some ⟨_,_,.var _ _⟩=>false
 |_=>true
def vF (m:Nat→Option aa)(l:List (Nat×aa)):Bool:=cH (fun x=>nH (m x.1)&&nH (some x.2)) l
def lW (C:Cx)(ops:List Oper)(o:Oper)(st:St):Option Rec:=
 match guardOf st.env ops o with
 |none=>none
 |some T=>
  let D:=dom st.mem (p_ o) (bu (iz C st.env T) o.op.operands.toList)
  match jQ C st.env T (view st.mem D) o with
  |none=>none
  |some d=>
   bif cH (fun x=>dK D x.1) d.ag&&uo st.mem D then(match nO st.env (find st.mem) T d with | some d'=>some ⟨o,T,D,d',d,vF (find st.mem) d'.ag⟩|none=>none) else none
def jK (T:eP)(a:AT):AT:=
 match T with
 | []=>(match a with | .bS _ _=>.any|a=>a)
 |T=>.bS T a
def okT (env:List (Nat×AT)):eP→List Bool→List Bool
 | [],l=>l
 |T,l=>qE (jG env T) l
def Rec.go (r:Rec)(st:St):St:=
 ⟨(match r.o.dst with | some s=>(s,jK r.T r.d.av)::st.env|none=>st.env),app r.d.ag st.mem,app (okT st.env r.T r.d.ok) st.ok⟩
def lQ (ops:List Oper)(o:Oper):List Nat:=
 app (dY tC o.op.operands.toList) (match o.guard with
  |some (j,_)=>match(cY ops j).bind (·.dst) with | some s=>[s]|none=>[]
  |none=>[])
def eG (o:Oper):Bool:=match o.op with
 |.indexAddr _ _ _=>true
 |_=>false
def mI (r:Rec):Bool:=match r.o.op,r.d.ag with
 |.store _ _ _,[(_,⟨_,_,.rows _ _⟩)]=>r.T.isEmpty
 |_,_=>false
def eU (r:Rec):Bool:=match r.o.op,r.d0.av with
 |.move _,_=>true
 |.nilCheck _,.aR _ _ _=>true
 |.fieldAddr _ _ _,.aR _ _ _=>true
 |_,_=>false
def jV (o:Oper):Bool:=match o.op with
 |.move _=>true
 |_=>false
def Rec.gM (ops:List Oper)(r:Rec):pT:=⟨bif jV r.o then [] else r.D,bu (fun x=>x.1) r.d.ag,lQ ops r.o,r.o.dst,eG r.o,mI r,eU r,r.kv⟩
def nK (C:Cx)(ops:List Oper):List Oper→St→Option (St×List Rec)
 | [],st=>some (st,[])
 |o::l,st=>match lW C ops o st with
  |some r=>match nK C ops l (r.go st) with
   |some (st',rs)=>some (st',r::rs)
   |none=>none
  |none=>none
def gk (acc:List Nat):List Edge→Nat
 | []=>0
 |e::l=>match e.ground with
  |.gcOnly _ | .textOnly _=>gk acc l
  |_=>Nat.lor (Nat.lor (2 ^ e.on) ((cY acc e.on).getD 0)) (gk acc l)
def gr:List Oper→List Nat→List Nat
 | [],acc=>acc
 |o::l,acc=>gr l (app acc [gk acc o.after.toList])
def qU (d:Option Nat)(R:List Nat):Bool:=match d with
 |some s=> !(bW (Nat.beq s) R)
 |none=>true
def jP (f g:pT):Bool:=(((f.ks&&g.sh) || (f.kv&&g.vs)) || cH (fun i=> !dK g.D i) f.W)&&(((g.ks&&f.sh) || (g.kv&&f.vs)) || cH (fun i=> !dK f.D i) g.W)&&qU f.d g.R&&qU g.d f.R
def free (bits:List Nat)(fs:List pT):Nat→Bool
 |0=>true
 |j+1=>free bits fs j&&Nat.ble ((cY bits j).getD 0+1) (2 ^ j) &&
  cH (fun i=>Nat.testBit ((cY bits j).getD 0) i || (match cY fs i,cY fs j with | some f,some g=>jP f g|_,_=>false)) (upto j)
def kB:List (Nat×AT)→List (Nat×AT)
 | []=>[]
 | (s,.bS _ _)::l=>(s,.any)::kB l
 |x::l=>x::kB l
def pq (C:Cx)(ops:List Oper)(draw:Bool)(st:St):Option St:=
 match nK C ops ops st with
 |none=>none
 |some (st',rs)=>
  let r:St:=bif bW (fun o=>o.guard.isSome) ops then { st' with env:=kB st'.env } else st'
  bif draw then(bif free (gr ops []) (bu (Rec.gM ops) rs) ops.length then some r else none) else some r
def ox:Nat→List Oper→Bool
 |_,[]=>true
 |n,o::l=>(match o.guard with | some (g,_)=>Nat.ble (g+1) n|none=>true)&&ox (n+1) l
def oZ (n:Nat)(ops:List Oper):Bool:=
 nodup (dY (fun o=>o.dst) ops)&&ox 0 ops&&cH (fun o=>match o.dst with | some s=>Nat.ble (s+1) n|none=>true) ops
def codeOk (n:Nat):Code→Bool
 |.region _ ops _=>oZ n ops.toList
 |.seq a b=>codeOk n a&&codeOk n b
 |.cond _ a b=>codeOk n a&&codeOk n b
 |.block _ c | .loop c | .scope c=>codeOk n c
 |_=>true
def base:Nat:=500000000
def eW:Nat:=700000000
def dB:AT→Nat→AT×List (Nat×aa)×Nat
 |.nil t,n=>(.whole n 0 t,[(n,⟨0,false,.rows t []⟩)],n+1)
 |.pair a b,n=>let l:=dB a n;let r:=dB b l.2.2;(.pair l.1 r.1,app l.2.1 r.2.1,r.2.2)
 |.bJ a b,n=>let l:=dB a n;let r:=dB b l.2.2;(.bJ l.1 r.1,app l.2.1 r.2.1,r.2.2)
 |.fn f c,n=>let l:=dB c n;(.fn f l.1,l.2.1,l.2.2)
 |a,n=>(a,[],n)
def jy:List (Nat×AT)→Nat→List (Nat×AT)×List (Nat×aa)×Nat
 | [],n=>([],[],n)
 | (s,a)::l,n=>let x:=dB a n;let r:=jy l x.2.2;((s,x.1)::r.1,app x.2.1 r.2.1,r.2.2)
def fK (b:aa)(n:Nat):aa×List (Nat×aa)×Nat:=match b with
 |⟨st,fz,.var t a⟩=>let x:=dB a n;(⟨st,fz,.var t x.1⟩,x.2.1,x.2.2)
 |b=>(b,[],n)
def jz:Mem→Nat→Mem×List (Nat×aa)×Nat
 | [],n=>([],[],n)
 | (i,b)::l,n=>let x:=fK b n;let r:=jz l x.2.2;((i,x.1)::r.1,app x.2.1 r.2.1,r.2.2)
def pid (s:Nat):Nat:=900+s
def gD (i:Nat):Bool:=Nat.ble 900 i&&Nat.ble i 989
def pids:Mem→List Nat→List Nat
 | [],acc=>acc
 | (i,_)::l,acc=>bif gD i && !(bW (Nat.beq i) acc) then pids l (app acc [i]) else pids l acc
def curIds (m:Nat→Option aa):AT→List Nat
 |.whole id st _ | .piece id st _ _ _ | .ptr id st _ _ | .aR id st _=>match cur m id st with | some _=>[id]|none=>[]
 |.pair l r | .bJ l r=>app (curIds m l) (curIds m r)
 |.fn _ c=>curIds m c
 |_=>[]
structure Ren where
 map:List (Nat×Nat)
 todo:List Nat
 next:Nat
def pV:List Nat→Ren→Ren
 | [],r=>r
 |i::l,r=>match find r.map i with
  |some _=>pV l r
  |none=>pV l ⟨app r.map [(i,r.next)],app r.todo [i],r.next+1⟩
def qN (m:Mem):Nat→Ren→List (Nat×Nat)
 |0,r=>r.map
 |n+1,r=>match r.todo with
  | []=>r.map
  |id::l=>match find m id with
   |some ⟨_,_,.var _ a⟩=>qN m n (pV (curIds (find m) a) { r with todo:=l })
   |_=>qN m n { r with todo:=l }
def jE (m:Nat→Option aa)(μ:List (Nat×Nat))(id st:Nat)(f:Nat→AT):AT:=
 match cur m id st with
 |some _=>match find μ id with
  |some j=>f j
  |none=>.undef 1
 |none=>.undef 1
def oU:AT→AT→AT
 |.leaf s x,.leaf t y=>.leaf (.pair s t) (x,y)
 |a,b=>.pair a b
def cQ (m:Nat→Option aa)(μ:List (Nat×Nat)):AT→AT
 |.whole id st t=>jE m μ id st fun j=>.whole j 0 t
 |.piece id st off len t=>jE m μ id st fun j=>.piece j 0 off len t
 |.ptr id st row p=>jE m μ id st fun j=>.ptr j 0 row p
 |.aR id st p=>jE m μ id st fun j=>.aR j 0 p
 |.pair a b=>oU (cQ m μ a) (cQ m μ b)
 |.bJ a b=>.bJ (cQ m μ a) (cQ m μ b)
 |.fn f c=>.fn f (cQ m μ c)
 |.bS _ _=>.any
 |.nest _ _ _ _ _ u=>.undef u.size
 |a=>a
def AT.fM:AT→Bool
 |.nest _ _ _ _ _ _=>false
 |.pair a b=>a.fM&&b.fM
 |.bJ a b=>a.fM&&b.fM
 |_=>true
def pB (m:Nat→Option aa)(μ:List (Nat×Nat)):AT→AT
 |.nest _ _ _ _ _ _=>.any
 |a=>bif a.fM then cQ m μ a else .any
def fD (m:Nat→Option aa)(μ:List (Nat×Nat))(i:Nat):aa:=
 match m i with
 |none=>⟨0,false,.dead⟩
 |some ⟨st,fz,c⟩=>bif gD i && !(Nat.beq st 0) then⟨1,false,.dead⟩ else
  match c with
  |.var t a=>⟨0,fz,.var t (cQ m μ a)⟩
  |.deep _ t xs=>⟨0,fz,.deep 0 t xs⟩
  |c=>⟨0,fz,c⟩
def ku (env:List (Nat×AT)):List Nat→List (Nat×AT)
 | []=>[]
 |s::l=>match find env s with | some a=>(s,a)::ku env l|none=>ku env l
def nN (i:Nat)(b:aa):Mem→Mem
 | []=>[(i,b)]
 | (j,c)::l=>bif Nat.ble i j then(i,b)::(j,c)::l else(j,c)::nN i b l
def mO:Mem→Mem
 | []=>[]
 | (i,b)::l=>nN i b (mO l)
def uP (m:Nat→Option aa):List (Nat×AT)→List Nat
 | []=>[]
 | (_,a)::l=>app (curIds m a) (uP m l)
def uniq:Mem→List Nat→Mem
 | [],_=>[]
 | (i,b)::l,seen=>bif bW (Nat.beq i) seen then uniq l seen else(i,b)::uniq l (i::seen)
def renOk (mem:Mem)(μ:List (Nat×Nat)):Bool:=
 nodup (bu (fun x=>x.1) μ)&&nodup (bu (fun x=>x.2) μ)&&cH (fun x=> !gD x.2 || Nat.beq x.1 x.2) μ &&
  cH (fun x=> !gD x.1 || (match find μ x.1 with | some j=>Nat.beq j x.1|none=>false)) mem
def s7 (keep:List Nat)(st:St):St:=
 let e:=jy (ku st.env keep) eW
 let m:=jz (uniq st.mem []) e.2.2
 ⟨e.1,app m.1 (app e.2.1 m.2.1),st.ok⟩
def s8 (st:St):Option St:=
 let ps:=pids st.mem []
 let μ:=qN st.mem 100 (pV (uP (find st.mem) st.env) ⟨bu (fun i=>(i,i)) ps,ps,base⟩)
 bif renOk st.mem μ&&cH (fun x=>match x.2.c with | .var _ a=>a.fM|_=>true) st.mem then some ⟨bu (fun x=>(x.1,pB (find st.mem) μ x.2)) st.env,mO (bu (fun x=>(x.2,fD (find st.mem) μ x.1)) μ),st.ok⟩ else none
def plain (keep:List Nat)(st:St):Option St:=
 bif cH (fun x=>Nat.ble (x.1+1) eW) st.mem then s8 (s7 keep st) else none
inductive AS where
 |leaf (t:Ty)|whole (id:Nat) (t:Ty)|piece (id:Nat) (t:Ty)|dU|pair (l r:AS)|undef (n:Nat)
 |ptr (id:Nat) (path:Path)|aR (id:Nat) (path:Path)|fn (f:FuncId) (c:AS)|bJ (l r:AS)|dM|any
@[reducible] def AS.den:AS→Type
 |.leaf t=>t.den
 |.piece _ _=>Nat×Nat
 |.pair l r=>l.den×r.den
 |.bJ l r=>l.den×r.den
 |.ptr _ _=>Nat
 |.fn _ c=>c.den
 |_=>Unit
def AS.of:(s:AS)→s.den→AT
 |.leaf t,x=>.leaf t x
 |.whole id t,_=>.whole id 0 t
 |.piece id t,x=>.piece id 0 x.1 x.2 t
 |.dU,_=>.dU
 |.pair l r,x=>.pair (l.of x.1) (r.of x.2)
 |.undef n,_=>.undef n
 |.ptr id p,row=>.ptr id 0 row p
 |.aR id p,_=>.aR id 0 p
 |.fn f c,x=>.fn f (c.of x)
 |.bJ l r,x=>.bJ (l.of x.1) (r.of x.2)
 |.dM,_=>.dM
 |.any,_=>.any
def mM:Path→Path→Bool
 | [],[]=>true
 |.fst::p,.fst::q=>mM p q
 |.snd::p,.snd::q=>mM p q
 |.idx i::p,.idx j::q=>Nat.beq i j&&mM p q
 |_,_=>false
def AS.data:(s:AS)→AT→Option s.den
 |.leaf t,.leaf u x=>DV.as ⟨u,x⟩ t
 |.whole id t,.whole jd 0 u=>bif Nat.beq id jd&&t.is u then some () else none
 |.piece id t,.piece jd 0 o n u=>bif Nat.beq id jd&&t.is u then some (o,n) else none
 |.dU,.dU=>some ()
 |.pair l r,.pair a b=>match l.data a,r.data b with
  |some x,some y=>some (x,y)
  |_,_=>none
 |.bJ l r,.bJ a b=>match l.data a,r.data b with
  |some x,some y=>some (x,y)
  |_,_=>none
 |.undef n,.undef k=>bif Nat.beq n k then some () else none
 |.ptr id p,.ptr jd 0 row q=>bif Nat.beq id jd&&mM p q then some row else none
 |.aR id p,.aR jd 0 q=>bif Nat.beq id jd&&mM p q then some () else none
 |.fn f c,.fn g d=>bif Nat.beq f g then c.data d else none
 |.dM,.dM=>some ()
 |.any,.any=>some ()
 |_,_=>none
inductive BS where
 |var (t:Ty) (a:AS)|rows (t:Ty)|deep (t:Ty)
@[reducible] def BS.den:BS→Type
 |.var _ a=>a.den
 |.rows t=>List t.den
 |.deep t=>List t.den
def BS.of:(s:BS)→s.den→BC
 |.var t a,x=>.var t (a.of x)
 |.rows t,x=>.rows t x
 |.deep t,x=>.deep 0 t x
def BS.data:(s:BS)→BC→Option s.den
 |.var t a,.var u b=>bif t.is u then a.data b else none
 |.rows t,.rows u xs=>DV.as ⟨.lst u,xs⟩ (.lst t)
 |.deep t,.deep 0 u xs=>DV.as ⟨.lst u,xs⟩ (.lst t)
 |_,_=>none
structure Sh where
 env:List (Nat×AS)
 mem:List (Nat×Bool×BS)
@[reducible] def oo:List (Nat×AS)→Type
 | []=>Unit
 | [(_,a)]=>a.den
 | (_,a)::l=>a.den×oo l
@[reducible] def oR:List (Nat×Bool×BS)→Type
 | []=>Unit
 | [(_,_,a)]=>a.den
 | (_,_,a)::l=>a.den×oR l
def ou:(l:List (Nat×AS))→oo l→List (Nat×AT)
 | [],_=>[]
 | [(s,a)],x=>[(s,a.of x)]
 | (s,a)::b::l,x=>(s,a.of x.1)::ou (b::l) x.2
def oS:(l:List (Nat×Bool×BS))→oR l→Mem
 | [],_=>[]
 | [(s,fz,a)],x=>[(s,⟨0,fz,a.of x⟩)]
 | (s,fz,a)::b::l,x=>(s,⟨0,fz,a.of x.1⟩)::oS (b::l) x.2
def qb:(l:List (Nat×AS))→List (Nat×AT)→Option (oo l)
 | [],[]=>some ()
 | [(s,a)],[(s',b)]=>bif Nat.beq s s' then a.data b else none
 | (s,a)::a'::l,(s',b)::l'=>bif Nat.beq s s' then match a.data b,qb (a'::l) l' with
   |some x,some y=>some (x,y)
   |_,_=>none
  else none
 |_,_=>none
def qA:(l:List (Nat×Bool×BS))→Mem→Option (oR l)
 | [],[]=>some ()
 | [(s,f,a)],[(s',⟨0,f',b⟩)]=>bif Nat.beq s s'&&oe f f' then a.data b else none
 | (s,f,a)::a'::l,(s',⟨0,f',b⟩)::l'=>bif Nat.beq s s'&&oe f f' then match a.data b,qA (a'::l) l' with
   |some x,some y=>some (x,y)
   |_,_=>none
  else none
 |_,_=>none
@[reducible] def Sh.den (s:Sh):Type:=oo s.env×oR s.mem
def Sh.of (s:Sh)(x:s.den):St:=⟨ou s.env x.1,oS s.mem x.2,[]⟩
def wpA (m:Nat→Option aa):AS→AT→AT
 |.piece _ _,.whole id st t=>match cur m id st with
  |some b=>match b.c.arr with
   |some x=>.piece id st 0 x.2 t
   |none=>.whole id st t
  |none=>.whole id st t
 |_,a=>a
def wpE (m:Nat→Option aa):List (Nat×AS)→List (Nat×AT)→List (Nat×AT)
 |x::l,a::l'=>(a.1,wpA m x.2 a.2)::wpE m l l'
 |_,l'=>l'
def Sh.data (s:Sh)(st:St):Option s.den:=
 match plain (bu (fun e=>e.1) s.env) st with
 |none=>none
 |some p=>match qb s.env (wpE (find p.mem) s.env p.env),qA s.mem p.mem with
  |some x,some y=>some (x,y)
  |_,_=>none
inductive Ex where
 |norm|exit (id:Nat)|ret
def Ex.is:Ex→Ex→Bool
 |.norm,.norm=>true
 |.exit i,.exit j=>Nat.beq i j
 |.ret,.ret=>true
 |_,_=>false
abbrev fF:=List (Ex×Sh)
@[reducible] def fF.den:fF→Type
 | []=>Empty
 | [(_,s)]=>s.den
 | (_,s)::l=>s.den⊕fF.den l
def fF.data:(l:fF)→Ex→St→Option l.den
 | [],_,_=>none
 | [(e,s)],f,st=>bif e.is f then s.data st else none
 | (e,s)::b::l,f,st=>match(bif e.is f then s.data st else none) with
  |some x=>some (.inl x)
  |none=>(fF.data (b::l) f st).map .inr
@[reducible] def sumC {α β γ:Type} (x:α⊕β) (f:α→γ) (g:β→γ):γ:=match x with
 |.inl a=>f a
 |.inr b=>g b
def fF.go {α:Type}(K:Ex→St→Option α)(ok:List Bool):(l:fF)→l.den→Option α
 | [],x=>x.elim
 | [(e,s)],x=>K e { s.of x with ok:=ok }
 | (e,s)::b::l,x=>sumC x (fun y=>K e { s.of y with ok:=ok }) (fun z=>fF.go K ok (b::l) z)
structure bZ where
 sh:Sh
 ig:fF
 dom:sh.den→Bool
 val:sh.den→ig.den
def iH:Code→Nat
 |.region id _ _=>id
 |.seq a _=>iH a
 |.block _ c | .loop c | .scope c=>iH c
 |_=>0
def kL:List Bool→Bool
 | []=>true
 | [a]=>a
 |a::l=>a&&kL l
def rR (env:List (Nat×AT))(C:Cx)(c:Operand):Option Bool:=
 match operand C env c with
 |.leaf .bool g=>some g
 |_=>none
def keyOf:Code→Nat
 |.region id _ _=>id
 |.seq a _=>keyOf a
 |.cond _ a b=>1000000+(bif Nat.beq (keyOf a) 0 then keyOf b else keyOf a)
 |.block _ c | .loop c=>1000000+keyOf c
 |.scope c=>keyOf c
 |_=>0
def mA (lt:List (Nat×bZ)):Code→Option bZ
 |.cond c a b=>find lt (keyOf (.cond c a b))
 |.block i c=>find lt (keyOf (.block i c))
 |.seq (.region i _ _) (.cond _ _ _) | .seq (.region i _ _) (.block _ _)=>find lt (2000000+i)
 |_=>none
def goBox {α:Type}(K:Ex→St→Option α)(L:bZ)(st:St):Option α:=
 match L.sh.data st with
 |some x=>bif L.dom x then fF.go K st.ok L.ig (L.val x) else none
 |none=>none
def sO (lt:List (Nat×bZ))(k:Nat)(st:St):Option bZ:=match find lt k with
 |some L=>match L.sh.data st with
  |some _=>some L
  |none=>find lt (k+500000)
 |none=>none
def gy {α:Type}(C:Cx)(lt:List (Nat×bZ)):Code→(Ex→St→Option α)→St→Option α
 |.skip,K,st=>K .norm st
 |.region _ ops draw,K,st=>match pq C ops.toList draw st with
  |some st'=>bif kL st'.ok then K .norm { st' with ok:=[] } else none
  |none=>none
 |.seq a b,K,st=>match mA lt a with
  |some L=>goBox (fun e st'=>match e with
   |.norm=>gy C lt b K st'
   |e=>K e st') L st
  |none=>gy C lt a (fun e st'=>match e with
   |.norm=>gy C lt b K st'
   |e=>K e st') st
 |.cond c a b,K,st=>match rR st.env C c with
  |some g=>bif g then gy C lt a K st else gy C lt b K st
  |none=>none
 |.block id c,K,st=>gy C lt c (fun e st'=>match e with
  |.exit i=>bif Nat.beq i id then K .norm st' else K e st'
  |e=>K e st') st
 |.loop c,K,st=>match sO lt (iH c) st with
  |some L=>match L.sh.data st with
   |some x=>bif L.dom x then fF.go K st.ok L.ig (L.val x) else none
   |none=>none
  |none=>none
 |.exit id,K,st=>K (.exit id) st
 |.scope c,K,st=>gy C lt c K st
 |.label _,K,st=>K .norm st
 |.ret,K,st=>K .ret st
 |_,_,_=>none
def round (C:Cx)(lt:List (Nat×bZ))(c:Code)(L:bZ)(x:L.sh.den):Option (L.sh.den⊕L.ig.den):=
 gy C lt c (fun e st=>bif kL st.ok then(match e with
  |.norm=>(L.sh.data st).map .inl
  |e=>(L.ig.data e st).map .inr) else none) (L.sh.of x)
def boxR (C:Cx)(lt:List (Nat×bZ))(c:Code)(L:bZ)(x:L.sh.den):Option L.ig.den:=
 gy C lt c (fun e st=>bif kL st.ok then L.ig.data e st else none) (L.sh.of x)
inductive Comes {X Y:Type} (r:X→Option (X⊕Y)):X→Y→Prop where
 |out {x:X} {y:Y}:r x=some (.inr y)→Comes r x y
 |again {x x':X} {y:Y}:r x=some (.inl x')→Comes r x' y→Comes r x y
def rO:(t:Ty)→t.den→AT
 |.pair a b,x=>.bJ (.leaf a x.1) (rO b x.2)
 |_,_=>.dM
def om (s:Nat):Nat:=950+10*s
def eE (s:Nat):Arg→AT×Mem
 |.d d=>let a:=aY (fun _=>none) d.t d.x (om s);(a.1,a.2.1)
 |.v d=>let a:=aZ (fun _=>none) d.t d.x ((pid s+1)*1000);(a.1,a.2.1)
 |.p d=>let a:=aZ (fun _=>none) d.t d.x ((pid s+1)*1000);(.aR (pid s) 0 [],(pid s,⟨0,false,.var d.t.aS a.1⟩)::a.2.1)
 |.m t xs=>(.whole (pid s) 0 t,[(pid s,⟨0,false,.rows t xs⟩)])
 |.f g d=>(.fn g (rO d.t d.x),[])
def od:Nat→List Arg→St→St
 |_,[],st=>st
 |s,a::l,st=>let r:=eE s a;od (s+1) l { st with env:=app st.env [(s,r.1)],mem:=app st.mem r.2 }
structure aM where
 own:List Nat:=[]
 aS:List Nat:=[]
def aM.app (a b:aM):aM:=⟨Ab.app a.own b.own,Ab.app a.aS b.aS⟩
def gY (m:Nat→Option aa):(t:Ty)→AT→Option (t.den×aM)
 |.own t,.whole id st u=>match rowsOf m id st u with
  |some (false,xs)=>match(DV.mk (.own u) xs).as (.own t) with
   |some ys=>some (ys,⟨[id],[]⟩)
   |none=>none
  |_=>none
 |.own t,.piece id st 0 len u=>match rowsOf m id st u with
  |some (false,xs)=>match(DV.mk (.own u) (xs.take len)).as (.own t) with
   |some ys=>some (ys,⟨[id],[]⟩)
   |none=>none
  |_=>none
 |.own t,.nil u=>match(DV.mk (.own u) []).as (.own t) with
  |some ys=>some (ys,{})
  |none=>none
 |.own _,.dU=>some ([],{})
 |.pair a b,.pair l r=>match gY m a l,gY m b r with
  |some (x,i),some (y,j)=>some ((x,y),i.app j)
  |_,_=>none
 |t,a=>bif t.fu then none else match cR m (cI (some t) a) with
  |some d=>match d.as t with
   |some x=>some (x,⟨[],dR m a.ids⟩)
   |none=>none
  |none=>none
def qY (m:Nat→Option aa)(t:Ty)(a:AT):Option (t.den×aM):=
 match eK m (cI (some t) a) with
 |some d=>match d.as t with
  |some x=>some (x,⟨a.ids,[]⟩)
  |none=>none
 |none=>none
def kI (m:Nat→Option aa):(t:Ty)→t.den→Nat→Option (t.den×List Nat×Nat)
 |.lst t,_,n=>bif gD n then match o7 m n 0 t with
  |some xs=>some (xs,[n],n+1)
  |none=>none
  else none
 |.pair a b,x,n=>bif(Ty.pair a b).aV then
  match kI m a x.1 n with
  |some (y,l,k)=>match kI m b x.2 k with
   |some (z,l',e)=>some ((y,z),app l l',e)
   |none=>none
  |none=>none
  else some (x,[],n)
 |_,x,n=>some (x,[],n)
inductive Want where
 |v (t:Ty)|d (t:Ty)|p (t:Ty)
def nA (C:Cx)(st:St):ResultVar→Option AT
 |.tmp s=>find st.env s
 |.cell s T=>match find st.env s,C.ty T with
  |some (.aR id s0 []),some u=>match cur (find st.mem) id s0 with
   |some ⟨_,_,.var t a⟩=>bif t.is u then some a else none
   |_=>none
  |_,_=>none
def kD (C:Cx)(st:St):List ResultVar→List Want→Option (List RV×aM)
 | [],[]=>some ([],{})
 |r::rs,w::ws=>match nA C st r,kD C st rs ws with
  |some a,some (l,ids)=>match w,a with
   |.v t,a=>match gY (find st.mem) t a with
    |some (x,i)=>some (.v ⟨t,x⟩::l,i.app ids)
    |none=>none
   |.d t,a=>match qY (find st.mem) t a with
    |some (x,i)=>some (.d ⟨t,x⟩::l,i.app ids)
    |none=>none
   |.p t,.aR id s []=>match cur (find st.mem) id s with
    |some ⟨_,false,.var _ b⟩=>match gY (find st.mem) t b with
     |some (x,i)=>some (.p ⟨t,x⟩::l,(aM.mk [id] []).app (i.app ids))
     |none=>none
    |_=>none
   |_,_=>none
  |_,_=>none
 |_,_=>none
def iA (st:St):Nat→List Arg→Option (List DV×aM)
 |_,[]=>some ([],{})
 |s,.p d::l=>match find st.mem (pid s),iA st (s+1) l with
  |some ⟨0,false,.var _ a⟩,some (r,ids)=>match gY (find st.mem) d.t a with
   |some (x,i)=>some (⟨d.t,x⟩::r,(aM.mk [pid s] []).app (i.app ids))
   |none=>none
  |_,_=>none
 |s,.m t _::l=>match rowsOf (find st.mem) (pid s) 0 t,iA st (s+1) l with
  |some (false,xs),some (r,ids)=>some (⟨.own t,xs⟩::r,(aM.mk [pid s] []).app ids)
  |_,_=>none
 |s,.d d::l=>match kI (find st.mem) d.t d.x (om s),iA st (s+1) l with
  |some (x,i,_),some (r,ids)=>some (⟨d.t,x⟩::r,(aM.mk i []).app ids)
  |_,_=>none
 |s,_::l=>iA st (s+1) l
def finish (C:Cx)(fn:Func)(args:List Arg)(ws:List Want)(st:St):Option (List RV×List DV):=
 match kD C st fn.results.toList ws,iA st 0 args with
 |some (o,i),some (u,j)=>
  let k:=i.app j
  bif nodup k.own&&cH (fun x=> !(bW (Nat.beq x) k.own)) k.aS then(bif kL st.ok then some (o,u) else none) else none
 |_,_=>none
inductive PT where
 |v (t:Ty)|d (t:Ty)|p (t:Ty)|m (t:Ty)|k (t:Ty)|f (g:FuncId) (t:Ty)
@[reducible] def PT.den:PT→Type
 |.v t | .d t | .p t | .k t | .f _ t=>t.den
 |.m t=>List t.den
def PT.mode:PT→Mode
 |.v _=>.v | .d _=>.d | .p _=>.p | .m _=>.m | .k _=>.k | .f _ _=>.f
def PT.arg:(p:PT)→p.den→Arg
 |.v t,x=>.v ⟨t,x⟩
 |.d t,x=>.d ⟨t,x⟩
 |.k t,x=>.v ⟨t,x⟩
 |.p t,x=>.p ⟨t,x⟩
 |.m t,x=>.m t x
 |.f g t,x=>.f g ⟨t,x⟩
@[reducible] def jf:List PT→Type
 | []=>Unit
 | [p]=>p.den
 |p::l=>p.den×jf l
def iZ:(l:List PT)→jf l→List Arg
 | [],_=>[]
 | [p],x=>[p.arg x]
 |p::q::l,x=>p.arg x.1::iZ (q::l) x.2
@[reducible] def jW:List PT→Type
 | []=>Unit
 |.p t::l | .d t::l=>t.den×jW l
 |.m t::l=>List t.den×jW l
 |.v _::l | .k _::l | .f _ _::l=>jW l
def kG:(l:List PT)→jW l→List DV
 | [],_=>[]
 |.p t::l,x | .d t::l,x=>⟨t,x.1⟩::kG l x.2
 |.m t::l,x=>⟨.own t,x.1⟩::kG l x.2
 |.v _::l,x | .k _::l,x | .f _ _::l,x=>kG l x
@[reducible] def Want.den:Want→Type
 |.v t | .d t | .p t=>t.den
def Want.rv:(w:Want)→w.den→RV
 |.v t,x=>.v ⟨t,x⟩
 |.d t,x=>.d ⟨t,x⟩
 |.p t,x=>.p ⟨t,x⟩
@[reducible] def kY:List Want→Type
 | []=>Unit
 | [w]=>w.den
 |w::l=>w.den×kY l
def pK:(l:List Want)→kY l→List RV
 | [],_=>[]
 | [w],x=>[w.rv x]
 |w::u::l,x=>w.rv x.1::pK (u::l) x.2
def nL (C:Cx)(st:St)(r:ResultVar):(w:Want)→Option (w.den×aM)
 |.v t=>match nA C st r with
  |some a=>gY (find st.mem) t a
  |none=>none
 |.d t=>match nA C st r with
  |some a=>qY (find st.mem) t a
  |none=>none
 |.p t=>match nA C st r with
  |some (.aR id s [])=>match cur (find st.mem) id s with
   |some ⟨_,false,.var _ b⟩=>match gY (find st.mem) t b with
    |some (x,i)=>some (x,(aM.mk [id] []).app i)
    |none=>none
   |_=>none
  |_=>none
def qI (C:Cx)(st:St):List ResultVar→(l:List Want)→Option (kY l×aM)
 | [],[]=>some ((),{})
 | [r],[w]=>nL C st r w
 |r::r'::rs,w::u::ws=>match nL C st r w,qI C st (r'::rs) (u::ws) with
  |some (x,i),some (y,j)=>some ((x,y),i.app j)
  |_,_=>none
 |_,_=>none
def k_ (st:St):Nat→(l:List PT)→List Arg→Option (jW l×aM)
 |_,[],_=>some ((),{})
 |s,.p t::l,_::as=>match find st.mem (pid s),k_ st (s+1) l as with
  |some ⟨0,false,.var _ a⟩,some (r,ids)=>match gY (find st.mem) t a with
   |some (x,i)=>some ((x,r),(aM.mk [pid s] []).app (i.app ids))
   |none=>none
  |_,_=>none
 |s,.m t::l,_::as=>match rowsOf (find st.mem) (pid s) 0 t,k_ st (s+1) l as with
  |some (false,xs),some (r,ids)=>some ((xs,r),(aM.mk [pid s] []).app ids)
  |_,_=>none
 |s,.d t::l,.d d::as=>match d.as t with
  |some x0=>match kI (find st.mem) t x0 (om s),k_ st (s+1) l as with
   |some (x,i,_),some (r,ids)=>some ((x,r),(aM.mk i []).app ids)
   |_,_=>none
  |none=>none
 |s,.v _::l,_::as|s,.k _::l,_::as|s,.f _ _::l,_::as=>k_ st (s+1) l as
 |_,_,_=>none
def finT (C:Cx)(fn:Func)(ps:List PT)(as:List Arg)(ws:List Want)(st:St):Option (kY ws×jW ps):=
 match qI C st fn.results.toList ws,k_ st 0 ps as with
 |some (o,i),some (u,j)=>
  let k:=i.app j
  bif nodup k.own&&cH (fun x=> !(bW (Nat.beq x) k.own)) k.aS then(bif kL st.ok then some (o,u) else none) else none
 |_,_=>none
def evT (C:Cx)(lt:List (Nat×bZ))(fn:Func)(ps:List PT)(ws:List Want)(xs:jf ps):Option (kY ws×jW ps):=
 match fn.body with
 |none=>none
 |some c=>
  let st:=od 0 (iZ ps xs) ⟨[],[],[]⟩
  bif codeOk fn.ntmps c&&Nat.ble (iZ ps xs).length fn.ntmps&&Nat.ble (iZ ps xs).length 50&&Nat.ble ws.length 3&&nodup (bu (fun x=>x.1) st.mem) then gy C lt c (fun e st=>match e with
   |.exit _=>none
   |_=>finT C fn ps (iZ ps xs) ws st) st else none
structure j4 where
 id:FuncId
 ps:List PT
 ws:List Want
 fn:jf ps→Option (kY ws×jW ps)
 val:jf ps→kY ws×jW ps
def qu {α:Type}:Option α→Bool
 |some _=>true
 |none=>false
def j4.res (c:j4)(x:jf c.ps):Res:=⟨pK c.ws (c.val x).1,kG c.ps (c.val x).2,[qu (c.fn x)]⟩
def PT.of:(p:PT)→Arg→Option p.den
 |.v t,.v y | .k t,.v y | .p t,.p y | .d t,.d y=>y.as t
 |.m t,.m u xs=>(DV.mk (.own u) xs).as (.own t)
 |.f g t,.f h y=>bif Nat.beq g h then y.as t else none
 |_,_=>none
def oY:(l:List PT)→List Arg→Option (jf l)
 | [],[]=>some ()
 | [p],[a]=>p.of a
 |p::q::l,a::as=>match p.of a,oY (q::l) as with
  |some x,some y=>some (x,y)
  |_,_=>none
 |_,_=>none
def j4.entry (c:j4):Nat×List Mode×(List Arg→Option Res):=(c.id,c.ps.map PT.mode,fun as=>(oY c.ps as).map c.res)
def CDom {X Y:Type}(r:X→Option (X⊕Y))(x:X):Prop:=∃y,Comes r x y
noncomputable def p8 {X Y:Type} (r:X→Option (X⊕Y)) (x:X):Bool:=@decide (CDom r x) (Classical.propDecidable _)
noncomputable def oh {X Y:Type} (r:X→Option (X⊕Y)) (y0:Y) (x:X):Y:=@dite Y (CDom r x) (Classical.propDecidable _) (fun h=>Classical.choose h) (fun _=>y0)
def boxD (sh:Sh)(ig:fF)(f:sh.den→Option ig.den)(f':sh.den→ig.den):bZ:=⟨sh,ig,fun x=>qu (f x),f'⟩
noncomputable def oP (sh:Sh) (ig:fF) (y0:ig.den) (r:sh.den→Option (sh.den⊕ig.den)):bZ:=⟨sh,ig,p8 r,oh r y0⟩
def Cells (w:World)(B:Nat)(cs:List Value):Prop:=
 ∃e fr,w.heap[B]?=some (.cells cs.toArray e fr)∧∀j,j<cs.length→¬(fr.1≤j∧j<fr.2)
def Cells.lt {w:World}{B:Nat}{cs:List Value}(h:Cells w B cs):B<w.heap.size:=by
 obtain⟨e,fr,h,_⟩:=h
 grind
def Cells.cell {w:World}{B:Nat}{cs:List Value}(h:Cells w B cs)(j:Nat):w.cell? ⟨B,j,none⟩=cs[j]? :=by
 obtain⟨e,fr,h,_⟩:=h
 grind [World.cell?]
def Cells.frozen {w:World}{B:Nat}{cs:List Value}(h:Cells w B cs){j:Nat}(hj:j<cs.length):w.frozen? ⟨B,j,none⟩=false:=by
 obtain⟨e,fr,h,hf⟩:=h
 simp_all [World.frozen?]
def Cells.of_same {w w':World}{B:Nat}{cs:List Value}(h:Cells w B cs)(hs:w'.heap[B]?=w.heap[B]?):Cells w' B cs:=by
 obtain⟨e,fr,h,hf⟩:=h
 exact⟨e,fr,hs.trans h,hf⟩
def Cells.unique {w:World}{B:Nat}{cs ds:List Value}(h:Cells w B cs)(h':Cells w B ds):cs=ds:=by
 obtain⟨e,fr,h,_⟩:=h
 obtain⟨e',fr',h',_⟩:=h'
 grind
def Cells.alloc (w:World)(cs:Array Value)(e:TypeId)(fr:Nat×Nat:=(0,0))(hfr:∀j,j<cs.size→¬(fr.1≤j∧j<fr.2):=by simp):Cells (w.alloc (.cells cs e fr)) w.heap.size cs.toList:=
 ⟨e,fr,by simpa using heap_alloc_new w _,fun j hj=>hfr j (by grind)⟩
def ym (w:World)(a:Addr)(v:Value)(k:Nat)(h:k≠a.block):(w.setCell a v).heap[k]?=w.heap[k]? :=by
 grind [World.setCell]
def Cells.set {w:World}{B:Nat}{cs:List Value}(h:Cells w B cs)(j:Nat)(v:Value):Cells (w.setCell ⟨B,j,none⟩ v) B (cs.set j v):=by
 obtain⟨e,fr,h,hf⟩:=h
 refine⟨e,fr,?_,fun i hi=>hf i (by grind)⟩
 simp_all [World.setCell,Array.getElem?_modify]
def putAt (cs:List Value)(o:Nat)(vs:List Value):List Value:=cs.take o++vs++cs.drop (o+vs.length)
def pn {cs:List Value}{o:Nat}{vs:List Value}(h:o+vs.length≤cs.length):(putAt cs o vs).length=cs.length:=by
 simp[putAt]
 omega
def jD {cs:List Value}{o:Nat}{vs:List Value}(h:o+vs.length≤cs.length)(j:Nat) :
  (putAt cs o vs)[j]?=if o≤j∧j<o+vs.length then vs[j-o]? else cs[j]? :=by
 simp[putAt]
 grind
def zl {cs:List Value}{o:Nat}{v:Value}{vs:List Value}(h:o+(v::vs).length≤cs.length) :
  putAt (cs.set o v) (o+1) vs=putAt cs o (v::vs):=by
 apply List.ext_getElem?
 intro j
 rw[jD (by grind),jD h]
 grind
def pE (P:Program)(B o:Nat):∀(vs:List Value) (i:Nat) (cs:List Value) (w:World),Cells w B cs→o+i+vs.length≤cs.length →
  (∀v∈vs,v.oneCell'=true) →
  ∃w',(storeCells ⟨B,o,none⟩ vs i).run P w = .ok () w'∧Cells w' B (putAt cs (o+i) vs)∧(∀k,k≠B→w'.heap[k]?=w.heap[k]?)∧w'.heap.size=w.heap.size ∧
   w'.os=w.os∧w'.tape=w.tape∧w'.output=w.output
 | [],i,cs,w,hc,_,_=>⟨w,rfl,by simpa[putAt] using hc,fun _ _=>rfl,rfl,rfl,rfl,rfl⟩
 |v::rest,i,cs,w,hc,hl,h1=>by
  have hi:o+i<cs.length:=by grind
  have hadd:(⟨B,o,none⟩:Addr).add i=⟨B,o+i,none⟩:=by unfold Addr.add;simp
  have hst:(store ((⟨B,o,none⟩:Addr).add i) v).run P w = .ok () (w.setCell ⟨B,o+i,none⟩ v):=by
   rw[hadd,run_store P w _ v _ (h1 v (by simp)),hc.cell]
   simp[hc.frozen hi,hi]
  obtain⟨w',hr,aI,hk,hs,ho,ht,hu⟩:=pE P B o rest (i+1) (cs.set (o+i) v) (w.setCell ⟨B,o+i,none⟩ v) (hc.set _ _) (by grind) (fun x hx=>h1 x (by grind))
  refine⟨w',?_,?_,fun k hk'=>(hk k hk').trans (ym _ _ _ _ hk'),by simp_all,ho,ht,hu⟩
  ·simp[storeCells,hst,hr]
  ·have:=zl (cs:=cs) (o:=o+i) (v:=v) (vs:=rest) (by omega)
   rw[←this]
   exact aI
def qR {P:Program}{w:World}{B o:Nat}{vs:List Value}(h:∀j,j<vs.length→w.cell? ⟨B,o+j,none⟩=vs[j]?) :
  (loadCells ⟨B,o,none⟩ vs.length).run P w = .ok vs.toArray w:=by
 refine run_loadCells_list (P:=P) w _ vs fun j v hv=>?_
 have:(⟨B,o,none⟩:Addr).add j=⟨B,o+j,none⟩:=by simp[Addr.add]
 grind
def fQ {α:Type}(w:World)(B off sz:Nat)(R:α→List Value→Prop)(xs:List α):Prop:=
 ∀(i:Nat) (x:α),xs[i]?=some x→∃cs:List Value,cs.length=sz∧(∀j,j<sz→w.cell? ⟨B,off+i*sz+j,none⟩=cs[j]?)∧R x cs
def aT {α:Type}(R:α→List Value→Prop):List α→List Value→Prop
 | [],vs=>vs = []
 |x::xs,vs=>∃v1 v2,vs=v1++v2∧R x v1∧aT R xs v2
def af (w:World)(I:Nat→Prop):(t:Ty)→t.den→List Value→Prop
 |.unit,_,vs=>vs = []
 |.bool,x,vs=>vs = [.bool x]
 |.int k,x,vs=>vs = [.int k x]
 |.str,x,vs=>vs = [.string ⟨x.toArray⟩]
 |.lst t,xs,vs=>∃a cap,vs = [.slice a xs.length cap]∧xs.length≤cap ∧
  (xs = []∨∃B off,a=some ⟨B,off,none⟩∧I B∧fQ w B off t.size (af w I t) xs)
 |.own _,_,_=>False
 |.pair a b,x,vs=>∃v1 v2,vs=v1++v2∧af w I a x.1 v1∧af w I b x.2 v2
 |.arr n t,xs,vs=>xs.length=n∧aT (af w I t) xs vs
 |.ref t,x,vs=>∃B off,vs = [.pointer (some ⟨B,off,none⟩)]∧I B∧0<t.size ∧
  ∃cs:List Value,cs.length=t.size∧(∀j,j<t.size→w.cell? ⟨B,off+j,none⟩=cs[j]?)∧af w I t x cs
def aT.length {α:Type}{R:α→List Value→Prop}{n:Nat}(hR:∀x vs,R x vs→vs.length=n):∀{xs:List α} {vs:List Value},aT R xs vs→vs.length=xs.length*n
 | [],_,h=>by cases h;simp
 |x::xs,vs,⟨v1,v2,h,h1,h2⟩=>by
  subst h
  rw[eY,hR _ _ h1,aT.length hR h2,zl6,cC]
  omega
def af.length {w:World}{I:Nat→Prop}: {t:Ty} → {x:t.den} → {vs:List Value}→af w I t x vs→vs.length=t.size
 |.unit,_,_,h=>by simp_all [af,Ty.size]
 |.bool,_,_,h=>by simp_all [af,Ty.size]
 |.int _,_,_,h=>by simp_all [af,Ty.size]
 |.str,_,_,h=>by simp_all [af,Ty.size]
 |.lst _,_,_,h=>by obtain⟨a,cap,h,_⟩:=h;simp[h,Ty.size]
 |.own _,_,_,h=>by trivial
 |.pair a b,_,_,h=>by
  obtain⟨v1,v2,h,h1,h2⟩:=h
  simp[h,Ty.size,af.length h1,af.length h2]
 |.arr n t,_,_,h=>by
  rw[aT.length (fun x vs h=>af.length h) h.2,h.1]
  rfl
 |.ref _,_,_,h=>by obtain⟨B,off,h,_⟩:=h;simp[h,Ty.size]
def aT.mono {α:Type}{R R':α→List Value→Prop}(hR:∀x vs,R x vs→R' x vs):∀{xs:List α} {vs:List Value},aT R xs vs→aT R' xs vs
 | [],_,h=>h
 |_::_,_,⟨v1,v2,h,h1,h2⟩=>⟨v1,v2,h,hR _ _ h1,aT.mono hR h2⟩
structure bH (I I':Nat→Prop) (w w':World):Prop where
 sub:∀b,I b→I' b
 same:∀b,I b→w'.heap[b]?=w.heap[b]?
def bH.refl (I:Nat→Prop)(w:World):bH I I w w:=⟨fun _ h=>h,fun _ _=>rfl⟩
def bH.trans {I I' b_:Nat→Prop}{w w' w'':World}(h:bH I I' w w')(k:bH I' b_ w' w''):bH I b_ w w'':=
 ⟨fun b hb=>k.sub b (h.sub b hb),fun b hb=>(k.same b (h.sub b hb)).trans (h.same b hb)⟩
def bH.cell {I I':Nat→Prop}{w w':World}(h:bH I I' w w'){B:Nat}(hB:I B)(o:Nat):w'.cell? ⟨B,o,none⟩=w.cell? ⟨B,o,none⟩:=
 World.cell?_of_block (w:=w) (h.same B hB)
def fQ.mono {α:Type}{w w':World}{B off sz:Nat}{R R':α→List Value→Prop}{xs:List α}(h:fQ w B off sz R xs)
  (hc:∀o,w'.cell? ⟨B,o,none⟩=w.cell? ⟨B,o,none⟩) (hR:∀x vs,R x vs→R' x vs):fQ w' B off sz R' xs:=by
 intro i x hx
 obtain⟨cs,h1,h2,h3⟩:=h i x hx
 grind
def af.mono {w w':World}{I I':Nat→Prop}(ha:bH I I' w w'): {t:Ty} → {x:t.den} → {vs:List Value}→af w I t x vs→af w' I' t x vs
 |.unit,_,_,h=>by trivial
 |.bool,_,_,h=>by trivial
 |.int _,_,_,h=>by trivial
 |.str,_,_,h=>by trivial
 |.lst t,_,_,h=>by
  obtain⟨a,cap,h1,h2,h3⟩:=h
  refine⟨a,cap,h1,h2,h3.imp id ?_⟩
  rintro⟨B,off,h4,h5,h6⟩
  exact⟨B,off,h4,ha.sub _ h5,h6.mono (fun o=>ha.cell h5 o) (fun x vs h=>af.mono ha h)⟩
 |.own _,_,_,h=>by trivial
 |.pair a b,_,_,h=>by
  obtain⟨v1,v2,h,h1,h2⟩:=h
  exact⟨v1,v2,h,af.mono ha h1,af.mono ha h2⟩
 |.arr n t,_,_,h=>⟨h.1,aT.mono (fun x vs h=>af.mono ha h) h.2⟩
 |.ref t,_,_,h=>by
  obtain⟨B,off,h1,h2,h3,cs,h4,h5,h6⟩:=h
  exact⟨B,off,h1,ha.sub _ h2,h3,cs,h4,fun j hj=>(ha.cell h2 _).trans (h5 j hj),af.mono ha h6⟩
def aT.cB {α:Type}{R:α→List Value→Prop}(hR:∀x vs,R x vs→∀v∈vs,v.oneCell'=true):∀{xs:List α} {vs:List Value},aT R xs vs→∀v∈vs,v.oneCell'=true
 | [],_,h,v,hv=>by cases h;grind
 |_::_,_,⟨v1,v2,h,h1,h2⟩,v,hv=>by
  subst h
  rcases bU.1 hv with h|h
  ·grind
  ·exact aT.cB hR h2 v h
def af.cB {w:World}{I:Nat→Prop}: {t:Ty} → {x:t.den} → {vs:List Value}→af w I t x vs→∀v∈vs,v.oneCell'=true
 |.unit,_,_,h=>by grind [af]
 |.bool,_,_,h=>by grind [af,Value.oneCell']
 |.int _,_,_,h=>by grind [af,Value.oneCell']
 |.str,_,_,h=>by grind [af,Value.oneCell']
 |.lst _,_,_,h=>by grind [af,Value.oneCell']
 |.own _,_,_,h=>by trivial
 |.pair a b,_,_,h=>by
  obtain⟨v1,v2,h,h1,h2⟩:=h
  subst h
  intro v hv
  rcases bU.1 hv with h|h
  ·exact af.cB h1 v h
  ·exact af.cB h2 v h
 |.arr n t,_,_,h=>aT.cB (fun x vs h=>af.cB h) h.2
 |.ref _,_,_,h=>by grind [af,Value.oneCell']
def bE {α:Type}(w:World)(B sz:Nat)(R:α→List Value→List Nat→Prop):Nat→List α→List Nat→Prop
 |_,[],Ds=>Ds = []
 |off,x::xs,Ds=>∃cs D1 D2,Ds=D1++D2∧cs.length=sz∧(∀j,j<sz→w.cell? ⟨B,off+j,none⟩=cs[j]?)∧R x cs D1∧bE w B sz R (off+sz) xs D2
def au (w:World)(I:Nat→Prop):(t:Ty)→t.den→List Value→List Nat→Prop
 |.lst t,xs,vs,Bs=>∃a cap,vs = [.slice a xs.length cap]∧xs.length≤cap∧((a=none∧cap=0∧Bs = []) ∨
  ∃B o cs Ds,a=some ⟨B,o,none⟩∧Cells w B cs∧o+cap*t.size≤cs.length∧bE w B t.size (au w I t) o xs Ds∧¬I B∧Bs=B::Ds)
 |.pair a b,x,vs,Bs=>∃v1 v2 B1 B2,vs=v1++v2∧Bs=B1++B2∧au w I a x.1 v1 B1∧au w I b x.2 v2 B2
 |.unit,x,vs,Bs=>Bs = []∧af w I .unit x vs
 |.bool,x,vs,Bs=>Bs = []∧af w I .bool x vs
 |.int k,x,vs,Bs=>Bs = []∧af w I (.int k) x vs
 |.str,x,vs,Bs=>Bs = []∧af w I .str x vs
 |.arr n t,x,vs,Bs=>Bs = []∧t.aV=false∧af w I (.arr n t) x vs
 |.own _,_,_,_=>False
 |.ref _,_,_,_=>False
def au.length {w:World}{I:Nat→Prop}:∀{t:Ty} {x:t.den} {vs:List Value} {Bs:List Nat},au w I t x vs Bs→vs.length=t.size:=by
 intro t
 induction t with
 |lst t _=>intro x vs Bs h;obtain⟨a,cap,e,_⟩:=h;simp[e,Ty.size]
 |pair a b aO aK=>
  intro x vs Bs h
  obtain⟨v1,v2,B1,B2,e,eb,h1,h2⟩:=h
  simp[e,Ty.size,aO h1,aK h2]
 |arr n t _=>intro x vs Bs h;exact af.length h.2.2
 |own t _=>intro x vs Bs h;trivial
 |ref t _=>intro x vs Bs h;trivial
 |_=>intro x vs Bs h;simp[au] at h;exact af.length h.2
def au.cB {w:World}{I:Nat→Prop}:∀{t:Ty} {x:t.den} {vs:List Value} {Bs:List Nat},au w I t x vs Bs→∀v∈vs,v.oneCell'=true:=by
 intro t
 induction t with
 |lst t _=>grind [au,Value.oneCell']
 |pair a b aO aK=>
  grind [au]
 |arr n t _=>intro x vs Bs h;exact af.cB h.2.2
 |own t _=>simp[au]
 |ref t _=>simp[au]
 |_=>intro x vs Bs h;exact af.cB h.2
def bE.mono {α:Type}{w w':World}{B sz:Nat}{R R':α→List Value→List Nat→Prop}(hc:∀o,w'.cell? ⟨B,o,none⟩=w.cell? ⟨B,o,none⟩) :
  ∀{xs:List α} {off:Nat} {Ds:List Nat},(∀x vs D,(∀B∈D,B∈Ds)→R x vs D→R' x vs D)→bE w B sz R off xs Ds→bE w' B sz R' off xs Ds
 | [],_,_,_,h=>h
 |x::xs,off,Ds,hR,h=>by
  obtain⟨cs,D1,D2,e,h1,h2,h3,h4⟩:=h
  subst e
  exact⟨cs,D1,D2,rfl,h1,fun j hj=>(hc _).trans (h2 j hj),hR _ _ _ (fun B hB=>ee _ hB) h3,
   bE.mono hc (fun x vs D hD=>hR x vs D fun B hB=>dy _ (hD B hB)) h4⟩
def au.mono {w w':World}{I I':Nat→Prop}(ha:bH I I' w w'):∀{t:Ty} {x:t.den} {vs:List Value} {Bs:List Nat},
  (∀B∈Bs,w'.heap[B]?=w.heap[B]?∧(I' B→I B))→au w I t x vs Bs→au w' I' t x vs Bs:=by
 intro t
 induction t with
 |lst t ih=>
  intro x vs Bs hB h
  obtain⟨a,cap,e,hl,h⟩:=h
  refine⟨a,cap,e,hl,h.imp id ?_⟩
  rintro⟨B,o,cs,Ds,h1,h2,h3,h4,h5,h6⟩
  subst h6
  obtain⟨k1,k2⟩:=hB B (by simp)
  exact⟨B,o,cs,Ds,h1,h2.of_same k1,h3,h4.mono (fun o=>World.cell?_of_block (w:=w) k1) (fun x vs D hD h=>ih (fun B' br=>hB B' (gZ _ (hD B' br))) h),fun h=>h5 (k2 h),rfl⟩
 |pair a b aO aK=>
  intro x vs Bs hB h
  obtain⟨v1,v2,B1,B2,e,eb,h1,h2⟩:=h
  subst eb
  exact⟨v1,v2,B1,B2,e,rfl,aO (fun B hb=>hB B (ee _ hb)) h1,aK (fun B hb=>hB B (dy _ hb)) h2⟩
 |arr n t _=>intro x vs Bs _ h;exact⟨h.1,h.2.1,af.mono ha h.2.2⟩
 |own t _=>intro x vs Bs _ h;simp[au] at h
 |ref t _=>intro x vs Bs _ h;simp[au] at h
 |_=>intro x vs Bs _ h;exact⟨h.1,af.mono ha h.2⟩
def bE.at {α:Type}{w:World}{B sz:Nat}{R:α→List Value→List Nat→Prop}{R':α→List Value→Prop} :
  ∀{xs:List α} {off:Nat} {Ds:List Nat},(∀x vs D,(∀B∈D,B∈Ds)→R x vs D→R' x vs)→bE w B sz R off xs Ds→fQ w B off sz R' xs
 | [],_,_,_,_=>by intro i x hx;grind
 |x::xs,off,Ds,hR,h=>by
  obtain⟨cs,D1,D2,e,h1,h2,h3,h4⟩:=h
  subst e
  have ih:=bE.at (R':=R') (fun x vs D hD=>hR x vs D fun B hB=>dy _ (hD B hB)) h4
  intro i y hy
  cases i with
  |zero=>grind
  |succ i=>
   obtain⟨cs',k1,k2,k3⟩:=ih i y (by grind)
   grind
def au.lend {w:World}{I I':Nat→Prop}(hI:∀B,I B→I' B):∀{t:Ty} {x:t.den} {vs:List Value} {Bs:List Nat},(∀B∈Bs,I' B)→au w I t x vs Bs→af w I' t x vs:=by
 intro t
 induction t with
 |lst t ih=>
  intro x vs Bs hB h
  obtain⟨a,cap,e,hl,h⟩:=h
  refine⟨a,cap,e,hl,?_⟩
  rcases h with⟨h1,h2,h3⟩|⟨B,o,cs,Ds,h1,h2,h3,h4,h5,h6⟩
  ·simp_all
  ·right
   subst h6
   exact⟨B,o,h1,hB B (by simp),h4.at fun x vs D hD h=>ih (fun B' br=>hB B' (gZ _ (hD B' br))) h⟩
 |pair a b aO aK=>
  intro x vs Bs hB h
  obtain⟨v1,v2,B1,B2,e,eb,h1,h2⟩:=h
  subst eb
  exact⟨v1,v2,e,aO (fun B hb=>hB B (ee _ hb)) h1,aK (fun B hb=>hB B (dy _ hb)) h2⟩
 |arr n t _=>intro x vs Bs _ h;exact af.mono ⟨hI,fun _ _=>rfl⟩ h.2.2
 |own t _=>intro x vs Bs _ h;simp[au] at h
 |ref t _=>intro x vs Bs _ h;simp[au] at h
 |_=>intro x vs Bs _ h;exact af.mono ⟨hI,fun _ _=>rfl⟩ h.2
def au.fY {w:World}{I:Nat→Prop}:∀{t:Ty} {x:t.den} {vs:List Value},t.aV=false→af w I t x vs→au w I t x vs []:=by
 intro t
 induction t with
 |lst t _=>simp[Ty.aV]
 |ref t _=>intro x vs h;trivial
 |own t _=>simp[af]
 |pair a b aO aK=>
  intro x vs hh h
  simp[Ty.aV] at hh
  simp[af] at h
  simp[au]
  grind
 |arr n t _=>intro x vs hh h;trivial
 |_=>simp[au]
def au.rep {w:World}{I:Nat→Prop}:∀{t:Ty} {x:t.den} {vs:List Value} {Bs:List Nat},t.aV=false→au w I t x vs Bs→af w I t x vs∧Bs = []:=by
 intro t
 induction t with
 |lst t _=>intro x vs Bs h;simp[Ty.aV] at h
 |ref t _=>intro x vs Bs h;simp[Ty.aV] at h
 |own t _=>intro x vs Bs _ h;simp[au] at h
 |pair a b aO aK=>
  intro x vs Bs hh h
  simp[Ty.aV] at hh
  obtain⟨v1,v2,B1,B2,e,eb,h1,h2⟩:=h
  obtain⟨k1,k2⟩:=aO hh.1 h1
  obtain⟨k3,k4⟩:=aK hh.2 h2
  refine⟨?_,by rw[eb,k2,k4];rfl⟩
  exact⟨v1,v2,e,k1,k3⟩
 |arr n t _=>intro x vs Bs _ h;exact⟨h.2.2,h.1⟩
 |_=>intro x vs Bs _ h;exact⟨h.2,h.1⟩
def bE.split {α:Type}{w:World}{B sz:Nat}{R:α→List Value→List Nat→Prop} :
  ∀{xs:List α} {off:Nat} {Ds:List Nat} {i:Nat} {x:α},xs[i]?=some x→bE w B sz R off xs Ds →
  ∃D1 Di D2 cs,Ds=D1++Di++D2∧cs.length=sz∧(∀j,j<sz→w.cell? ⟨B,off+i*sz+j,none⟩=cs[j]?)∧R x cs Di ∧
   ∀(w':World) (R':α→List Value→List Nat→Prop) (y:α) (cs':List Value) (Di':List Nat),
    (∀k,¬(off+i*sz≤k∧k<off+i*sz+sz)→w'.cell? ⟨B,k,none⟩=w.cell? ⟨B,k,none⟩) →
    (∀x vs D,(∀b∈D,b∈D1++D2)→R x vs D→R' x vs D)→cs'.length=sz→(∀j,j<sz→w'.cell? ⟨B,off+i*sz+j,none⟩=cs'[j]?)→R' y cs' Di' →
    bE w' B sz R' off (xs.set i y) (D1++Di'++D2)
 | [],_,_,i,x,hx,_=>by grind
 |z::xs,off,Ds,0,x,hx,h=>by
  simp at hx
  subst hx
  obtain⟨cs,D1,D2,e,h1,h2,h3,h4⟩:=h
  subst e
  refine⟨[],D1,D2,cs,rfl,h1,fun j hj=>by grind,h3,fun w' R' y cs' Di' hc hR hl hy hr=>?_⟩
  refine⟨cs',Di',D2,rfl,hl,fun j hj=>by grind,hr,?_⟩
  have rest:∀{xs:List α} {o:Nat} {D:List Nat},off+sz≤o→(∀b∈D,b∈D2)→bE w B sz R o xs D→bE w' B sz R' o xs D:=by
   intro xs
   induction xs with
   |nil=>intro o D _ _ h;exact h
   |cons z xs ih=>
    intro o D ho hD h
    obtain⟨cs,E1,E2,e,k1,k2,k3,k4⟩:=h
    subst e
    refine⟨cs,E1,E2,rfl,k1,fun j hj=>(hc _ (by grind)).trans (k2 j hj),hR _ _ _ (fun b hb=>by grind) k3,
     ih (by omega) (fun b hb=>hD b (dy _ hb)) k4⟩
  grind
 |z::xs,off,Ds,i+1,x,hx,h=>by
  simp at hx
  obtain⟨cs0,E1,E2,e,h1,h2,h3,h4⟩:=h
  obtain⟨D1,Di,D2,cs,e,k1,k2,k3,k4⟩:=bE.split hx h4
  refine⟨E1++D1,Di,D2,cs,by grind,k1,fun j hj=>by grind,k3,fun w' R' y cs' Di' hc hR hl hy hr=>?_⟩
  simp
  refine⟨cs0,E1,D1++(Di'++D2),rfl,h1,fun j hj=>(hc _ (by grind)).trans (h2 j hj),hR _ _ _ (fun b hb=>by grind) h3,?_⟩
  grind
def bE.app {α:Type}{w:World}{B sz:Nat}{R:α→List Value→List Nat→Prop} :
  ∀{xs ys:List α} {off:Nat} {D1 D2:List Nat},bE w B sz R off xs D1→bE w B sz R (off+xs.length*sz) ys D2→bE w B sz R off (xs++ys) (D1++D2)
 | [],ys,off,D1,D2,h,k=>by
  grind [bE]
 |x::xs,ys,off,D1,D2,h,k=>by
  obtain⟨cs,E1,E2,e,h1,h2,h3,h4⟩:=h
  subst e
  rw[cZ]
  refine⟨cs,E1,E2++D2,rfl,h1,h2,h3,bE.app h4 ?_⟩
  grind
def au.part {w:World}{I:Nat→Prop}:∀(p:Path) {t u:Ty} {x:t.den} {vs:List Value} {Bs:List Nat},p.pairs=true→t.at p=some u→au w I t x vs Bs →
  ∃(y:u.den) (pre mid post:List Value) (B1 Bm B2:List Nat),AT.get p (.leaf t x)=some (.leaf u y)∧vs=pre++mid++post∧pre.length=t.off p∧Bs=B1++Bm++B2∧au w I u y mid Bm ∧
   ∀(w':World) (I':Nat→Prop) (z:u.den) (aL:List Value) (g_:List Nat),bH I I' w w'→(∀B∈B1++B2,w'.heap[B]?=w.heap[B]?∧(I' B→I B))→au w' I' u z aL g_ →
    ∃x',(AT.set p (.leaf t x) (.leaf u z)).bind AT.pure=some ⟨t,x'⟩∧au w' I' t x' (pre++aL++post) (B1++g_++B2)
 | [],t,u,x,vs,Bs,_,hu,h=>by
  simp[Ty.at] at hu
  subst hu
  refine⟨x,[],vs,[],[],Bs,[],rfl,by simp,rfl,by simp,h,fun w' I' z aL g_ _ _ hz=>⟨z,rfl,by grind⟩⟩
 |.fst::p,t,u,x,vs,Bs,hp,hu,h=>by
  cases t<;>simp[Ty.at] at hu
  obtain⟨v1,v2,C1,C2,e,eb,h1,h2⟩:=h
  obtain⟨y,pre,mid,post,B1,Bm,B2,k1,k2,k3,k4,k5,k6⟩:=au.part p (by trivial) hu h1
  subst e k2 eb k4
  refine⟨y,pre,mid,post++v2,B1,Bm,B2++C2,by simpa[AT.get] using k1,by simp,by trivial,by simp,k5,fun w' I' z aL g_ ha hB hz=>?_⟩
  obtain⟨x',q1,q2⟩:=k6 w' I' z aL g_ ha (fun B hb=>hB B (by grind)) hz
  obtain⟨s,q3,q4⟩:=l9.1 q1
  refine⟨(x',x.2),?_,?_⟩
  ·simp[AT.set,q3,AT.pure,q4]
  ·exact⟨pre++aL++post,v2,B1++g_++B2,C2,by simp,by simp,q2,au.mono ha (fun B hb=>hB B (by grind)) h2⟩
 |.snd::p,t,u,x,vs,Bs,hp,hu,h=>by
  cases t<;>simp[Ty.at] at hu
  obtain⟨v1,v2,C1,C2,e,eb,h1,h2⟩:=h
  obtain⟨y,pre,mid,post,B1,Bm,B2,k1,k2,k3,k4,k5,k6⟩:=au.part p (by trivial) hu h2
  subst e k2 eb k4
  refine⟨y,v1++pre,mid,post,C1++B1,Bm,B2,by trivial,by simp,by simp[Ty.off,au.length h1,k3],by simp,k5,fun w' I' z aL g_ ha hB hz=>?_⟩
  obtain⟨x',q1,q2⟩:=k6 w' I' z aL g_ ha (fun B hb=>hB B (by grind)) hz
  obtain⟨s,q3,q4⟩:=l9.1 q1
  refine⟨(x.1,x'),?_,?_⟩
  ·simp[AT.set,q3,AT.pure,q4]
  ·exact⟨v1,pre++aL++post,C1,B1++g_++B2,by simp,by simp,au.mono ha (fun B hb=>hB B (by grind)) h1,q2⟩
 |.idx _::p,t,u,x,vs,Bs,hp,_,_=>by simp[Path.pairs] at hp
def au.aN {w:World}{I:Nat→Prop}:∀{t:Ty} {x:t.den} {vs:List Value} {Bs:List Nat},au w I t x vs Bs→∀B∈Bs,B<w.heap.size∧¬I B:=by
 intro t
 induction t with
 |lst t ih=>
  intro x vs Bs h B hB
  obtain⟨a,cap,e,hl,h⟩:=h
  rcases h with⟨_,_,h⟩|⟨B0,o,cs,Ds,h1,h2,h3,h4,h5,h6⟩
  ·grind
  ·subst h6
   have rows:∀(xs:List t.den) (off:Nat) (Ds:List Nat),bE w B0 t.size (au w I t) off xs Ds→∀B∈Ds,B<w.heap.size∧¬I B:=by
    intro xs
    induction xs with
    |nil=>intro off Ds h B hB;subst h;simp at hB
    |cons z xs iV=>
     intro off Ds h B hB
     obtain⟨cs,D1,D2,e,_,_,k3,k4⟩:=h
     subst e
     rcases bU.1 hB with hB|hB
     ·exact ih k3 B hB
     ·exact iV _ _ k4 B hB
   rcases bN.1 hB with e|hB
   ·subst e;exact⟨h2.lt,h5⟩
   ·exact rows _ _ _ h4 B hB
 |pair a b aO aK=>
  intro x vs Bs h B hB
  obtain⟨v1,v2,B1,B2,e,eb,h1,h2⟩:=h
  subst eb
  rcases bU.1 hB with hB|hB
  ·exact aO h1 B hB
  ·exact aK h2 B hB
 |own t _=>intro x vs Bs h;simp[au] at h
 |ref t _=>intro x vs Bs h;simp[au] at h
 |_=>intro x vs Bs h B hB;rw[h.1] at hB;simp at hB
def bE.aN {w:World}{I:Nat→Prop}{t:Ty}{B0:Nat}:∀{xs:List t.den} {off:Nat} {Ds:List Nat},bE w B0 t.size (au w I t) off xs Ds→∀B∈Ds,B<w.heap.size∧¬I B
 | [],_,_,h,B,hB=>by grind [bE]
 |_::_,_,_,h,B,hB=>by
  obtain⟨cs,D1,D2,e,_,_,k3,k4⟩:=h
  subst e
  rcases bU.1 hB with hB|hB
  ·exact au.aN k3 B hB
  ·exact bE.aN k4 B hB
structure Pl where
 f:Nat→Option (Nat×Nat)
 d:Nat→List Nat
instance:CoeFun Pl (fun _=>Nat→Option (Nat×Nat)):=⟨Pl.f⟩
abbrev MF:=Nat→Option aa
def gJ (vs:List Value):Prop:=∃v,vs = [v]∧v.oneCell'=true
def cy (m:MF)(id st:Nat):Prop:=∃b,m id=some b∧st≤b.st
def fP (w:World)(ρ:Pl)(id sz:Nat)(a:Option Addr)(cap:Nat):Prop:=
 (a=none∧cap=0∧ρ id=none)∨∃B o cs,ρ id=some (B,o)∧a=some ⟨B,o,none⟩∧Cells w B cs∧o+cap*sz≤cs.length
def iN (w:World)(ρ:Pl)(id sz off:Nat)(a:Option Addr)(cap:Nat):Prop:=
 (cap=0∨∃B o cs,ρ id=some (B,o)∧a=some ⟨B,o+off*sz,none⟩∧Cells w B cs∧o+off*sz+cap*sz≤cs.length)∧(off=0→fP w ρ id sz a cap)
def fP.weak {w:World}{ρ:Pl}{id sz:Nat}{a:Option Addr}{cap:Nat}(h:fP w ρ id sz a cap):iN w ρ id sz 0 a cap:=by
 refine⟨?_,fun _=>h⟩
 rcases h with h|⟨B,o,cs,h1,h2,h3,h4⟩
 ·grind
 ·exact .inr ⟨B,o,cs,h1,by grind,h3,by grind⟩
def dX:Path→Ty→Prop
 | [],_=>True
 |.fst::p,.pair a _=>dX p a
 |.snd::p,.pair _ b=>dX p b
 |.idx i::p,.arr n t=>i<n∧dX p t
 |_::_,_=>False
def aq (w:World)(I:Nat→Prop)(m:MF)(ρ:Pl):AT→List Value→Prop
 |.leaf t x,vs=>af w I t x vs
 |.whole id st _,vs=>gJ vs∧cy m id st∧∀b,m id=some b→b.st=st→∀u n,b.c.arr=some (u,n) →
  ∃a cap,vs = [.slice a n cap]∧n≤cap∧fP w ρ id u.size a cap
 |.piece id st off len _,vs=>gJ vs∧cy m id st∧∀b,m id=some b→b.st=st→∀u n,b.c.arr=some (u,n) →
  ∃a cap,vs = [.slice a len cap]∧len≤cap∧(off+len≤n∧n≤off+cap)∧iN w ρ id u.size off a cap
 |.nil _,vs=>vs = [.slice none 0 0]
 |.dU,vs=>vs = [.slice none 0 0]
 |.pair l r,vs=>∃v1 v2,vs=v1++v2∧aq w I m ρ l v1∧aq w I m ρ r v2
 |.undef n,vs=>vs.length=n∧∀v∈vs,v.oneCell'=true
 |.aR id st p,vs=>gJ vs∧cy m id st∧∀b,m id=some b→b.st=st→∀t a,b.c = .var t a →
  dX p t∧∃B,ρ id=some (B,0)∧vs = [.pointer (some ⟨B,t.off p,none⟩)]
 |.ptr id st row p,vs=>gJ vs∧cy m id st∧∀b,m id=some b→b.st=st→∀t n,b.c.arr=some (t,n) →
  dX p t∧row<n∧∃B o,ρ id=some (B,o)∧vs = [.pointer (some ⟨B,o+row*t.size+t.off p,none⟩)]
 |.nest id st rs row p u,vs=>vs.length=u.size∧(∀v∈vs,v.oneCell'=true)∧cy m id st∧∀b,m id=some b→b.st=st→∀r t xs,b.c = .deep r t xs→rs≤r∧(r=rs →
  t.at p=some u∧p.pairs=true∧row<xs.length∧∃B o,ρ id=some (B,o)∧∀j,j<u.size→w.cell? ⟨B,o+row*t.size+t.off p+j,none⟩=vs[j]?)
 |.fn f c,vs=>∃caps:Array Value,vs = [.func (.func f) #[] caps]∧aq w I m ρ c caps.toList
 |.bJ l r,vs=>∃v vs',vs=v::vs'∧aq w I m ρ l [v]∧aq w I m ρ r vs'
 |.dM,vs=>vs = []
 |.bS _ _,_=>False
 |.any,_=>False
def aG (w:World)(I:Nat→Prop)(m:MF)(ρ:Pl)(a:AT)(v:Value):Prop:=
 if a.isAgg then ∃arr,v = .agg arr∧aq w I m ρ a arr.toList else aq w I m ρ a [v]
def eD (w:World)(I:Nat→Prop)(m:MF)(ρ:Pl):AT→List Value→Prop
 |.bJ l r,vs=>∃v vs',vs=v::vs'∧aG w I m ρ l v∧eD w I m ρ r vs'
 |.dM,vs=>vs = []
 |_,_=>False
def aj (w:World)(I:Nat→Prop)(m:MF)(ρ:Pl)(a:AT)(v:Value):Prop:=
 match a with
 |.bJ l r=>∃arr,v = .tuple arr∧eD w I m ρ (.bJ l r) arr.toList
 |.dM=>v = .tuple #[]
 |.any=>True
 |.bS _ _=>True
 |a=>aG w I m ρ a v
def fh (tmps:Array Value)(T:eP):Prop:=∀t∈T,tmps.getD t.1 Go.undef = .bool t.2
def iC (w:World)(I:Nat→Prop)(m:MF)(ρ:Pl)(tmps:Array Value)(a:AT)(v:Value):Prop:=
 match a with
 |.bS T b=>(fh tmps T→aj w I m ρ b v)∧(¬fh tmps T→v=Go.undef)
 |a=>aj w I m ρ a v
def Typed:AT→Ty→Prop
 |.leaf t _,u=>t=u
 |.whole _ _ t,u=>u = .lst t
 |.piece _ _ _ _ t,u=>u = .lst t
 |.nil t,u=>u = .lst t
 |.pair l r,u=>∃a b,u = .pair a b∧Typed l a∧Typed r b
 |.undef n,u=>u.size=n∧u.isAgg=false
 |.nest _ _ _ _ _ t,u=>t=u
 |_,_=>False
def cM (w:World)(I:Nat→Prop)(m:MF)(ρ:Pl)(id:Nat)(b:aa):Prop:=
 match b.c with
 |.dead=>True
 |.var t a=>Typed a t∧∃B cs,ρ id=some (B,0)∧Cells w B cs∧aq w I m ρ a cs∧(b.fz=true↔I B)
 |.rows t xs=>True∧((xs = []∧ρ id=none) ∨
  ∃B o cs,ρ id=some (B,o)∧Cells w B cs∧o+xs.length*t.size≤cs.length∧fQ w B o t.size (af w I t) xs∧(b.fz=true↔I B))
 |.deep _ t xs=>b.fz=false∧((xs = []∧ρ id=none∧ρ.d id = []) ∨
  ∃B o cs,ρ id=some (B,o)∧Cells w B cs∧o+xs.length*t.size≤cs.length∧bE w B t.size (au w I t) o xs (ρ.d id)∧¬I B)
def aa.bI (b:aa):Prop:=match b.c with | .deep _ _ _=>True|_=>False
def aa.live (b:aa):Prop:=match b.c with | .dead=>False|_=>True
structure jN where
 ok:World→(Nat→Prop)→Prop
 mono:∀{w w':World} {I I':Nat→Prop},bH I I' w w'→ok w I→ok w' I'
def jN.none:jN:=⟨fun _ _=>True,fun _ _=>trivial⟩
structure Fix where
 w0:World
 I0:Nat→Prop
 X0:Nat→Prop
 G:jN
structure aC (F:Fix) (m:MF) (w:World) (I:Nat→Prop) (ρ:Pl):Prop where
 aN:∀id b,m id=some b→cM w I m ρ id b
 inj:∀id id' b b' B o o',m id=some b→m id'=some b'→b.live→b'.live→ρ id=some (B,o)→ρ id'=some (B,o')→id=id'
 aS:∀B,I B→B<w.heap.size
 iJ:∀B,F.I0 B→I B
 iu:∀B,I B→F.I0 B∨F.w0.heap.size≤B∨F.X0 B
 mine:∀id b B o,m id=some b→b.live→ρ id=some (B,o)→F.w0.heap.size≤B∨F.X0 B
 dp:∀id b,m id=some b→b.bI→(ρ.d id).Nodup∧∀B∈ρ.d id,(F.w0.heap.size≤B∨F.X0 B)∧(∀id' b' o,m id'=some b'→b'.live→ρ id'≠some (B,o)) ∧
  ∀id' b',m id'=some b'→b'.bI→B∈ρ.d id'→id'=id
 frame:∀B,B<F.w0.heap.size→¬F.X0 B→w.heap[B]?=F.w0.heap[B]?
 size:F.w0.heap.size≤w.heap.size
 os:w.os=F.w0.os
 tape:w.tape=F.w0.tape
 output:w.output=F.w0.output
 fU:F.G.ok w I
def bX:BC→BC→Prop
 |.var t _,.var u _=>t=u
 |.rows t xs,.rows u ys=>t=u∧xs.length=ys.length
 |.deep rs t xs,.deep rs' u ys=>rs≤rs'∧t=u∧xs.length=ys.length
 |.dead,.dead=>True
 |_,_=>False
structure c_ (m m':MF) (ρ ρ':Pl) (w w':World):Prop where
 keep:∀id b,m id=some b→∃b',m' id=some b'∧(b.st<b'.st∨(b.st=b'.st∧bX b.c b'.c∧ρ' id=ρ id ∧
  (b.live→∀B o,ρ id=some (B,o)→∀cs,Cells w B cs→∃cs',Cells w' B cs'∧cs.length≤cs'.length)))
 nest:∀id b b' rs t u xs ys,m id=some b→m' id=some b'→b.st=b'.st→b.c = .deep rs t xs→b'.c = .deep rs u ys→∀B o,ρ id=some (B,o)→w'.heap[B]?=w.heap[B]?
def vh {b:aa}{x:Ty×Nat}(h:b.c.arr=some x):b.live:=by
 grind [aa.live,BC.arr]
def bX.arr {c c':BC}(h:bX c c'):c.arr=c'.arr:=by
 cases c<;>cases c'<;>simp_all [bX,BC.arr]
def cy.mono {m m':MF}{ρ ρ':Pl}{w w':World}(hk:c_ m m' ρ ρ' w w'){id st:Nat}(h:cy m id st):cy m' id st:=by
 obtain⟨b,hb,hs⟩:=h
 obtain⟨b',hb',h⟩:=hk.keep id b hb
 exact⟨b',hb',by grind⟩
def c_.back {m m':MF}{ρ ρ':Pl}{w w':World}(hk:c_ m m' ρ ρ' w w'){id st:Nat}(h:cy m id st){b':aa}(hb':m' id=some b')(hs:b'.st=st) :
  ∃b,m id=some b∧b.st=st∧bX b.c b'.c∧ρ' id=ρ id∧(b.live→∀B o,ρ id=some (B,o)→∀cs,Cells w B cs→∃cs',Cells w' B cs'∧cs.length≤cs'.length):=by
 obtain⟨b,hb,hle⟩:=h
 obtain⟨b'',oz,h⟩:=hk.keep id b hb
 grind
def fP.mono {w w':World}{ρ ρ':Pl}{id sz:Nat}{a:Option Addr}{cap:Nat}(h:fP w ρ id sz a cap)(hρ:ρ' id=ρ id)
  (hc:∀B o,ρ id=some (B,o)→∀cs,Cells w B cs→∃cs',Cells w' B cs'∧cs.length≤cs'.length):fP w' ρ' id sz a cap:=by
 rcases h with h|⟨B,o,cs,h1,h2,h3,h4⟩
 ·exact .inl ⟨h.1,h.2.1,hρ.trans h.2.2⟩
 ·obtain⟨cs',h5,h6⟩:=hc B o h1 cs h3
  exact .inr ⟨B,o,cs',hρ.trans h1,h2,h5,by omega⟩
def iN.mono {w w':World}{ρ ρ':Pl}{id sz off:Nat}{a:Option Addr}{cap:Nat}(h:iN w ρ id sz off a cap)(hρ:ρ' id=ρ id)
  (hc:∀B o,ρ id=some (B,o)→∀cs,Cells w B cs→∃cs',Cells w' B cs'∧cs.length≤cs'.length):iN w' ρ' id sz off a cap:=by
 refine⟨?_,fun h0=>(h.2 h0).mono hρ hc⟩
 rcases h.1 with h|⟨B,o,cs,h1,h2,h3,h4⟩
 ·grind
 ·obtain⟨cs',h5,h6⟩:=hc B o h1 cs h3
  exact .inr ⟨B,o,cs',hρ.trans h1,h2,h5,by omega⟩
def aq.mono {w w':World}{I I':Nat→Prop}{m m':MF}{ρ ρ':Pl}(ha:bH I I' w w')(hk:c_ m m' ρ ρ' w w') :
  ∀{a:AT} {vs:List Value},aq w I m ρ a vs→aq w' I' m' ρ' a vs:=by
 intro a
 induction a with
 |leaf t x=>intro vs h;exact af.mono ha h
 |whole id st t=>
  intro vs h
  obtain⟨h1,h2,h3⟩:=h
  refine⟨h1,h2.mono hk,fun b' hb' hs u n hc=>?_⟩
  obtain⟨b,hb,hs',hsh,hρ,hcs⟩:=hk.back h2 hb' hs
  rw[←hsh.arr] at hc
  obtain⟨a,cap,e1,e2,e3⟩:=h3 b hb hs' u n hc
  exact⟨a,cap,e1,e2,e3.mono hρ (hcs (vh hc))⟩
 |piece id st off len t=>
  intro vs h
  obtain⟨h1,h2,h3⟩:=h
  refine⟨h1,h2.mono hk,fun b' hb' hs u n hc=>?_⟩
  obtain⟨b,hb,hs',hsh,hρ,hcs⟩:=hk.back h2 hb' hs
  rw[←hsh.arr] at hc
  obtain⟨a,cap,e1,e2,e3,e4⟩:=h3 b hb hs' u n hc
  exact⟨a,cap,e1,e2,e3,e4.mono hρ (hcs (vh hc))⟩
 |pair l r ihl ihr=>
  grind [aq]
 |aR id st p=>
  intro vs h
  obtain⟨h1,h2,h3⟩:=h
  refine⟨h1,h2.mono hk,fun b' hb' hs t a hc=>?_⟩
  obtain⟨b,hb,hs',hsh,hρ,hcs⟩:=hk.back h2 hb' hs
  cases hbc:b.c<;>grind [bX]
 |ptr id st row p=>
  intro vs h
  obtain⟨h1,h2,h3⟩:=h
  refine⟨h1,h2.mono hk,fun b' hb' hs t n hc=>?_⟩
  obtain⟨b,hb,hs',hsh,hρ,hcs⟩:=hk.back h2 hb' hs
  rw[←hsh.arr] at hc
  grind
 |nest id st rs row p u=>
  intro vs h
  obtain⟨h1,h10,h2,h3⟩:=h
  refine⟨h1,h10,h2.mono hk,fun b' hb' hs r t xs hc=>?_⟩
  obtain⟨b,hb,hs',hsh,hρ,hcs⟩:=hk.back h2 hb' hs
  cases hbc:b.c with
  |deep r0 t0 ys=>
   simp[hbc,hc] at hsh
   obtain⟨g1,g2,g3⟩:=hsh
   subst g2
   obtain⟨k1,k2⟩:=h3 b hb hs' r0 t0 ys hbc
   refine⟨by omega,fun hr=>?_⟩
   have hr0:r0=rs:=by omega
   obtain⟨q1,q2,q3,B,o,q4,q5⟩:=k2 hr0
   have hsame:=hk.nest id b b' r0 t0 t0 ys xs hb hb' (by omega) hbc (by grind) B o q4
   exact⟨q1,q2,by omega,B,o,hρ.trans q4,fun j hj=>(World.cell?_of_block (w:=w) hsame).trans (q5 j hj)⟩
  |_=>grind [bX]
 |fn f c ih=>
  grind [aq]
 |bJ l r ihl ihr=>
  grind [aq]
 |_=>simp[aq]
def aG.mono {w w':World}{I I':Nat→Prop}{m m':MF}{ρ ρ':Pl}(ha:bH I I' w w')(hk:c_ m m' ρ ρ' w w'){a:AT}{v:Value}(h:aG w I m ρ a v):aG w' I' m' ρ' a v:=by
 unfold aG at *
 split
 ·rename_i hh
  rw[bQ hh] at h
  obtain⟨arr,e,h⟩:=h
  exact⟨arr,e,h.mono ha hk⟩
 ·rename_i hh
  rw[cT hh] at h
  exact h.mono ha hk
def eD.mono {w w':World}{I I':Nat→Prop}{m m':MF}{ρ ρ':Pl}(ha:bH I I' w w')(hk:c_ m m' ρ ρ' w w') :
  ∀{a:AT} {vs:List Value},eD w I m ρ a vs→eD w' I' m' ρ' a vs
 |.bJ l r,vs,h=>by
  simp[eD] at h ⊢
  obtain⟨v,vs',e,h1,h2⟩:=h
  exact⟨v,vs',e,h1.mono ha hk,h2.mono ha hk⟩
 |.dM,_,h=>by trivial
 |.leaf _ _,_,h | .whole _ _ _,_,h | .piece _ _ _ _ _,_,h | .nil _,_,h | .dU,_,h | .pair _ _,_,h | .undef _,_,h | .aR _ _ _,_,h | .ptr _ _ _ _,_,h
 |.fn _ _,_,h | .bS _ _,_,h | .any,_,h=>by trivial
def aj.mono {w w':World}{I I':Nat→Prop}{m m':MF}{ρ ρ':Pl}(ha:bH I I' w w')(hk:c_ m m' ρ ρ' w w'){a:AT}{v:Value}(h:aj w I m ρ a v):aj w' I' m' ρ' a v:=by
 unfold aj at *
 split
 ·obtain⟨arr,e,h⟩:=h
  exact⟨arr,e,h.mono ha hk⟩
 ·exact h
 ·trivial
 ·trivial
 ·rename_i h1 h2 h3 h4
  cases a<;>first|exact absurd rfl (h1 _ _)|exact absurd rfl h2|exact absurd rfl h3|exact absurd rfl (h4 _ _)|exact aG.mono ha hk h
def iC.mono {w w':World}{I I':Nat→Prop}{m m':MF}{ρ ρ':Pl}(ha:bH I I' w w')(hk:c_ m m' ρ ρ' w w'){tmps:Array Value}{a:AT}{v:Value}(h:iC w I m ρ tmps a v):iC w' I' m' ρ' tmps a v:=by
 cases a with
 |bS T b=>exact⟨fun ht=>(h.1 ht).mono ha hk,h.2⟩
 |_=>simp[iC] at h ⊢;exact h.mono ha hk
def aT.split {α:Type}{R:α→List Value→Prop}{n:Nat}(hR:∀x vs,R x vs→vs.length=n):∀{xs:List α} {vs:List Value} {i:Nat} {x:α},aT R xs vs→xs[i]?=some x →
  ∃pre mid post,vs=pre++mid++post∧pre.length=i*n∧R x mid∧∀y aL,R y aL→aT R (xs.set i y) (pre++aL++post)
 | [],_,_,_,_,hx=>by grind
 |z::xs,vs,0,x,⟨v1,v2,h,h1,h2⟩,hx=>by
  simp at hx
  subst hx
  exact⟨[],v1,v2,by grind,by simp,h1,fun y aL hy=>⟨aL,v2,rfl,hy,h2⟩⟩
 |z::xs,vs,i+1,x,⟨v1,v2,h,h1,h2⟩,hx=>by
  obtain⟨pre,mid,post,e1,e2,e3,e4⟩:=aT.split hR h2 hx
  refine⟨v1++pre,mid,post,by grind,by grind,e3,fun y aL hy=>?_⟩
  exact⟨v1,pre++aL++post,by simp,h1,e4 y aL hy⟩
def gJ.length {vs:List Value}(h:gJ vs):vs.length=1:=by obtain⟨v,rfl,_⟩:=h;rfl
section
variable {w:World} {I:Nat→Prop} {m:MF} {ρ:Pl}
def Typed.length:∀{a:AT} {t:Ty} {vs:List Value},Typed a t→aq w I m ρ a vs→vs.length=t.size:=by
 intro a
 induction a with
 |leaf u x=>intro t vs ht h;subst ht;exact af.length h
 |whole id st u=>intro t vs ht h;subst ht;simpa[Ty.size] using h.1.length
 |piece id st off len u=>intro t vs ht h;subst ht;simpa[Ty.size] using h.1.length
 |nil u=>intro t vs ht h;subst ht;subst h;rfl
 |pair l r ihl ihr=>
  intro t vs ht h
  obtain⟨a,b,rfl,h1,h2⟩:=ht
  obtain⟨v1,v2,rfl,h3,h4⟩:=h
  simp[Ty.size,ihl h1 h3,ihr h2 h4]
 |undef n=>intro t vs ht h;simp[Typed] at ht;simp[aq] at h;omega
 |nest _ _ _ _ _ _=>intro t vs ht h;subst ht;simp[aq] at h;grind
 |_=>intro t vs ht h;trivial
def aq.cB:∀{a:AT} {t:Ty} {vs:List Value},Typed a t→aq w I m ρ a vs→∀v∈vs,v.oneCell'=true:=by
 intro a
 induction a with
 |leaf u x=>intro t vs _ h;exact af.cB h
 |whole id st u=>intro t vs _ h;obtain⟨⟨v,rfl,hv⟩,_⟩:=h;grind
 |piece id st off len u=>intro t vs _ h;obtain⟨⟨v,rfl,hv⟩,_⟩:=h;grind
 |nil u=>simp[aq,Value.oneCell']
 |pair l r ihl ihr=>
  grind [aq,Typed]
 |undef n=>simp[aq]
 |nest _ _ _ _ _ _=>grind [aq]
 |_=>simp[Typed]
def Typed.isAgg {a:AT}{t:Ty}(h:Typed a t):a.isAgg=t.isAgg:=by
 cases a<;>simp[Typed] at h<;>first
  | (rfl)
  | (obtain⟨_,_,rfl,_⟩:=h;rfl)
  |grind [AT.isAgg]
  |exact h.elim
def DV.cz {d:DV}{t:Ty}{x:t.den}(h:d.as t=some x):∃e:d.t=t,e▸d.x=x:=by
 grind [DV.as]
def o_:∀{a:AT} {d:DV} {vs:List Value},a.pure=some d→aq w I m ρ a vs→af w I d.t d.x vs:=by
 intro a
 induction a with
 |leaf t x=>intro d vs h hr;simp[AT.pure] at h;subst h;trivial
 |nil t=>
  simp[AT.pure,aq,af]
 |pair l r ihl ihr=>
  intro d vs h hr
  simp[AT.pure] at h
  split at h
  ·rename_i x y hx hy
   simp at h
   subst h
   obtain⟨v1,v2,rfl,h1,h2⟩:=hr
   exact⟨v1,v2,rfl,ihl hx h1,ihr hy h2⟩
  ·simp at h
 |_=>intro d vs h hr;simp[AT.pure] at h
def j9:∀(p:Path) {a b:AT} {t u:Ty} {vs:List Value},Typed a t→aq w I m ρ a vs→dX p t→a.get p=some b→t.at p=some u →
  Typed b u∧∃pre mid post,vs=pre++mid++post∧pre.length=t.off p∧mid.length=u.size∧aq w I m ρ b mid
 | [],a,b,t,u,vs,ht,h,_,hg,hu=>by
  simp[AT.get] at hg
  simp[Ty.at] at hu
  subst hg hu
  exact⟨ht,[],vs,[],by simp,rfl,ht.length h,h⟩
 |.fst::p,a,b,t,u,vs,ht,h,hp,hg,hu=>by
  cases a<;>try trivial
  case pair l r=>
   obtain⟨ta,tb,rfl,h1,h2⟩:=ht
   obtain⟨v1,v2,rfl,h3,h4⟩:=h
   obtain⟨e0,pre,mid,post,e1,e2,e3,e4⟩:=j9 p h1 h3 hp hg hu
   exact⟨e0,pre,mid,post++v2,by grind,by trivial,e3,e4⟩
  case leaf s x=>
   subst ht
   cases s<;>try trivial
   obtain⟨v1,v2,rfl,h3,h4⟩:=h
   obtain⟨e0,pre,mid,post,e1,e2,e3,e4⟩:=j9 p (a:=.leaf _ x.1) rfl h3 hp hg hu
   exact⟨e0,pre,mid,post++v2,by grind,by trivial,e3,e4⟩
 |.snd::p,a,b,t,u,vs,ht,h,hp,hg,hu=>by
  cases a<;>try trivial
  case pair l r=>
   obtain⟨ta,tb,rfl,h1,h2⟩:=ht
   obtain⟨v1,v2,rfl,h3,h4⟩:=h
   obtain⟨e0,pre,mid,post,e1,e2,e3,e4⟩:=j9 p h2 h4 hp hg hu
   exact⟨e0,v1++pre,mid,post,by grind,by simp[Ty.off,h1.length h3,e2],e3,e4⟩
  case leaf s x=>
   subst ht
   cases s<;>try trivial
   obtain⟨v1,v2,rfl,h3,h4⟩:=h
   obtain⟨e0,pre,mid,post,e1,e2,e3,e4⟩:=j9 p (a:=.leaf _ x.2) rfl h4 hp hg hu
   exact⟨e0,v1++pre,mid,post,by grind,by simp[Ty.off,af.length h3,e2],e3,e4⟩
 |.idx i::p,a,b,t,u,vs,ht,h,hp,hg,hu=>by
  cases a<;>try trivial
  case leaf s xs=>
   subst ht
   cases s<;>try trivial
   rename_i n s
   obtain⟨hn,h⟩:=h
   obtain⟨hi,hp⟩:=hp
   have hx:xs[i]?=some (xs.getD i s.dflt):=by
    grind
   obtain⟨pre0,mid0,td,e1,e2,e3,_⟩:=aT.split (fun x vs h=>af.length h) h hx
   obtain⟨f0,pre,mid,post,f1,f2,f3,f4⟩:=j9 p (a:=.leaf s (xs.getD i s.dflt)) rfl e3 hp hg hu
   exact⟨f0,pre0++pre,mid,post++td,by grind,by simp[Ty.off,e2,f2],f3,f4⟩
def lY:∀(p:Path) {a a' v:AT} {t u:Ty} {vs aL:List Value},Typed a t→aq w I m ρ a vs→dX p t→AT.set p a v=some a'→t.at p=some u→Typed v u→aq w I m ρ v aL →
  Typed a' t∧∃pre mid post,vs=pre++mid++post∧pre.length=t.off p∧mid.length=u.size∧aq w I m ρ a' (pre++aL++post)
 | [],a,a',v,t,u,vs,aL,ht,h,_,hg,hu,hv,hm=>by
  simp[AT.set] at hg
  simp[Ty.at] at hu
  subst hg hu
  exact⟨hv,[],vs,[],by simp,rfl,ht.length h,by grind⟩
 |.fst::p,a,a',v,t,u,vs,aL,ht,h,hp,hg,hu,hv,hm=>by
  cases a<;>try trivial
  case pair l r=>
   obtain⟨ta,tb,rfl,h1,h2⟩:=ht
   obtain⟨v1,v2,rfl,h3,h4⟩:=h
   simp[AT.set] at hg
   obtain⟨l',hl,rfl⟩:=hg
   obtain⟨e0,pre,mid,post,e1,e2,e3,e4⟩:=lY p h1 h3 hp hl hu hv hm
   refine⟨⟨ta,tb,rfl,e0,h2⟩,pre,mid,post++v2,by grind,by trivial,e3,?_⟩
   simp[aq]
   grind
  case leaf s x=>
   subst ht
   cases s<;>try trivial
   rename_i ta tb
   obtain⟨v1,v2,rfl,h3,h4⟩:=h
   simp[AT.set] at hg
   obtain⟨l',hl,rfl⟩:=hg
   obtain⟨e0,pre,mid,post,e1,e2,e3,e4⟩:=lY p (a:=.leaf _ x.1) rfl h3 hp hl hu hv hm
   refine⟨⟨ta,tb,rfl,e0,rfl⟩,pre,mid,post++v2,by grind,by trivial,e3,?_⟩
   simp[aq]
   grind
 |.snd::p,a,a',v,t,u,vs,aL,ht,h,hp,hg,hu,hv,hm=>by
  cases a<;>try trivial
  case pair l r=>
   obtain⟨ta,tb,rfl,h1,h2⟩:=ht
   obtain⟨v1,v2,rfl,h3,h4⟩:=h
   simp[AT.set] at hg
   obtain⟨l',hl,rfl⟩:=hg
   obtain⟨e0,pre,mid,post,e1,e2,e3,e4⟩:=lY p h2 h4 hp hl hu hv hm
   refine⟨⟨ta,tb,rfl,h1,e0⟩,v1++pre,mid,post,by grind,by simp[Ty.off,h1.length h3,e2],e3,?_⟩
   simp[aq]
   grind
  case leaf s x=>
   subst ht
   cases s<;>try trivial
   rename_i ta tb
   obtain⟨v1,v2,rfl,h3,h4⟩:=h
   simp[AT.set] at hg
   obtain⟨l',hl,rfl⟩:=hg
   obtain⟨e0,pre,mid,post,e1,e2,e3,e4⟩:=lY p (a:=.leaf _ x.2) rfl h4 hp hl hu hv hm
   refine⟨⟨ta,tb,rfl,rfl,e0⟩,v1++pre,mid,post,by grind,by simp[Ty.off,af.length h3,e2],e3,?_⟩
   simp[aq]
   grind
 |.idx i::p,a,a',v,t,u,vs,aL,ht,h,hp,hg,hu,hv,hm=>by
  cases a<;>try trivial
  case leaf s xs=>
   subst ht
   cases s<;>try trivial
   rename_i n s
   obtain⟨hn,h⟩:=h
   simp[AT.set] at hg
   obtain⟨hi,hp⟩:=hp
   have hx:xs[i]?=some (xs.getD i s.dflt):=by
    grind
   split at hg
   ·rename_i d hd
    obtain⟨y,hy,rfl⟩:=cq.1 hg
    obtain⟨b,hb,hbp⟩:=l9.1 hd
    obtain⟨pre0,mid0,td,e1,e2,e3,e4⟩:=aT.split (fun x vs h=>af.length h) h hx
    obtain⟨f0,pre,mid,post,f1,f2,f3,f4⟩:=lY p (a:=.leaf s (xs.getD i s.dflt)) rfl e3 hp hb hu hv hm
    have f5:=o_ hbp f4
    obtain⟨hdt,hdx⟩:=DV.cz hy
    refine⟨rfl,pre0++pre,mid,post++td,by rw[e1,f1];simp,by simp[Ty.off,e2,f2],f3,?_⟩
    refine⟨by simpa using hn,?_⟩
    have:af w I s y (pre++aL++post):=by
     cases d with
     |mk dt dx=>
      subst hdt
      subst hdx
      exact f5
    have:=e4 y _ this
    simpa using this
   ·simp at hg
end
def bg:Ty→List Value
 |.unit=>[]
 |.bool=>[.bool false]
 |.int k=>[.int k 0]
 |.str=>[.string ⟨#[]⟩]
 |.lst _=>[.slice none 0 0]
 |.own _=>[.slice none 0 0]
 |.pair a b=>bg a++bg b
 |.arr n t=>(List.replicate n (bg t)).flatten
 |.ref _=>[.pointer none]
def aQ (t:Ty)(cs:List Value):Value:=if t.isAgg then .agg cs.toArray else cs.headD Go.undef
structure iE (P:Program) (t:Ty) (T:TypeId) where
 info:∃i,P.info? T=some i∧i.size=t.size∧i.zero=some (aQ t (bg t))∧i.bytes≤4096
def TO (P:Program):Ty→(TypeId→Prop)×(List Field→Nat→Prop)
 |.unit=>(fun T=>iE P .unit T∧∃fs,P.underlying T=some (.struct fs)∧fs.toList = [],fun fs _=>fs = [])
 |.bool=>(fun T=>iE P .bool T∧P.underlying T=some .bool,fun _ _=>False)
 |.int k=>(fun T=>iE P (.int k) T∧P.underlying T=some (.int k),fun _ _=>False)
 |.str=>(fun T=>iE P .str T∧P.underlying T=some .string,fun _ _=>False)
 |.lst t=>(fun T=>iE P (.lst t) T∧∃E,P.underlying T=some (.slice E)∧0<t.size∧(TO P t).1 E,fun _ _=>False)
 |.own _=>(fun _=>False,fun _ _=>False)
 |.pair a b=>(fun T=>iE P (.pair a b) T∧∃fs,P.underlying T=some (.struct fs) ∧
     ∃f l,fs.toList=f::l∧f.offset=0∧(TO P a).1 f.type∧(TO P b).2 l a.size,
   fun fs off=>∃f l,fs=f::l∧f.offset=off∧(TO P a).1 f.type∧(TO P b).2 l (off+a.size))
 |.arr n t=>(fun T=>iE P (.arr n t) T∧∃E,P.underlying T=some (.array n E)∧1<n∧(∃k,t = .int k)∧(TO P t).1 E,fun _ _=>False)
 |.ref t=>(fun T=>iE P (.ref t) T∧∃E,P.underlying T=some (.pointer E),fun _ _=>False)
def bh (P:Program)(t:Ty)(T:TypeId):Prop:=(TO P t).1 T
def dO (P:Program)(t:Ty)(fs:List Field)(off:Nat):Prop:=(TO P t).2 fs off
def bh.info {P:Program}{t:Ty}{T:TypeId}(h:bh P t T):iE P t T:=by
 unfold bh at h
 cases t<;>simp[TO] at h<;>first|grind|exact h.elim
def dO.field {P:Program}:∀(n:Nat) {t u:Ty} {fs:List Field} {off:Nat},dO P t fs off→t.at (bF n)=some u →
  ∃f,fs[n]?=some f∧f.offset=off+t.off (bF n)∧bh P u f.type
 |n,t,u,fs,off,h,hu=>by
  unfold dO at h
  cases t<;>simp[TO] at h<;>try exact h.elim
  case unit=>cases n<;>simp[bF,Ty.at] at hu
  case pair a b=>
   obtain⟨f,l,rfl,h1,h2,h3⟩:=h
   cases n with
   |zero=>
    simp[bF,Ty.at] at hu
    subst hu
    exact⟨f,rfl,by trivial,h2⟩
   |succ n=>
    obtain⟨g,e1,e2,e3⟩:=dO.field n (t:=b) h3 hu
    exact⟨g,by grind,by simp[bF,Ty.off];omega,e3⟩
def bh.field {P:Program}{t u:Ty}{T:TypeId}{n:Nat}(h:bh P t T)(hu:t.at (bF n)=some u) :
  ∃fs f,P.underlying T=some (.struct fs)∧fs[n]?=some f∧f.offset=t.off (bF n)∧bh P u f.type:=by
 cases t with
 |pair a b=>
  obtain⟨_,fs,h1,f,l,h2,h3,h4,h5⟩:=h
  obtain⟨g,e1,e2,e3⟩:=dO.field (P:=P) n (t:=.pair a b) (fs:=fs.toList) (off:=0) (by unfold dO;simp[TO];grind) hu
  grind
 |_=>cases n<;>simp[bF,Ty.at] at hu
structure EqOk (P:Program) (T:TypeId):Prop where
 held:P.stoodInHeld T=false
 guard:P.eqGuardType P.depth T=false
 names:∀f∈(P.fieldsOf T).toList,f.name ≠ "_"
structure bR (P:Program) (C:Cx):Prop where
 gF:∀T ti,find C.gF T=some ti→bh P ti.t T
 eqs:∀T ti,find C.gF T=some ti→ti.e=1→EqOk P T
def bR.ty {P:Program}{C:Cx}(h:bR P C){T:Nat}{t:Ty}(ht:C.ty T=some t):bh P t T:=by
 unfold Cx.ty at ht
 cases hf:find C.gF T with
 |none=>grind
 |some ti=>simp[hf] at ht;subst ht;exact h.gF T ti hf
def bR.eqt {P:Program}{C:Cx}(h:bR P C){T:Nat}{t:Ty}(ht:C.eqt T=some t):bh P t T∧EqOk P T:=by
 unfold Cx.eqt at ht
 split at ht
 ·rename_i u hf
  cases ht
  exact⟨h.gF T _ hf,h.eqs T _ hf rfl⟩
 ·cases ht
def bR.el {P:Program}{C:Cx}(h:bR P C){T:Nat}{t:Ty}(ht:C.el T=some t):∃E,P.underlying T=some (.slice E)∧0<t.size∧bh P t E:=by
 unfold Cx.el at ht
 split at ht
 ·rename_i u e hf
  cases ht
  have:=h.gF T _ hf
  exact this.2
 ·simp at ht
section
variable {P:Program} {t:Ty} {T:TypeId} {w:World}
def iE.run_sizeOf (h:iE P t T):(sizeOf T).run P w = .ok t.size w:=by
 obtain⟨i,h1,h2,_⟩:=h.info
 simp_all [sizeOf,typeInfo]
def iE.v8 (h:iE P t T):(zeroValue T).run P w = .ok (aQ t (bg t)) w:=by
 obtain⟨i,h1,h2,h3,_⟩:=h.info
 simp_all [zeroValue,typeInfo]
def bh.qQ (h:bh P t T):(isAgg T).run P w = .ok t.isAgg w:=by
 unfold bh at h
 unfold isAgg
 cases t<;>simp[TO] at h<;>first|exact h.elim|skip
 case unit=>simp_all [run_underlying,Ty.isAgg]
 case bool=>simp[run_underlying h.2,Ty.isAgg]
 case int k=>simp[run_underlying h.2,Ty.isAgg]
 case str=>simp[run_underlying h.2,Ty.isAgg]
 case lst u=>obtain⟨_,E,h,_⟩:=h;simp[run_underlying h,Ty.isAgg]
 case pair a b=>obtain⟨_,fs,h,_⟩:=h;simp[run_underlying h,Ty.isAgg]
 case arr n u=>obtain⟨_,E,h,_⟩:=h;simp[run_underlying h,Ty.isAgg]
 case ref u=>obtain⟨_,E,h⟩:=h;simp[run_underlying h,Ty.isAgg]
def Ty.qS {P:Program}{t:Ty}{T:TypeId}(_:bh P t T)(h:t.isAgg=false):t.size=1:=by
 cases t<;>simp[Ty.isAgg] at h<;>rfl
def bh.vZ (h:bh P t T){B o:Nat}{vs:List Value}(hl:vs.length=t.size)(hc:∀j,j<vs.length→w.cell? ⟨B,o+j,none⟩=vs[j]?) :
  (loadVar T ⟨B,o,none⟩).run P w = .ok (aQ t vs) w:=by
 unfold loadVar
 rw[Sem.run_bind,h.qQ]
 simp only[Result.andThen_ok]
 cases ha:t.isAgg with
 |true=>
  have hld:=qR (P:=P) hc
  rw[hl] at hld
  simp[h.info.run_sizeOf,hld,aQ,ha]
 |false=>
  have hs:=Ty.qS h ha
  obtain⟨v,rfl⟩:∃v,vs = [v]:=by
   match vs,hl with
   | [v],_=>simp
   | [],hl=>grind
   |_::_::_,hl=>grind
  have:=hc 0 (by simp)
  simp at this
  simp[aQ,ha,this]
def gK {vs:List Value}(h:bh P t T)(hl:vs.length=t.size)(h1:∀v∈vs,v.oneCell'=true):(aQ t vs).cells=vs.toArray:=by
 unfold aQ
 cases ha:t.isAgg with
 |true=>rfl
 |false=>
  have hs:=Ty.qS h ha
  obtain⟨v,rfl⟩:∃v,vs = [v]:=by
   match vs,hl with
   | [v],_=>simp
   | [],hl=>grind
   |_::_::_,hl=>grind
  have:=h1 v (by simp)
  cases v<;>simp[Value.oneCell'] at this<;>simp[Value.cells]
end
section
variable {w:World} {I:Nat→Prop} {m:MF} {ρ:Pl}
def aG.pack {a:AT}{t:Ty}{v:Value}(ht:Typed a t)(h:aG w I m ρ a v):∃vs,v=aQ t vs∧aq w I m ρ a vs:=by
 unfold aG at h
 unfold aQ
 rw[ht.isAgg] at h
 cases ha:t.isAgg with
 |true=>
  rw[bQ ha] at h
  obtain⟨arr,e,h⟩:=h
  exact⟨arr.toList,by simp[e],h⟩
 |false=>
  grind
def aG.unpack {a:AT}{t:Ty}{vs:List Value}{P:Program}{T:TypeId}(ht:Typed a t)(hT:bh P t T)(h:aq w I m ρ a vs):aG w I m ρ a (aQ t vs):=by
 unfold aG aQ
 rw[ht.isAgg]
 cases ha:t.isAgg with
 |true=>grind
 |false=>
  have hs:=Ty.qS hT ha
  have hl:=ht.length h
  obtain⟨v,rfl⟩:∃v,vs = [v]:=by
   match vs,hl with
   | [v],_=>simp
   | [],hl=>grind
   |_::_::_,hl=>grind
  grind
def gX {a:AT}{v:Value}{t:Ty}(ht:Typed a t):aj w I m ρ a v↔aG w I m ρ a v:=by
 cases a<;>simp[Typed] at ht<;>first|rfl|exact ht.elim
def rJ (k:IntKind):∀n,aT (fun(x:Int) (vs:List Value)=>vs = [.int k x]) (List.replicate n 0) (List.replicate n [Value.int k 0]).flatten
 |0=>by simp[aT]
 |n+1=>⟨[.int k 0],_,rfl,rfl,rJ k n⟩
def lu:∀{t:Ty} {T:TypeId} {P:Program},bh P t T→Typed (jL t) t∧aq w I m ρ (jL t) (bg t):=by
 intro t
 have key:∀{P:Program},((∀T,bh P t T→Typed (jL t) t∧aq w I m ρ (jL t) (bg t))∧(∀fs off,dO P t fs off→Typed (jL t) t∧aq w I m ρ (jL t) (bg t))):=by
  induction t with
  |own u _=>simp[bh,TO,dO]
  |pair a b aO aK=>
   refine⟨fun T h=>?_,fun fs off h=>?_⟩
   ·obtain⟨_,fs,_,f,l,_,_,h1,h2⟩:=h
    exact⟨⟨a,b,rfl,(aO.1 _ h1).1,(aK.2 _ _ h2).1⟩,⟨_,_,rfl,(aO.1 _ h1).2,(aK.2 _ _ h2).2⟩⟩
   ·obtain⟨f,l,_,_,h1,h2⟩:=h
    exact⟨⟨a,b,rfl,(aO.1 _ h1).1,(aK.2 _ _ h2).1⟩,⟨_,_,rfl,(aO.1 _ h1).2,(aK.2 _ _ h2).2⟩⟩
  |arr n u ih=>
   refine⟨fun T h=>⟨rfl,?_⟩,fun _ _ h=>by unfold dO at h;simp[TO] at h⟩
   obtain⟨_,E,_,_,⟨k,rfl⟩,h⟩:=h
   simp[jL,Ty.dflt]
   exact⟨by simp,rJ k n⟩
  |ref u _=>exact⟨fun _ _=>⟨⟨rfl,rfl⟩,rfl,by simp[bg,Value.oneCell']⟩,fun _ _ _=>⟨⟨rfl,rfl⟩,rfl,by simp[bg,Value.oneCell']⟩⟩
  |_=>exact⟨fun _ _=>⟨rfl,rfl⟩,fun _ _ _=>⟨rfl,rfl⟩⟩
 intro T P h
 exact key.1 T h
end
def aF {α:Type}(i:Nat)(b:α)(l:List (Nat×α))(j:Nat):find ((i,b)::l) j=if i=j then some b else find l j:=by
 simp[find]
def cO {α:Type}(l l':List (Nat×α))(j:Nat):find (app l l') j=match find l j with | some b=>some b|none=>find l' j:=by
 induction l with
 |nil=>rfl
 |cons x l ih=>
  obtain⟨i,b⟩:=x
  simp[app,aF]
  grind
def MF.put (m:MF)(n:Nat)(b:aa):MF:=fun i=>if n=i then some b else m i
structure aB (F:Fix) (m m':MF) (w w':World) (I I':Nat→Prop) (ρ ρ':Pl):Prop where
 j7:bH I I' w w'
 keep:c_ m m' ρ ρ' w w'
 mem:aC F m' w' I' ρ'
def bX.refl:∀c:BC,bX c c
 |.var _ _=>rfl
 |.rows _ _=>⟨rfl,rfl⟩
 |.deep _ _ _=>⟨bA _,rfl,rfl⟩
 |.dead=>trivial
def bX.trans {a b c:BC}(h:bX a b)(k:bX b c):bX a c:=by
 cases a<;>cases b<;>simp[bX] at h<;>cases c<;>simp[bX] at k ⊢
 all_goals grind
def fj {b:aa}(h:b.bI):b.live:=by
 grind [aa.bI,aa.live]
def yK {b b':aa}(h:bX b.c b'.c)(hl:b.live):b'.live:=by
 grind [aa.live,bX]
def c_.refl (m:MF)(ρ:Pl)(w:World):c_ m m ρ ρ w w:=
 ⟨fun _ b hb=>⟨b,hb,.inr ⟨rfl,bX.refl _,rfl,fun _ _ _ _ cs hc=>⟨cs,hc,bA _⟩⟩⟩,fun _ _ _ _ _ _ _ _ _ _ _ _ _ _ _ _=>rfl⟩
def c_.trans {m m' m'':MF}{ρ ρ' pQ:Pl}{w w' w'':World}(h:c_ m m' ρ ρ' w w')(k:c_ m' m'' ρ' pQ w' w''):c_ m m'' ρ pQ w w'':=by
 refine⟨fun id b hb=>?_,fun id b b'' rs t u xs ys hb oz hst hc qk B o hB=>?_⟩
 case refine_2=>
  obtain⟨b',hb',h1⟩:=h.keep id b hb
  obtain⟨b3,hb3,h2⟩:=k.keep id b' hb'
  rw[oz] at hb3
  cases hb3
  have e1:b.st=b'.st:=by omega
  have e2:b'.st=b''.st:=by omega
  rcases h1 with h1|⟨_,s1,r1,_⟩
  ·omega
  rcases h2 with h2|⟨_,s2,r2,_⟩
  ·omega
  rw[hc] at s1
  rw[qk] at s2
  cases aI:b'.c with
  |deep r v zs=>
   rw[aI] at s1 s2
   simp[bX] at s1 s2
   have:r=rs:=by omega
   subst this
   exact(k.nest id b' b'' r v u zs ys hb' oz e2 aI qk B o (r1.trans hB)).trans (h.nest id b b' r t v xs zs hb hb' e1 hc aI B o hB)
  |_=>simp_all [bX]
 obtain⟨b',hb',h1⟩:=h.keep id b hb
 obtain⟨b'',oz,h2⟩:=k.keep id b' hb'
 refine⟨b'',oz,?_⟩
 rcases h1 with h1|⟨h1,h3,h4,h5⟩
 ·grind
 ·rcases h2 with h2|⟨h2,h6,h7,h8⟩
  ·exact .inl (by omega)
  ·refine .inr ⟨by omega,h3.trans h6,h7.trans h4,fun fV B o hB cs hc=>?_⟩
   obtain⟨cs',aI,hl⟩:=h5 fV B o hB cs hc
   obtain⟨cs'',qk,hl'⟩:=h8 (yK h3 fV) B o (h4.trans hB) cs' aI
   exact⟨cs'',qk,by omega⟩
def aB.refl {F:Fix}{m:MF}{w:World}{I:Nat→Prop}{ρ:Pl}(h:aC F m w I ρ):aB F m m w w I I ρ ρ:=⟨bH.refl I w,c_.refl m ρ w,h⟩
def aB.trans {F:Fix}{m m' m'':MF}{w w' w'':World}{I I' b_:Nat→Prop}{ρ ρ' pQ:Pl}(h:aB F m m' w w' I I' ρ ρ')(k:aB F m' m'' w' w'' I' b_ ρ' pQ) :
  aB F m m'' w w'' I b_ ρ pQ:=⟨h.j7.trans k.j7,h.keep.trans k.keep,k.mem⟩
def fC {b:aa}{t:Ty}{xs:List t.den}(h:b.c = .rows t xs):b.live:=by grind [aa.live]
def kz {b:aa}{t:Ty}{a:AT}(h:b.c = .var t a):b.live:=by grind [aa.live]
def cM.mono {w w':World}{I I':Nat→Prop}{m m':MF}{ρ ρ':Pl}(ha:bH I I' w w')(hk:c_ m m' ρ ρ' w w'){id:Nat}{b:aa}(h:cM w I m ρ id b)
  (hρ:ρ' id=ρ id) (oH:ρ'.d id=ρ.d id) (hc:∀B o,ρ id=some (B,o)→b.live→w'.heap[B]?=w.heap[B]?∧(I' B→I B))
  (hd:b.bI→∀B∈ρ.d id,w'.heap[B]?=w.heap[B]?∧(I' B→I B)):cM w' I' m' ρ' id b:=by
 unfold cM at *
 split
 ·simp
 ·rename_i t a e
  simp only[e] at h
  obtain⟨h1,B,cs,h2,h3,h4,h5⟩:=h
  obtain⟨h6,h7⟩:=hc B 0 h2 (kz e)
  exact⟨h1,B,cs,hρ.trans h2,h3.of_same h6,h4.mono ha hk,h5.trans ⟨ha.sub B,h7⟩⟩
 ·rename_i t xs e
  simp only[e] at h
  obtain⟨h0,h⟩:=h
  refine⟨h0,h.imp (fun⟨h1,h2⟩=>⟨h1,hρ.trans h2⟩) ?_⟩
  rintro⟨B,o,cs,h2,h3,h4,h5,h6⟩
  obtain⟨h7,h8⟩:=hc B o h2 (fC e)
  refine⟨B,o,cs,hρ.trans h2,h3.of_same h7,h4,h5.mono (fun o=>?_) (fun x vs h=>af.mono ha h),h6.trans ⟨ha.sub B,h8⟩⟩
  exact World.cell?_of_block (w:=w) h7
 ·rename_i rs t xs e
  simp only[e] at h
  obtain⟨h0,h⟩:=h
  refine⟨h0,h.imp (fun⟨h1,h2,h3⟩=>⟨h1,hρ.trans h2,oH.trans h3⟩) ?_⟩
  rintro⟨B,o,cs,h2,h3,h4,h5,h6⟩
  have dA:b.live:=by unfold aa.live;rw[e];trivial
  have kg:b.bI:=by unfold aa.bI;rw[e];trivial
  obtain⟨h7,h8⟩:=hc B o h2 dA
  refine⟨B,o,cs,hρ.trans h2,h3.of_same h7,h4,?_,fun h=>h6 (h8 h)⟩
  rw[oH]
  exact h5.mono (fun o=>World.cell?_of_block (w:=w) h7) (fun x vs D hD h=>au.mono ha (fun B hB=>hd kg B (hD B hB)) h)
def Pl.put (ρ:Pl)(n:Nat)(p:Option (Nat×Nat)):Pl:=⟨fun i=>if n=i then p else ρ i,fun i=>if n=i then [] else ρ.d i⟩
def aC.dlt {F:Fix}{m:MF}{w:World}{I:Nat→Prop}{ρ:Pl}(h:aC F m w I ρ){id:Nat}{b:aa}(hm:m id=some b)(hd:b.bI){B:Nat}(hB:B∈ρ.d id):B<w.heap.size∧¬I B:=by
 have hb:=h.aN id b hm
 unfold aa.bI at hd
 cases hc:b.c with
 |deep rs t xs=>
  simp[cM,hc] at hb
  rcases hb.2 with⟨_,_,h3⟩|⟨B0,o,cs,_,_,_,h4,_⟩
  ·grind
  ·exact h4.aN B hB
 |_=>grind
def aB.new {F:Fix}{m:MF}{w:World}{I:Nat→Prop}{ρ:Pl}(h:aC F m w I ρ)(n:Nat)(b:aa)(arr:Array Value)(e:TypeId)(fr:Nat×Nat)(hfr:∀j,j<arr.size→¬(fr.1≤j∧j<fr.2))
  (hst:∀b0,m n=some b0→b0.st<b.st)
  (hb:c_ m (m.put n b) ρ (ρ.put n (some (w.heap.size,0))) w (w.alloc (.cells arr e fr)) →
   Cells (w.alloc (.cells arr e fr)) w.heap.size arr.toList →
   cM (w.alloc (.cells arr e fr)) I (m.put n b) (ρ.put n (some (w.heap.size,0))) n b) :
  aB F m (m.put n b) w (w.alloc (.cells arr e fr)) I I ρ (ρ.put n (some (w.heap.size,0))):=by
 have hsame:∀B,B<w.heap.size→(w.alloc (.cells arr e fr)).heap[B]?=w.heap[B]? :=fun B hB=>heap_alloc_old w _ B hB
 have ha:bH I I w (w.alloc (.cells arr e fr)):=⟨fun _ h=>h,fun B hB=>hsame B (h.aS B hB)⟩
 have hlt:∀id b0 B o,m id=some b0→b0.live→ρ id=some (B,o)→B<w.heap.size:=by
  intro id b0 B o hm hl hρ
  have:=h.aN id b0 hm
  unfold cM at this
  unfold aa.live at hl
  cases hc:b0.c with
  |dead=>grind
  |var t a=>simp only[hc] at this;obtain⟨_,B',cs,e1,e2,_⟩:=this;rw[hρ] at e1;cases e1;exact e2.lt
  |rows t xs=>
   simp only[hc] at this
   rcases this.2 with⟨_,e1⟩|⟨B',o',cs,e1,e2,_⟩
   ·grind
   ·rw[hρ] at e1;cases e1;exact e2.lt
  |deep rs t xs=>
   simp only[hc] at this
   rcases this.2 with⟨_,e1,_⟩|⟨B',o',cs,e1,e2,_⟩
   ·grind
   ·rw[hρ] at e1;cases e1;exact e2.lt
 have hk:c_ m (m.put n b) ρ (ρ.put n (some (w.heap.size,0))) w (w.alloc (.cells arr e fr)):=by
  refine⟨fun id b0 hm=>?_,fun id b0 b1 rs t u xs ys h0 h1 hs hc0 gN B o hB=>hsame B (hlt id b0 B o h0 (by unfold aa.live;grind) hB)⟩
  by_cases hid:n=id
  ·subst hid
   exact⟨b,by simp[MF.put],.inl (hst b0 hm)⟩
  ·refine⟨b0,by simp[MF.put,hid,hm],.inr ⟨rfl,bX.refl _,by simp[Pl.put,hid],fun _ B o hρ cs hc=>⟨cs,hc.of_same (hsame B hc.lt),bA _⟩⟩⟩
 refine⟨ha,hk,?_⟩
 refine { aN:=?_,inj:=?_,aS:=?_,iJ:=h.iJ,iu:=h.iu,mine:=?_,dp:=?_,frame:=?_,size:=?_,os:=h.os,tape:=h.tape,output:=h.output,fU:=F.G.mono ha h.fU }
 ·intro id b0 hm
  by_cases hid:n=id
  ·subst hid
   simp[MF.put] at hm
   subst hm
   exact hb hk (Cells.alloc w arr e fr hfr)
  ·simp[MF.put,hid] at hm
   exact(h.aN id b0 hm).mono ha hk (by simp[Pl.put,hid]) (by simp[Pl.put,hid]) (fun B o hρ hl=>⟨hsame B (hlt id b0 B o hm hl hρ),fun h=>h⟩)
    fun hd B hB=>⟨hsame B (h.dlt hm hd hB).1,fun h=>h⟩
 ·intro id id' b1 b2 B o o' h1 h2 l1 l2 r1 r2
  simp[MF.put,Pl.put] at h1 h2 r1 r2
  by_cases e1:n=id
  ·by_cases e2:n=id'
   ·omega
   ·simp[e1] at *
    have:=hlt id' b2 B o' (by simpa[e2] using h2) l2 (by simpa[e2] using r2)
    omega
  ·by_cases e2:n=id'
   ·simp[e2] at *
    have:=hlt id b1 B o (by simpa[e1] using h1) l1 (by simpa[e1] using r1)
    omega
   ·simp[e1,e2] at *
    exact h.inj id id' b1 b2 B o o' h1 h2 l1 l2 r1 r2
 ·intro B hB
  have:=h.aS B hB
  simp
  omega
 ·intro id b0 B o hm hl hρ
  simp[MF.put,Pl.put] at hm hρ
  by_cases hid:n=id
  ·simp[hid] at hρ
   exact .inl (by have:=h.size;omega)
  ·simp[hid] at hm hρ
   exact h.mine id b0 B o hm hl hρ
 ·intro id b0 hm hd
  by_cases hid:n=id
  ·subst hid;simp[Pl.put]
  ·simp[MF.put,hid] at hm
   have he:(ρ.put n (some (w.heap.size,0))).d id=ρ.d id:=by simp[Pl.put,hid]
   rw[he]
   obtain⟨k1,k2⟩:=h.dp id b0 hm hd
   refine⟨k1,fun B hB=>?_⟩
   obtain⟨q1,q2,q3⟩:=k2 B hB
   have hlt':=(h.dlt hm hd hB).1
   refine⟨q1,fun id' b' o h1 h2=>?_,fun id' b' h1 h2 h3=>?_⟩
   ·by_cases oB:n=id'
    ·simp[Pl.put,oB,ne_eq]
     omega
    ·simp[MF.put,Pl.put,oB] at h1 ⊢
     exact q2 id' b' o h1 h2
   ·by_cases oB:n=id'
    ·simp[Pl.put,oB] at h3
    ·simp[MF.put,Pl.put,oB] at h1 h3
     exact q3 id' b' h1 h2 h3
 ·intro B hB hX
  rw[hsame B (by have:=h.size;omega)]
  exact h.frame B hB hX
 ·have:=h.size
  simp
  omega
def aB.write {F:Fix}{m:MF}{w w':World}{I:Nat→Prop}{ρ:Pl}(h:aC F m w I ρ)(n:Nat)(b b':aa)(B o:Nat)(cs cs':List Value)
  (hm:m n=some b) (hl:b.live) (hst:b.st<b'.st∨(b.st=b'.st∧bX b.c b'.c)) (hρ:ρ n=some (B,o)) (hI:¬I B)
  (hcs:Cells w B cs) (hcs':Cells w' B cs') (hlen:cs.length≤cs'.length)
  (hsame:∀k,k≠B→w'.heap[k]?=w.heap[k]?) (hsize:w'.heap.size=w.heap.size) (hos:w'.os=w.os) (gB:w'.tape=w.tape) (hout:w'.output=w.output)
  (hb:bH I I w w'→c_ m (m.put n b') ρ ρ w w'→cM w' I (m.put n b') ρ n b') (aE:¬b'.bI:=by simp[aa.bI]) :
  aB F m (m.put n b') w w' I I ρ ρ:=by
 have ha:bH I I w w':=⟨fun _ h=>h,fun k hk=>hsame k (fun e=>hI (e▸hk))⟩
 have hk:c_ m (m.put n b') ρ ρ w w':=by
  refine⟨fun id b0 hm0=>?_,fun id b0 b1 rs t u xs ys h0 h1 hs hc0 gN B1 o1 hB=>?_⟩
  case refine_2=>
   by_cases hid:n=id
   ·simp_all [aa.bI,MF.put]
   ·refine hsame B1 fun e=>?_
    subst e
    exact hid (h.inj n id b b0 B1 o o1 hm h0 hl (by unfold aa.live;rw[hc0];trivial) hρ hB)
  by_cases hid:n=id
  ·subst hid
   rw[hm] at hm0
   cases hm0
   refine⟨b',by simp[MF.put],hst.imp id fun hst=>⟨hst.1,hst.2,rfl,fun _ B' o' kV ds hd=>?_⟩⟩
   rw[hρ] at kV
   cases kV
   have:=hcs.unique hd
   subst this
   exact⟨cs',hcs',hlen⟩
  ·refine⟨b0,by simp[MF.put,hid,hm0],.inr ⟨rfl,bX.refl _,rfl,fun _ B' o' kV ds hd=>?_⟩⟩
   by_cases hB:B'=B
   ·subst hB
    have:=hcs.unique hd
    subst this
    exact⟨cs',hcs',hlen⟩
   ·exact⟨ds,hd.of_same (hsame B' hB),bA _⟩
 refine⟨ha,hk,?_⟩
 have bP:=h.mine n b B o hm hl hρ
 refine { aN:=?_,inj:=?_,aS:=?_,iJ:=h.iJ,iu:=h.iu,mine:=?_,dp:=?_,frame:=?_,size:=by have:=h.size;omega,os:=hos.trans h.os,tape:=gB.trans h.tape,output:=hout.trans h.output,fU:=F.G.mono ha h.fU }
 ·intro id b0 hm0
  by_cases hid:n=id
  ·subst hid
   simp[MF.put] at hm0
   subst hm0
   exact hb ha hk
  ·simp[MF.put,hid] at hm0
   refine(h.aN id b0 hm0).mono ha hk rfl rfl (fun B' o' kV fV=>⟨hsame B' fun e=>?_,fun h=>h⟩) (fun hd B' br=>⟨hsame B' fun e=>?_,fun h=>h⟩)
   ·subst e
    exact hid (h.inj n id b b0 B' o o' hm hm0 hl fV hρ kV)
   ·subst e
    exact((h.dp id b0 hm0 hd).2 B' br).2.1 n b o hm hl hρ
 ·intro id id' b1 b2 C o1 o2 h1 h2 l1 l2 r1 r2
  have fix:∀j bj,(m.put n b') j=some bj→bj.live→∃bj',m j=some bj'∧bj'.live:=by
   intro j bj hj hlj
   by_cases hid:n=j
   ·subst hid;exact⟨b,hm,hl⟩
   ·simp[MF.put,hid] at hj;exact⟨bj,hj,hlj⟩
  obtain⟨c1,k1,k2⟩:=fix id b1 h1 l1
  obtain⟨c2,k3,k4⟩:=fix id' b2 h2 l2
  exact h.inj id id' c1 c2 C o1 o2 k1 k3 k2 k4 r1 r2
 ·intro k hk
  rw[hsize]
  exact h.aS k hk
 ·intro id b0 C o1 hm0 fV hr
  by_cases hid:n=id
  ·subst hid;exact h.mine n b C o1 hm hl hr
  ·simp[MF.put,hid] at hm0;exact h.mine id b0 C o1 hm0 fV hr
 ·intro id b0 hm0 hd
  have back:∀j bj,(m.put n b') j=some bj→bj.bI→m j=some bj:=by
   intro j bj hj hdj
   by_cases hid:n=j
   ·simp[MF.put,hid] at hj;subst hj;exact absurd hdj aE
   ·simpa[MF.put,hid] using hj
  obtain⟨k1,k2⟩:=h.dp id b0 (back id b0 hm0 hd) hd
  refine⟨k1,fun B1 hB1=>?_⟩
  obtain⟨q1,q2,q3⟩:=k2 B1 hB1
  refine⟨q1,fun id' b1 o1 h1 h2=>?_,fun id' b1 h1 h2 h3=>q3 id' b1 (back id' b1 h1 h2) h2 h3⟩
  by_cases hid:n=id'
  ·subst hid;exact q2 n b o1 hm hl
  ·simp[MF.put,hid] at h1;exact q2 id' b1 o1 h1 h2
 ·intro k hk hX
  have:k≠B:=by
   rintro rfl
   rcases bP with h|h
   ·omega
   ·exact hX h
  rw[hsame k this]
  exact h.frame k hk hX
def aB.drew {F:Fix}{m:MF}{w:World}{I:Nat→Prop}{ρ:Pl}(h:aC F m w I ρ):aB F m m w w.drew I I ρ ρ:=by
 have ha:bH I I w w.drew:=⟨fun _ h=>h,fun _ _=>rfl⟩
 have hk:c_ m m ρ ρ w w.drew:=⟨fun _ b hb=>⟨b,hb,.inr ⟨rfl,bX.refl _,rfl,fun _ _ _ _ cs hc=>⟨cs,hc.of_same rfl,bA _⟩⟩⟩,fun _ _ _ _ _ _ _ _ _ _ _ _ _ _ _ _=>rfl⟩
 exact⟨ha,hk,⟨fun id b hm=>(h.aN id b hm).mono ha hk rfl rfl (fun _ _ _ _=>⟨rfl,fun h=>h⟩) fun _ _ _=>⟨rfl,fun h=>h⟩,h.inj,h.aS,h.iJ,h.iu,h.mine,h.dp,h.frame,h.size,h.os,h.tape,h.output,F.G.mono ha h.fU⟩⟩
def aB.stale {F:Fix}{m:MF}{w:World}{I:Nat→Prop}{ρ:Pl}(h:aC F m w I ρ)(n:Nat)(b':aa)(hst:∀b,m n=some b→b.st<b'.st)
  (hb:¬b'.live∨∃t:Ty,b'.c = .rows t []):aB F m (m.put n b') w w I I ρ (ρ.put n none):=by
 have hk:c_ m (m.put n b') ρ (ρ.put n none) w w:=by
  refine⟨fun id b0 hm0=>?_,fun _ _ _ _ _ _ _ _ _ _ _ _ _ _ _ _=>rfl⟩
  by_cases hid:n=id
  ·subst hid
   exact⟨b',by simp[MF.put],.inl (hst b0 hm0)⟩
  ·exact⟨b0,by simp[MF.put,hid,hm0],.inr ⟨rfl,bX.refl _,by simp[Pl.put,hid],fun _ _ _ _ cs hc=>⟨cs,hc,bA _⟩⟩⟩
 have hput:∀j bj B o,(m.put n b') j=some bj→bj.live→(ρ.put n none) j=some (B,o)→n≠j∧m j=some bj∧ρ j=some (B,o):=by
  intro j bj B o h1 _ h2
  by_cases hid:n=j
  ·simp[Pl.put,hid] at h2
  ·simp[MF.put,Pl.put,hid] at h1 h2
   exact⟨hid,h1,h2⟩
 refine⟨bH.refl I w,hk,⟨fun id b0 hm0=>?_,fun id id' b1 b2 B o o' h1 h2 l1 l2 r1 r2=>?_,h.aS,h.iJ,h.iu,fun id b0 B o h1 l1 r1=>?_,?dp,h.frame,h.size,h.os,h.tape,h.output,h.fU⟩⟩
 ·by_cases hid:n=id
  ·subst hid
   simp[MF.put] at hm0
   subst hm0
   unfold cM
   rcases hb with hb|⟨t,hb⟩
   ·unfold aa.live at hb
    cases hc:b'.c<;>simp[hc] at hb
    trivial
   ·rw[hb]
    exact⟨trivial,.inl ⟨rfl,by simp[Pl.put]⟩⟩
  ·simp[MF.put,hid] at hm0
   exact(h.aN id b0 hm0).mono (bH.refl I w) hk (by simp[Pl.put,hid]) (by simp[Pl.put,hid]) (fun _ _ _ _=>⟨rfl,fun h=>h⟩) fun _ _ _=>⟨rfl,fun h=>h⟩
 ·obtain⟨_,k1,k2⟩:=hput id b1 B o h1 l1 r1
  obtain⟨_,k3,k4⟩:=hput id' b2 B o' h2 l2 r2
  exact h.inj id id' b1 b2 B o o' k1 k3 l1 l2 k2 k4
 ·obtain⟨_,k1,k2⟩:=hput id b0 B o h1 l1 r1
  exact h.mine id b0 B o k1 l1 k2
 case dp=>
  have aE:¬b'.bI:=by
   rcases hb with hb|⟨t,hb⟩
   ·exact fun hd=>hb (fj hd)
   ·unfold aa.bI;rw[hb];exact fun h=>h
  have back:∀j bj,(m.put n b') j=some bj→bj.bI→n≠j∧m j=some bj:=by
   intro j bj hj hdj
   by_cases hid:n=j
   ·simp[MF.put,hid] at hj;subst hj;exact absurd hdj aE
   ·exact⟨hid,by simpa[MF.put,hid,l_] using hj⟩
  intro id b0 hm0 hd
  obtain⟨e0,e1⟩:=back id b0 hm0 hd
  have he:(ρ.put n none).d id=ρ.d id:=by simp[Pl.put,e0]
  rw[he]
  obtain⟨k1,k2⟩:=h.dp id b0 e1 hd
  refine⟨k1,fun B1 hB1=>?_⟩
  obtain⟨q1,q2,q3⟩:=k2 B1 hB1
  refine⟨q1,fun id' b1 o1 h1 h2 h3=>?_,fun id' b1 h1 h2 h3=>?_⟩
  ·obtain⟨_,g1,g2⟩:=hput id' b1 B1 o1 h1 h2 h3
   exact q2 id' b1 o1 g1 h2 g2
  ·obtain⟨g0,g1⟩:=back id' b1 h1 h2
   exact q3 id' b1 g1 h2 (by simpa[Pl.put,g0] using h3)
def Ty.cX {a b:Ty}(h:a.is b=true):a=b:=by
 grind [Ty.is]
def cz {d:DV}{t:Ty}{x:t.den}(h:d.as t=some x):d=⟨t,x⟩:=by
 obtain⟨u,y⟩:=d
 grind [DV.as]
def aU {α:Type}{b:Bool}{x:Option α}{y:α}(h:(bif b then x else none)=some y):b=true∧x=some y:=by
 grind
def cy.of {m:MF}{id st:Nat}{b:aa}(h:m id=some b)(hs:b.st=st):cy m id st:=⟨b,h,by omega⟩
def iw {o:Option Ty}{t:Ty}(h:dL o t=true):o=some t:=by
 cases o with
 |none=>trivial
 |some u=>simp[dL] at h;rw[Ty.cX h]
def cN {m:MF}{id st:Nat}{b:aa}(h:cur m id st=some b):m id=some b∧b.st=st:=by
 unfold cur at h
 cases hm:m id with
 |none=>grind
 |some b0=>
  cases hb:Nat.beq b0.st st<;>simp_all
def gW {m:MF}{id st:Nat}{t:Ty}{fz:Bool}{xs:List t.den}(h:rowsOf m id st t=some (fz,xs)):m id=some ⟨st,fz,.rows t xs⟩:=by
 unfold rowsOf at h
 split at h
 ·rename_i st' fz' u ys hc
  obtain⟨h1,h2⟩:=cN hc
  simp only[cq] at h
  obtain⟨zs,hz,he⟩:=h
  obtain⟨e,he'⟩:=DV.cz hz
  cases e
  obtain⟨rfl,rfl⟩:=he
  subst h2
  subst he'
  exact h1
 ·simp at h
def MF.ag (m:MF)(l:List (Nat×aa)):MF:=fun i=>match find l i with | some b=>some b|none=>m i
def xB (l:List (Nat×aa))(mem:Mem):find (app l mem)=MF.ag (find mem) l:=by
 funext i
 rw[cO]
 grind [MF.ag]
def MF.Ai (m:MF):m.ag []=m:=rfl
def MF.dG (m:MF)(n:Nat)(b:aa):m.ag [(n,b)]=m.put n b:=by
 funext i
 simp[MF.ag,MF.put,aF]
 by_cases h:n=i<;>simp[h,find]
def MF.pM (m:MF)(n:Nat)(b:aa)(l:List (Nat×aa)):m.ag ((n,b)::l)=(m.ag l).put n b:=by
 funext i
 simp[MF.ag,MF.put,aF]
 grind
def az (P:Program)(F:Fix)(o:Oper)(a:Act)(w:World)(m:MF)(I:Nat→Prop)(ρ:Pl)(d:aD):Prop:=
 ∀(K:Act→World→Prop) (Q:Exit→Act→World→Prop),
  (∀v w' I' ρ',aB F m (m.ag d.ag) w w' I I' ρ ρ'→aj w' I' (m.ag d.ag) ρ' d.av v→K (a.put o.dst v) w')→o.wp P a w K Q
section
variable {P:Program} {F:Fix} {C:Cx} {o:Oper} {a:Act} {w:World} {m:MF} {I:Nat→Prop} {ρ:Pl} {d:aD}
def az.value {av:AT}{ok:List Bool}{v:Value}(hm:aC F m w I ρ)(hr:(execOp a.eval o).run P w = .ok (.value v) w)(hs:aj w I m ρ av v) :
  az P F o a w m I ρ ⟨av,[],ok⟩:=by
 intro K Q h
 unfold Oper.wp
 rw[hr]
 exact h v w I ρ (aB.refl hm) hs
def az.world {v:Value}{w':World}{I':Nat→Prop}{ρ':Pl}(hr:(execOp a.eval o).run P w = .ok (.value v) w')(hd:aB F m (m.ag d.ag) w w' I I' ρ ρ')
  (hs:aj w' I' (m.ag d.ag) ρ' d.av v):az P F o a w m I ρ d:=by
 intro K Q h
 unfold Oper.wp
 rw[hr]
 exact h v w' I' ρ' hd hs
def az.skip {w':World}{I':Nat→Prop}{ρ':Pl}(hr:(execOp a.eval o).run P w = .ok .skip w')(hd:aB F m (m.ag d.ag) w w' I I' ρ ρ')
  (hs:d.av = .any):az P F o a w m I ρ d:=by
 intro K Q h
 unfold Oper.wp
 rw[hr]
 exact h Go.undef w' I' ρ' hd (by rw[hs];trivial)
def qV {t:Ty}{x:t.den}{v:Value}:aj w I m ρ (.leaf t x) v↔aG w I m ρ (.leaf t x) v:=Iff.rfl
def dD {k:IntKind}{n:Int}{v:Value}:aj w I m ρ (.leaf (.int k) n) v↔v = .int k n:=by
 rw[qV];simp[aG,AT.isAgg,Ty.isAgg,aq,af]
def f_ {b:Bool}{v:Value}:aj w I m ρ (.leaf .bool b) v↔v = .bool b:=by
 rw[qV];simp[aG,AT.isAgg,Ty.isAgg,aq,af]
def jF {s:List UInt8}{v:Value}:aj w I m ρ (.leaf .str s) v↔v = .string ⟨s.toArray⟩:=by
 rw[qV];simp[aG,AT.isAgg,Ty.isAgg,aq,af]
def cj {a:AT}{v:Value}(h:a.isAgg=false)(hs:aj w I m ρ a v)(hn:∀l r,a ≠ .bJ l r)(h1:a ≠ .dM)(h2:a ≠ .any)(h3:∀g b,a ≠ .bS g b):aq w I m ρ a [v]:=by
 simp_all [aj,aG]
def p7 {T:Nat}{x:AT}{v:Value}(h:aj w I m ρ x v):aj w I m ρ (C.co T x) v:=by
 unfold Cx.co
 cases x<;>try omega
 simp
 split
 ·exact h
 ·grind
def uF {x:Operand}{av:AT}(ho:o.op = .move x∨o.op = .assign x)(hm:aC F m w I ρ)(hx:aj w I m ρ av (a.eval x)):az P F o a w m I ρ ⟨C.co o.type av,[],[]⟩:=by
 refine az.value hm (v:=a.eval x) ?_ (p7 hx)
 rcases ho<;>simp_all [execOp]
def um {B:Nat}{pre mid post:List Value}{k:Nat}(hc:Cells w B (pre++mid++post))(hk:pre.length=k):∀j,j<mid.length→w.cell? ⟨B,k+j,none⟩=mid[j]? :=by
 intro j hj
 rw[hc.cell]
 grind
def rT {id st rs row:Nat}{fz:Bool}{t u:Ty}{xs:List t.den}{p:Path}(hm:aC F m w I ρ)(hb:m id=some ⟨st,fz,.deep rs t xs⟩)(hrow:row<xs.length)(hp:p.pairs=true)(hu:t.at p=some u) :
  ∃(B o:Nat) (cs rcs pre mid post:List Value) (D1 D2 B1 Bm B2:List Nat) (y:u.den),ρ id=some (B,o)∧Cells w B cs∧o+xs.length*t.size≤cs.length∧¬I B∧fz=false ∧
   ρ.d id=D1++(B1++Bm++B2)++D2∧rcs.length=t.size∧(∀j,j<t.size→w.cell? ⟨B,o+row*t.size+j,none⟩=rcs[j]?)∧AT.get p (.leaf t (xs.getD row t.dflt))=some (.leaf u y) ∧
   rcs=pre++mid++post∧pre.length=t.off p∧au w I u y mid Bm ∧
   ∀(w':World) (I':Nat→Prop) (z:u.den) (aL:List Value) (g_:List Nat),bH I I' w w'→(∀b∈D1++(B1++B2)++D2,w'.heap[b]?=w.heap[b]?∧(I' b→I b)) →
    (∀k,¬(o+row*t.size≤k∧k<o+row*t.size+t.size)→w'.cell? ⟨B,k,none⟩=w.cell? ⟨B,k,none⟩)→(∀j,j<t.size→w'.cell? ⟨B,o+row*t.size+j,none⟩=(pre++aL++post)[j]?)→au w' I' u z aL g_ →
    ∃x',(AT.set p (.leaf t (xs.getD row t.dflt)) (.leaf u z)).bind AT.pure=some ⟨t,x'⟩∧bE w' B t.size (au w' I' t) o (xs.set row x') (D1++(B1++g_++B2)++D2):=by
 have aA:=hm.aN id _ hb
 obtain⟨hfz,aA⟩:=aA
 rcases aA with⟨eF,_⟩|⟨B,o',cs,e3,e4,e5,e6,e7⟩
 ·subst eF;simp at hrow
 ·have hxr:xs[row]?=some (xs.getD row t.dflt):=by
   rw[zl26,zl27 hrow]
   rfl
  obtain⟨D1,Di,D2,rcs,f1,f2,f3,f4,f5⟩:=bE.split hxr e6
  obtain⟨y,pre,mid,post,B1,Bm,B2,g1,g2,g3,g4,g5,g6⟩:=au.part p hp hu f4
  subst g4
  refine⟨B,o',cs,rcs,pre,mid,post,D1,D2,B1,Bm,B2,y,e3,e4,e5,e7,hfz,f1,f2,f3,g1,g2,g3,g5,fun w' I' z aL g_ ha hs hc aI hz=>?_⟩
  obtain⟨x',k1,k2⟩:=g6 w' I' z aL g_ ha (fun b hb=>hs b (by simp at hb ⊢;rcases hb with hb|hb<;>simp[hb])) hz
  refine⟨x',k1,f5 w' (au w' I' t) x' (pre++aL++post) (B1++g_++B2) hc (fun x vs D hD h=>au.mono ha (fun b hb=>hs b (by have:=hD b hb;simp at this ⊢;rcases this with h|h<;>simp[h])) h) (by rw[au.length k2]) aI k2⟩
def xW {T:Nat}{x:Operand}{av:AT}(hC:bR P C)(ho:o.op = .load T x)(hm:aC F m w I ρ)(hx:aj w I m ρ av (a.eval x))(hd:sN C m T av=some d):az P F o a w m I ρ d:=by
 have fin:∀{B off:Nat} {u:Ty} {b:AT} {vs:List Value},a.eval x = .pointer (some ⟨B,off,none⟩)→bh P u T→Typed b u→aq w I m ρ b vs →
   (∀j,j<vs.length→w.cell? ⟨B,off+j,none⟩=vs[j]?)→az P F o a w m I ρ ⟨b,[],[]⟩:=by
  intro B off u b vs he hT ht hr hc
  refine az.value hm (v:=aQ u vs) ?_ ((gX ht).2 (aG.unpack ht hT hr))
  have:=hT.vZ (w:=w) (ht.length hr) hc
  simp[execOp,ho,Instr.loadAt,he,Instr.sureAddr,this]
 unfold sN at hd
 split at hd
 ·rename_i t y u hu
  have hT:=hC.ty hu
  cases hi:t.is u with
  |false=>simp[hi] at hd
  |true=>
   simp[hi] at hd
   subst hd
   have:=Ty.cX hi
   subst this
   have hx':=cj (a:=.leaf (.ref t) y) rfl hx (by simp) (by simp) (by simp) (by simp)
   obtain⟨B,off,e1,e2,e3,cs,e4,e5,e6⟩:=hx'
   exact fin (u:=t) (b:=.leaf t y) (by simpa using e1) hT rfl e6 (by rw[e4];exact e5)
 ·rename_i id st p u hu
  have hT:=hC.ty hu
  split at hd
  ·rename_i st' fz t at_ hc
   obtain⟨hb,hst⟩:=cN hc
   cases hi:dL (t.at p) u with
   |false=>simp[hi] at hd
   |true=>
    simp[hi] at hd
    split at hd
    ·rename_i b hg
     cases hd
     have hx':=cj (a:=.aR id st p) rfl hx (by simp) (by simp) (by simp) (by simp)
     obtain⟨_,_,h3⟩:=hx'
     obtain⟨e0,B,e1,e2⟩:=h3 _ hb hst t at_ rfl
     have aA:=hm.aN id _ hb
     obtain⟨ht,B',cs,e3,e4,e5,_⟩:=aA
     rw[e1] at e3
     cases e3
     obtain⟨f0,pre,mid,post,f1,f2,f3,f4⟩:=j9 p ht e5 e0 hg (iw hi)
     subst f1
     exact fin (by simpa using e2) hT f0 f4 (um e4 f2)
    ·simp at hd
  ·simp at hd
 ·rename_i id st row p u hu
  have hT:=hC.ty hu
  split at hd
  ·rename_i st' fz t xs hc
   obtain⟨hb,hst⟩:=cN hc
   cases hi:dL (t.at p) u with
   |false=>simp[hi] at hd
   |true=>
    simp[hi] at hd
    split at hd
    ·rename_i b hg
     cases hd
     have hx':=cj (a:=.ptr id st row p) rfl hx (by simp) (by simp) (by simp) (by simp)
     obtain⟨_,_,h3⟩:=hx'
     obtain⟨e0,kN,B,o',e1,e2⟩:=h3 _ hb hst t xs.length rfl
     have aA:=hm.aN id _ hb
     obtain⟨hsz,aA⟩:=aA
     rcases aA with⟨eF,_⟩|⟨B',de,cs,e3,e4,e5,e6,_⟩
     ·subst eF;simp at kN
     ·rw[e1] at e3
      cases e3
      have hxr:xs[row]?=some (xs.getD row t.dflt):=by
       rw[zl26,zl27 kN]
       rfl
      obtain⟨rs,g1,g2,g3⟩:=e6 row _ hxr
      obtain⟨f0,pre,mid,post,f1,f2,f3,f4⟩:=j9 (w:=w) (I:=I) (m:=m) (ρ:=ρ) p (a:=.leaf t (xs.getD row t.dflt)) rfl g3 e0 hg (iw hi)
      subst f1
      refine fin (by simpa using e2) hT f0 f4 fun j hj=>?_
      have:=g2 (t.off p+j) (by simp at g1;omega)
      rw[←iM] at this
      rw[this,cZ,gj (by omega),eM (by omega)]
      congr 1
      omega
    ·simp at hd
  ·rename_i st' fz rs t xs hc
   obtain⟨hb,hst⟩:=cN hc
   obtain⟨hi,hd⟩:=aU hd
   simp at hi
   obtain⟨hi1,hi2⟩:=hi
   have dJ:=iw hi1
   have hx':=cj (a:=.ptr id st row p) rfl hx (by simp) (by simp) (by simp) (by simp)
   obtain⟨_,_,h3⟩:=hx'
   obtain⟨e0,hrow,B,o',e1,e2⟩:=h3 _ hb hst t xs.length rfl
   obtain⟨B',de,cs,rcs,pre,mid,post,D1,D2,B1,Bm,B2,y,f1,f2,f3,f4,f5,f6,f7,f8,f9,f10,f11,f12,_⟩:=rT hm hb hrow hi2 dJ
   rw[e1] at f1
   cases f1
   have hml:=au.length f12
   have cV:∀j,j<u.size→w.cell? ⟨B,o'+row*t.size+t.off p+j,none⟩=mid[j]? :=by
    intro j hj
    have hl:rcs.length=t.off p+u.size+post.length:=by rw[f10,eY,eY,f11,hml]
    have:=f8 (t.off p+j) (by omega)
    rw[←iM] at this
    rw[this,f10,cZ,gj (by omega),eM (by omega)]
    congr 1
    omega
   cases hl:u.aV with
   |true=>
    rw[hl] at hd
    cases hd
    refine fin (by simpa using e2) hT (b:=.nest id st rs row p u) (vs:=mid) rfl ?_ (by rw[hml];exact cV)
    refine⟨hml,au.cB f12,cy.of hb hst,fun b hb' oG r t' xs' aI=>?_⟩
    rw[hb] at hb'
    cases hb'
    cases aI
    exact⟨bA _,fun _=>⟨dJ,hi2,hrow,B,o',e1,cV⟩⟩
   |false=>
    rw[hl] at hd
    simp only[f9] at hd
    cases hd
    exact fin (by simpa using e2) hT (b:=.leaf u y) (vs:=mid) rfl (au.rep hl f12).1 (by rw[hml];exact cV)
  ·simp at hd
 ·simp at hd
end
section
variable {P:Program} {F:Fix} {C:Cx} {o:Oper} {a:Act} {w:World} {m:MF} {I:Nat→Prop} {ρ:Pl} {d:aD}
def qw {k k':IntKind}(h:lO k k'=true):k=k':=by
 cases k<;>cases k'<;>first|rfl|grind [lO]
def uj (s:List UInt8):=ByteArray.toList_mk s
def yE {op:BinOp}{k:IntKind}{x y:Int}{T:Nat}(hd:oL op k x y=some d)(hok:∀b∈d.ok,b=true)(hsh:op ≠ .shl∧op ≠ .shr) :
  ∃t r,d=⟨.leaf t r,[],d.ok⟩∧∃v,aj w I m ρ (.leaf t r) v∧(binOp op T (.int k x) (.int k y)).run P w = .ok v w:=by
 cases op<;>simp[oL] at hd<;>subst hd
 case quo=>
  have hy:y≠0:=by simp_all
  exact⟨_,_,rfl,_,dD.2 rfl,by simp[binOp,Op.intDiv,hy]⟩
 case rem=>
  have hy:y≠0:=by simp_all
  exact⟨_,_,rfl,_,dD.2 rfl,by simp[binOp,Op.intDiv,hy]⟩
 all_goals first
  |exact⟨_,_,rfl,_,dD.2 rfl,by simp[binOp,Op.intArith,Op.intBits,pZ]⟩
  |exact⟨_,_,rfl,_,f_.2 rfl,by simp[binOp,Op.intCmp]⟩
def zY {op:BinOp}{x y:List UInt8}{T:Nat}(hd:tA op x y=some d)(hok:∀b∈d.ok,b=true) :
  ∃t r,d=⟨.leaf t r,[],d.ok⟩∧∃v,aj w I m ρ (.leaf t r) v∧(binOp op T (.string ⟨x.toArray⟩) (.string ⟨y.toArray⟩)).run P w = .ok v w:=by
 cases op<;>simp[tA] at hd<;>subst hd
 case add=>
  have hy:x.length+y.length≤eV:=by simp_all
  have jU:IntKind.i64.max=9223372036854775807:=rfl
  refine⟨_,_,rfl,_,jF.2 rfl,?_⟩
  have:¬(((x.length+y.length:Nat):Int)>IntKind.i64.max):=by unfold eV at hy;omega
  simp only[binOp,Op.stringOp]
  have hs:((ByteArray.size ⟨x.toArray⟩+ByteArray.size ⟨y.toArray⟩:Nat):Int)=((x.length+y.length:Nat):Int):=rfl
  rw[hs,cT this]
  rfl
 all_goals exact⟨_,_,rfl,_,f_.2 rfl,by simp[binOp,Op.stringOp]⟩
def rV {op:BinOp}{T:Nat}{x y:Operand}{k k':IntKind}{u v:Int}:(eqGuard op T x y (.int k u) (.int k' v)).run P w = .ok () w:=by
 cases op<;>rfl
def xx {op:BinOp}{T:Nat}{x y:Operand}{u v:ByteArray}:(eqGuard op T x y (.string u) (.string v)).run P w = .ok () w:=by
 cases op<;>rfl
def uB {op:BinOp}{T:Nat}{x y:Operand}{u v:Bool}:(eqGuard op T x y (.bool u) (.bool v)).run P w = .ok () w:=by
 cases op<;>rfl
def yg {op:UnOp}{T:Nat}{x:Operand}{av:AT}(ho:o.op = .unOp op T x)(hm:aC F m w I ρ)(hx:aj w I m ρ av (a.eval x))(hd:unD op av=some d) :
  az P F o a w m I ρ d:=by
 unfold unD at hd
 split at hd<;>simp[reduceCtorEq] at hd<;>subst hd
 ·have:=dD.1 hx
  exact az.value hm (by simp[execOp,ho,this,Op.unary,Op.intArith]) (dD.2 rfl)
 ·have:=dD.1 hx
  exact az.value hm (by simp[execOp,ho,this];rfl) (dD.2 (by simp[pZ]))
 ·have:=f_.1 hx
  exact az.value hm (by simp[execOp,ho,this,Op.unary]) (f_.2 rfl)
def Ty.nJ:∀(p q:Path) {t u:Ty},t.at p=some u→t.off (app p q)=t.off p+u.off q
 | [],q,t,u,h=>by simp_all [Ty.at,app,Ty.off]
 |.fst::p,q,t,u,h=>by
  cases t<;>simp[Ty.at] at h
  exact Ty.nJ p q h
 |.snd::p,q,t,u,h=>by
  cases t<;>simp[Ty.at] at h
  simp[app,Ty.off];rw[Ty.nJ p q h];omega
 |.idx i::p,q,t,u,h=>by
  cases t<;>simp[Ty.at] at h
  simp[app,Ty.off];rw[Ty.nJ p q h];omega
def dX.app:∀(p q:Path) {t u:Ty},t.at p=some u→dX p t→dX q u→dX (app p q) t
 | [],q,t,u,h,_,hq=>by simp[Ty.at] at h;subst h;trivial
 |.fst::p,q,t,u,h,hp,hq=>by
  cases t<;>simp[Ty.at] at h
  exact dX.app p q h hp hq
 |.snd::p,q,t,u,h,hp,hq=>by
  cases t<;>simp[Ty.at] at h
  exact dX.app p q h hp hq
 |.idx i::p,q,t,u,h,hp,hq=>by
  cases t<;>simp[Ty.at] at h
  exact⟨hp.1,dX.app p q h hp.2 hq⟩
def nM:∀(n:Nat) {t u:Ty},t.at (bF n)=some u→dX (bF n) t
 |0,t,u,h=>by cases t<;>simp[bF,Ty.at,reduceCtorEq] at h<;>exact trivial
 |n+1,t,u,h=>by
  cases t<;>simp[bF,Ty.at,reduceCtorEq] at h
  exact nM n h
def Addr.j6 (B k n:Nat):(⟨B,k,none⟩:Addr).add n=⟨B,k+n,none⟩:=by
 simp[Addr.add]
def tg {t u:Ty}{T n:Nat}{v:Value}{B k:Nat}(hT:bh P t T)(hu:t.at (bF n)=some u)(hsz:u.size≠0)(hv:v = .pointer (some ⟨B,k,none⟩)) :
  (Instr.fieldAt T v n).run P w = .ok (.pointer (some ⟨B,k+t.off (bF n),none⟩)) w:=by
 obtain⟨fs,f,h1,h2,h3,h4⟩:=hT.field hu
 simp_all [Instr.fieldAt,run_underlying,Instr.sureAddr,fieldPlace,h4.info.run_sizeOf,Addr.j6]
def gJ.pointer (x:Option Addr):gJ [Value.pointer x]:=⟨_,rfl,rfl⟩
end
section
variable {P:Program} {F:Fix} {C:Cx} {o:Oper} {a:Act} {w:World} {m:MF} {I:Nat→Prop} {ρ:Pl} {d:aD}
def j8:∀{x:AT} {t:Ty},x.fits t=true→Typed x t:=by
 intro x
 induction x with
 |leaf u y=>intro t h;exact(Ty.cX h).symm▸rfl
 |whole id st u=>intro t h;cases t<;>simp[AT.fits] at h<;>simp[Typed];rw[Ty.cX h]
 |piece id st off len u=>intro t h;cases t<;>simp[AT.fits] at h<;>simp[Typed];rw[Ty.cX h]
 |nil u=>intro t h;cases t<;>simp[AT.fits] at h<;>simp[Typed];rw[Ty.cX h]
 |pair l r ihl ihr=>
  intro t h
  cases t<;>simp only[AT.fits,reduceCtorEq] at h
  simp at h
  exact⟨_,_,rfl,ihl h.1,ihr h.2⟩
 |_=>intro t h;trivial
def v7 {T:Nat}{t:Ty}{xs:Array Value}{k:Nat}{v:Value}(hT:bh P t T)(ha:t.isAgg=false)(hx:xs[k]?=some v):(part T xs k).run P w = .ok v w:=by
 unfold part
 rw[Sem.run_bind,hT.qQ,ha]
 simp[hx]
def xw {d:Nat}:∀{t:Ty} {fs:List Field} {off:Nat} {pre pre' v1 v2:List Value} {x y:t.den},t.flat=true→dO P t fs off→(∀f∈fs,f.name ≠ "_")→af w I t x v1→af w I t y v2 →
  pre.length=off→pre'.length=off→(Op.eqFields (d+1) (pre++v1).toArray (pre'++v2).toArray fs).run P w = .ok (iQ t x y) w:=by
 intro t
 induction t with
 |unit=>
  intro fs off pre pre' v1 v2 x y _ hf _ _ _ _ _
  subst hf
  simp[Op.eqFields,iQ]
 |pair a b aO aK=>
  intro fs off pre pre' v1 v2 x y hfl hf hn h1 h2 hp hp'
  obtain⟨f,l,rfl,ho,hta,hl⟩:=hf
  obtain⟨a1,b1,rfl,ha1,cU⟩:=h1
  obtain⟨a2,b2,rfl,ha2,cE⟩:=h2
  have hname:=hn f me
  have hn':=fun g hg=>hn g (gZ _ hg)
  have key:∀(c1 c2:Value) (r:Bool),a.isAgg=false→a.size=1→a1 = [c1]→a2 = [c2]→b.flat=true→(Op.equalIn (d+1) f.type c1 c2).run P w = .ok r w →
    (Op.eqFields (d+1) (pre++(a1++b1)).toArray (pre'++(a2++b2)).toArray (f::l)).run P w = .ok (r&&iQ b x.2 y.2) w:=by
   intro c1 c2 r kP hsz e1 e2 hfb hr
   subst e1
   subst e2
   have p1:=v7 (w:=w) (xs:=(pre++([c1]++b1)).toArray) (k:=f.offset) (v:=c1) hta kP (by rw[ho];simp[←hp])
   have p2:=v7 (w:=w) (xs:=(pre'++([c2]++b2)).toArray) (k:=f.offset) (v:=c2) hta kP (by rw[ho];simp[←hp'])
   have eT:=aK (pre:=pre ++ [c1]) (pre':=pre' ++ [c2]) hfb hl hn' cU cE (by simp[hp,hsz]) (by simp[hp',hsz])
   simp only[Op.eqFields,hname,ne_eq,not_false_eq_true,fE,Sem.run_bind,p1,p2,hr,Result.andThen_ok]
   cases r with
   |true=>simpa using eT
   |false=>simp
  cases a with
  |int k=>
   have hu:=hta.2
   exact key _ _ _ rfl rfl ha1 ha2 (by simpa[Ty.flat] using hfl) (run_equalIn_int w d f.type k k _ _ hu)
  |bool=>
   have hu:=hta.2
   exact key _ _ _ rfl rfl ha1 ha2 (by simpa[Ty.flat] using hfl) (run_equalIn_bool' w d f.type _ _ hu)
  |str=>
   have hu:=hta.2
   refine key _ _ _ rfl rfl ha1 ha2 (by simpa[Ty.flat] using hfl) ?_
   rw[run_equalIn_string w d f.type _ _ hu,uj,uj]
   rfl
  |_=>simp[Ty.flat] at hfl
 |_=>intro fs off pre pre' v1 v2 x y hfl;simp[Ty.flat] at hfl
def xP {op:BinOp}{T T2:Nat}{x y:Operand}{ax ay:AT}(hC:bR P C)(ho:o.op = .binOp op T x y T2)(hm:aC F m w I ρ)(hx:aj w I m ρ ax (a.eval x))(hy:aj w I m ρ ay (a.eval y))
  (hd:(match ow op,C.eqt T with
  |some n,some t=>bif t.flat&&ax.fits t&&ay.fits t then
   match ax.pure,ay.pure with
   |some d,some e=>match d.as t,e.as t with
    |some p,some q=>some ⟨.leaf .bool (bif n then !iQ t p q else iQ t p q),[],[]⟩
    |_,_=>none
   |_,_=>none
   else none
  |_,_=>(none:Option aD))=some d):az P F o a w m I ρ d:=by
 split at hd
 ·rename_i n t hn ht
  obtain⟨hc,hd⟩:=aU hd
  simp at hc
  obtain⟨⟨hfl,hfx⟩,hfy⟩:=hc
  split at hd
  ·rename_i d1 d2 hp1 hp2
   split at hd
   ·rename_i p q hq1 hq2
    cases hd
    have:=cz hq1
    subst this
    have:=cz hq2
    subst this
    obtain⟨hT,hE⟩:=hC.eqt ht
    have t1:=j8 hfx
    have t2:=j8 hfy
    obtain⟨c1,e1,r1⟩:=aG.pack t1 ((gX t1).1 hx)
    obtain⟨c2,e2,r2⟩:=aG.pack t2 ((gX t2).1 hy)
    have s1:=o_ hp1 r1
    have s2:=o_ hp2 r2
    have kP:t.isAgg=true:=by cases t<;>first|rfl|simp[Ty.flat] at hfl
    obtain⟨fs,hu,hfs⟩:∃fs,P.underlying T=some (.struct fs)∧dO P t fs.toList 0:=by
     cases t with
     |unit=>obtain⟨_,fs,h1,h2⟩:=hT;exact⟨fs,h1,h2⟩
     |pair a b=>obtain⟨_,fs,h1,f,l,h2,h3,h4,h5⟩:=hT;exact⟨fs,h1,⟨f,l,h2,h3,h4,by simpa using h5⟩⟩
     |_=>simp[Ty.flat] at hfl
    have hfo:P.fieldsOf T=fs:=by simp[Program.fieldsOf,hu]
    have hrun:=xw (P:=P) (w:=w) (I:=I) (d:=9998) (pre:=[]) (pre':=[]) (x:=p) (y:=q) hfl hfs (by rw[←hfo];exact hE.names) s1 s2 rfl rfl
    have heq:(Op.equalIn 10000 T (.agg c1.toArray) (.agg c2.toArray)).run P w = .ok (iQ t p q) w:=by
     rw[run_equalIn_agg w 9999 T _ _ (by rw[hfo];exact hu) hE.held,hfo]
     exact hrun
    have g1:a.eval x = .agg c1.toArray:=by rw[e1];simp[aQ,kP]
    have g2:a.eval y = .agg c2.toArray:=by rw[e2];simp[aQ,kP]
    have hgd:=run_eqGuard_agg (P:=P) w op T x y c1.toArray c2.toArray hE.guard
    cases op with
    |eql=>
     simp[ow] at hn
     subst hn
     have hb:(binOp .eql T (.agg c1.toArray) (.agg c2.toArray)).run P w = .ok (.bool (iQ t p q)) w:=by rw[run_eql_struct,heq];rfl
     exact az.value hm (by simp[execOp,ho,g1,g2,hgd,hb]) (f_.2 rfl)
    |neq=>
     simp[ow] at hn
     subst hn
     have hb:(binOp .neq T (.agg c1.toArray) (.agg c2.toArray)).run P w = .ok (.bool (!iQ t p q)) w:=by
      have h0:binOp .neq T (.agg c1.toArray) (.agg c2.toArray)=(do pure (.bool (!(←Op.equal T (.agg c1.toArray) (.agg c2.toArray))))):=rfl
      rw[h0,Sem.run_bind]
      have:(Op.equal T (.agg c1.toArray) (.agg c2.toArray)).run P w = .ok (iQ t p q) w:=heq
      rw[this]
      rfl
     exact az.value hm (by simp[execOp,ho,g1,g2,hgd,hb]) (f_.2 rfl)
    |_=>simp[ow] at hn
   ·cases hd
  ·cases hd
 ·cases hd
end
section
variable {P:Program} {F:Fix} {C:Cx} {o:Oper} {a:Act} {w:World} {m:MF} {I:Nat→Prop} {ρ:Pl} {d:aD}
def xF {op:BinOp}{T T2:Nat}{x y:Operand}{ax ay:AT}(hC:bR P C)(ho:o.op = .binOp op T x y T2)(hm:aC F m w I ρ)(hx:aj w I m ρ ax (a.eval x))(hy:aj w I m ρ ay (a.eval y))
  (hd:binD C T op ax ay=some d) (hok:∀b∈d.ok,b=true):az P F o a w m I ρ d:=by
 unfold binD at hd
 split at hd
 ·simp at hd
  subst hd
  have e1:=dD.1 hx
  have e2:=dD.1 hy
  have h0:=by simpa using hok
  have:=Int.not_lt.mpr h0
  exact az.value hm (by simp[execOp,ho,e1,e2,rV,binOp,Op.shift,this]) (dD.2 rfl)
 ·simp at hd
  subst hd
  have e1:=dD.1 hx
  have e2:=dD.1 hy
  have h0:=by simpa using hok
  have:=Int.not_lt.mpr h0
  exact az.value hm (by simp[execOp,ho,e1,e2,rV,binOp,Op.shift,this]) (dD.2 rfl)
 ·rename_i k p k' q hn1 hn2
  cases hk:lO k k' with
  |false=>simp[hk] at hd
  |true=>
   simp[hk] at hd
   have:=qw hk
   subst this
   have e1:=dD.1 hx
   have e2:=dD.1 hy
   obtain⟨t,r,hdd,v,hv,hr⟩:=yE (m:=m) (I:=I) (ρ:=ρ) (w:=w) (P:=P) (T:=T) hd hok ⟨by rintro rfl;simp[oL] at hd,by rintro rfl;simp[oL] at hd⟩
   rw[hdd]
   exact az.value hm (by simp[execOp,ho,e1,e2,rV,hr]) hv
 ·have e1:=jF.1 hx
  have e2:=jF.1 hy
  obtain⟨t,r,hdd,v,hv,hr⟩:=zY (m:=m) (I:=I) (ρ:=ρ) (w:=w) (P:=P) (T:=T) hd hok
  rw[hdd]
  exact az.value hm (by simp[execOp,ho,e1,e2,xx,hr]) hv
 ·cases hi:dL (C.ty T) .bool with
  |false=>simp[hi] at hd
  |true=>
   simp[hi] at hd
   subst hd
   have hT:=hC.ty (iw hi)
   have e1:=f_.1 hx
   have e2:=f_.1 hy
   exact az.value hm (by simp[execOp,ho,e1,e2,uB,run_eql_bool _ _ _ _ hT.2]) (f_.2 rfl)
 ·cases hi:dL (C.ty T) .bool with
  |false=>simp[hi] at hd
  |true=>
   simp[hi] at hd
   subst hd
   have hT:=hC.ty (iw hi)
   have e1:=f_.1 hx
   have e2:=f_.1 hy
   exact az.value hm (by simp[execOp,ho,e1,e2,uB,run_neq_bool _ _ _ _ hT.2]) (f_.2 rfl)
 ·exact xP hC ho hm hx hy hd
def xS {T n:Nat}{x:Operand}{ax:AT}(hC:bR P C)(ho:o.op = .fieldAddr T x n)(hm:aC F m w I ρ)(hx:aj w I m ρ ax (a.eval x))
  (hd:lG C m T ax n=some d):az P F o a w m I ρ d:=by
 unfold lG at hd
 split at hd
 ·rename_i t y u hu
  have hT:=hC.ty hu
  cases hi:t.is u with
  |false=>simp[hi] at hd
  |true=>
   simp[hi] at hd
   have:=Ty.cX hi
   subst this
   split at hd
   ·rename_i v' s z fJ hg
    cases hs:Nat.ble 1 v'.size with
    |false=>simp[hs] at hd
    |true=>
     simp[hs] at hd
     subst hd
     have hsz:=fc hs
     have hx':=cj (a:=.leaf (.ref t) y) rfl hx (by simp) (by simp) (by simp) (by simp)
     simp[aq,af] at hx'
     obtain⟨B,off,e1,e2,e3,cs,e4,e5,e6⟩:=hx'
     obtain⟨f0,pre,mid,post,f1,f2,f3,f4⟩:=j9 (w:=w) (I:=I) (m:=m) (ρ:=ρ) (bF n) (a:=.leaf t y) rfl e6 (nM n fJ) hg fJ
     subst f0
     refine az.value hm (v:=.pointer (some ⟨B,off+t.off (bF n),none⟩)) ?_ ?_
     ·have:=tg (w:=w) hT fJ (by omega) e1
      simp[execOp,ho,this]
     ·refine⟨B,_,rfl,e2,by omega,mid,f3,fun j hj=>?_,f4⟩
      have:=e5 (t.off (bF n)+j) (by rw[←e4,f1];simp;omega)
      rw[←iM] at this
      rw[this,f1,cZ,gj (by omega),eM (by omega)]
      congr 1
      omega
   ·simp at hd
 ·rename_i id st p u hu
  have hT:=hC.ty hu
  split at hd
  ·rename_i st' fz t at_ hc
   obtain⟨hb,hst⟩:=cN hc
   cases hi:dL (t.at p) u&&kC (u.at (bF n)) with
   |false=>simp[hi] at hd
   |true=>
    simp[hi] at hd
    subst hd
    simp at hi
    have dJ:=iw hi.1
    cases fJ:u.at (bF n) with
    |none=>simp[fJ,kC] at hi
    |some v'=>
     have hsz:=fc (by simpa[fJ,kC] using hi.2)
     have hx':=cj (a:=.aR id st p) rfl hx (by simp) (by simp) (by simp) (by simp)
     obtain⟨_,_,h3⟩:=hx'
     obtain⟨e0,B,e1,e2⟩:=h3 _ hb hst t at_ rfl
     refine az.value hm (v:=.pointer (some ⟨B,t.off (app p (bF n)),none⟩)) ?_ ?_
     ·have:=tg (w:=w) hT fJ (by omega) (by simpa using e2)
      simp[execOp,ho,this,Ty.nJ p (bF n) dJ]
     ·refine⟨gJ.pointer _,cy.of hb hst,fun b hb' hs t' a' aI=>?_⟩
      rw[hb] at hb'
      cases hb'
      cases aI
      exact⟨dX.app p (bF n) dJ e0 (nM n fJ),B,e1,rfl⟩
  ·simp at hd
 ·rename_i id st row p u hu
  have hT:=hC.ty hu
  have key:∀{st':Nat} {fz:Bool} {c:BC} {t:Ty} {k:Nat},cur m id st=some ⟨st',fz,c⟩→c.arr=some (t,k)→(bif dL (t.at p) u&&kC (u.at (bF n)) then some (⟨.ptr id st row (app p (bF n)),[],[]⟩:aD) else none)=some d→az P F o a w m I ρ d:=by
   intro st' fz c t k hc cA hd
   obtain⟨hb,hst⟩:=cN hc
   cases hi:dL (t.at p) u&&kC (u.at (bF n)) with
   |false=>simp[hi] at hd
   |true=>
    simp[hi] at hd
    subst hd
    simp at hi
    have dJ:=iw hi.1
    cases fJ:u.at (bF n) with
    |none=>simp[fJ,kC] at hi
    |some v'=>
     have hsz:=fc (by simpa[fJ,kC] using hi.2)
     have hx':=cj (a:=.ptr id st row p) rfl hx (by simp) (by simp) (by simp) (by simp)
     obtain⟨_,_,h3⟩:=hx'
     obtain⟨e0,kN,B,o',e1,e2⟩:=h3 _ hb hst t k cA
     refine az.value hm (v:=.pointer (some ⟨B,o'+row*t.size+t.off (app p (bF n)),none⟩)) ?_ ?_
     ·have:=tg (w:=w) hT fJ (by omega) (by simpa using e2)
      simp[execOp,ho,this,Ty.nJ p (bF n) dJ,iM]
     ·refine⟨gJ.pointer _,cy.of hb hst,fun b hb' hs t' a' aI=>?_⟩
      rw[hb] at hb'
      cases hb'
      rw[cA] at aI
      cases aI
      exact⟨dX.app p (bF n) dJ e0 (nM n fJ),kN,B,o',e1,rfl⟩
  split at hd
  ·rename_i st' fz t xs hc
   exact key hc rfl hd
  ·rename_i st' fz rs t xs hc
   exact key hc rfl hd
  ·simp at hd
 ·simp at hd
def xR {T n:Nat}{x:Operand}{ax:AT}(hC:bR P C)(ho:o.op = .field T x n)(hm:aC F m w I ρ)(hx:aj w I m ρ ax (a.eval x))
  (hd:rY C T ax n=some d):az P F o a w m I ρ d:=by
 unfold rY at hd
 split at hd
 ·rename_i t ht
  have hT:=hC.ty ht
  cases hf:ax.fits t with
  |false=>simp[hf] at hd
  |true=>
   simp[hf] at hd
   have aW:=j8 hf
   split at hd
   ·rename_i u b hu hg
    cases hd
    obtain⟨vs,hv,hvs⟩:=aG.pack aW ((gX aW).1 hx)
    obtain⟨fs,f,h1,h2,h3,h4⟩:=hT.field hu
    obtain⟨f0,pre,mid,post,f1,f2,f3,f4⟩:=j9 (bF n) aW hvs (nM n hu) hg hu
    have kP:t.isAgg=true:=by
     cases t<;>first|rfl|(cases n<;>simp[bF,Ty.at] at hu)
    refine az.value hm (v:=aQ u mid) ?_ ((gX f0).2 (aG.unpack f0 h4 f4))
    have hpart:(part f.type vs.toArray f.offset).run P w = .ok (aQ u mid) w:=by
     unfold part
     rw[Sem.run_bind,h4.qQ]
     cases ha:u.isAgg with
     |true=>
      have:vs.toArray.extract f.offset (f.offset+u.size)=mid.toArray:=by
       rw[f1,h3,←f2,←f3]
       simp
      simp only[fE,Sem.run_bind,h4.info.run_sizeOf,Result.andThen_ok,Sem.run_pure,aQ,ha,this]
     |false=>
      have hs:=Ty.qS h4 ha
      obtain⟨v,rfl⟩:∃v,mid = [v]:=by
       match mid,f3 with
       | [v],_=>exact⟨v,rfl⟩
       | [],hl=>simp[hs] at hl
       |_::_::_,hl=>simp[hs] at hl
      have:vs.toArray[f.offset]?=some v:=by
       rw[f1,h3,←f2]
       simp
      simp[aQ,ha,this]
    simp[execOp,ho,hv,aQ,kP,Instr.field,run_underlying h1,h2,asAgg]
    rw[hpart]
    simp[aQ]
   ·simp at hd
 ·simp at hd
end
section
variable {P:Program} {F:Fix} {C:Cx} {o:Oper} {a:Act} {w:World} {m:MF} {I:Nat→Prop} {ρ:Pl} {d:aD}
def js {x:AT}{n:Int}{v:Value}(h:gS x=some n)(hs:aj w I m ρ x v):∃k,v = .int k n:=by
 unfold gS at h
 split at h
 ·cases h
  exact⟨_,dD.1 hs⟩
 ·simp at h
def nk {α:Type}{xs:List α}{i:Nat}{z:α}(h:i<xs.length):xs[i]?=some (xs.getD i z):=by
 grind
def run_indexAt_slice {T E:Nat}{t:Ty}{B off len cap:Nat}{k:IntKind}{i:Int}(hu:P.underlying T=some (.slice E))(hE:bh P t E)(h0:0≤i)(h1:i<len) :
  (Instr.indexAt T (.slice (some ⟨B,off,none⟩) len cap) (.int k i)).run P w = .ok (.pointer (some ⟨B,off+i.toNat*t.size,none⟩)) w:=by
 simp_all [Instr.indexAt,asIntOf,run_underlying,hE.info.run_sizeOf,Addr.j6]
def vY {T E n:Nat}{t:Ty}{B off:Nat}{k:IntKind}{i:Int}(hu:P.underlying T=some (.array n E))(hE:bh P t E)(h0:0≤i)(h1:i<n) :
  (Instr.indexAt T (.pointer (some ⟨B,off,none⟩)) (.int k i)).run P w = .ok (.pointer (some ⟨B,off+i.toNat*t.size,none⟩)) w:=by
 simp_all [Instr.indexAt,asIntOf,run_underlying,Instr.sureAddr,hE.info.run_sizeOf,Addr.j6]
def jI {t:Ty}{T:Nat}(h:bh P (.lst t) T):∃E,P.underlying T=some (.slice E)∧0<t.size∧bh P t E:=by
 grind [bh,TO]
def tE {t:Ty}{n T:Nat}(h:bh P (.arr n t) T):∃E,P.underlying T=some (.array n E)∧1<n∧(∃k,t = .int k)∧bh P t E:=by
 grind [bh,TO]
def yj {id st:Nat}{t:Ty}{fz:Bool}{xs:List t.den}{v:Value}(hx:aj w I m ρ (.whole id st t) v)(hr:rowsOf m id st t=some (fz,xs)) :
  ∃ad cap,v = .slice ad xs.length cap∧xs.length≤cap∧iN w ρ id t.size 0 ad cap:=by
 have hb:=gW hr
 have hx':=cj (a:=.whole id st t) rfl hx (by simp) (by simp) (by simp) (by simp)
 obtain⟨_,_,h3⟩:=hx'
 obtain⟨ad,cap,e1,e2,e3⟩:=h3 _ hb rfl t xs.length rfl
 exact⟨ad,cap,by grind,e2,e3.weak⟩
def uJ {id st:Nat}{t:Ty}{fz:Bool}{xs:List t.den}{v:Value}(hx:aj w I m ρ (.whole id st t) v)(hr:rowsOf m id st t=some (fz,xs)) :
  ∃ad cap,v = .slice ad xs.length cap∧xs.length≤cap∧fP w ρ id t.size ad cap:=by
 have hb:=gW hr
 have hx':=cj (a:=.whole id st t) rfl hx (by simp) (by simp) (by simp) (by simp)
 obtain⟨_,_,h3⟩:=hx'
 obtain⟨ad,cap,e1,e2,e3⟩:=h3 _ hb rfl t xs.length rfl
 grind
def nr {id st off len:Nat}{t:Ty}{fz:Bool}{xs:List t.den}{v:Value}(hx:aj w I m ρ (.piece id st off len t) v)(hr:rowsOf m id st t=some (fz,xs)) :
  ∃ad cap,v = .slice ad len cap∧len≤cap∧(off+len≤xs.length∧xs.length≤off+cap)∧iN w ρ id t.size off ad cap:=by
 have hb:=gW hr
 have hx':=cj (a:=.piece id st off len t) rfl hx (by simp) (by simp) (by simp) (by simp)
 obtain⟨_,_,h3⟩:=hx'
 obtain⟨ad,cap,e1,e2,e3,e4⟩:=h3 _ hb rfl t xs.length rfl
 grind
def uX {id st:Nat}{t:Ty}{xs:List t.den}(h:gU m id st t=some xs):(∃fz,m id=some ⟨st,fz,.rows t xs⟩)∨∃fz rs,m id=some ⟨st,fz,.deep rs t xs⟩:=by
 unfold gU at h
 split at h
 ·rename_i st' fz u ys hc
  obtain⟨hb,hst⟩:=cN hc
  obtain⟨e,he⟩:=DV.cz h
  simp at e
  subst e
  subst he hst
  exact .inl ⟨fz,hb⟩
 ·rename_i st' fz rs u ys hc
  obtain⟨hb,hst⟩:=cN hc
  obtain⟨e,he⟩:=DV.cz h
  simp at e
  subst e
  subst he hst
  exact .inr ⟨fz,rs,hb⟩
 ·simp at h
def nv {id st:Nat}{t:Ty}{xs:List t.den}(h:gU m id st t=some xs):∃b,m id=some b∧b.st=st∧b.c.arr=some (t,xs.length):=by
 rcases uX h with⟨fz,h⟩|⟨fz,rs,h⟩
 ·exact⟨_,h,rfl,rfl⟩
 ·exact⟨_,h,rfl,rfl⟩
def nt {id st n:Nat}{t u:Ty}{b:aa}{v:Value}(hx:aj w I m ρ (.whole id st u) v)(hb:m id=some b)(hst:b.st=st)(ha:b.c.arr=some (t,n)) :
  ∃ad cap,v = .slice ad n cap∧n≤cap∧fP w ρ id t.size ad cap:=by
 have hx':=cj (a:=.whole id st u) rfl hx (by simp) (by simp) (by simp) (by simp)
 simp[aq] at hx'
 grind
def wj {id st row n:Nat}{t:Ty}{b:aa}{B o':Nat}(hb:m id=some b)(hst:b.st=st)(ha:b.c.arr=some (t,n))(hρ:ρ id=some (B,o'))(hr:row<n) :
  aj w I m ρ (.ptr id st row []) (.pointer (some ⟨B,o'+row*t.size,none⟩)):=by
 refine⟨gJ.pointer _,cy.of hb hst,fun b' hb' hs t' a' aI=>?_⟩
 rw[hb] at hb'
 cases hb'
 rw[ha] at aI
 cases aI
 exact⟨trivial,hr,B,o',hρ,rfl⟩
def zV {id st row:Nat}{t:Ty}{fz:Bool}{xs:List t.den}{B o':Nat}(hb:m id=some ⟨st,fz,.rows t xs⟩)(hρ:ρ id=some (B,o'))(hr:row<xs.length) :
  aj w I m ρ (.ptr id st row []) (.pointer (some ⟨B,o'+row*t.size,none⟩)):=wj hb rfl rfl hρ hr
def xU {T:Nat}{x ix:Operand}{ax ai:AT}{i:Int}(hC:bR P C)(ho:o.op = .indexAddr T x ix)(hm:aC F m w I ρ)(hx:aj w I m ρ ax (a.eval x))(hi:aj w I m ρ ai (a.eval ix))
  (hin:gS ai=some i) (hd:lM C m T ax i=some d) (hok:∀b∈d.ok,b=true):az P F o a w m I ρ d:=by
 obtain⟨k,hik⟩:=js hin hi
 unfold lM at hd
 split at hd
 ·rename_i t xs u hu
  have hT:=hC.ty hu
  cases bG:t.is u with
  |false=>simp[bG] at hd
  |true=>
   simp[bG] at hd
   subst hd
   have:=Ty.cX bG
   subst this
   simp at hok
   obtain⟨E,h1,h2,h3⟩:=jI hT
   have hx':=cj (a:=.leaf (.lst t) xs) rfl hx (by simp) (by simp) (by simp) (by simp)
   simp[aq,af] at hx'
   obtain⟨ad,cap,e1,e2,e3⟩:=hx'
   have hlt:i.toNat<xs.length:=by omega
   rcases e3 with e3|⟨B,off,e3,e4,e5⟩
   ·subst e3;simp at hlt
   ·subst e3
    refine az.value hm (v:=.pointer (some ⟨B,off+i.toNat*t.size,none⟩)) (by simp[execOp,ho,e1,hik,run_indexAt_slice h1 h3 hok.1 hok.2]) ?_
    obtain⟨cs,f1,f2,f3⟩:=e5 i.toNat _ (nk (z:=t.dflt) hlt)
    exact⟨B,_,rfl,e4,h2,cs,f1,f2,f3⟩
 ·rename_i id st t u hu
  have hT:=hC.ty hu
  cases bG:t.is u with
  |false=>simp[bG] at hd
  |true=>
   simp[bG] at hd
   have:=Ty.cX bG
   subst this
   split at hd
   ·rename_i xs hr
    cases hd
    simp at hok
    obtain⟨E,h1,h2,h3⟩:=jI hT
    obtain⟨b,hb,hst,cA⟩:=nv hr
    obtain⟨ad,cap,e1,e2,e3⟩:=nt hx hb hst cA
    rcases e3 with e3|⟨B,o',cs,e3,e4,e5,e6⟩
    ·omega
    ·subst e4
     refine az.value hm (v:=.pointer (some ⟨B,o'+i.toNat*t.size,none⟩)) (by simp[execOp,ho,e1,hik,run_indexAt_slice h1 h3 hok.1 hok.2]) ?_
     exact wj hb hst cA e3 (by omega)
   ·simp at hd
 ·rename_i id st off len t u hu
  have hT:=hC.ty hu
  cases bG:t.is u with
  |false=>simp[bG] at hd
  |true=>
   simp[bG] at hd
   have:=Ty.cX bG
   subst this
   split at hd
   ·rename_i r hr
    cases hd
    simp at hok
    obtain⟨E,h1,h2,h3⟩:=jI hT
    obtain⟨ad,cap,e1,e2,e20,e3⟩:=nr hx hr
    rcases e3 with e3|⟨B,o',cs,e3,e4,e5,e6⟩
    ·omega
    ·subst e4
     refine az.value hm (v:=.pointer (some ⟨B,o'+(off+i.toNat)*t.size,none⟩)) (by simp[execOp,ho,e1,hik,run_indexAt_slice h1 h3 hok.1 hok.2,cC,iM]) ?_
     exact zV (gW hr) e3 (by omega)
   ·simp at hd
 ·rename_i n t xs n' u hu
  have hT:=hC.ty hu
  cases bG:Nat.beq n n'&&t.is u with
  |false=>simp[bG] at hd
  |true=>
   simp[bG] at hd
   subst hd
   simp only[bB] at bG
   have:=dH bG.1
   subst this
   have:=Ty.cX bG.2
   subst this
   simp at hok
   obtain⟨E,h1,h2,⟨k',h20⟩,h3⟩:=tE hT
   have hx':=cj (a:=.leaf (.ref (.arr n t)) xs) rfl hx (by simp) (by simp) (by simp) (by simp)
   simp[aq,af] at hx'
   obtain⟨B,off,e1,e2,e3,cs,e4,e5,e6,e7⟩:=hx'
   have hlt:i.toNat<xs.length:=by omega
   refine az.value hm (v:=.pointer (some ⟨B,off+i.toNat*t.size,none⟩)) (by simp[execOp,ho,e1,hik,vY h1 h3 hok.1 hok.2]) ?_
   obtain⟨pre,mid,post,f1,f2,f3,_⟩:=aT.split (fun x vs h=>af.length h) e7 (nk (z:=t.dflt) hlt)
   have hml:=af.length f3
   refine⟨B,_,rfl,e2,by subst h20;simp[Ty.size],mid,hml,fun j hj=>?_,f3⟩
   have:=e5 (i.toNat*t.size+j) (by rw[←e4,f1];simp;omega)
   rw[←iM] at this
   rw[this,f1,cZ,gj (by omega),eM (by omega)]
   congr 1
   omega
 ·rename_i id st p n u hu
  have hT:=hC.ty hu
  split at hd
  ·rename_i st' fz t at_ hc
   obtain⟨hb,hst⟩:=cN hc
   cases bG:dL (t.at p) (.arr n u) with
   |false=>simp[bG] at hd
   |true=>
    simp[bG] at hd
    subst hd
    have dJ:=iw bG
    simp at hok
    obtain⟨E,h1,h2,_,h3⟩:=tE hT
    have hx':=cj (a:=.aR id st p) rfl hx (by simp) (by simp) (by simp) (by simp)
    obtain⟨_,_,h3'⟩:=hx'
    obtain⟨e0,B,e1,e2⟩:=h3' _ hb hst t at_ rfl
    simp at e2
    refine az.value hm (v:=.pointer (some ⟨B,t.off p+i.toNat*u.size,none⟩)) (by simp[execOp,ho,e2,hik,vY h1 h3 hok.1 hok.2]) ?_
    refine⟨gJ.pointer _,cy.of hb hst,fun b hb' hs t' a' aI=>?_⟩
    rw[hb] at hb'
    cases hb'
    cases aI
    exact⟨dX.app p [.idx i.toNat] dJ e0 ⟨by omega,trivial⟩,B,e1,by rw[Ty.nJ p _ dJ];simp[Ty.off]⟩
  ·simp at hd
 ·simp at hd
def xT {T:Nat}{x ix:Operand}{ax ai:AT}{i:Int}(hC:bR P C)(ho:o.op = .index T x ix)(hm:aC F m w I ρ)(hx:aj w I m ρ ax (a.eval x))(hi:aj w I m ρ ai (a.eval ix))
  (hin:gS ai=some i) (hd:sI C T ax i=some d) (hok:∀b∈d.ok,b=true):az P F o a w m I ρ d:=by
 obtain⟨k,hik⟩:=js hin hi
 unfold sI at hd
 split at hd
 ·rename_i s hu
  have hT:=hC.ty hu
  cases hd
  simp at hok
  have e1:=jF.1 hx
  have hlt:i.toNat<s.length:=by omega
  have mG:(⟨s.toArray⟩:ByteArray)[i.toNat]?=some (s.getD i.toNat 0):=by
   have:=by simpa using hlt
   rw[getElem?_pos (⟨s.toArray⟩:ByteArray) i.toNat this]
   congr 1
   show s.toArray[i.toNat]=_
   simp[hlt]
  refine az.value hm (v:=.int .u8 (s.getD i.toNat 0).toNat) ?_ (dD.2 rfl)
  simp[execOp,ho,e1,hik,Instr.index,asIntOf,run_underlying hT.2,hok.1,mG]
 ·rename_i n k1 xs n' k2 hu
  have hT:=hC.ty hu
  cases bG:Nat.beq n n'&&lO k1 k2 with
  |false=>simp[bG] at hd
  |true=>
   simp[bG] at hd
   subst hd
   simp only[bB] at bG
   have:=dH bG.1
   subst this
   have:=qw bG.2
   subst this
   simp at hok
   obtain⟨E,h1,h2,_,h3⟩:=tE hT
   have hx':=hx
   obtain⟨arr,e1,e2,e3⟩:=hx'
   have hlt:i.toNat<xs.length:=by omega
   obtain⟨pre,mid,post,f1,f2,f3,_⟩:=aT.split (n:=1) (fun x vs h=>by rw[h];rfl) e3 (nk (z:=(0:Int)) hlt)
   subst f3
   have hpart:(part E arr (i.toNat*(Ty.int k1).size)).run P w = .ok (.int k1 (xs.getD i.toNat 0)) w:=by
    unfold part
    rw[Sem.run_bind,h3.qQ]
    have:arr[i.toNat]?=some (.int k1 (xs.getD i.toNat 0)):=by
     have:arr=(pre ++ [Value.int k1 (xs.getD i.toNat 0)]++post).toArray:=by apply j0;simpa using f1
     rw[this]
     simp[f2]
    simp[Ty.isAgg,Ty.size,this]
   refine az.value hm (v:=.int k1 (xs.getD i.toNat 0)) ?_ (dD.2 rfl)
   have h0':=hok
   simp[execOp,ho,e1,hik,Instr.index,asIntOf,run_underlying h1,h0',h3.info.run_sizeOf]
   rw[hpart]
   rfl
 ·simp at hd
end
end Go.Ab
