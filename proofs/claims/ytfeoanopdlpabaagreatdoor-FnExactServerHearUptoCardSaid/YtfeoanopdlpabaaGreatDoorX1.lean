import GoSem.Core.Code
import GoSem.Core.View
import GoSem.Op.String
import GoSem.Dispatch
import Derived.Calls
import Derived.Orders
import Derived.Laws.CopyRow
import Derived.Laws.AppendOwn
import Derived.Laws.OwnMore
import Derived.Laws.MakeOwn
import Derived.Laws.Rows
import Derived.Tactics
import Derived.Laws.StructEq
import Derived.Laws.Small
import Derived.Laws.Strings
namespace Go.Ab
inductive Ty where
 |unit|bool|int (k:IntKind)|str
 |lst (t:Ty)|own (t:Ty)|pair (a b:Ty)|arr (n:Nat) (t:Ty)|ref (t:Ty)
 deriving DecidableEq,Repr,Inhabited
@[reducible] def Ty.den:Ty→Type
 |.unit=>Unit
 |.bool=>Bool
 |.int _=>Int
 |.str=>List UInt8
 |.lst t=>List t.den
 |.own t=>List t.den
 |.pair a b=>a.den×b.den
 |.arr _ t=>List t.den
 |.ref t=>t.den
def Ty.size:Ty→Nat
 |.unit=>0
 |.pair a b=>a.size+b.size
 |.arr n t=>n*t.size
 |_=>1
def Ty.dflt:(t:Ty)→t.den
 |.unit=>()
 |.bool=>false
 |.int _=>0
 |.str=>[]
 |.lst _=>[]
 |.own _=>[]
 |.pair a b=>(a.dflt,b.dflt)
 |.arr n t=>List.replicate n t.dflt
 |.ref t=>t.dflt
def Ty.isAgg:Ty→Bool
 |.unit | .pair _ _ | .arr _ _=>true
 |_=>false
def Ty.di:Ty→Bool
 |.own _=>true
 |.pair a b=>a.di || b.di
 |_=>false
def Ty.aK:Ty→Bool
 |.lst _ | .ref _=>true
 |.own t | .arr _ t=>t.aK
 |.pair a b=>a.aK || b.aK
 |_=>false
def app {α:Type}:List α→List α→List α
 | [],b=>b
 |x::a,b=>x::app a b
def bF {α:Type}(p:α→Bool):List α→Bool
 | []=>false
 |x::l=>p x || bF p l
def cn {α:Type}(p:α→Bool):List α→Bool
 | []=>true
 |x::l=>p x&&cn p l
def bf {α β:Type}(f:α→β):List α→List β
 | []=>[]
 |x::l=>f x::bf f l
def c_ {α β:Type}(f:α→Option β):List α→List β
 | []=>[]
 |x::l=>match f x with | some y=>y::c_ f l|none=>c_ f l
def dY {α β:Type}(f:α→List β):List α→List β
 | []=>[]
 |x::l=>app (f x) (dY f l)
def bP {α:Type}:List α→Nat→Option α
 | [],_=>none
 |x::_,0=>some x
 |_::l,n+1=>bP l n
def upto:Nat→List Nat
 |0=>[]
 |n+1=>app (upto n) [n]
def jC:IntKind→IntKind→Bool
 |.i8,.i8 | .i16,.i16 | .i32,.i32 | .i64,.i64 | .u8,.u8 | .u16,.u16 | .u32,.u32 | .u64,.u64=>true
 |_,_=>false
def Ty.is (a b:Ty):Bool:=if a=b then true else false
def cM (o:Option Ty)(t:Ty):Bool:=match o with | some u=>u.is t|none=>false
structure DV where
 t:Ty
 x:t.den
def DV.as (d:DV)(t:Ty):Option t.den:=if h:d.t=t then some (h▸d.x) else none
inductive PS where
 |fst|snd|idx (i:Nat)
 deriving DecidableEq,Repr
abbrev Path:=List PS
inductive AT where
 |leaf (t:Ty) (x:t.den)
 |whole (id st:Nat) (t:Ty)
 |piece (id st off len:Nat) (t:Ty)
 |nil (t:Ty)
 |cy
 |pair (l r:AT)
 |undef (n:Nat)
 |aZ (id st:Nat) (path:Path)
 |ptr (id st row:Nat) (path:Path)
 |fn (f:FuncId) (caps:AT)
 |bB (l r:AT)
 |b7
 |nest (id st rs row:Nat) (p:Path) (u:Ty)
 |bC (g:List (Nat×Bool)) (a:AT)
 |any
inductive BC where
 |var (t:Ty) (a:AT)
 |rows (t:Ty) (xs:List t.den)
 |deep (rs:Nat) (t:Ty) (xs:List t.den)
 |dead
def Path.pairs:Path→Bool
 | []=>true
 |.idx _::_=>false
 |_::p=>Path.pairs p
def BC.arr:BC→Option (Ty×Nat)
 |.rows t xs | .deep _ t xs=>some (t,xs.length)
 |_=>none
structure ag where
 st:Nat
 fz:Bool
 c:BC
abbrev Mem:=List (Nat×ag)
structure St where
 env:List (Nat×AT)
 mem:Mem
 ok:List Bool
def find {α:Type}:List (Nat×α)→Nat→Option α
 | [],_=>none
 | (i,a)::l,j=>bif Nat.beq i j then some a else find l j
def AT.isAgg:AT→Bool
 |.leaf t _=>t.isAgg
 |.pair _ _=>true
 |.nest _ _ _ _ _ u=>u.isAgg
 |_=>false
def AT.get:Path→AT→Option AT
 | [],a=>some a
 |.fst::p,.pair l _=>l.get p
 |.snd::p,.pair _ r=>r.get p
 |.fst::p,.leaf (.pair a _) x=>AT.get p (.leaf a x.1)
 |.snd::p,.leaf (.pair _ b) x=>AT.get p (.leaf b x.2)
 |.idx i::p,.leaf (.arr _ t) xs=>AT.get p (.leaf t (xs.getD i t.dflt))
 |_::_,_=>none
def AT.pure:AT→Option DV
 |.leaf t x=>some ⟨t,x⟩
 |.nil t=>some ⟨.lst t,[]⟩
 |.pair l r=>match l.pure,r.pure with
  |some a,some b=>some ⟨.pair a.t b.t,(a.x,b.x)⟩
  |_,_=>none
 |_=>none
def AT.set:Path→AT→AT→Option AT
 | [],_,v=>some v
 |.fst::p,.pair l r,v=>(AT.set p l v).map (.pair · r)
 |.snd::p,.pair l r,v=>(AT.set p r v).map (.pair l ·)
 |.fst::p,.leaf (.pair a b) x,v=>(AT.set p (.leaf a x.1) v).map (.pair · (.leaf b x.2))
 |.snd::p,.leaf (.pair a b) x,v=>(AT.set p (.leaf b x.2) v).map (.pair (.leaf a x.1) ·)
 |.idx i::p,.leaf (.arr n t) xs,v=>
  match(AT.set p (.leaf t (xs.getD i t.dflt)) v).bind AT.pure with
  |some d=>(d.as t).map fun y=>.leaf (.arr n t) (xs.set i y)
  |none=>none
 |_::_,_,_=>none
def Ty.at:Path→Ty→Option Ty
 | [],t=>some t
 |.fst::p,.pair a _=>a.at p
 |.snd::p,.pair _ b=>b.at p
 |.idx _::p,.arr _ t=>t.at p
 |_::_,_=>none
def Ty.off:Path→Ty→Nat
 |.fst::p,.pair a _=>a.off p
 |.snd::p,.pair a b=>a.size+b.off p
 |.idx i::p,.arr _ t=>i*t.size+t.off p
 |_,_=>0
def AT.fits:AT→Ty→Bool
 |.leaf t _,u=>t.is u
 |.whole _ _ t,.lst u | .piece _ _ _ _ t,.lst u | .nil t,.lst u=>t.is u
 |.pair l r,.pair a b=>l.fits a&&r.fits b
 |_,_=>false
def Ty.aV:Ty→Ty
 |.own t=>.lst t
 |.pair a b=>.pair a.aV b.aV
 |t=>t
def cur (m:Nat→Option ag)(id st:Nat):Option ag:=
 match m id with
 |some b=>bif Nat.beq b.st st then some b else none
 |none=>none
def rowsOf (m:Nat→Option ag)(id st:Nat)(t:Ty):Option (Bool×List t.den):=
 match cur m id st with
 |some ⟨_,fz,.rows u xs⟩=>(DV.as ⟨.lst u,xs⟩ (.lst t)).map fun ys=>(fz,ys)
 |_=>none
def fL (m:Nat→Option ag)(id st:Nat)(t:Ty):Option (List t.den):=
 match cur m id st with
 |some ⟨_,_,.rows u xs⟩=>DV.as ⟨.lst u,xs⟩ (.lst t)
 |some ⟨_,_,.deep _ u xs⟩=>DV.as ⟨.lst u,xs⟩ (.lst t)
 |_=>none
def mD (m:Nat→Option ag)(id st:Nat)(t:Ty):Option (List t.den):=
 match cur m id st with
 |some ⟨_,false,.rows u xs⟩=>bif u.aK then none else DV.as ⟨.lst u,xs⟩ (.lst t)
 |some ⟨_,_,.deep _ u xs⟩=>DV.as ⟨.lst u,xs⟩ (.lst t)
 |_=>none
def ck (m:Nat→Option ag):AT→Option DV
 |.leaf t x=>some ⟨t,x⟩
 |.nil t=>some ⟨.lst t,[]⟩
 |.whole id st t=>(rowsOf m id st t).map fun r=>⟨.lst t,r.2⟩
 |.piece id st off len t=>(rowsOf m id st t).map fun r=>⟨.lst t,(r.2.drop off).take len⟩
 |.pair l r=>match ck m l,ck m r with
  |some a,some b=>some ⟨.pair a.t b.t,(a.x,b.x)⟩
  |_,_=>none
 |_=>none
def fZ (m:Nat→Option ag):AT→Option DV
 |.leaf t x=>some ⟨t,x⟩
 |.nil t=>some ⟨.lst t,[]⟩
 |.whole id st t=>(fL m id st t).map fun r=>⟨.lst t,r⟩
 |.piece id st off len t=>(fL m id st t).map fun r=>⟨.lst t,(r.drop off).take len⟩
 |.pair l r=>match fZ m l,fZ m r with
  |some a,some b=>some ⟨.pair a.t b.t,(a.x,b.x)⟩
  |_,_=>none
 |_=>none
def dA (m:Nat→Option ag):AT→Option DV
 |.leaf t x=>bif t.aK then none else some ⟨t,x⟩
 |.nil t=>some ⟨.lst t,[]⟩
 |.whole id st t=>(mD m id st t).map fun r=>⟨.lst t,r⟩
 |.pair l r=>match dA m l,dA m r with
  |some a,some b=>some ⟨.pair a.t b.t,(a.x,b.x)⟩
  |_,_=>none
 |.nest id st rs row p u=>match cur m id st with
  |some ⟨_,_,.deep rs' t xs⟩=>bif Nat.beq rs rs'&&p.pairs&&cM (t.at p) u then(AT.get p (.leaf t (xs.getD row t.dflt))).bind AT.pure else none
  |_=>none
 |_=>none
def toR (m:Nat→Option ag):AT→Option DV
 |.aZ id st p=>match cur m id st with
  |some ⟨_,_,.var _ a⟩=>match(a.get p).bind (ck m) with
   |some d=>bif Nat.ble 1 d.t.size then some ⟨.ref d.t,d.x⟩ else none
   |none=>none
  |_=>none
 |a=>fZ m a
def toC (m:Nat→Option ag):AT→Option DV
 |.bB l r=>match toR m l,toC m r with
  |some a,some b=>bif a.t.isAgg then none else some ⟨.pair a.t b.t,(a.x,b.x)⟩
  |_,_=>none
 |.b7=>some ⟨.unit,()⟩
 |_=>none
def gQ (m:Nat→Option ag):AT→Option DV
 |.leaf t x=>some ⟨t,x⟩
 |.nil t=>some ⟨.own t,[]⟩
 |.whole id st t=>match rowsOf m id st t with
  |some (false,xs)=>some ⟨.own t,xs⟩
  |_=>none
 |.pair l r=>match gQ m l,gQ m r with
  |some a,some b=>some ⟨.pair a.t b.t,(a.x,b.x)⟩
  |_,_=>none
 |_=>none
def AT.ids:AT→List Nat
 |.whole id _ _ | .piece id _ _ _ _ | .ptr id _ _ _ | .aZ id _ _ | .nest id _ _ _ _ _=>[id]
 |.pair l r | .bB l r=>app l.ids r.ids
 |.fn _ c=>c.ids
 |.bC _ a=>a.ids
 |_=>[]
def cT (m:Nat→Option ag):List Nat→List Nat
 | []=>[]
 |i::l=>i::app (match m i with | some ⟨_,_,.var _ a⟩=>a.ids|_=>[]) (cT m l)
def inj (st:Nat):(t:Ty)→t.den→Nat→AT×List (Nat×ag)×Nat
 |.own t,xs,n=>(.whole n st t,[(n,⟨st,false,.rows t xs⟩)],n+1)
 |.pair a b,x,n=>
  bif(Ty.pair a b).di then
   let l:=inj st a x.1 n
   let r:=inj st b x.2 l.2.2
   (.pair l.1 r.1,app l.2.1 r.2.1,r.2.2)
  else(.leaf (.pair a b) x,[],n)
 |t,x,n=>(.leaf t x,[],n)
inductive Arg where
 |v (d:DV)
 |d (d:DV)
 |p (d:DV)
 |m (t:Ty) (xs:List t.den)
 |f (g:FuncId) (caps:DV)
inductive RV where
 |v (d:DV)
 |d (d:DV)
 |p (d:DV)
structure Res where
 outs:List RV
 iU:List DV:=[]
 ok:List Bool:=[]
inductive Mode where
 |v|d|p|m|k|f
structure TI where
 t:Ty
 e:Nat:=0
structure Cx where
 eS:List (Nat×TI)
 fns:List (Nat×List Mode×(List Arg→Option Res))
 dp:Bool:=false
 gl:List (Nat×DV):=[]
def Cx.ty (C:Cx)(t:Nat):Option Ty:=(find C.eS t).map (·.t)
def Cx.eqt (C:Cx)(t:Nat):Option Ty:=match find C.eS t with
 |some ⟨u,1⟩=>some u
 |_=>none
def Cx.el (C:Cx)(t:Nat):Option Ty:=match find C.eS t with
 |some ⟨.lst u,_⟩=>some u
 |_=>none
def gW:Ty→AT
 |.lst t=>.nil t
 |.pair a b=>.pair (gW a) (gW b)
 |.ref _=>.undef 1
 |t=>.leaf t t.dflt
def dh:Nat:=34359738368
def nv:Value→AT
 |.bool b=>.leaf .bool b
 |.int k n=>.leaf (.int k) n
 |.string s=>.leaf .str s.data.toList
 |.slice none 0 0=>.cy
 |_=>.any
def operand (C:Cx)(env:List (Nat×AT)):Operand→AT
 |.tmp t=>(find env t).getD .any
 |.const v=>nv v
 |.global g=>match find C.gl g with | some d=>.leaf (.ref d.t) d.x|none=>.any
 |.func f=>.fn f .b7
def Cx.co (C:Cx)(t:Nat):AT→AT
 |.cy=>match C.el t with | some u=>.nil u|none=>.cy
 |a=>a
structure aE where
 av:AT
 aj:List (Nat×ag):=[]
 ok:List Bool:=[]
def aU (m:Nat→Option ag)(id:Nat):Nat:=match m id with | some b=>b.st+1|none=>0
def aW (m:Nat→Option ag):(t:Ty)→t.den→Nat→AT×List (Nat×ag)×Nat
 |.own t,xs,n=>(.whole n (aU m n) t,[(n,⟨aU m n,false,.rows t xs⟩)],n+1)
 |.pair a b,x,n=>
  bif(Ty.pair a b).di then
   let l:=aW m a x.1 n
   let r:=aW m b x.2 l.2.2
   (.pair l.1 r.1,app l.2.1 r.2.1,r.2.2)
  else(.leaf (.pair a b) x,[],n)
 |t,x,n=>(.leaf t x,[],n)
def jG (t:Ty)(xs:List t.den):BC:=bif t.aK then .deep 0 t xs else .rows t xs
def aP (m:Nat→Option ag):(t:Ty)→t.den→Nat→AT×List (Nat×ag)×Nat
 |.lst t,xs,n=>(.whole n (aU m n) t,[(n,⟨aU m n,false,jG t xs⟩)],n+1)
 |.pair a b,x,n=>
  bif(Ty.pair a b).aK then
   let l:=aP m a x.1 n
   let r:=aP m b x.2 l.2.2
   (.pair l.1 r.1,app l.2.1 r.2.1,r.2.2)
  else(.leaf (.pair a b) x,[],n)
 |t,x,n=>(.leaf t x,[],n)
def nj (op:BinOp)(k:IntKind)(x y:Int):Int:=
 let a:=BitVec.ofInt k.bits x
 let b:=BitVec.ofInt k.bits y
 match op with
 |.and=>k.wrap (a &&& b).toNat
 |.or=>k.wrap (a |||b).toNat
 |.xor=>k.wrap (a ^^^ b).toNat
 |_=>k.wrap (a &&& ~~~b).toNat
def l5 (op:BinOp)(k:IntKind)(a b:Int):Option aE:=
 match op with
 |.add=>some ⟨.leaf (.int k) (k.wrap (a+b)),[],[]⟩
 |.sub=>some ⟨.leaf (.int k) (k.wrap (a-b)),[],[]⟩
 |.mul=>some ⟨.leaf (.int k) (k.wrap (a*b)),[],[]⟩
 |.quo=>some ⟨.leaf (.int k) (k.wrap (a.tdiv b)),[],[b != 0]⟩
 |.rem=>some ⟨.leaf (.int k) (a.tmod b),[],[b != 0]⟩
 |.and | .or | .xor | .andNot=>some ⟨.leaf (.int k) (nj op k a b),[],[]⟩
 |.eql=>some ⟨.leaf .bool (a==b),[],[]⟩
 |.neq=>some ⟨.leaf .bool (a != b),[],[]⟩
 |.lss=>some ⟨.leaf .bool (decide (a<b)),[],[]⟩
 |.leq=>some ⟨.leaf .bool (decide (a≤b)),[],[]⟩
 |.gtr=>some ⟨.leaf .bool (decide (a>b)),[],[]⟩
 |.geq=>some ⟨.leaf .bool (decide (a≥b)),[],[]⟩
 |_=>none
def qq (op:BinOp)(a b:List UInt8):Option aE:=
 match op with
 |.add=>some ⟨.leaf .str (a++b),[],[decide (a.length+b.length≤dh)]⟩
 |.eql=>some ⟨.leaf .bool (a==b),[],[]⟩
 |.neq=>some ⟨.leaf .bool (!(a==b)),[],[]⟩
 |.lss=>some ⟨.leaf .bool (Op.bytesLess a b),[],[]⟩
 |.leq=>some ⟨.leaf .bool (Op.bytesLess a b || a==b),[],[]⟩
 |.gtr=>some ⟨.leaf .bool (!(Op.bytesLess a b || a==b)),[],[]⟩
 |.geq=>some ⟨.leaf .bool (!Op.bytesLess a b),[],[]⟩
 |_=>none
def Ty.flat:Ty→Bool
 |.unit=>true
 |.pair (.int _) b=>b.flat
 |.pair .bool b=>b.flat
 |.pair .str b=>b.flat
 |_=>false
def gb:(t:Ty)→t.den→t.den→Bool
 |.unit,_,_=>true
 |.bool,x,y=>x==y
 |.int _,x,y=>@BEq.beq Int _ x y
 |.str,x,y=>@BEq.beq (List UInt8) _ x y
 |.pair a b,x,y=>gb a x.1 y.1&&gb b x.2 y.2
 |_,_,_=>false
def lN:BinOp→Option Bool
 |.eql=>some false
 |.neq=>some true
 |_=>none
def binD (C:Cx)(T:Nat)(op:BinOp)(x y:AT):Option aE:=
 match op,x,y with
 |.shl,.leaf (.int k) a,.leaf (.int _) b=>some ⟨.leaf (.int k) (k.wrap (a*2 ^ (min b.toNat k.bits))),[],[decide (0≤b)]⟩
 |.shr,.leaf (.int k) a,.leaf (.int _) b=>some ⟨.leaf (.int k) (a.fdiv (2 ^ (min b.toNat k.bits))),[],[decide (0≤b)]⟩
 |op,.leaf (.int k) a,.leaf (.int k') b=>bif jC k k' then l5 op k a b else none
 |op,.leaf .str a,.leaf .str b=>qq op a b
 |.eql,.leaf .bool a,.leaf .bool b=>bif cM (C.ty T) .bool then some ⟨.leaf .bool (a==b),[],[]⟩ else none
 |.neq,.leaf .bool a,.leaf .bool b=>bif cM (C.ty T) .bool then some ⟨.leaf .bool (!(a==b)),[],[]⟩ else none
 |op,x,y=>match lN op,C.eqt T with
  |some n,some t=>bif t.flat&&x.fits t&&y.fits t then
   match x.pure,y.pure with
   |some d,some e=>match d.as t,e.as t with
    |some p,some q=>some ⟨.leaf .bool (bif n then !gb t p q else gb t p q),[],[]⟩
    |_,_=>none
   |_,_=>none
   else none
  |_,_=>none
def unD (op:UnOp)(x:AT):Option aE:=
 match op,x with
 |.neg,.leaf (.int k) n=>some ⟨.leaf (.int k) (k.wrap (0-n)),[],[]⟩
 |.xor,.leaf (.int k) n=>some ⟨.leaf (.int k) (nj .xor k (if k.signed then -1 else k.max) n),[],[]⟩
 |.not,.leaf .bool b=>some ⟨.leaf .bool (!b),[],[]⟩
 |_,_=>none
def bytesOf:List UInt8→List Int:=List.map fun b=>(b.toNat:Int)
def qp:List Int→List UInt8:=List.map fun n=>UInt8.ofNat n.toNat
def jD (m:Nat→Option ag):AT→Option Int
 |.leaf .str s=>some s.length
 |.leaf (.lst _) xs=>some xs.length
 |.nil _=>some 0
 |.cy=>some 0
 |.whole id st t=>match fL m id st t with
  |some xs=>some xs.length
  |none=>none
 |.piece id st _ len t=>match rowsOf m id st t with
  |some _=>some len
  |none=>none
 |_=>none
def nU (C:Cx)(T:Nat):AT→Bool
 |.leaf .str _=>cM (C.ty T) .str
 |_=>match C.ty T with | some (.lst _)=>true|_=>false
def jA (C:Cx)(m:Nat→Option ag)(T:Nat)(x:AT)(i:Int):Option aE:=
 match x,C.ty T with
 |.leaf (.lst t) xs,some (.lst u)=>bif t.is u then some ⟨.leaf (.ref t) (xs.getD i.toNat t.dflt),[],[decide (0≤i),decide (i<xs.length)]⟩ else none
 |.whole id st t,some (.lst u)=>bif t.is u then
  match fL m id st t with
  |some xs=>some ⟨.ptr id st i.toNat [],[],[decide (0≤i),decide (i<xs.length)]⟩
  |none=>none
  else none
 |.piece id st off len t,some (.lst u)=>bif t.is u then
  match rowsOf m id st t with
  |some _=>some ⟨.ptr id st (off+i.toNat) [],[],[decide (0≤i),decide (i<len)]⟩
  |none=>none
  else none
 |.leaf (.ref (.arr n t)) xs,some (.arr n' u)=>bif Nat.beq n n'&&t.is u then some ⟨.leaf (.ref t) (xs.getD i.toNat t.dflt),[],[decide (0≤i),decide (i<n)]⟩ else none
 |.aZ id st p,some (.arr n u)=>match cur m id st with
  |some ⟨_,_,.var t _⟩=>bif cM (t.at p) (.arr n u) then some ⟨.aZ id st (app p [.idx i.toNat]),[],[decide (0≤i),decide (i<n)]⟩ else none
  |_=>none
 |_,_=>none
def pW (C:Cx)(m:Nat→Option ag)(T:Nat)(x:AT):Option aE:=
 match x,C.ty T with
 |.leaf (.ref t) y,some u=>bif t.is u then some ⟨.leaf t y,[],[]⟩ else none
 |.aZ id st p,some u=>match cur m id st with
  |some ⟨_,_,.var t a⟩=>bif cM (t.at p) u then(match a.get p with | some b=>some ⟨b,[],[]⟩|none=>none) else none
  |_=>none
 |.ptr id st row p,some u=>match cur m id st with
  |some ⟨_,_,.rows t xs⟩=>bif cM (t.at p) u then(match AT.get p (.leaf t (xs.getD row t.dflt)) with | some b=>some ⟨b,[],[]⟩|none=>none) else none
  |some ⟨_,_,.deep rs t xs⟩=>bif cM (t.at p) u&&p.pairs then
   (bif u.aK then some ⟨.nest id st rs row p u,[],[]⟩ else match AT.get p (.leaf t (xs.getD row t.dflt)) with | some b=>some ⟨b,[],[]⟩|none=>none) else none
  |_=>none
 |_,_=>none
def ag.bu:ag→ag
 |⟨st,_,.deep _ _ _⟩=>⟨st+1,false,.dead⟩
 |⟨st,_,c⟩=>⟨st,true,c⟩
def bu (m:Nat→Option ag)(ids:List Nat):List (Nat×ag):=c_ (fun i=>match m i with | some b=>some (i,b.bu)|none=>none) ids
def cj (m:Nat→Option ag)(ids:List Nat):List (Nat×ag):=c_ (fun i=>(m i).map fun b=>(i,⟨b.st+1,false,.dead⟩)) ids
def nodup:List Nat→Bool
 | []=>true
 |i::l=> !(bF (Nat.beq i) l)&&nodup l
def kq (C:Cx)(m:Nat→Option ag)(T:Nat)(x v:AT):Option aE:=
 match x,C.ty T with
 |.aZ id st p,some u=>match cur m id st with
  |some ⟨_,false,.var t a⟩=>bif cM (t.at p) u&&v.fits u then(match AT.set p a v with | some a'=>some ⟨.any,[(id,⟨st,false,.var t a'⟩)],[]⟩|none=>none) else none
  |_=>none
 |.ptr id st row p,some u=>match cur m id st with
  |some ⟨_,false,.rows t xs⟩=>bif cM (t.at p) u&&v.fits u && !(bF (Nat.beq id) v.ids) then
   match ck m v with
   |some ⟨s,y⟩=>match(AT.set p (.leaf t (xs.getD row t.dflt)) (.leaf s y)).bind AT.pure with
    |some r=>match r.as t with
     |some z=>some ⟨.any,(id,⟨st,false,.rows t (xs.set row z)⟩)::bu m v.ids,[]⟩
     |none=>none
    |none=>none
   |none=>none
   else none
  |some ⟨_,false,.deep rs t xs⟩=>bif cM (t.at p) u&&v.fits u&&p.pairs && !(bF (Nat.beq id) v.ids)&&nodup v.ids then
   match dA m v with
   |some ⟨s,y⟩=>match(AT.set p (.leaf t (xs.getD row t.dflt)) (.leaf s y)).bind AT.pure with
    |some r=>match r.as t with
     |some z=>some ⟨.any,(id,⟨st,false,.deep (rs+1) t (xs.set row z)⟩)::cj m v.ids,[]⟩
     |none=>none
    |none=>none
   |none=>none
   else none
  |_=>none
 |_,_=>none
def bg:Nat→Path
 |0=>[.fst]
 |n+1=>.snd::bg n
def iN:Option Ty→Bool
 |some t=>Nat.ble 1 t.size
 |none=>false
def o8 (C:Cx)(m:Nat→Option ag)(T:Nat)(x:AT)(f:Nat):Option aE:=
 match x,C.ty T with
 |.leaf (.ref t) y,some u=>bif t.is u then
  match u.at (bg f),AT.get (bg f) (.leaf t y) with
  |some v,some (.leaf s z)=>bif Nat.ble 1 v.size then some ⟨.leaf (.ref s) z,[],[]⟩ else none
  |_,_=>none
  else none
 |.aZ id st p,some u=>match cur m id st with
  |some ⟨_,_,.var t _⟩=>bif cM (t.at p) u&&iN (u.at (bg f)) then some ⟨.aZ id st (app p (bg f)),[],[]⟩ else none
  |_=>none
 |.ptr id st row p,some u=>match cur m id st with
  |some ⟨_,_,.rows t _⟩=>bif cM (t.at p) u&&iN (u.at (bg f)) then some ⟨.ptr id st row (app p (bg f)),[],[]⟩ else none
  |some ⟨_,_,.deep _ t _⟩=>bif cM (t.at p) u&&iN (u.at (bg f)) then some ⟨.ptr id st row (app p (bg f)),[],[]⟩ else none
  |_=>none
 |_,_=>none
def o9 (C:Cx)(T:Nat)(x:AT)(f:Nat):Option aE:=
 match C.ty T with
 |some t=>bif x.fits t then
  match t.at (bg f),AT.get (bg f) x with
  |some _,some b=>some ⟨b,[],[]⟩
  |_,_=>none
  else none
 |none=>none
def pP (C:Cx)(T:Nat)(x:AT)(i:Int):Option aE:=
 match x,C.ty T with
 |.leaf .str s,some .str=>some ⟨.leaf (.int .u8) ((s.getD i.toNat 0).toNat:Int),[],[decide (0≤i),decide (i<s.length)]⟩
 |.leaf (.arr n (.int k)) xs,some (.arr n' (.int k'))=>bif Nat.beq n n'&&jC k k' then some ⟨.leaf (.int k) (xs.getD i.toNat 0),[],[decide (0≤i),decide (i<n)]⟩ else none
 |_,_=>none
def bY:Option Ty→AT→AT
 |some (.lst t),.cy=>.nil t
 |_,a=>a
def js (t:Ty)(i:Nat):Path:=match t with
 |.arr _ _=>[.idx i]
 |_=>bg i
def qd (t:Ty)(i:Nat):Bool:=match t with
 |.arr n _=>Nat.ble (i+1) n
 |_=>true
def jV (t:Ty):AT→List (Nat×AT)→Option AT
 |a,[]=>some a
 |a,(i,v)::l=>match t.at (js t i) with
  |some u=>bif(bY (some u) v).fits u&&qd t i then
   match AT.set (js t i) a (bY (some u) v) with
   |some a'=>jV t a' l
   |none=>none
   else none
  |none=>none
def oS (C:Cx)(T:Nat)(parts:List (Nat×AT)):Option aE:=
 match C.ty T with
 |some t=>bif t.isAgg then(jV t (gW t) parts).map (⟨·,[],[]⟩) else none
 |none=>none
def kQ (m:Nat→Option ag)(t:Ty)(len:Nat):List t.den→List (Nat×AT)→Option (List t.den)
 |xs,[]=>some xs
 |xs,(i,v)::l=>bif Nat.ble (i+1) len&&(bY (some t) v).fits t then
  match ck m (bY (some t) v) with
  |some d=>match d.as t with
   |some y=>kQ m t len (xs.set i y) l
   |none=>none
  |none=>none
  else none
def Ty.gX:Ty→Bool
 |.own _ | .ref _=>false
 |.pair a b=>a.gX&&b.gX
 |_=>true
def l9 (m:Nat→Option ag)(t:Ty)(n:Nat):List (Nat×AT)→Option (List t.den)
 | []=>some []
 | (i,v)::l=>bif Nat.beq i n&&(bY (some t) v).fits t then
  match dA m (bY (some t) v) with
  |some d=>match d.as t,l9 m t (n+1) l with
   |some y,some ys=>some (y::ys)
   |_,_=>none
  |none=>none
  else none
def kF (C:Cx)(m:Nat→Option ag)(dst T len:Nat)(parts:List (Nat×AT)):Option aE:=
 match C.el T with
 |some t=>bif C.dp&&t.aK then
  bif Nat.beq parts.length len&&Nat.ble (len*t.size) 16777216&&nodup (dst::dY (fun p=>p.2.ids) parts) then(l9 m t 0 parts).map fun xs=>
   ⟨.whole dst (aU m dst) t,(dst,⟨aU m dst,false,.deep 0 t xs⟩)::cj m (dY (fun p=>p.2.ids) parts),[]⟩ else none
  else bif t.gX&&Nat.ble (len*t.size) 16777216 && !(bF (Nat.beq dst) (dY (fun p=>p.2.ids) parts)) then(kQ m t len (List.replicate len t.dflt) parts).map fun xs=>
   ⟨.whole dst (aU m dst) t,(dst,⟨aU m dst,false,.rows t xs⟩)::bu m (dY (fun p=>p.2.ids) parts),[]⟩
  else none
 |none=>none
def Ty.iY:Ty→Bool
 |.own _ | .ref _=>false
 |.pair a b=>a.iY&&b.iY
 |.arr _ t=>t.gX && !t.aK
 |_=>true
def kT (C:Cx)(m:Nat→Option ag)(dst T:Nat)(l c:Int):Option aE:=
 match C.el T with
 |some t=>bif t.gX&&(t.iY || !C.dp) then some ⟨.whole dst (aU m dst) t,[(dst,⟨aU m dst,false,bif C.dp&&t.aK then .deep 0 t (List.replicate l.toNat t.dflt) else .rows t (List.replicate l.toNat t.dflt)⟩)],[decide (0≤l),decide (l≤c),decide (c≤dh)]⟩ else none
 |none=>none
def fh:AT→Option Int
 |.leaf (.int _) n=>some n
 |_=>none
def iA (d:Int):Option AT→Option Int
 |none=>some d
 |some a=>fh a
def qo (C:Cx)(m:Nat→Option ag)(T:Nat)(x:AT)(lo hi:Option AT):Option aE:=
 match jD m x with
 |none=>none
 |some n=>
  match iA 0 lo,iA n hi with
  |some l,some h=>
   match x,C.ty T with
   |.leaf .str s,some .str=>some ⟨.leaf .str ((s.drop l.toNat).take (h-l).toNat),[],[decide (0≤l),decide (l≤h),decide (h≤n)]⟩
   |.leaf (.lst t) xs,some (.lst u)=>bif t.is u then some ⟨.leaf (.lst t) ((xs.drop l.toNat).take (h-l).toNat),[],[decide (0≤l),decide (l≤h),decide (h≤n)]⟩ else none
   |.whole id st t,some (.lst u)=>bif t.is u then some ⟨.piece id st l.toNat (h-l).toNat t,[],[decide (0≤l),decide (l≤h),decide (h≤n)]⟩ else none
   |.piece id st off _len t,some (.lst u)=>bif t.is u then
    match rowsOf m id st t with
    |some r=>some ⟨.piece id st (off+l.toNat) (h-l).toNat t,[],[decide (0≤l),decide (l≤h),decide ((off:Int)+h≤(r.2.length:Int))]⟩
    |none=>none
    else none
   |_,_=>none
  |_,_=>none
def oZ (C:Cx)(m:Nat→Option ag)(dst S T:Nat)(x:AT):Option aE:=
 match x,C.ty S,C.ty T with
 |.leaf (.int _) n,some _,some (.int k)=>some ⟨.leaf (.int k) (k.wrap n),[],[]⟩
 |.leaf .str s,some _,some .str=>some ⟨.leaf .str s,[],[]⟩
 |.leaf .str s,some .str,some (.lst (.int .u8))=>some ⟨.whole dst (aU m dst) (.int .u8),[(dst,⟨aU m dst,false,.rows (.int .u8) (bytesOf s)⟩)],[decide (s.length≤dh)]⟩
 |a,some (.lst (.int .u8)),some .str=>match ck m a with
  |some d=>(d.as (.lst (.int .u8))).map fun xs=>⟨.leaf .str (qp xs),[],[]⟩
  |none=>none
 |_,_,_=>none
def tailD (m:Nat→Option ag)(t:Ty)(y:AT):Option (List t.den):=
 match y,t with
 |.leaf .str s,.int .u8=>some (bytesOf s)
 |a,t=>(ck m (bY (some (.lst t)) a)).bind fun d=>d.as (.lst t)
def qP (C:Cx)(m:Nat→Option ag)(dst:Nat)(t:Ty)(x y:AT):Option aE:=
 match y with
 |.whole jd sj _u'=>match cur m jd sj with
  |some ⟨_,false,.deep _ v zs⟩=>match DV.as ⟨.lst v,zs⟩ (.lst t) with
   |none=>none
   |some ys=>
    let mk:Option aE:=bif C.dp && !(Nat.beq dst jd) then some ⟨.whole dst (aU m dst) t,(dst,⟨aU m dst,false,.deep 0 t ys⟩)::cj m [jd],[decide (ys.length≤dh)]⟩ else none
    match x with
    |.nil u=>bif t.is u then mk else none
    |.cy=>mk
    |.whole id st u=>match cur m id st with
     |some ⟨_,false,.deep rs v' ws⟩=>match DV.as ⟨.lst v',ws⟩ (.lst t) with
      |some xs=>bif u.is t && !(Nat.beq id jd) then some ⟨.whole id (st+1) t,(id,⟨st+1,false,.deep (rs+1) t (xs++ys)⟩)::cj m [jd],[decide (xs.length+ys.length≤dh)]⟩ else none
      |none=>none
     |_=>none
    |_=>none
  |_=>none
 |_=>none
def pR (m:Nat→Option ag):AT→Bool
 |.whole id st _=>match cur m id st with | some ⟨_,_,.deep _ _ _⟩=>true|_=>false
 |_=>false
def over {α:Type}(xs:List α)(k:Nat)(ys:List α):List α:=xs.take k++(ys++xs.drop (k+ys.length))
def lC (C:Cx)(m:Nat→Option ag)(dst:Nat)(t:Ty)(x y:AT):Option aE:=
 bif pR m y then qP C m dst t x y else
 match tailD m t y with
 |none=>none
 |some ys=>
  match x with
  |.nil u=>match(DV.mk (.lst u) []).as (.lst t) with
   |some _=>some ⟨.whole dst (aU m dst) t,[(dst,⟨aU m dst,false,.rows t ys⟩)],[decide (ys.length≤dh)]⟩
   |none=>none
  |.cy=>some ⟨.whole dst (aU m dst) t,[(dst,⟨aU m dst,false,.rows t ys⟩)],[decide (ys.length≤dh)]⟩
  |.whole id st u=>match rowsOf m id st t with
   |some (false,xs)=>bif u.is t then some ⟨.whole id (st+1) t,[(id,⟨st+1,false,.rows t (xs++ys)⟩)],[decide (xs.length+ys.length≤dh)]⟩ else none
   |_=>none
  |.piece id st off len u=>match rowsOf m id st t with
   |some (false,xs)=>bif u.is t then some ⟨.piece id st off (len+ys.length) t,[(id,⟨st,false,.rows t (over xs (off+len) ys)⟩)],[decide (off+len+ys.length≤xs.length)]⟩ else none
   |_=>none
  |_=>none
def mkArg (m:Nat→Option ag):Mode→AT→Option Arg
 |.v,a=>(toR m a).map .v
 |.d,a=>(dA m a).map .d
 |.p,.aZ id st []=>match cur m id st with
  |some ⟨_,false,.var _ a⟩=>(gQ m a).map .p
  |_=>none
 |.m,.whole id st t=>match rowsOf m id st t with
  |some (false,xs)=>some (.m t xs)
  |_=>none
 |.m,.nil t=>some (.m t [])
 |.k,a=>(gQ m a).map .v
 |.f,.fn g c=>(toC m c).map (.f g)
 |_,_=>none
def j9 (m:Nat→Option ag):List Mode→List AT→Option (List Arg)
 | [],[]=>some []
 |o::os,a::as=>match mkArg m o a,j9 m os as with
  |some x,some xs=>some (x::xs)
  |_,_=>none
 |_,_=>none
def iR (m:Nat→Option ag):AT→DV→Option (List (Nat×ag))
 |.leaf _ _,_=>some []
 |.nil _,_=>some []
 |.whole id st t,d=>match d.as (.lst t) with
  |some ys=>match cur m id st with
   |some ⟨_,_,.rows _ _⟩=>some [(id,⟨st,false,.rows t ys⟩)]
   |some ⟨_,_,.deep rs _ _⟩=>some [(id,⟨st,false,.deep (rs+1) t ys⟩)]
   |_=>none
  |none=>none
 |.pair l r,⟨.pair a b,x⟩=>match iR m l ⟨a,x.1⟩,iR m r ⟨b,x.2⟩ with
  |some u,some v=>some (app u v)
  |_,_=>none
 |.nest id st _ row p u,d=>match cur m id st with
  |some ⟨_,_,.deep rs t xs⟩=>bif d.t.is u then
   match(AT.set p (.leaf t (xs.getD row t.dflt)) (.leaf d.t d.x)).bind AT.pure with
   |some r=>match r.as t with
    |some z=>some [(id,⟨st,false,.deep rs t (xs.set row z)⟩)]
    |none=>none
   |none=>none
   else none
  |_=>none
 |_,_=>none
def cU (m:Nat→Option ag):List Mode→List AT→List DV→Option (List (Nat×ag))
 | [],[],[]=>some []
 |.p::os,.aZ id st []::as,d::ds=>match cur m id st,cU m os as ds with
  |some ⟨_,_,.var t _⟩,some u=>bif t.is d.t.aV then
   let n:=aW m d.t d.x ((id+1)*1000)
   some ((id,⟨st,false,.var t n.1⟩)::app n.2.1 u)
   else none
  |_,_=>none
 |.m::os,.whole id st t::as,d::ds=>match d.as (.own t),cU m os as ds with
  |some ys,some u=>some ((id,⟨st,false,.rows t ys⟩)::u)
  |_,_=>none
 |.m::os,.nil _::as,_::ds=>cU m os as ds
 |.d::os,a::as,d::ds=>match iR m a d,cU m os as ds with
  |some u,some v=>some (app u v)
  |_,_=>none
 |.v::os,_::as,ds=>cU m os as ds
 |.k::os,_::as,ds=>cU m os as ds
 |.f::os,_::as,ds=>cU m os as ds
 |_,_,_=>none
def qC (m:Nat→Option ag)(id:Nat):List Nat:=match m id with
 |some ⟨_,_,.var _ a⟩=>a.ids
 |_=>[]
def eD (m:Nat→Option ag):List Mode→List AT→List Nat
 |.p::os,.aZ id _ _::as=>app (qC m id) (eD m os as)
 |.k::os,a::as=>app a.ids (eD m os as)
 |_::os,_::as=>eD m os as
 |_,_=>[]
def dm:List Mode→List AT→List Nat
 |.p::os,.aZ id _ _::as=>id::dm os as
 |.m::os,.whole id _ _::as=>id::dm os as
 |.d::os,a::as=>app a.ids (dm os as)
 |_::os,_::as=>dm os as
 |_,_=>[]
def RV.nV:RV→Bool
 |.v x | .p x=>x.t.aK
 |.d _=>false
def ig:List Arg→List DV→Bool
 |.p _::l,d::ds | .m _ _::l,d::ds=>d.t.aK || ig l ds
 |.d _::l,_::ds=>ig l ds
 |.v _::l,ds | .f _ _::l,ds=>ig l ds
 |_,_=>false
def bW (m:Nat→Option ag):List RV→Nat→List AT×List (Nat×ag)
 | [],_=>([],[])
 |.v d::l,n=>
  let a:=aW m d.t d.x n
  let r:=bW m l a.2.2
  (a.1::r.1,app a.2.1 r.2)
 |.d d::l,n=>
  let a:=aP m d.t d.x n
  let r:=bW m l a.2.2
  (a.1::r.1,app a.2.1 r.2)
 |.p d::l,n=>
  let a:=aW m d.t d.x (n+1)
  let r:=bW m l a.2.2
  (.aZ n (aU m n) []::r.1,(n,⟨aU m n,false,.var d.t.aV a.1⟩)::app a.2.1 r.2)
def k_:List AT→AT
 | []=>.b7
 |a::l=>.bB a (k_ l)
def oneOf:List AT→AT
 | [a]=>a
 |l=>k_ l
def eO (m:Nat→Option ag):List Mode→List AT→List Nat
 |.v::os,a::as=>app (cT m a.ids) (eO m os as)
 |.f::os,a::as=>app (cT m a.ids) (eO m os as)
 |_::os,_::as=>eO m os as
 |_,_=>[]
def ni (l l':List Nat):Bool:=cn (fun x=> !(bF (Nat.beq x) l')) l
def oU (C:Cx)(m:Nat→Option ag)(dst f:Nat)(args:List AT):Option aE:=
 match find C.fns f with
 |none=>none
 |some (b6,den)=>
  let ke:=dm b6 args
  let ki:=eD m b6 args
  let le:=eO m b6 args
  bif nodup (app ke ki)&&ni le (app ke ki) then
   match j9 m b6 args with
   |none=>none
   |some ar=>match den ar with
   |none=>none
   |some r=>
    match cU m b6 args r.iU with
    |none=>none
    |some u=>
     let o:=bW m r.outs ((dst+1)*1000)
     bif nodup (bf (fun x=>x.1) (app o.2 u)) then
      some ⟨oneOf o.1,app o.2 (app u (app (cj m ki) (bif bF RV.nV r.outs || ig ar r.iU then bu m le else []))),r.ok⟩
     else none
  else none
def ic:AT→List AT
 |.bB a l=>a::ic l
 |_=>[]
def AT.one:AT→Bool
 |.leaf t _=> !t.isAgg
 |.nest _ _ _ _ _ u=> !u.isAgg
 |.whole _ _ _ | .piece _ _ _ _ _ | .nil _ | .cy | .undef _ | .aZ _ _ _ | .ptr _ _ _ _ | .fn _ _=>true
 |_=>false
def jW:AT→Bool
 |.bB l r=>l.one&&jW r
 |.b7=>true
 |_=>false
def AT.slot:AT→Bool
 |.pair _ _ | .leaf _ _ | .nest _ _ _ _ _ _=>true
 |a=>a.one
def o7 (x:AT)(i:Nat):Option aE:=
 match bP (ic x) i with
 |some a=>bif a.slot then some ⟨a,[],[]⟩ else none
 |none=>none
def p9 (m:Nat→Option ag):AT→Option aE
 |.ptr id st row p=>match cur m id st with
  |some ⟨_,_,.rows _ _⟩=>some ⟨.ptr id st row p,[],[]⟩
  |some ⟨_,_,.deep _ _ _⟩=>some ⟨.ptr id st row p,[],[]⟩
  |_=>none
 |.aZ id st p=>match cur m id st with
  |some ⟨_,_,.var _ _⟩=>some ⟨.aZ id st p,[],[]⟩
  |_=>none
 |.leaf (.ref t) x=>some ⟨.leaf (.ref t) x,[],[]⟩
 |_=>none
def minD:List AT→Option aE
 | [.leaf (.int k) x,.leaf (.int _) y]=>some ⟨.leaf (.int k) (if y<x then y else x),[],[]⟩
 |_=>none
def maxD:List AT→Option aE
 | [.leaf (.int k) x,.leaf (.int _) y]=>some ⟨.leaf (.int k) (if x<y then y else x),[],[]⟩
 |_=>none
def nr (C:Cx):List Nat→List AT→List AT
 |t::ts,a::as=>C.co t a::nr C ts as
 |_,as=>as
def oW (C:Cx)(m:Nat→Option ag)(T:Nat)(x:AT):Option aE:=
 match C.el T,x with
 |some t,.piece id st off len u=>match rowsOf m id st t with
  |some (false,xs)=>bif t.gX&&u.is t then some ⟨.b7,[(id,⟨st,false,.rows t (over xs off (List.replicate len t.dflt))⟩)],[]⟩ else none
  |_=>none
 |_,_=>none
def qn (C:Cx)(m:Nat→Option ag)(T:Nat)(x l h k:AT):Option aE:=
 match x,C.ty T,fh l,fh h,fh k with
 |.whole id st t,some (.lst u),some a,some b,some c=>match fL m id st t with
  |some xs=>bif t.is u then some ⟨.undef 1,[],[decide (0≤a),decide (a≤b),decide (b≤c),decide (c≤xs.length)]⟩ else none
  |none=>none
 |_,_,_,_,_=>none
def qZ (C:Cx)(m:Nat→Option ag)(dst:Nat)(b:Builtin)(ts:List Nat)(args:List AT):Option aE:=
 match b,ts,args with
 |.len,[T],[a]=>bif nU C T a then
  match jD m a with
  |some n=>some ⟨.leaf (.int .i64) n,[],[]⟩
  |none=>none
  else none
 |.append,[t,t2],[x,y]=>match C.el t,C.ty t2 with
  |some u,some (.lst _)|some u,some .str=>lC C m dst u x y
  |_,_=>none
 |.min,_,as=>minD as
 |.max,_,as=>maxD as
 |.clear,[T],[a]=>oW C m T a
 |_,_,_=>none
def mF (c a b:AT):Option aE:=
 match c,a,b with
 |.leaf .bool g,.leaf t x,.leaf t' y=>if h:t'=t then some ⟨.leaf t (bif g then x else(h▸y)),[],[]⟩ else none
 |_,_,_=>none
def cY (C:Cx)(m:Nat→Option ag)(dst:Nat)(ρ:Operand→AT)(o:Oper):Option aE:=
 match o.op with
 |.move x | .assign x=>some ⟨C.co o.type (ρ x),[],[]⟩
 |.alloc T=>match C.ty T with
  |some t=>some ⟨.aZ dst (aU m dst) [],[(dst,⟨aU m dst,false,.var t (gW t)⟩)],[]⟩
  |none=>none
 |.box T x=>match C.ty T with
  |some t=>bif(C.co T (ρ x)).fits t then some ⟨.aZ dst (aU m dst) [],[(dst,⟨aU m dst,false,.var t (C.co T (ρ x))⟩)],[]⟩ else none
  |none=>none
 |.build T parts=>oS C T (bf (fun p=>(p.1,ρ p.2)) parts.toList)
 |.buildSlice T len parts=>kF C m dst T len (bf (fun p=>(p.1,ρ p.2)) parts.toList)
 |.load T x=>pW C m T (ρ x)
 |.store T x v=>kq C m T (ρ x) (C.co T (ρ v))
 |.binOp op T x y _=>binD C T op (ρ x) (ρ y)
 |.unOp op _ x=>unD op (ρ x)
 |.convert S T x=>oZ C m dst S T (ρ x)
 |.makeSlice T l c=>match fh (ρ l),fh (ρ c) with
  |some a,some b=>kT C m dst T a b
  |_,_=>none
 |.slice T x lo hi none=>qo C m T (ρ x) (lo.map ρ) (hi.map ρ)
 |.slice T x (some l) (some h) (some k)=>qn C m T (ρ x) (ρ l) (ρ h) (ρ k)
 |.fieldAddr T x f=>o8 C m T (ρ x) f
 |.field T x f=>o9 C T (ρ x) f
 |.indexAddr T x i=>match fh (ρ i) with
  |some n=>jA C m T (ρ x) n
  |none=>none
 |.index T x i=>match fh (ρ i) with
  |some n=>pP C T (ρ x) n
  |none=>none
 |.extract x i=>o7 (ρ x) i
 |.makeFunc (.func g) first caps=>bif first.toList.isEmpty&&cn AT.one (bf ρ caps.toList) then some ⟨.fn g (k_ (bf ρ caps.toList)),[],[]⟩ else none
 |.nilCheck x=>p9 m (ρ x)
 |.call ⟨.builtin b,args,ts⟩=>qZ C m dst b ts.toList (nr C ts.toList (bf ρ args.toList))
 |.call ⟨.value g,args,ts⟩=>match ρ g with
  |.fn f caps=>bif jW caps then oU C m dst f (app (nr C ts.toList (bf ρ args.toList)) (ic caps)) else none
  |_=>none
 |_=>none
abbrev dG:=List (Nat×Bool)
def lD (a b:Bool):Bool:=match a,b with | true,true|false,false=>true|_,_=>false
def hasTag (T:dG)(s:Nat)(w:Bool):Bool:=bF (fun t=>Nat.beq t.1 s&&lD t.2 w) T
def mO (A T:dG):Bool:=cn (fun t=>hasTag T t.1 t.2) A
def fj (C:Cx)(env:List (Nat×AT))(T:dG)(x:Operand):AT:=
 match operand C env x with
 |.bC A a=>bif mO A T then a else .any
 |a=>a
def jO (env:List (Nat×AT))(s:Nat)(w:Bool):dG:=
 match find env s with
 |some (.bC A _)=>(s,w)::A
 |_=>[(s,w)]
def dom (mem:Mem)(dst:Nat)(as:List AT):List Nat:=dst::cT (find mem) (dY AT.ids as)
def cX (D:List Nat)(i:Nat):Bool:=bF (fun d=>Nat.beq d i || Nat.beq ((d+1)*1000) (i-i % 1000)) D
def view (mem:Mem)(D:List Nat)(i:Nat):Option ag:=bif cX D i then find mem i else none
def nA (o:Oper):Nat:=o.dst.getD 999
structure mW where
 D:List Nat
 W:List Nat
 R:List Nat
 d:Option Nat
 sh:Bool:=false
 ks:Bool:=false
 vs:Bool:=false
 kv:Bool:=false
def guardOf (env:List (Nat×AT))(ops:List Oper)(o:Oper):Option dG:=
 match o.guard with
 |none=>some []
 |some (j,want)=>((bP ops j).bind (·.dst)).map fun s=>jO env s want
def jN (env:List (Nat×AT))(s:Nat)(w:Bool):Bool:=
 match find env s with
 |some (.leaf .bool b)|some (.bC _ (.leaf .bool b))=>bif w then b else !b
 |_=>true
def gP (env:List (Nat×AT)):dG→Bool
 | []=>true
 | [(s,w)]=>jN env s w
 | (s,w)::l=>jN env s w&&gP env l
def n6 (g:Bool):List Bool→List Bool:=bf fun c=> !g || c
def qt:Operand→Option Nat
 |.tmp t=>some t
 |_=>none
def doS (C:Cx)(env:List (Nat×AT))(T:dG)(m:Nat→Option ag)(o:Oper):Option aE:=
 match o.op with
 |.pick c a b=>match qt c with
  |some s=>mF (fj C env T c) (fj C env (app (jO env s true) T) a) (fj C env (app (jO env s false) T) b)
  |none=>none
 |_=>cY C m (nA o) (fj C env T) o
def q_ (mem:Mem)(D:List Nat):Bool:=
 cn (fun x=> !cX D x.1 || (match find mem x.1 with | some ⟨_,_,.var _ a⟩=>cn (cX D) a.ids|_=>true)) mem
structure Rec where
 o:Oper
 T:dG
 D:List Nat
 d:aE
 d0:aE
 kv:Bool
def l7 (env:List (Nat×AT)):dG→Bool
 | []=>true
 | (s,_)::l=>(match find env s with
  |some (.leaf .bool _)=>true
  |some (.bC A (.leaf .bool _))=>mO A l
  |_=>false)&&l7 env l
def p6 (c:Bool):Option ag→ag→Option ag
 |none,⟨st,false,.rows t xs⟩=>bif Nat.ble 1 t.size then some ⟨st,false,.rows t (bif c then xs else [])⟩ else none
 |none,b=>some ⟨b.st+1,false,.dead⟩
 |some ⟨st,_,.dead⟩,b=>bif Nat.ble st b.st then some ⟨b.st+1,false,.dead⟩ else none
 |some ⟨st,false,.var t a⟩,⟨st',false,.var t' a'⟩=>bif Nat.beq st st'&&t.is t' then
  match a.pure,a'.pure with
  |some d,some e=>match d.as t,e.as t with
   |some x,some y=>some ⟨st,false,.var t (.leaf t (bif c then y else x))⟩
   |_,_=>none
  |_,_=>none
  else none
 |_,_=>none
def jm (c:Bool)(m:Nat→Option ag):List (Nat×ag)→Option (List (Nat×ag))
 | []=>some []
 | (i,b)::l=>match p6 c (m i) b,jm c m l with
  |some b',some l'=>bif bF (fun x=>Nat.beq x.1 i) l then none else some ((i,b')::l')
  |_,_=>none
def kZ (env:List (Nat×AT))(m:Nat→Option ag)(T:dG)(d:aE):Option aE:=
 bif T.isEmpty || d.aj.isEmpty then some d else
 bif l7 env T then(match jm (gP env T) m d.aj with | some u=>some { d with aj:=u }|none=>none) else none
def notVar:Option ag→Bool
 |some ⟨_,_,.var _ _⟩=>false
 |_=>true
def notVars (m:Nat→Option ag)(l:List (Nat×ag)):Bool:=cn (fun x=>notVar (m x.1)&&notVar (some x.2)) l
def kg (C:Cx)(ops:List Oper)(o:Oper)(st:St):Option Rec:=
 match guardOf st.env ops o with
 |none=>none
 |some T=>
  let D:=dom st.mem (nA o) (bf (fj C st.env T) o.op.operands.toList)
  match doS C st.env T (view st.mem D) o with
  |none=>none
  |some d=>
   bif cn (fun x=>cX D x.1) d.aj&&q_ st.mem D then(match kZ st.env (find st.mem) T d with | some d'=>some ⟨o,T,D,d',d,notVars (find st.mem) d'.aj⟩|none=>none) else none
def gV (T:dG)(a:AT):AT:=
 match T with
 | []=>(match a with | .bC _ _=>.any|a=>a)
 |T=>.bC T a
def okT (env:List (Nat×AT)):dG→List Bool→List Bool
 | [],l=>l
 |T,l=>n6 (gP env T) l
def Rec.go (r:Rec)(st:St):St:=
 ⟨(match r.o.dst with | some s=>(s,gV r.T r.d.av)::st.env|none=>st.env),app r.d.aj st.mem,app (okT st.env r.T r.d.ok) st.ok⟩
def looks (ops:List Oper)(o:Oper):List Nat:=
 app (c_ qt o.op.operands.toList) (match o.guard with
  |some (j,_)=>match(bP ops j).bind (·.dst) with | some s=>[s]|none=>[]
  |none=>[])
def fY (o:Oper):Bool:=match o.op with
 |.indexAddr _ _ _=>true
 |_=>false
def j6 (r:Rec):Bool:=match r.o.op,r.d.aj with
 |.store _ _ _,[(_,⟨_,_,.rows _ _⟩)]=>r.T.isEmpty
 |_,_=>false
def isVs (r:Rec):Bool:=match r.o.op,r.d0.av with
 |.move _,_=>true
 |.nilCheck _,.aZ _ _ _=>true
 |.fieldAddr _ _ _,.aZ _ _ _=>true
 |_,_=>false
def Rec.eI (ops:List Oper)(r:Rec):mW:=⟨r.D,bf (fun x=>x.1) r.d.aj,looks ops r.o,r.o.dst,fY r.o,j6 r,isVs r,r.kv⟩
def j_ (C:Cx)(ops:List Oper):List Oper→St→Option (St×List Rec)
 | [],st=>some (st,[])
 |o::l,st=>match kg C ops o st with
  |some r=>match j_ C ops l (r.go st) with
   |some (st',rs)=>some (st',r::rs)
   |none=>none
  |none=>none
def dI (acc:List Nat):List Edge→Nat
 | []=>0
 |e::l=>match e.ground with
  |.gcOnly _ | .textOnly _=>dI acc l
  |_=>Nat.lor (Nat.lor (2 ^ e.on) ((bP acc e.on).getD 0)) (dI acc l)
def dW:List Oper→List Nat→List Nat
 | [],acc=>acc
 |o::l,acc=>dW l (app acc [dI acc o.after.toList])
def ou (d:Option Nat)(R:List Nat):Bool:=match d with
 |some s=> !(bF (Nat.beq s) R)
 |none=>true
def gY (f g:mW):Bool:=(((f.ks&&g.sh) || (f.kv&&g.vs)) || cn (fun i=> !cX g.D i) f.W)&&(((g.ks&&f.sh) || (g.kv&&f.vs)) || cn (fun i=> !cX f.D i) g.W)&&ou f.d g.R&&ou g.d f.R
def free (bits:List Nat)(fs:List mW):Nat→Bool
 |0=>true
 |j+1=>free bits fs j&&Nat.ble ((bP bits j).getD 0+1) (2 ^ j) &&
  cn (fun i=>Nat.testBit ((bP bits j).getD 0) i || (match bP fs i,bP fs j with | some f,some g=>gY f g|_,_=>false)) (upto j)
def iM:List (Nat×AT)→List (Nat×AT)
 | []=>[]
 | (s,.bC _ _)::l=>(s,.any)::iM l
 |x::l=>x::iM l
def mI (C:Cx)(ops:List Oper)(draw:Bool)(st:St):Option St:=
 match j_ C ops ops st with
 |none=>none
 |some (st',rs)=>
  let r:St:=bif bF (fun o=>o.guard.isSome) ops then { st' with env:=iM st'.env } else st'
  bif draw then(bif free (dW ops []) (bf (Rec.eI ops) rs) ops.length then some r else none) else some r
def lO:Nat→List Oper→Bool
 |_,[]=>true
 |n,o::l=>(match o.guard with | some (g,_)=>Nat.ble (g+1) n|none=>true)&&lO (n+1) l
def mA (n:Nat)(ops:List Oper):Bool:=
 nodup (c_ (fun o=>o.dst) ops)&&lO 0 ops&&cn (fun o=>match o.dst with | some s=>Nat.ble (s+1) n|none=>true) ops
def codeOk (n:Nat):Code→Bool
 |.region _ ops _=>mA n ops.toList
 |.seq a b=>codeOk n a&&codeOk n b
 |.cond _ a b=>codeOk n a&&codeOk n b
 |.block _ c | .loop c | .scope c=>codeOk n c
 |_=>true
def base:Nat:=500000000
def dy:Nat:=700000000
def cG:AT→Nat→AT×List (Nat×ag)×Nat
 |.nil t,n=>(.whole n 0 t,[(n,⟨0,false,.rows t []⟩)],n+1)
 |.pair a b,n=>let l:=cG a n;let r:=cG b l.2.2;(.pair l.1 r.1,app l.2.1 r.2.1,r.2.2)
 |.bB a b,n=>let l:=cG a n;let r:=cG b l.2.2;(.bB l.1 r.1,app l.2.1 r.2.1,r.2.2)
 |.fn f c,n=>let l:=cG c n;(.fn f l.1,l.2.1,l.2.2)
 |a,n=>(a,[],n)
def gr:List (Nat×AT)→Nat→List (Nat×AT)×List (Nat×ag)×Nat
 | [],n=>([],[],n)
 | (s,a)::l,n=>let x:=cG a n;let r:=gr l x.2.2;((s,x.1)::r.1,app x.2.1 r.2.1,r.2.2)
def ek (b:ag)(n:Nat):ag×List (Nat×ag)×Nat:=match b with
 |⟨st,fz,.var t a⟩=>let x:=cG a n;(⟨st,fz,.var t x.1⟩,x.2.1,x.2.2)
 |b=>(b,[],n)
def gu:Mem→Nat→Mem×List (Nat×ag)×Nat
 | [],n=>([],[],n)
 | (i,b)::l,n=>let x:=ek b n;let r:=gu l x.2.2;((i,x.1)::r.1,app x.2.1 r.2.1,r.2.2)
def pid (s:Nat):Nat:=900+s
def eN (i:Nat):Bool:=Nat.ble 900 i&&Nat.ble i 989
def pids:Mem→List Nat→List Nat
 | [],acc=>acc
 | (i,_)::l,acc=>bif eN i && !(bF (Nat.beq i) acc) then pids l (app acc [i]) else pids l acc
def curIds (m:Nat→Option ag):AT→List Nat
 |.whole id st _ | .piece id st _ _ _ | .ptr id st _ _ | .aZ id st _=>match cur m id st with | some _=>[id]|none=>[]
 |.pair l r | .bB l r=>app (curIds m l) (curIds m r)
 |.fn _ c=>curIds m c
 |_=>[]
structure Ren where
 map:List (Nat×Nat)
 todo:List Nat
 next:Nat
def mZ:List Nat→Ren→Ren
 | [],r=>r
 |i::l,r=>match find r.map i with
  |some _=>mZ l r
  |none=>mZ l ⟨app r.map [(i,r.next)],app r.todo [i],r.next+1⟩
def od (m:Mem):Nat→Ren→List (Nat×Nat)
 |0,r=>r.map
 |n+1,r=>match r.todo with
  | []=>r.map
  |id::l=>match find m id with
   |some ⟨_,_,.var _ a⟩=>od m n (mZ (curIds (find m) a) { r with todo:=l })
   |_=>od m n { r with todo:=l }
def gO (m:Nat→Option ag)(μ:List (Nat×Nat))(id st:Nat)(f:Nat→AT):AT:=
 match cur m id st with
 |some _=>match find μ id with
  |some j=>f j
  |none=>.undef 1
 |none=>.undef 1
def mkPair:AT→AT→AT
 |.leaf s x,.leaf t y=>.leaf (.pair s t) (x,y)
 |a,b=>.pair a b
def dR (m:Nat→Option ag)(μ:List (Nat×Nat)):AT→AT
 |.whole id st t=>gO m μ id st fun j=>.whole j 0 t
 |.piece id st off len t=>gO m μ id st fun j=>.piece j 0 off len t
 |.ptr id st row p=>gO m μ id st fun j=>.ptr j 0 row p
 |.aZ id st p=>gO m μ id st fun j=>.aZ j 0 p
 |.pair a b=>mkPair (dR m μ a) (dR m μ b)
 |.bB a b=>.bB (dR m μ a) (dR m μ b)
 |.fn f c=>.fn f (dR m μ c)
 |.bC _ _=>.any
 |.nest _ _ _ _ _ u=>.undef u.size
 |a=>a
def AT.dJ:AT→Bool
 |.nest _ _ _ _ _ _=>false
 |.pair a b=>a.dJ&&b.dJ
 |.bB a b=>a.dJ&&b.dJ
 |_=>true
def k7 (m:Nat→Option ag)(μ:List (Nat×Nat)):AT→AT
 |.nest _ _ _ _ _ _=>.any
 |a=>bif a.dJ then dR m μ a else .any
def dU (m:Nat→Option ag)(μ:List (Nat×Nat))(i:Nat):ag:=
 match m i with
 |none=>⟨0,false,.dead⟩
 |some ⟨st,fz,c⟩=>bif eN i && !(Nat.beq st 0) then⟨1,false,.dead⟩ else
  match c with
  |.var t a=>⟨0,fz,.var t (dR m μ a)⟩
  |.deep _ t xs=>⟨0,fz,.deep 0 t xs⟩
  |c=>⟨0,fz,c⟩
def h_ (env:List (Nat×AT)):List Nat→List (Nat×AT)
 | []=>[]
 |s::l=>match find env s with | some a=>(s,a)::h_ env l|none=>h_ env l
def kY (i:Nat)(b:ag):Mem→Mem
 | []=>[(i,b)]
 | (j,c)::l=>bif Nat.ble i j then(i,b)::(j,c)::l else(j,c)::kY i b l
def ko:Mem→Mem
 | []=>[]
 | (i,b)::l=>kY i b (ko l)
def rU (m:Nat→Option ag):List (Nat×AT)→List Nat
 | []=>[]
 | (_,a)::l=>app (curIds m a) (rU m l)
def uniq:Mem→List Nat→Mem
 | [],_=>[]
 | (i,b)::l,seen=>bif bF (Nat.beq i) seen then uniq l seen else(i,b)::uniq l (i::seen)
def renOk (mem:Mem)(μ:List (Nat×Nat)):Bool:=
 nodup (bf (fun x=>x.1) μ)&&nodup (bf (fun x=>x.2) μ)&&cn (fun x=> !eN x.2 || Nat.beq x.1 x.2) μ &&
  cn (fun x=> !eN x.1 || (match find μ x.1 with | some j=>Nat.beq j x.1|none=>false)) mem
def qe (keep:List Nat)(st:St):St:=
 let e:=gr (h_ st.env keep) dy
 let m:=gu (uniq st.mem []) e.2.2
 ⟨e.1,app m.1 (app e.2.1 m.2.1),st.ok⟩
def qf (st:St):Option St:=
 let ps:=pids st.mem []
 let μ:=od st.mem 100 (mZ (rU (find st.mem) st.env) ⟨bf (fun i=>(i,i)) ps,ps,base⟩)
 bif renOk st.mem μ&&cn (fun x=>match x.2.c with | .var _ a=>a.dJ|_=>true) st.mem then some ⟨bf (fun x=>(x.1,k7 (find st.mem) μ x.2)) st.env,ko (bf (fun x=>(x.2,dU (find st.mem) μ x.1)) μ),st.ok⟩ else none
def plain (keep:List Nat)(st:St):Option St:=
 bif cn (fun x=>Nat.ble (x.1+1) dy) st.mem then qf (qe keep st) else none
def plainD (keep:List Nat)(st:St):St:=match plain keep st with | some s=>s|none=>⟨[],[],[]⟩
inductive AS where
 |leaf (t:Ty)|whole (id:Nat) (t:Ty)|piece (id:Nat) (t:Ty)|cy|pair (l r:AS)|undef (n:Nat)
 |ptr (id:Nat) (path:Path)|aZ (id:Nat) (path:Path)|fn (f:FuncId) (c:AS)|bB (l r:AS)|b7|any
@[reducible] def AS.den:AS→Type
 |.leaf t=>t.den
 |.piece _ _=>Nat×Nat
 |.pair l r=>l.den×r.den
 |.bB l r=>l.den×r.den
 |.ptr _ _=>Nat
 |.fn _ c=>c.den
 |_=>Unit
def AS.of:(s:AS)→s.den→AT
 |.leaf t,x=>.leaf t x
 |.whole id t,_=>.whole id 0 t
 |.piece id t,x=>.piece id 0 x.1 x.2 t
 |.cy,_=>.cy
 |.pair l r,x=>.pair (l.of x.1) (r.of x.2)
 |.undef n,_=>.undef n
 |.ptr id p,row=>.ptr id 0 row p
 |.aZ id p,_=>.aZ id 0 p
 |.fn f c,x=>.fn f (c.of x)
 |.bB l r,x=>.bB (l.of x.1) (r.of x.2)
 |.b7,_=>.b7
 |.any,_=>.any
def eP:Path→Path→Bool
 | [],[]=>true
 |.fst::p,.fst::q=>eP p q
 |.snd::p,.snd::q=>eP p q
 |.idx i::p,.idx j::q=>Nat.beq i j&&eP p q
 |_,_=>false
def AS.data:(s:AS)→AT→Option s.den
 |.leaf t,.leaf u x=>DV.as ⟨u,x⟩ t
 |.whole id t,.whole jd 0 u=>bif Nat.beq id jd&&t.is u then some () else none
 |.piece id t,.piece jd 0 o n u=>bif Nat.beq id jd&&t.is u then some (o,n) else none
 |.cy,.cy=>some ()
 |.pair l r,.pair a b=>match l.data a,r.data b with
  |some x,some y=>some (x,y)
  |_,_=>none
 |.bB l r,.bB a b=>match l.data a,r.data b with
  |some x,some y=>some (x,y)
  |_,_=>none
 |.undef n,.undef k=>bif Nat.beq n k then some () else none
 |.ptr id p,.ptr jd 0 row q=>bif Nat.beq id jd&&eP p q then some row else none
 |.aZ id p,.aZ jd 0 q=>bif Nat.beq id jd&&eP p q then some () else none
 |.fn f c,.fn g d=>bif Nat.beq f g then c.data d else none
 |.b7,.b7=>some ()
 |.any,.any=>some ()
 |_,_=>none
inductive BS where
 |var (t:Ty) (a:AS)|rows (t:Ty)|deep (t:Ty)
@[reducible] def BS.den:BS→Type
 |.var _ a=>a.den
 |.rows t=>List t.den
 |.deep t=>List t.den
def BS.of:(s:BS)→s.den→BC
 |.var t a,x=>.var t (a.of x)
 |.rows t,x=>.rows t x
 |.deep t,x=>.deep 0 t x
def BS.data:(s:BS)→BC→Option s.den
 |.var t a,.var u b=>bif t.is u then a.data b else none
 |.rows t,.rows u xs=>DV.as ⟨.lst u,xs⟩ (.lst t)
 |.deep t,.deep 0 u xs=>DV.as ⟨.lst u,xs⟩ (.lst t)
 |_,_=>none
structure Sh where
 env:List (Nat×AS)
 mem:List (Nat×Bool×BS)
@[reducible] def lI:List (Nat×AS)→Type
 | []=>Unit
 | [(_,a)]=>a.den
 | (_,a)::l=>a.den×lI l
@[reducible] def mg:List (Nat×Bool×BS)→Type
 | []=>Unit
 | [(_,_,a)]=>a.den
 | (_,_,a)::l=>a.den×mg l
def lM:(l:List (Nat×AS))→lI l→List (Nat×AT)
 | [],_=>[]
 | [(s,a)],x=>[(s,a.of x)]
 | (s,a)::b::l,x=>(s,a.of x.1)::lM (b::l) x.2
def mh:(l:List (Nat×Bool×BS))→mg l→Mem
 | [],_=>[]
 | [(s,fz,a)],x=>[(s,⟨0,fz,a.of x⟩)]
 | (s,fz,a)::b::l,x=>(s,⟨0,fz,a.of x.1⟩)::mh (b::l) x.2
def ja:(l:List (Nat×AS))→List (Nat×AT)→Option (lI l)
 | [],[]=>some ()
 | [(s,a)],[(s',b)]=>bif Nat.beq s s' then a.data b else none
 | (s,a)::a'::l,(s',b)::l'=>bif Nat.beq s s' then match a.data b,ja (a'::l) l' with
   |some x,some y=>some (x,y)
   |_,_=>none
  else none
 |_,_=>none
def ia:(l:List (Nat×Bool×BS))→Mem→Option (mg l)
 | [],[]=>some ()
 | [(s,f,a)],[(s',⟨0,f',b⟩)]=>bif Nat.beq s s'&&lD f f' then a.data b else none
 | (s,f,a)::a'::l,(s',⟨0,f',b⟩)::l'=>bif Nat.beq s s'&&lD f f' then match a.data b,ia (a'::l) l' with
   |some x,some y=>some (x,y)
   |_,_=>none
  else none
 |_,_=>none
@[reducible] def Sh.den (s:Sh):Type:=lI s.env×mg s.mem
def Sh.of (s:Sh)(x:s.den):St:=⟨lM s.env x.1,mh s.mem x.2,[]⟩
def wpA (m:Nat→Option ag):AS→AT→AT
 |.piece _ _,.whole id st t=>match cur m id st with
  |some b=>match b.c.arr with
   |some x=>.piece id st 0 x.2 t
   |none=>.whole id st t
  |none=>.whole id st t
 |_,a=>a
def wpE (m:Nat→Option ag):List (Nat×AS)→List (Nat×AT)→List (Nat×AT)
 |x::l,a::l'=>(a.1,wpA m x.2 a.2)::wpE m l l'
 |_,l'=>l'
def Sh.data (s:Sh)(st:St):Option s.den:=
 match plain (bf (fun e=>e.1) s.env) st with
 |none=>none
 |some p=>match ja s.env (wpE (find p.mem) s.env p.env),ia s.mem p.mem with
  |some x,some y=>some (x,y)
  |_,_=>none
inductive Ex where
 |norm|exit (id:Nat)|ret
def Ex.is:Ex→Ex→Bool
 |.norm,.norm=>true
 |.exit i,.exit j=>Nat.beq i j
 |.ret,.ret=>true
 |_,_=>false
abbrev dB:=List (Ex×Sh)
@[reducible] def dB.den:dB→Type
 | []=>Empty
 | [(_,s)]=>s.den
 | (_,s)::l=>s.den⊕dB.den l
def dB.data:(l:dB)→Ex→St→Option l.den
 | [],_,_=>none
 | [(e,s)],f,st=>bif e.is f then s.data st else none
 | (e,s)::b::l,f,st=>match(bif e.is f then s.data st else none) with
  |some x=>some (.inl x)
  |none=>(dB.data (b::l) f st).map .inr
@[reducible] def sumC {α β γ:Type} (x:α⊕β) (f:α→γ) (g:β→γ):γ:=match x with
 |.inl a=>f a
 |.inr b=>g b
def dB.go {α:Type}(K:Ex→St→Option α)(ok:List Bool):(l:dB)→l.den→Option α
 | [],x=>x.elim
 | [(e,s)],x=>K e { s.of x with ok:=ok }
 | (e,s)::b::l,x=>sumC x (fun y=>K e { s.of y with ok:=ok }) (fun z=>dB.go K ok (b::l) z)
structure b8 where
 sh:Sh
 fF:dB
 dom:sh.den→Bool
 val:sh.den→fF.den
def iC:Code→Nat
 |.region id _ _=>id
 |.seq a _=>iC a
 |.block _ c | .loop c | .scope c=>iC c
 |_=>0
def iy:List Bool→Bool
 | []=>true
 | [a]=>a
 |a::l=>a&&iy l
def oY (env:List (Nat×AT))(C:Cx)(c:Operand):Option Bool:=
 match operand C env c with
 |.leaf .bool g=>some g
 |_=>none
def keyOf:Code→Nat
 |.region id _ _=>id
 |.seq a _=>keyOf a
 |.cond _ a b=>1000000+(bif Nat.beq (keyOf a) 0 then keyOf b else keyOf a)
 |.block _ c | .loop c=>1000000+keyOf c
 |.scope c=>keyOf c
 |_=>0
def jU (lt:List (Nat×b8)):Code→Option b8
 |.cond c a b=>find lt (keyOf (.cond c a b))
 |.block i c=>find lt (keyOf (.block i c))
 |_=>none
def goBox {α:Type}(K:Ex→St→Option α)(L:b8)(st:St):Option α:=
 match L.sh.data st with
 |some x=>bif L.dom x then dB.go K st.ok L.fF (L.val x) else none
 |none=>none
def loopAt (lt:List (Nat×b8))(k:Nat)(st:St):Option b8:=match find lt k with
 |some L=>match L.sh.data st with
  |some _=>some L
  |none=>find lt (k+500000)
 |none=>none
def dZ {α:Type}(C:Cx)(lt:List (Nat×b8)):Code→(Ex→St→Option α)→St→Option α
 |.skip,K,st=>K .norm st
 |.region _ ops draw,K,st=>match mI C ops.toList draw st with
  |some st'=>bif iy st'.ok then K .norm { st' with ok:=[] } else none
  |none=>none
 |.seq a b,K,st=>match jU lt a with
  |some L=>goBox (fun e st'=>match e with
   |.norm=>dZ C lt b K st'
   |e=>K e st') L st
  |none=>dZ C lt a (fun e st'=>match e with
   |.norm=>dZ C lt b K st'
   |e=>K e st') st
 |.cond c a b,K,st=>match oY st.env C c with
  |some g=>bif g then dZ C lt a K st else dZ C lt b K st
  |none=>none
 |.block id c,K,st=>dZ C lt c (fun e st'=>match e with
  |.exit i=>bif Nat.beq i id then K .norm st' else K e st'
  |e=>K e st') st
 |.loop c,K,st=>match loopAt lt (iC c) st with
  |some L=>match L.sh.data st with
   |some x=>bif L.dom x then dB.go K st.ok L.fF (L.val x) else none
   |none=>none
  |none=>none
 |.exit id,K,st=>K (.exit id) st
 |.scope c,K,st=>dZ C lt c K st
 |.label _,K,st=>K .norm st
 |.ret,K,st=>K .ret st
 |_,_,_=>none
def round (C:Cx)(lt:List (Nat×b8))(c:Code)(L:b8)(x:L.sh.den):Option (L.sh.den⊕L.fF.den):=
 dZ C lt c (fun e st=>bif iy st.ok then(match e with
  |.norm=>(L.sh.data st).map .inl
  |e=>(L.fF.data e st).map .inr) else none) (L.sh.of x)
def boxR (C:Cx)(lt:List (Nat×b8))(c:Code)(L:b8)(x:L.sh.den):Option L.fF.den:=
 dZ C lt c (fun e st=>bif iy st.ok then L.fF.data e st else none) (L.sh.of x)
inductive Comes {X Y:Type} (r:X→Option (X⊕Y)):X→Y→Prop where
 |out {x:X} {y:Y}:r x=some (.inr y)→Comes r x y
 |again {x x':X} {y:Y}:r x=some (.inl x')→Comes r x' y→Comes r x y
def oV:(t:Ty)→t.den→AT
 |.pair a b,x=>.bB (.leaf a x.1) (oV b x.2)
 |_,_=>.b7
def lH (s:Nat):Nat:=950+10*s
def cV (s:Nat):Arg→AT×Mem
 |.d d=>let a:=aP (fun _=>none) d.t d.x (lH s);(a.1,a.2.1)
 |.v d=>let a:=aW (fun _=>none) d.t d.x ((pid s+1)*1000);(a.1,a.2.1)
 |.p d=>let a:=aW (fun _=>none) d.t d.x ((pid s+1)*1000);(.aZ (pid s) 0 [],(pid s,⟨0,false,.var d.t.aV a.1⟩)::a.2.1)
 |.m t xs=>(.whole (pid s) 0 t,[(pid s,⟨0,false,.rows t xs⟩)])
 |.f g d=>(.fn g (oV d.t d.x),[])
def jT:Nat→List Arg→St→St
 |_,[],st=>st
 |s,a::l,st=>let r:=cV s a;jT (s+1) l { st with env:=app st.env [(s,r.1)],mem:=app st.mem r.2 }
structure aT where
 own:List Nat:=[]
 aV:List Nat:=[]
def aT.app (a b:aT):aT:=⟨Ab.app a.own b.own,Ab.app a.aV b.aV⟩
def eT (m:Nat→Option ag):(t:Ty)→AT→Option (t.den×aT)
 |.own t,.whole id st u=>match rowsOf m id st u with
  |some (false,xs)=>match(DV.mk (.own u) xs).as (.own t) with
   |some ys=>some (ys,⟨[id],[]⟩)
   |none=>none
  |_=>none
 |.own t,.piece id st 0 len u=>match rowsOf m id st u with
  |some (false,xs)=>match(DV.mk (.own u) (xs.take len)).as (.own t) with
   |some ys=>some (ys,⟨[id],[]⟩)
   |none=>none
  |_=>none
 |.own t,.nil u=>match(DV.mk (.own u) []).as (.own t) with
  |some ys=>some (ys,{})
  |none=>none
 |.own _,.cy=>some ([],{})
 |.pair a b,.pair l r=>match eT m a l,eT m b r with
  |some (x,i),some (y,j)=>some ((x,y),i.app j)
  |_,_=>none
 |t,a=>bif t.di then none else match ck m (bY (some t) a) with
  |some d=>match d.as t with
   |some x=>some (x,⟨[],cT m a.ids⟩)
   |none=>none
  |none=>none
def oy (m:Nat→Option ag)(t:Ty)(a:AT):Option (t.den×aT):=
 match dA m (bY (some t) a) with
 |some d=>match d.as t with
  |some x=>some (x,⟨a.ids,[]⟩)
  |none=>none
 |none=>none
def gU (m:Nat→Option ag):(t:Ty)→t.den→Nat→Option (t.den×List Nat×Nat)
 |.lst t,_,n=>bif eN n then match mD m n 0 t with
  |some xs=>some (xs,[n],n+1)
  |none=>none
  else none
 |.pair a b,x,n=>bif(Ty.pair a b).aK then
  match gU m a x.1 n with
  |some (y,l,k)=>match gU m b x.2 k with
   |some (z,l',e)=>some ((y,z),app l l',e)
   |none=>none
  |none=>none
  else some (x,[],n)
 |_,x,n=>some (x,[],n)
inductive Want where
 |v (t:Ty)|d (t:Ty)|p (t:Ty)
def kR (C:Cx)(st:St):ResultVar→Option AT
 |.tmp s=>find st.env s
 |.cell s T=>match find st.env s,C.ty T with
  |some (.aZ id s0 []),some u=>match cur (find st.mem) id s0 with
   |some ⟨_,_,.var t a⟩=>bif t.is u then some a else none
   |_=>none
  |_,_=>none
def gy (C:Cx)(st:St):List ResultVar→List Want→Option (List RV×aT)
 | [],[]=>some ([],{})
 |r::rs,w::ws=>match kR C st r,gy C st rs ws with
  |some a,some (l,ids)=>match w,a with
   |.v t,a=>match eT (find st.mem) t a with
    |some (x,i)=>some (.v ⟨t,x⟩::l,i.app ids)
    |none=>none
   |.d t,a=>match oy (find st.mem) t a with
    |some (x,i)=>some (.d ⟨t,x⟩::l,i.app ids)
    |none=>none
   |.p t,.aZ id s []=>match cur (find st.mem) id s with
    |some ⟨_,false,.var _ b⟩=>match eT (find st.mem) t b with
     |some (x,i)=>some (.p ⟨t,x⟩::l,(aT.mk [id] []).app (i.app ids))
     |none=>none
    |_=>none
   |_,_=>none
  |_,_=>none
 |_,_=>none
def fq (st:St):Nat→List Arg→Option (List DV×aT)
 |_,[]=>some ([],{})
 |s,.p d::l=>match find st.mem (pid s),fq st (s+1) l with
  |some ⟨0,false,.var _ a⟩,some (r,ids)=>match eT (find st.mem) d.t a with
   |some (x,i)=>some (⟨d.t,x⟩::r,(aT.mk [pid s] []).app (i.app ids))
   |none=>none
  |_,_=>none
 |s,.m t _::l=>match rowsOf (find st.mem) (pid s) 0 t,fq st (s+1) l with
  |some (false,xs),some (r,ids)=>some (⟨.own t,xs⟩::r,(aT.mk [pid s] []).app ids)
  |_,_=>none
 |s,.d d::l=>match gU (find st.mem) d.t d.x (lH s),fq st (s+1) l with
  |some (x,i,_),some (r,ids)=>some (⟨d.t,x⟩::r,(aT.mk i []).app ids)
  |_,_=>none
 |s,_::l=>fq st (s+1) l
def finish (C:Cx)(fn:Func)(args:List Arg)(ws:List Want)(st:St):Option (List RV×List DV):=
 match gy C st fn.results.toList ws,fq st 0 args with
 |some (o,i),some (u,j)=>
  let k:=i.app j
  bif nodup k.own&&cn (fun x=> !(bF (Nat.beq x) k.own)) k.aV then(bif iy st.ok then some (o,u) else none) else none
 |_,_=>none
def evF (C:Cx)(lt:List (Nat×b8))(fn:Func)(args:List Arg)(ws:List Want):Option (List RV×List DV):=
 match fn.body with
 |none=>none
 |some c=>bif codeOk fn.ntmps c&&Nat.ble args.length fn.ntmps&&Nat.ble args.length 50&&Nat.ble ws.length 3&&nodup (bf (fun x=>x.1) (jT 0 args ⟨[],[],[]⟩).mem) then dZ C lt c (fun e st=>match e with
  |.exit _=>none
  |_=>finish C fn args ws st) (jT 0 args ⟨[],[],[]⟩) else none
inductive PT where
 |v (t:Ty)|d (t:Ty)|p (t:Ty)|m (t:Ty)|k (t:Ty)|f (g:FuncId) (t:Ty)
@[reducible] def PT.den:PT→Type
 |.v t | .d t | .p t | .k t | .f _ t=>t.den
 |.m t=>List t.den
def PT.mode:PT→Mode
 |.v _=>.v | .d _=>.d | .p _=>.p | .m _=>.m | .k _=>.k | .f _ _=>.f
def PT.arg:(p:PT)→p.den→Arg
 |.v t,x=>.v ⟨t,x⟩
 |.d t,x=>.d ⟨t,x⟩
 |.k t,x=>.v ⟨t,x⟩
 |.p t,x=>.p ⟨t,x⟩
 |.m t,x=>.m t x
 |.f g t,x=>.f g ⟨t,x⟩
@[reducible] def gE:List PT→Type
 | []=>Unit
 | [p]=>p.den
 |p::l=>p.den×gE l
def gB:(l:List PT)→gE l→List Arg
 | [],_=>[]
 | [p],x=>[p.arg x]
 |p::q::l,x=>p.arg x.1::gB (q::l) x.2
@[reducible] def ij:List PT→Type
 | []=>Unit
 |.p t::l | .d t::l=>t.den×ij l
 |.m t::l=>List t.den×ij l
 |.v _::l | .k _::l | .f _ _::l=>ij l
def iQ:(l:List PT)→ij l→List DV
 | [],_=>[]
 |.p t::l,x | .d t::l,x=>⟨t,x.1⟩::iQ l x.2
 |.m t::l,x=>⟨.own t,x.1⟩::iQ l x.2
 |.v _::l,x | .k _::l,x | .f _ _::l,x=>iQ l x
@[reducible] def Want.den:Want→Type
 |.v t | .d t | .p t=>t.den
def Want.rv:(w:Want)→w.den→RV
 |.v t,x=>.v ⟨t,x⟩
 |.d t,x=>.d ⟨t,x⟩
 |.p t,x=>.p ⟨t,x⟩
@[reducible] def jr:List Want→Type
 | []=>Unit
 | [w]=>w.den
 |w::l=>w.den×jr l
def mP:(l:List Want)→jr l→List RV
 | [],_=>[]
 | [w],x=>[w.rv x]
 |w::u::l,x=>w.rv x.1::mP (u::l) x.2
def kf (C:Cx)(st:St)(r:ResultVar):(w:Want)→Option (w.den×aT)
 |.v t=>match kR C st r with
  |some a=>eT (find st.mem) t a
  |none=>none
 |.d t=>match kR C st r with
  |some a=>oy (find st.mem) t a
  |none=>none
 |.p t=>match kR C st r with
  |some (.aZ id s [])=>match cur (find st.mem) id s with
   |some ⟨_,false,.var _ b⟩=>match eT (find st.mem) t b with
    |some (x,i)=>some (x,(aT.mk [id] []).app i)
    |none=>none
   |_=>none
  |_=>none
def kW (C:Cx)(st:St):List ResultVar→(l:List Want)→Option (jr l×aT)
 | [],[]=>some ((),{})
 | [r],[w]=>kf C st r w
 |r::r'::rs,w::u::ws=>match kf C st r w,kW C st (r'::rs) (u::ws) with
  |some (x,i),some (y,j)=>some ((x,y),i.app j)
  |_,_=>none
 |_,_=>none
def iT (st:St):Nat→(l:List PT)→List Arg→Option (ij l×aT)
 |_,[],_=>some ((),{})
 |s,.p t::l,_::as=>match find st.mem (pid s),iT st (s+1) l as with
  |some ⟨0,false,.var _ a⟩,some (r,ids)=>match eT (find st.mem) t a with
   |some (x,i)=>some ((x,r),(aT.mk [pid s] []).app (i.app ids))
   |none=>none
  |_,_=>none
 |s,.m t::l,_::as=>match rowsOf (find st.mem) (pid s) 0 t,iT st (s+1) l as with
  |some (false,xs),some (r,ids)=>some ((xs,r),(aT.mk [pid s] []).app ids)
  |_,_=>none
 |s,.d t::l,.d d::as=>match d.as t with
  |some x0=>match gU (find st.mem) t x0 (lH s),iT st (s+1) l as with
   |some (x,i,_),some (r,ids)=>some ((x,r),(aT.mk i []).app ids)
   |_,_=>none
  |none=>none
 |s,.v _::l,_::as|s,.k _::l,_::as|s,.f _ _::l,_::as=>iT st (s+1) l as
 |_,_,_=>none
def finT (C:Cx)(fn:Func)(ps:List PT)(as:List Arg)(ws:List Want)(st:St):Option (jr ws×ij ps):=
 match kW C st fn.results.toList ws,iT st 0 ps as with
 |some (o,i),some (u,j)=>
  let k:=i.app j
  bif nodup k.own&&cn (fun x=> !(bF (Nat.beq x) k.own)) k.aV then(bif iy st.ok then some (o,u) else none) else none
 |_,_=>none
def evT (C:Cx)(lt:List (Nat×b8))(fn:Func)(ps:List PT)(ws:List Want)(xs:gE ps):Option (jr ws×ij ps):=
 match fn.body with
 |none=>none
 |some c=>
  let st:=jT 0 (gB ps xs) ⟨[],[],[]⟩
  bif codeOk fn.ntmps c&&Nat.ble (gB ps xs).length fn.ntmps&&Nat.ble (gB ps xs).length 50&&Nat.ble ws.length 3&&nodup (bf (fun x=>x.1) st.mem) then dZ C lt c (fun e st=>match e with
   |.exit _=>none
   |_=>finT C fn ps (gB ps xs) ws st) st else none
structure iq where
 id:FuncId
 ps:List PT
 ws:List Want
 fn:gE ps→Option (jr ws×ij ps)
 val:gE ps→jr ws×ij ps
def nQ {α:Type}:Option α→Bool
 |some _=>true
 |none=>false
def iq.res (c:iq)(x:gE c.ps):Res:=⟨mP c.ws (c.val x).1,iQ c.ps (c.val x).2,[nQ (c.fn x)]⟩
def PT.of:(p:PT)→Arg→Option p.den
 |.v t,.v y | .k t,.v y | .p t,.p y | .d t,.d y=>y.as t
 |.m t,.m u xs=>(DV.mk (.own u) xs).as (.own t)
 |.f g t,.f h y=>bif Nat.beq g h then y.as t else none
 |_,_=>none
def mz:(l:List PT)→List Arg→Option (gE l)
 | [],[]=>some ()
 | [p],[a]=>p.of a
 |p::q::l,a::as=>match p.of a,mz (q::l) as with
  |some x,some y=>some (x,y)
  |_,_=>none
 |_,_=>none
def iq.entry (c:iq):Nat×List Mode×(List Arg→Option Res):=(c.id,c.ps.map PT.mode,fun as=>(mz c.ps as).map c.res)
def mV {X Y:Type}(r:X→Option (X⊕Y))(x:X):Prop:=∃y,Comes r x y
noncomputable def lF {X Y:Type} (r:X→Option (X⊕Y)) (x:X):Bool:=@decide (mV r x) (Classical.propDecidable _)
noncomputable def kG {X Y:Type} (r:X→Option (X⊕Y)) (y0:Y) (x:X):Y:=@dite Y (mV r x) (Classical.propDecidable _) (fun h=>Classical.choose h) (fun _=>y0)
def boxD (sh:Sh)(fF:dB)(f:sh.den→Option fF.den)(f':sh.den→fF.den):b8:=⟨sh,fF,fun x=>nQ (f x),f'⟩
noncomputable def kS (sh:Sh) (fF:dB) (y0:fF.den) (r:sh.den→Option (sh.den⊕fF.den)):b8:=⟨sh,fF,lF r,kG r y0⟩
end Go.Ab
namespace Go.Ab
def Cells (w:World)(B:Nat)(cs:List Value):Prop:=
 ∃e fr,w.heap[B]?=some (.cells cs.toArray e fr)∧∀j,j<cs.length→¬(fr.1≤j∧j<fr.2)
theorem Cells.lt {w:World}{B:Nat}{cs:List Value}(h:Cells w B cs):B<w.heap.size:=by
 obtain⟨e,fr,h,_⟩:=h
 exact(Array.getElem?_eq_some_iff.1 h).1
theorem Cells.cell {w:World}{B:Nat}{cs:List Value}(h:Cells w B cs)(j:Nat):w.cell? ⟨B,j,none⟩=cs[j]? :=by
 obtain⟨e,fr,h,_⟩:=h
 simp[World.cell?,h]
theorem Cells.frozen {w:World}{B:Nat}{cs:List Value}(h:Cells w B cs){j:Nat}(hj:j<cs.length):w.frozen? ⟨B,j,none⟩=false:=by
 obtain⟨e,fr,h,hf⟩:=h
 have:=hf j hj
 simp only[World.frozen?,h]
 simpa using this
theorem Cells.of_same {w w':World}{B:Nat}{cs:List Value}(h:Cells w B cs)(hs:w'.heap[B]?=w.heap[B]?):Cells w' B cs:=by
 obtain⟨e,fr,h,hf⟩:=h
 exact⟨e,fr,hs.trans h,hf⟩
theorem Cells.unique {w:World}{B:Nat}{cs ds:List Value}(h:Cells w B cs)(h':Cells w B ds):cs=ds:=by
 obtain⟨e,fr,h,_⟩:=h
 obtain⟨e',fr',h',_⟩:=h'
 rw[h] at h'
 simp at h'
 exact h'.1
theorem Cells.alloc (w:World)(cs:Array Value)(e:TypeId)(fr:Nat×Nat:=(0,0))(hfr:∀j,j<cs.size→¬(fr.1≤j∧j<fr.2):=by simp):Cells (w.alloc (.cells cs e fr)) w.heap.size cs.toList:=
 ⟨e,fr,by simpa using heap_alloc_new w _,fun j hj=>hfr j (by simpa using hj)⟩
theorem vn (w:World)(a:Addr)(v:Value)(k:Nat)(h:k≠a.block):(w.setCell a v).heap[k]?=w.heap[k]? :=by
 simp only[World.setCell,Array.getElem?_modify]
 rw[if_neg (by omega)]
theorem Cells.set {w:World}{B:Nat}{cs:List Value}(h:Cells w B cs)(j:Nat)(v:Value):Cells (w.setCell ⟨B,j,none⟩ v) B (cs.set j v):=by
 obtain⟨e,fr,h,hf⟩:=h
 refine⟨e,fr,?_,fun i hi=>hf i (by simpa using hi)⟩
 simp only[World.setCell,Array.getElem?_modify,if_true,h]
 simp
def putAt (cs:List Value)(o:Nat)(vs:List Value):List Value:=cs.take o++vs++cs.drop (o+vs.length)
theorem mH {cs:List Value}{o:Nat}{vs:List Value}(h:o+vs.length≤cs.length):(putAt cs o vs).length=cs.length:=by
 simp only[putAt,List.length_append,List.length_take,List.length_drop]
 omega
theorem gN {cs:List Value}{o:Nat}{vs:List Value}(h:o+vs.length≤cs.length)(j:Nat) :
  (putAt cs o vs)[j]?=if o≤j∧j<o+vs.length then vs[j-o]? else cs[j]? :=by
 simp only[putAt,List.getElem?_append,List.length_append,List.length_take,List.getElem?_take,List.getElem?_drop]
 have:min o cs.length=o:=by omega
 rw[this]
 by_cases h1:j<o
 ·simp[h1,show j<o+vs.length by omega,show ¬o≤j by omega]
 ·by_cases h2:j<o+vs.length
  ·simp[h1,h2,show o≤j by omega]
  ·simp[h2,show o≤j by omega]
   congr 1
   omega
theorem wD {cs:List Value}{o:Nat}{v:Value}{vs:List Value}(h:o+(v::vs).length≤cs.length) :
  putAt (cs.set o v) (o+1) vs=putAt cs o (v::vs):=by
 apply List.ext_getElem?
 intro j
 rw[gN (by simp at h ⊢;omega),gN h]
 simp only[List.length_cons] at h ⊢
 by_cases h1:o+1≤j∧j<o+1+vs.length
 ·rw[if_pos h1,if_pos (by omega)]
  have:j-o=(j-(o+1))+1:=by omega
  rw[this]
  simp
 ·rw[if_neg h1]
  by_cases h2:o=j
  ·subst h2
   rw[if_pos (by omega)]
   simp[show o<cs.length by omega]
  ·rw[if_neg (by omega)]
   simp[h2]
theorem run_storeCells_cells (P:Program)(B o:Nat):∀(vs:List Value) (i:Nat) (cs:List Value) (w:World),Cells w B cs→o+i+vs.length≤cs.length →
  (∀v∈vs,v.oneCell'=true) →
  ∃w',(storeCells ⟨B,o,none⟩ vs i).run P w = .ok () w'∧Cells w' B (putAt cs (o+i) vs)∧(∀k,k≠B→w'.heap[k]?=w.heap[k]?)∧w'.heap.size=w.heap.size ∧
   w'.os=w.os∧w'.tape=w.tape∧w'.output=w.output
 | [],i,cs,w,hc,_,_=>⟨w,rfl,by simpa[putAt] using hc,fun _ _=>rfl,rfl,rfl,rfl,rfl⟩
 |v::rest,i,cs,w,hc,hl,h1=>by
  have hi:o+i<cs.length:=by simp at hl;omega
  have hadd:(⟨B,o,none⟩:Addr).add i=⟨B,o+i,none⟩:=by unfold Addr.add;split<;>simp_all
  have hst:(store ((⟨B,o,none⟩:Addr).add i) v).run P w = .ok () (w.setCell ⟨B,o+i,none⟩ v):=by
   rw[hadd,run_store P w _ v _ (h1 v (by simp)),hc.cell]
   simp[hc.frozen hi,hi]
  obtain⟨w',hr,aJ,hk,hs,ho,ht,hu⟩:=run_storeCells_cells P B o rest (i+1) (cs.set (o+i) v) (w.setCell ⟨B,o+i,none⟩ v) (hc.set _ _) (by simp at hl ⊢;omega) (fun x hx=>h1 x (by simp[hx]))
  refine⟨w',?_,?_,fun k hk'=>(hk k hk').trans (vn _ _ _ _ hk'),by simpa using hs,ho,ht,hu⟩
  ·simp only[storeCells,Sem.run_bind,hst,Result.andThen_ok,hr]
  ·have:=wD (cs:=cs) (o:=o+i) (v:=v) (vs:=rest) (by simp at hl ⊢;omega)
   rw[←this,show o+i+1=o+(i+1) by omega]
   exact aJ
theorem om {P:Program}{w:World}{B o:Nat}{vs:List Value}(h:∀j,j<vs.length→w.cell? ⟨B,o+j,none⟩=vs[j]?) :
  (loadCells ⟨B,o,none⟩ vs.length).run P w = .ok vs.toArray w:=by
 refine run_loadCells_list (P:=P) w _ vs fun j v hv=>?_
 have hj:j<vs.length:=by
  rcases Nat.lt_or_ge j vs.length with h|h
  ·exact h
  ·simp[List.getElem?_eq_none h] at hv
 have:(⟨B,o,none⟩:Addr).add j=⟨B,o+j,none⟩:=by unfold Addr.add;split<;>simp_all
 rw[this,h j hj,hv]
def ew {α:Type}(w:World)(B off sz:Nat)(R:α→List Value→Prop)(xs:List α):Prop:=
 ∀(i:Nat) (x:α),xs[i]?=some x→∃cs:List Value,cs.length=sz∧(∀j,j<sz→w.cell? ⟨B,off+i*sz+j,none⟩=cs[j]?)∧R x cs
def aR {α:Type}(R:α→List Value→Prop):List α→List Value→Prop
 | [],vs=>vs = []
 |x::xs,vs=>∃v1 v2,vs=v1++v2∧R x v1∧aR R xs v2
def aa (w:World)(I:Nat→Prop):(t:Ty)→t.den→List Value→Prop
 |.unit,_,vs=>vs = []
 |.bool,x,vs=>vs = [.bool x]
 |.int k,x,vs=>vs = [.int k x]
 |.str,x,vs=>vs = [.string ⟨x.toArray⟩]
 |.lst t,xs,vs=>∃a cap,vs = [.slice a xs.length cap]∧xs.length≤cap ∧
  (xs = []∨∃B off,a=some ⟨B,off,none⟩∧I B∧ew w B off t.size (aa w I t) xs)
 |.own _,_,_=>False
 |.pair a b,x,vs=>∃v1 v2,vs=v1++v2∧aa w I a x.1 v1∧aa w I b x.2 v2
 |.arr n t,xs,vs=>xs.length=n∧aR (aa w I t) xs vs
 |.ref t,x,vs=>∃B off,vs = [.pointer (some ⟨B,off,none⟩)]∧I B∧0<t.size ∧
  ∃cs:List Value,cs.length=t.size∧(∀j,j<t.size→w.cell? ⟨B,off+j,none⟩=cs[j]?)∧aa w I t x cs
theorem aR.length {α:Type}{R:α→List Value→Prop}{n:Nat}(hR:∀x vs,R x vs→vs.length=n):∀{xs:List α} {vs:List Value},aR R xs vs→vs.length=xs.length*n
 | [],_,h=>by cases h;simp
 |x::xs,vs,⟨v1,v2,h,h1,h2⟩=>by
  subst h
  rw[List.length_append,hR _ _ h1,aR.length hR h2,List.length_cons,Nat.add_mul]
  omega
theorem aa.length {w:World}{I:Nat→Prop}: {t:Ty} → {x:t.den} → {vs:List Value}→aa w I t x vs→vs.length=t.size
 |.unit,_,_,h=>by simp only[aa] at h;simp[h,Ty.size]
 |.bool,_,_,h=>by simp only[aa] at h;simp[h,Ty.size]
 |.int _,_,_,h=>by simp only[aa] at h;simp[h,Ty.size]
 |.str,_,_,h=>by simp only[aa] at h;simp[h,Ty.size]
 |.lst _,_,_,h=>by simp only[aa] at h;obtain⟨a,cap,h,_⟩:=h;simp[h,Ty.size]
 |.own _,_,_,h=>by simp only[aa] at h
 |.pair a b,_,_,h=>by
  simp only[aa] at h
  obtain⟨v1,v2,h,h1,h2⟩:=h
  simp[h,Ty.size,aa.length h1,aa.length h2]
 |.arr n t,_,_,h=>by
  simp only[aa] at h
  rw[aR.length (fun x vs h=>aa.length h) h.2,h.1]
  rfl
 |.ref _,_,_,h=>by simp only[aa] at h;obtain⟨B,off,h,_⟩:=h;simp[h,Ty.size]
theorem aR.mono {α:Type}{R R':α→List Value→Prop}(hR:∀x vs,R x vs→R' x vs):∀{xs:List α} {vs:List Value},aR R xs vs→aR R' xs vs
 | [],_,h=>h
 |_::_,_,⟨v1,v2,h,h1,h2⟩=>⟨v1,v2,h,hR _ _ h1,aR.mono hR h2⟩
structure bD (I I':Nat→Prop) (w w':World):Prop where
 sub:∀b,I b→I' b
 same:∀b,I b→w'.heap[b]?=w.heap[b]?
theorem bD.refl (I:Nat→Prop)(w:World):bD I I w w:=⟨fun _ h=>h,fun _ _=>rfl⟩
theorem bD.trans {I I' bM:Nat→Prop}{w w' w'':World}(h:bD I I' w w')(k:bD I' bM w' w''):bD I bM w w'':=
 ⟨fun b hb=>k.sub b (h.sub b hb),fun b hb=>(k.same b (h.sub b hb)).trans (h.same b hb)⟩
theorem bD.cell {I I':Nat→Prop}{w w':World}(h:bD I I' w w'){B:Nat}(hB:I B)(o:Nat):w'.cell? ⟨B,o,none⟩=w.cell? ⟨B,o,none⟩:=
 World.cell?_of_block (w:=w) (h.same B hB)
theorem ew.mono {α:Type}{w w':World}{B off sz:Nat}{R R':α→List Value→Prop}{xs:List α}(h:ew w B off sz R xs)
  (hc:∀o,w'.cell? ⟨B,o,none⟩=w.cell? ⟨B,o,none⟩) (hR:∀x vs,R x vs→R' x vs):ew w' B off sz R' xs:=by
 intro i x hx
 obtain⟨cs,h1,h2,h3⟩:=h i x hx
 exact⟨cs,h1,fun j hj=>(hc _).trans (h2 j hj),hR _ _ h3⟩
theorem aa.mono {w w':World}{I I':Nat→Prop}(ha:bD I I' w w'): {t:Ty} → {x:t.den} → {vs:List Value}→aa w I t x vs→aa w' I' t x vs
 |.unit,_,_,h=>by simpa only[aa] using h
 |.bool,_,_,h=>by simpa only[aa] using h
 |.int _,_,_,h=>by simpa only[aa] using h
 |.str,_,_,h=>by simpa only[aa] using h
 |.lst t,_,_,h=>by
  simp only[aa] at h ⊢
  obtain⟨a,cap,h1,h2,h3⟩:=h
  refine⟨a,cap,h1,h2,h3.imp id ?_⟩
  rintro⟨B,off,h4,h5,h6⟩
  exact⟨B,off,h4,ha.sub _ h5,h6.mono (fun o=>ha.cell h5 o) (fun x vs h=>aa.mono ha h)⟩
 |.own _,_,_,h=>by simp only[aa] at h
 |.pair a b,_,_,h=>by
  simp only[aa] at h ⊢
  obtain⟨v1,v2,h,h1,h2⟩:=h
  exact⟨v1,v2,h,aa.mono ha h1,aa.mono ha h2⟩
 |.arr n t,_,_,h=>by
  simp only[aa] at h ⊢
  exact⟨h.1,aR.mono (fun x vs h=>aa.mono ha h) h.2⟩
 |.ref t,_,_,h=>by
  simp only[aa] at h ⊢
  obtain⟨B,off,h1,h2,h3,cs,h4,h5,h6⟩:=h
  exact⟨B,off,h1,ha.sub _ h2,h3,cs,h4,fun j hj=>(ha.cell h2 _).trans (h5 j hj),aa.mono ha h6⟩
theorem aR.bV {α:Type}{R:α→List Value→Prop}(hR:∀x vs,R x vs→∀v∈vs,v.oneCell'=true):∀{xs:List α} {vs:List Value},aR R xs vs→∀v∈vs,v.oneCell'=true
 | [],_,h,v,hv=>by cases h;simp at hv
 |_::_,_,⟨v1,v2,h,h1,h2⟩,v,hv=>by
  subst h
  rcases List.mem_append.1 hv with h|h
  ·exact hR _ _ h1 v h
  ·exact aR.bV hR h2 v h
theorem aa.bV {w:World}{I:Nat→Prop}: {t:Ty} → {x:t.den} → {vs:List Value}→aa w I t x vs→∀v∈vs,v.oneCell'=true
 |.unit,_,_,h=>by simp only[aa] at h;simp[h]
 |.bool,_,_,h=>by simp only[aa] at h;simp[h,Value.oneCell']
 |.int _,_,_,h=>by simp only[aa] at h;simp[h,Value.oneCell']
 |.str,_,_,h=>by simp only[aa] at h;simp[h,Value.oneCell']
 |.lst _,_,_,h=>by simp only[aa] at h;obtain⟨a,cap,h,_⟩:=h;simp[h,Value.oneCell']
 |.own _,_,_,h=>by simp only[aa] at h
 |.pair a b,_,_,h=>by
  simp only[aa] at h
  obtain⟨v1,v2,h,h1,h2⟩:=h
  subst h
  intro v hv
  rcases List.mem_append.1 hv with h|h
  ·exact aa.bV h1 v h
  ·exact aa.bV h2 v h
 |.arr n t,_,_,h=>by
  simp only[aa] at h
  exact aR.bV (fun x vs h=>aa.bV h) h.2
 |.ref _,_,_,h=>by simp only[aa] at h;obtain⟨B,off,h,_⟩:=h;simp[h,Value.oneCell']
end Go.Ab
namespace Go.Ab
def br {α:Type}(w:World)(B sz:Nat)(R:α→List Value→List Nat→Prop):Nat→List α→List Nat→Prop
 |_,[],Ds=>Ds = []
 |off,x::xs,Ds=>∃cs D1 D2,Ds=D1++D2∧cs.length=sz∧(∀j,j<sz→w.cell? ⟨B,off+j,none⟩=cs[j]?)∧R x cs D1∧br w B sz R (off+sz) xs D2
def aq (w:World)(I:Nat→Prop):(t:Ty)→t.den→List Value→List Nat→Prop
 |.lst t,xs,vs,Bs=>∃a cap,vs = [.slice a xs.length cap]∧xs.length≤cap∧((a=none∧cap=0∧Bs = []) ∨
  ∃B o cs Ds,a=some ⟨B,o,none⟩∧Cells w B cs∧o+cap*t.size≤cs.length∧br w B t.size (aq w I t) o xs Ds∧¬I B∧Bs=B::Ds)
 |.pair a b,x,vs,Bs=>∃v1 v2 B1 B2,vs=v1++v2∧Bs=B1++B2∧aq w I a x.1 v1 B1∧aq w I b x.2 v2 B2
 |.unit,x,vs,Bs=>Bs = []∧aa w I .unit x vs
 |.bool,x,vs,Bs=>Bs = []∧aa w I .bool x vs
 |.int k,x,vs,Bs=>Bs = []∧aa w I (.int k) x vs
 |.str,x,vs,Bs=>Bs = []∧aa w I .str x vs
 |.arr n t,x,vs,Bs=>Bs = []∧t.aK=false∧aa w I (.arr n t) x vs
 |.own _,_,_,_=>False
 |.ref _,_,_,_=>False
theorem aq.length {w:World}{I:Nat→Prop}:∀{t:Ty} {x:t.den} {vs:List Value} {Bs:List Nat},aq w I t x vs Bs→vs.length=t.size:=by
 intro t
 induction t with
 |lst t _=>intro x vs Bs h;simp only[aq] at h;obtain⟨a,cap,e,_⟩:=h;simp[e,Ty.size]
 |pair a b aI aH=>
  intro x vs Bs h
  simp only[aq] at h
  obtain⟨v1,v2,B1,B2,e,eb,h1,h2⟩:=h
  simp[e,Ty.size,aI h1,aH h2]
 |arr n t _=>intro x vs Bs h;simp only[aq] at h;exact aa.length h.2.2
 |own t _=>intro x vs Bs h;simp only[aq] at h
 |ref t _=>intro x vs Bs h;simp only[aq] at h
 |_=>intro x vs Bs h;simp only[aq] at h;exact aa.length h.2
theorem aq.bV {w:World}{I:Nat→Prop}:∀{t:Ty} {x:t.den} {vs:List Value} {Bs:List Nat},aq w I t x vs Bs→∀v∈vs,v.oneCell'=true:=by
 intro t
 induction t with
 |lst t _=>intro x vs Bs h;simp only[aq] at h;obtain⟨a,cap,e,_⟩:=h;simp[e,Value.oneCell']
 |pair a b aI aH=>
  intro x vs Bs h v hv
  simp only[aq] at h
  obtain⟨v1,v2,B1,B2,e,eb,h1,h2⟩:=h
  subst e
  rcases List.mem_append.1 hv with h|h
  ·exact aI h1 v h
  ·exact aH h2 v h
 |arr n t _=>intro x vs Bs h;simp only[aq] at h;exact aa.bV h.2.2
 |own t _=>intro x vs Bs h;simp only[aq] at h
 |ref t _=>intro x vs Bs h;simp only[aq] at h
 |_=>intro x vs Bs h;simp only[aq] at h;exact aa.bV h.2
theorem br.mono {α:Type}{w w':World}{B sz:Nat}{R R':α→List Value→List Nat→Prop}(hc:∀o,w'.cell? ⟨B,o,none⟩=w.cell? ⟨B,o,none⟩) :
  ∀{xs:List α} {off:Nat} {Ds:List Nat},(∀x vs D,(∀B∈D,B∈Ds)→R x vs D→R' x vs D)→br w B sz R off xs Ds→br w' B sz R' off xs Ds
 | [],_,_,_,h=>h
 |x::xs,off,Ds,hR,h=>by
  obtain⟨cs,D1,D2,e,h1,h2,h3,h4⟩:=h
  subst e
  exact⟨cs,D1,D2,rfl,h1,fun j hj=>(hc _).trans (h2 j hj),hR _ _ _ (fun B hB=>List.mem_append_left _ hB) h3,
   br.mono hc (fun x vs D hD=>hR x vs D fun B hB=>List.mem_append_right _ (hD B hB)) h4⟩
theorem aq.mono {w w':World}{I I':Nat→Prop}(ha:bD I I' w w'):∀{t:Ty} {x:t.den} {vs:List Value} {Bs:List Nat},
  (∀B∈Bs,w'.heap[B]?=w.heap[B]?∧(I' B→I B))→aq w I t x vs Bs→aq w' I' t x vs Bs:=by
 intro t
 induction t with
 |lst t ih=>
  intro x vs Bs hB h
  simp only[aq] at h ⊢
  obtain⟨a,cap,e,hl,h⟩:=h
  refine⟨a,cap,e,hl,h.imp id ?_⟩
  rintro⟨B,o,cs,Ds,h1,h2,h3,h4,h5,h6⟩
  subst h6
  obtain⟨k1,k2⟩:=hB B (by simp)
  exact⟨B,o,cs,Ds,h1,h2.of_same k1,h3,h4.mono (fun o=>World.cell?_of_block (w:=w) k1) (fun x vs D hD h=>ih (fun B' aY=>hB B' (List.mem_cons_of_mem _ (hD B' aY))) h),fun h=>h5 (k2 h),rfl⟩
 |pair a b aI aH=>
  intro x vs Bs hB h
  simp only[aq] at h ⊢
  obtain⟨v1,v2,B1,B2,e,eb,h1,h2⟩:=h
  subst eb
  exact⟨v1,v2,B1,B2,e,rfl,aI (fun B hb=>hB B (List.mem_append_left _ hb)) h1,aH (fun B hb=>hB B (List.mem_append_right _ hb)) h2⟩
 |arr n t _=>intro x vs Bs _ h;simp only[aq] at h ⊢;exact⟨h.1,h.2.1,aa.mono ha h.2.2⟩
 |own t _=>intro x vs Bs _ h;simp only[aq] at h
 |ref t _=>intro x vs Bs _ h;simp only[aq] at h
 |_=>intro x vs Bs _ h;simp only[aq] at h ⊢;exact⟨h.1,aa.mono ha h.2⟩
theorem br.at {α:Type}{w:World}{B sz:Nat}{R:α→List Value→List Nat→Prop}{R':α→List Value→Prop} :
  ∀{xs:List α} {off:Nat} {Ds:List Nat},(∀x vs D,(∀B∈D,B∈Ds)→R x vs D→R' x vs)→br w B sz R off xs Ds→ew w B off sz R' xs
 | [],_,_,_,_=>by intro i x hx;simp at hx
 |x::xs,off,Ds,hR,h=>by
  obtain⟨cs,D1,D2,e,h1,h2,h3,h4⟩:=h
  subst e
  have ih:=br.at (R':=R') (fun x vs D hD=>hR x vs D fun B hB=>List.mem_append_right _ (hD B hB)) h4
  intro i y hy
  cases i with
  |zero=>simp at hy;subst hy;exact⟨cs,h1,fun j hj=>by simpa using h2 j hj,hR _ _ _ (fun B hB=>List.mem_append_left _ hB) h3⟩
  |succ i=>
   obtain⟨cs',k1,k2,k3⟩:=ih i y (by simpa using hy)
   refine⟨cs',k1,fun j hj=>?_,k3⟩
   have:off+(i+1)*sz+j=off+sz+i*sz+j:=by rw[Nat.add_mul];omega
   rw[this];exact k2 j hj
theorem aq.lend {w:World}{I I':Nat→Prop}(hI:∀B,I B→I' B):∀{t:Ty} {x:t.den} {vs:List Value} {Bs:List Nat},(∀B∈Bs,I' B)→aq w I t x vs Bs→aa w I' t x vs:=by
 intro t
 induction t with
 |lst t ih=>
  intro x vs Bs hB h
  simp only[aq] at h
  simp only[aa]
  obtain⟨a,cap,e,hl,h⟩:=h
  refine⟨a,cap,e,hl,?_⟩
  rcases h with⟨h1,h2,h3⟩|⟨B,o,cs,Ds,h1,h2,h3,h4,h5,h6⟩
  ·left;rw[←List.length_eq_zero_iff];omega
  ·right
   subst h6
   exact⟨B,o,h1,hB B (by simp),h4.at fun x vs D hD h=>ih (fun B' aY=>hB B' (List.mem_cons_of_mem _ (hD B' aY))) h⟩
 |pair a b aI aH=>
  intro x vs Bs hB h
  simp only[aq] at h
  simp only[aa]
  obtain⟨v1,v2,B1,B2,e,eb,h1,h2⟩:=h
  subst eb
  exact⟨v1,v2,e,aI (fun B hb=>hB B (List.mem_append_left _ hb)) h1,aH (fun B hb=>hB B (List.mem_append_right _ hb)) h2⟩
 |arr n t _=>intro x vs Bs _ h;simp only[aq] at h;exact aa.mono ⟨hI,fun _ _=>rfl⟩ h.2.2
 |own t _=>intro x vs Bs _ h;simp only[aq] at h
 |ref t _=>intro x vs Bs _ h;simp only[aq] at h
 |_=>intro x vs Bs _ h;simp only[aq] at h;exact aa.mono ⟨hI,fun _ _=>rfl⟩ h.2
theorem aq.eF {w:World}{I:Nat→Prop}:∀{t:Ty} {x:t.den} {vs:List Value},t.aK=false→aa w I t x vs→aq w I t x vs []:=by
 intro t
 induction t with
 |lst t _=>intro x vs h;simp[Ty.aK] at h
 |ref t _=>intro x vs h;simp[Ty.aK] at h
 |own t _=>intro x vs _ h;simp only[aa] at h
 |pair a b aI aH=>
  intro x vs hh h
  simp only[Ty.aK,Bool.or_eq_false_iff] at hh
  simp only[aa] at h
  simp only[aq]
  obtain⟨v1,v2,e,h1,h2⟩:=h
  exact⟨v1,v2,[],[],e,rfl,aI hh.1 h1,aH hh.2 h2⟩
 |arr n t _=>intro x vs hh h;unfold aq;exact⟨rfl,by simpa[Ty.aK] using hh,h⟩
 |_=>intro x vs _ h;unfold aq;exact⟨rfl,h⟩
theorem aq.rep {w:World}{I:Nat→Prop}:∀{t:Ty} {x:t.den} {vs:List Value} {Bs:List Nat},t.aK=false→aq w I t x vs Bs→aa w I t x vs∧Bs = []:=by
 intro t
 induction t with
 |lst t _=>intro x vs Bs h;simp[Ty.aK] at h
 |ref t _=>intro x vs Bs h;simp[Ty.aK] at h
 |own t _=>intro x vs Bs _ h;simp only[aq] at h
 |pair a b aI aH=>
  intro x vs Bs hh h
  simp only[Ty.aK,Bool.or_eq_false_iff] at hh
  simp only[aq] at h
  obtain⟨v1,v2,B1,B2,e,eb,h1,h2⟩:=h
  obtain⟨k1,k2⟩:=aI hh.1 h1
  obtain⟨k3,k4⟩:=aH hh.2 h2
  refine⟨?_,by rw[eb,k2,k4];rfl⟩
  simp only[aa]
  exact⟨v1,v2,e,k1,k3⟩
 |arr n t _=>intro x vs Bs _ h;simp only[aq] at h;exact⟨h.2.2,h.1⟩
 |_=>intro x vs Bs _ h;simp only[aq] at h;exact⟨h.2,h.1⟩
end Go.Ab
namespace Go.Ab
theorem br.split {α:Type}{w:World}{B sz:Nat}{R:α→List Value→List Nat→Prop} :
  ∀{xs:List α} {off:Nat} {Ds:List Nat} {i:Nat} {x:α},xs[i]?=some x→br w B sz R off xs Ds →
  ∃D1 Di D2 cs,Ds=D1++Di++D2∧cs.length=sz∧(∀j,j<sz→w.cell? ⟨B,off+i*sz+j,none⟩=cs[j]?)∧R x cs Di ∧
   ∀(w':World) (R':α→List Value→List Nat→Prop) (y:α) (cs':List Value) (Di':List Nat),
    (∀k,¬(off+i*sz≤k∧k<off+i*sz+sz)→w'.cell? ⟨B,k,none⟩=w.cell? ⟨B,k,none⟩) →
    (∀x vs D,(∀b∈D,b∈D1++D2)→R x vs D→R' x vs D)→cs'.length=sz→(∀j,j<sz→w'.cell? ⟨B,off+i*sz+j,none⟩=cs'[j]?)→R' y cs' Di' →
    br w' B sz R' off (xs.set i y) (D1++Di'++D2)
 | [],_,_,i,x,hx,_=>by simp at hx
 |z::xs,off,Ds,0,x,hx,h=>by
  simp at hx
  subst hx
  obtain⟨cs,D1,D2,e,h1,h2,h3,h4⟩:=h
  subst e
  refine⟨[],D1,D2,cs,by simp,h1,fun j hj=>by simpa using h2 j hj,h3,fun w' R' y cs' Di' hc hR hl hy hr=>?_⟩
  simp only[List.set_cons_zero,List.nil_append]
  refine⟨cs',Di',D2,rfl,hl,fun j hj=>by simpa using hy j hj,hr,?_⟩
  have rest:∀{xs:List α} {o:Nat} {D:List Nat},off+sz≤o→(∀b∈D,b∈D2)→br w B sz R o xs D→br w' B sz R' o xs D:=by
   intro xs
   induction xs with
   |nil=>intro o D _ _ h;exact h
   |cons z xs ih=>
    intro o D ho hD h
    obtain⟨cs,E1,E2,e,k1,k2,k3,k4⟩:=h
    subst e
    refine⟨cs,E1,E2,rfl,k1,fun j hj=>(hc _ (by simp;omega)).trans (k2 j hj),hR _ _ _ (fun b hb=>by simpa using hD b (List.mem_append_left _ hb)) k3,
     ih (by omega) (fun b hb=>hD b (List.mem_append_right _ hb)) k4⟩
  exact rest (Nat.le_refl _) (fun b hb=>hb) h4
 |z::xs,off,Ds,i+1,x,hx,h=>by
  simp at hx
  obtain⟨cs0,E1,E2,e,h1,h2,h3,h4⟩:=h
  subst e
  obtain⟨D1,Di,D2,cs,e,k1,k2,k3,k4⟩:=br.split hx h4
  have ho:off+(i+1)*sz=off+sz+i*sz:=by rw[Nat.add_mul];omega
  refine⟨E1++D1,Di,D2,cs,by rw[e];simp,k1,fun j hj=>by rw[ho];exact k2 j hj,k3,fun w' R' y cs' Di' hc hR hl hy hr=>?_⟩
  simp only[List.set_cons_succ,List.append_assoc]
  refine⟨cs0,E1,D1++(Di'++D2),rfl,h1,fun j hj=>(hc _ (by rw[ho];omega)).trans (h2 j hj),hR _ _ _ (fun b hb=>by simp[hb]) h3,?_⟩
  have:=k4 w' R' y cs' Di' (fun k hk=>hc k (by rw[ho];exact hk)) (fun x vs D hD=>hR x vs D fun b hb=>by have:=hD b hb;simp only[List.append_assoc,List.mem_append] at this ⊢;exact .inr this) hl (fun j hj=>by have:=hy j hj;rw[ho] at this;exact this) hr
  simpa using this
theorem br.app {α:Type}{w:World}{B sz:Nat}{R:α→List Value→List Nat→Prop} :
  ∀{xs ys:List α} {off:Nat} {D1 D2:List Nat},br w B sz R off xs D1→br w B sz R (off+xs.length*sz) ys D2→br w B sz R off (xs++ys) (D1++D2)
 | [],ys,off,D1,D2,h,k=>by
  simp only[br] at h
  subst h
  simpa using k
 |x::xs,ys,off,D1,D2,h,k=>by
  obtain⟨cs,E1,E2,e,h1,h2,h3,h4⟩:=h
  subst e
  rw[List.append_assoc,List.cons_append]
  refine⟨cs,E1,E2++D2,rfl,h1,h2,h3,br.app h4 ?_⟩
  have:off+(x::xs).length*sz=off+sz+xs.length*sz:=by rw[List.length_cons,Nat.add_mul];omega
  rw[this] at k
  exact k
theorem aq.part {w:World}{I:Nat→Prop}:∀(p:Path) {t u:Ty} {x:t.den} {vs:List Value} {Bs:List Nat},p.pairs=true→t.at p=some u→aq w I t x vs Bs →
  ∃(y:u.den) (pre mid post:List Value) (B1 Bm B2:List Nat),AT.get p (.leaf t x)=some (.leaf u y)∧vs=pre++mid++post∧pre.length=t.off p∧Bs=B1++Bm++B2∧aq w I u y mid Bm ∧
   ∀(w':World) (I':Nat→Prop) (z:u.den) (aN:List Value) (fu:List Nat),bD I I' w w'→(∀B∈B1++B2,w'.heap[B]?=w.heap[B]?∧(I' B→I B))→aq w' I' u z aN fu →
    ∃x',(AT.set p (.leaf t x) (.leaf u z)).bind AT.pure=some ⟨t,x'⟩∧aq w' I' t x' (pre++aN++post) (B1++fu++B2)
 | [],t,u,x,vs,Bs,_,hu,h=>by
  simp only[Ty.at,Option.some.injEq] at hu
  subst hu
  refine⟨x,[],vs,[],[],Bs,[],rfl,by simp,rfl,by simp,h,fun w' I' z aN fu _ _ hz=>⟨z,rfl,by simpa using hz⟩⟩
 |.fst::p,t,u,x,vs,Bs,hp,hu,h=>by
  cases t<;>simp only[Ty.at,reduceCtorEq] at hu
  rename_i a b
  simp only[aq] at h
  obtain⟨v1,v2,C1,C2,e,eb,h1,h2⟩:=h
  obtain⟨y,pre,mid,post,B1,Bm,B2,k1,k2,k3,k4,k5,k6⟩:=aq.part p (by simpa[Path.pairs] using hp) hu h1
  subst e k2 eb k4
  refine⟨y,pre,mid,post++v2,B1,Bm,B2++C2,by simpa only[AT.get] using k1,by simp,by simpa only[Ty.off] using k3,by simp,k5,fun w' I' z aN fu ha hB hz=>?_⟩
  obtain⟨x',q1,q2⟩:=k6 w' I' z aN fu ha (fun B hb=>hB B (by simp only[List.mem_append] at hb ⊢;rcases hb with hb|hb<;>simp[hb])) hz
  obtain⟨s,q3,q4⟩:=Option.bind_eq_some_iff.1 q1
  refine⟨(x',x.2),?_,?_⟩
  ·simp only[AT.set,q3,Option.map_some,Option.bind_some,AT.pure,q4]
  ·simp only[aq]
   exact⟨pre++aN++post,v2,B1++fu++B2,C2,by simp,by simp,q2,aq.mono ha (fun B hb=>hB B (by simp[hb])) h2⟩
 |.snd::p,t,u,x,vs,Bs,hp,hu,h=>by
  cases t<;>simp only[Ty.at,reduceCtorEq] at hu
  rename_i a b
  simp only[aq] at h
  obtain⟨v1,v2,C1,C2,e,eb,h1,h2⟩:=h
  obtain⟨y,pre,mid,post,B1,Bm,B2,k1,k2,k3,k4,k5,k6⟩:=aq.part p (by simpa[Path.pairs] using hp) hu h2
  subst e k2 eb k4
  refine⟨y,v1++pre,mid,post,C1++B1,Bm,B2,by simpa only[AT.get] using k1,by simp,by simp only[Ty.off,List.length_append,aq.length h1,k3],by simp,k5,fun w' I' z aN fu ha hB hz=>?_⟩
  obtain⟨x',q1,q2⟩:=k6 w' I' z aN fu ha (fun B hb=>hB B (by simp only[List.mem_append] at hb ⊢;rcases hb with hb|hb<;>simp[hb])) hz
  obtain⟨s,q3,q4⟩:=Option.bind_eq_some_iff.1 q1
  refine⟨(x.1,x'),?_,?_⟩
  ·simp only[AT.set,q3,Option.map_some,Option.bind_some,AT.pure,q4]
  ·simp only[aq]
   exact⟨v1,pre++aN++post,C1,B1++fu++B2,by simp,by simp,aq.mono ha (fun B hb=>hB B (by simp[hb])) h1,q2⟩
 |.idx _::p,t,u,x,vs,Bs,hp,_,_=>by simp[Path.pairs] at hp
theorem aq.blk {w:World}{I:Nat→Prop}:∀{t:Ty} {x:t.den} {vs:List Value} {Bs:List Nat},aq w I t x vs Bs→∀B∈Bs,B<w.heap.size∧¬I B:=by
 intro t
 induction t with
 |lst t ih=>
  intro x vs Bs h B hB
  simp only[aq] at h
  obtain⟨a,cap,e,hl,h⟩:=h
  rcases h with⟨_,_,h⟩|⟨B0,o,cs,Ds,h1,h2,h3,h4,h5,h6⟩
  ·subst h;simp at hB
  ·subst h6
   have rows:∀(xs:List t.den) (off:Nat) (Ds:List Nat),br w B0 t.size (aq w I t) off xs Ds→∀B∈Ds,B<w.heap.size∧¬I B:=by
    intro xs
    induction xs with
    |nil=>intro off Ds h B hB;simp only[br] at h;subst h;simp at hB
    |cons z xs fW=>
     intro off Ds h B hB
     obtain⟨cs,D1,D2,e,_,_,k3,k4⟩:=h
     subst e
     rcases List.mem_append.1 hB with hB|hB
     ·exact ih k3 B hB
     ·exact fW _ _ k4 B hB
   rcases List.mem_cons.1 hB with e|hB
   ·subst e;exact⟨h2.lt,h5⟩
   ·exact rows _ _ _ h4 B hB
 |pair a b aI aH=>
  intro x vs Bs h B hB
  simp only[aq] at h
  obtain⟨v1,v2,B1,B2,e,eb,h1,h2⟩:=h
  subst eb
  rcases List.mem_append.1 hB with hB|hB
  ·exact aI h1 B hB
  ·exact aH h2 B hB
 |own t _=>intro x vs Bs h;simp only[aq] at h
 |ref t _=>intro x vs Bs h;simp only[aq] at h
 |_=>intro x vs Bs h B hB;simp only[aq] at h;rw[h.1] at hB;simp at hB
theorem br.blk {w:World}{I:Nat→Prop}{t:Ty}{B0:Nat}:∀{xs:List t.den} {off:Nat} {Ds:List Nat},br w B0 t.size (aq w I t) off xs Ds→∀B∈Ds,B<w.heap.size∧¬I B
 | [],_,_,h,B,hB=>by simp only[br] at h;subst h;simp at hB
 |_::_,_,_,h,B,hB=>by
  obtain⟨cs,D1,D2,e,_,_,k3,k4⟩:=h
  subst e
  rcases List.mem_append.1 hB with hB|hB
  ·exact aq.blk k3 B hB
  ·exact br.blk k4 B hB
end Go.Ab
namespace Go.Ab
structure Pl where
 f:Nat→Option (Nat×Nat)
 d:Nat→List Nat
instance:CoeFun Pl (fun _=>Nat→Option (Nat×Nat)):=⟨Pl.f⟩
abbrev MF:=Nat→Option ag
def eV (vs:List Value):Prop:=∃v,vs = [v]∧v.oneCell'=true
def bR (m:MF)(id st:Nat):Prop:=∃b,m id=some b∧st≤b.st
def eu (w:World)(ρ:Pl)(id sz:Nat)(a:Option Addr)(cap:Nat):Prop:=
 (a=none∧cap=0∧ρ id=none)∨∃B o cs,ρ id=some (B,o)∧a=some ⟨B,o,none⟩∧Cells w B cs∧o+cap*sz≤cs.length
def f_ (w:World)(ρ:Pl)(id sz off:Nat)(a:Option Addr)(cap:Nat):Prop:=
 (cap=0∨∃B o cs,ρ id=some (B,o)∧a=some ⟨B,o+off*sz,none⟩∧Cells w B cs∧o+off*sz+cap*sz≤cs.length)∧(off=0→eu w ρ id sz a cap)
theorem eu.weak {w:World}{ρ:Pl}{id sz:Nat}{a:Option Addr}{cap:Nat}(h:eu w ρ id sz a cap):f_ w ρ id sz 0 a cap:=by
 refine⟨?_,fun _=>h⟩
 rcases h with h|⟨B,o,cs,h1,h2,h3,h4⟩
 ·exact .inl h.2.1
 ·exact .inr ⟨B,o,cs,h1,by simpa using h2,h3,by simpa using h4⟩
def cZ:Path→Ty→Prop
 | [],_=>True
 |.fst::p,.pair a _=>cZ p a
 |.snd::p,.pair _ b=>cZ p b
 |.idx i::p,.arr n t=>i<n∧cZ p t
 |_::_,_=>False
def af (w:World)(I:Nat→Prop)(m:MF)(ρ:Pl):AT→List Value→Prop
 |.leaf t x,vs=>aa w I t x vs
 |.whole id st _,vs=>eV vs∧bR m id st∧∀b,m id=some b→b.st=st→∀u n,b.c.arr=some (u,n) →
  ∃a cap,vs = [.slice a n cap]∧n≤cap∧eu w ρ id u.size a cap
 |.piece id st off len _,vs=>eV vs∧bR m id st∧∀b,m id=some b→b.st=st→∀u n,b.c.arr=some (u,n) →
  ∃a cap,vs = [.slice a len cap]∧len≤cap∧(off+len≤n∧n≤off+cap)∧f_ w ρ id u.size off a cap
 |.nil _,vs=>vs = [.slice none 0 0]
 |.cy,vs=>vs = [.slice none 0 0]
 |.pair l r,vs=>∃v1 v2,vs=v1++v2∧af w I m ρ l v1∧af w I m ρ r v2
 |.undef n,vs=>vs.length=n∧∀v∈vs,v.oneCell'=true
 |.aZ id st p,vs=>eV vs∧bR m id st∧∀b,m id=some b→b.st=st→∀t a,b.c = .var t a →
  cZ p t∧∃B,ρ id=some (B,0)∧vs = [.pointer (some ⟨B,t.off p,none⟩)]
 |.ptr id st row p,vs=>eV vs∧bR m id st∧∀b,m id=some b→b.st=st→∀t n,b.c.arr=some (t,n) →
  cZ p t∧row<n∧∃B o,ρ id=some (B,o)∧vs = [.pointer (some ⟨B,o+row*t.size+t.off p,none⟩)]
 |.nest id st rs row p u,vs=>vs.length=u.size∧(∀v∈vs,v.oneCell'=true)∧bR m id st∧∀b,m id=some b→b.st=st→∀r t xs,b.c = .deep r t xs→rs≤r∧(r=rs →
  t.at p=some u∧p.pairs=true∧row<xs.length∧∃B o,ρ id=some (B,o)∧∀j,j<u.size→w.cell? ⟨B,o+row*t.size+t.off p+j,none⟩=vs[j]?)
 |.fn f c,vs=>∃caps:Array Value,vs = [.func (.func f) #[] caps]∧af w I m ρ c caps.toList
 |.bB l r,vs=>∃v vs',vs=v::vs'∧af w I m ρ l [v]∧af w I m ρ r vs'
 |.b7,vs=>vs = []
 |.bC _ _,_=>False
 |.any,_=>False
def aB (w:World)(I:Nat→Prop)(m:MF)(ρ:Pl)(a:AT)(v:Value):Prop:=
 if a.isAgg then ∃arr,v = .agg arr∧af w I m ρ a arr.toList else af w I m ρ a [v]
def cD (w:World)(I:Nat→Prop)(m:MF)(ρ:Pl):AT→List Value→Prop
 |.bB l r,vs=>∃v vs',vs=v::vs'∧aB w I m ρ l v∧cD w I m ρ r vs'
 |.b7,vs=>vs = []
 |_,_=>False
def au (w:World)(I:Nat→Prop)(m:MF)(ρ:Pl)(a:AT)(v:Value):Prop:=
 match a with
 |.bB l r=>∃arr,v = .tuple arr∧cD w I m ρ (.bB l r) arr.toList
 |.b7=>v = .tuple #[]
 |.any=>True
 |.bC _ _=>True
 |a=>aB w I m ρ a v
def dH (tmps:Array Value)(T:dG):Prop:=∀t∈T,tmps.getD t.1 Go.undef = .bool t.2
def fO (w:World)(I:Nat→Prop)(m:MF)(ρ:Pl)(tmps:Array Value)(a:AT)(v:Value):Prop:=
 match a with
 |.bC T b=>(dH tmps T→au w I m ρ b v)∧(¬dH tmps T→v=Go.undef)
 |a=>au w I m ρ a v
def Typed:AT→Ty→Prop
 |.leaf t _,u=>t=u
 |.whole _ _ t,u=>u = .lst t
 |.piece _ _ _ _ t,u=>u = .lst t
 |.nil t,u=>u = .lst t
 |.pair l r,u=>∃a b,u = .pair a b∧Typed l a∧Typed r b
 |.undef n,u=>u.size=n∧u.isAgg=false
 |.nest _ _ _ _ _ t,u=>t=u
 |_,_=>False
def aS (w:World)(I:Nat→Prop)(m:MF)(ρ:Pl)(id:Nat)(b:ag):Prop:=
 match b.c with
 |.dead=>True
 |.var t a=>Typed a t∧∃B cs,ρ id=some (B,0)∧Cells w B cs∧af w I m ρ a cs∧(b.fz=true↔I B)
 |.rows t xs=>True∧((xs = []∧ρ id=none) ∨
  ∃B o cs,ρ id=some (B,o)∧Cells w B cs∧o+xs.length*t.size≤cs.length∧ew w B o t.size (aa w I t) xs∧(b.fz=true↔I B))
 |.deep _ t xs=>b.fz=false∧((xs = []∧ρ id=none∧ρ.d id = []) ∨
  ∃B o cs,ρ id=some (B,o)∧Cells w B cs∧o+xs.length*t.size≤cs.length∧br w B t.size (aq w I t) o xs (ρ.d id)∧¬I B)
def ag.bq (b:ag):Prop:=match b.c with | .deep _ _ _=>True|_=>False
def ag.live (b:ag):Prop:=match b.c with | .dead=>False|_=>True
structure gC where
 ok:World→(Nat→Prop)→Prop
 mono:∀{w w':World} {I I':Nat→Prop},bD I I' w w'→ok w I→ok w' I'
def gC.none:gC:=⟨fun _ _=>True,fun _ _=>trivial⟩
structure Fix where
 w0:World
 I0:Nat→Prop
 X0:Nat→Prop
 G:gC
structure aD (F:Fix) (m:MF) (w:World) (I:Nat→Prop) (ρ:Pl):Prop where
 blk:∀id b,m id=some b→aS w I m ρ id b
 inj:∀id id' b b' B o o',m id=some b→m id'=some b'→b.live→b'.live→ρ id=some (B,o)→ρ id'=some (B,o')→id=id'
 aV:∀B,I B→B<w.heap.size
 fX:∀B,F.I0 B→I B
 fI:∀B,I B→F.I0 B∨F.w0.heap.size≤B∨F.X0 B
 mine:∀id b B o,m id=some b→b.live→ρ id=some (B,o)→F.w0.heap.size≤B∨F.X0 B
 dp:∀id b,m id=some b→b.bq→(ρ.d id).Nodup∧∀B∈ρ.d id,(F.w0.heap.size≤B∨F.X0 B)∧(∀id' b' o,m id'=some b'→b'.live→ρ id'≠some (B,o)) ∧
  ∀id' b',m id'=some b'→b'.bq→B∈ρ.d id'→id'=id
 frame:∀B,B<F.w0.heap.size→¬F.X0 B→w.heap[B]?=F.w0.heap[B]?
 size:F.w0.heap.size≤w.heap.size
 os:w.os=F.w0.os
 tape:w.tape=F.w0.tape
 output:w.output=F.w0.output
 ez:F.G.ok w I
def bt:BC→BC→Prop
 |.var t _,.var u _=>t=u
 |.rows t xs,.rows u ys=>t=u∧xs.length=ys.length
 |.deep rs t xs,.deep rs' u ys=>rs≤rs'∧t=u∧xs.length=ys.length
 |.dead,.dead=>True
 |_,_=>False
structure cC (m m':MF) (ρ ρ':Pl) (w w':World):Prop where
 keep:∀id b,m id=some b→∃b',m' id=some b'∧(b.st<b'.st∨(b.st=b'.st∧bt b.c b'.c∧ρ' id=ρ id ∧
  (b.live→∀B o,ρ id=some (B,o)→∀cs,Cells w B cs→∃cs',Cells w' B cs'∧cs.length≤cs'.length)))
 nest:∀id b b' rs t u xs ys,m id=some b→m' id=some b'→b.st=b'.st→b.c = .deep rs t xs→b'.c = .deep rs u ys→∀B o,ρ id=some (B,o)→w'.heap[B]?=w.heap[B]?
theorem sF {b:ag}{x:Ty×Nat}(h:b.c.arr=some x):b.live:=by
 unfold ag.live;cases hc:b.c<;>simp_all [BC.arr]
theorem bt.arr {c c':BC}(h:bt c c'):c.arr=c'.arr:=by
 cases c<;>cases c'<;>simp_all [bt,BC.arr]
theorem bR.mono {m m':MF}{ρ ρ':Pl}{w w':World}(hk:cC m m' ρ ρ' w w'){id st:Nat}(h:bR m id st):bR m' id st:=by
 obtain⟨b,hb,hs⟩:=h
 obtain⟨b',hb',h⟩:=hk.keep id b hb
 exact⟨b',hb',by rcases h with h|h<;>omega⟩
theorem cC.back {m m':MF}{ρ ρ':Pl}{w w':World}(hk:cC m m' ρ ρ' w w'){id st:Nat}(h:bR m id st){b':ag}(hb':m' id=some b')(hs:b'.st=st) :
  ∃b,m id=some b∧b.st=st∧bt b.c b'.c∧ρ' id=ρ id∧(b.live→∀B o,ρ id=some (B,o)→∀cs,Cells w B cs→∃cs',Cells w' B cs'∧cs.length≤cs'.length):=by
 obtain⟨b,hb,hle⟩:=h
 obtain⟨b'',jX,h⟩:=hk.keep id b hb
 rw[hb'] at jX
 cases jX
 rcases h with h|⟨h1,h2,h3,h4⟩
 ·omega
 ·exact⟨b,hb,by omega,h2,h3,h4⟩
theorem eu.mono {w w':World}{ρ ρ':Pl}{id sz:Nat}{a:Option Addr}{cap:Nat}(h:eu w ρ id sz a cap)(hρ:ρ' id=ρ id)
  (hc:∀B o,ρ id=some (B,o)→∀cs,Cells w B cs→∃cs',Cells w' B cs'∧cs.length≤cs'.length):eu w' ρ' id sz a cap:=by
 rcases h with h|⟨B,o,cs,h1,h2,h3,h4⟩
 ·exact .inl ⟨h.1,h.2.1,hρ.trans h.2.2⟩
 ·obtain⟨cs',h5,h6⟩:=hc B o h1 cs h3
  exact .inr ⟨B,o,cs',hρ.trans h1,h2,h5,by omega⟩
theorem f_.mono {w w':World}{ρ ρ':Pl}{id sz off:Nat}{a:Option Addr}{cap:Nat}(h:f_ w ρ id sz off a cap)(hρ:ρ' id=ρ id)
  (hc:∀B o,ρ id=some (B,o)→∀cs,Cells w B cs→∃cs',Cells w' B cs'∧cs.length≤cs'.length):f_ w' ρ' id sz off a cap:=by
 refine⟨?_,fun h0=>(h.2 h0).mono hρ hc⟩
 rcases h.1 with h|⟨B,o,cs,h1,h2,h3,h4⟩
 ·exact .inl h
 ·obtain⟨cs',h5,h6⟩:=hc B o h1 cs h3
  exact .inr ⟨B,o,cs',hρ.trans h1,h2,h5,by omega⟩
theorem af.mono {w w':World}{I I':Nat→Prop}{m m':MF}{ρ ρ':Pl}(ha:bD I I' w w')(hk:cC m m' ρ ρ' w w') :
  ∀{a:AT} {vs:List Value},af w I m ρ a vs→af w' I' m' ρ' a vs:=by
 intro a
 induction a with
 |leaf t x=>intro vs h;exact aa.mono ha h
 |whole id st t=>
  intro vs h
  simp only[af] at h ⊢
  obtain⟨h1,h2,h3⟩:=h
  refine⟨h1,h2.mono hk,fun b' hb' hs u n hc=>?_⟩
  obtain⟨b,hb,hs',hsh,hρ,hcs⟩:=hk.back h2 hb' hs
  rw[←hsh.arr] at hc
  obtain⟨a,cap,e1,e2,e3⟩:=h3 b hb hs' u n hc
  exact⟨a,cap,e1,e2,e3.mono hρ (hcs (sF hc))⟩
 |piece id st off len t=>
  intro vs h
  simp only[af] at h ⊢
  obtain⟨h1,h2,h3⟩:=h
  refine⟨h1,h2.mono hk,fun b' hb' hs u n hc=>?_⟩
  obtain⟨b,hb,hs',hsh,hρ,hcs⟩:=hk.back h2 hb' hs
  rw[←hsh.arr] at hc
  obtain⟨a,cap,e1,e2,e3,e4⟩:=h3 b hb hs' u n hc
  exact⟨a,cap,e1,e2,e3,e4.mono hρ (hcs (sF hc))⟩
 |nil t=>intro vs h;simpa only[af] using h
 |cy=>intro vs h;simpa only[af] using h
 |pair l r ihl ihr=>
  intro vs h
  simp only[af] at h ⊢
  obtain⟨v1,v2,e,h1,h2⟩:=h
  exact⟨v1,v2,e,ihl h1,ihr h2⟩
 |undef n=>intro vs h;simpa only[af] using h
 |aZ id st p=>
  intro vs h
  simp only[af] at h ⊢
  obtain⟨h1,h2,h3⟩:=h
  refine⟨h1,h2.mono hk,fun b' hb' hs t a hc=>?_⟩
  obtain⟨b,hb,hs',hsh,hρ,hcs⟩:=hk.back h2 hb' hs
  cases hbc:b.c with
  |var t' a'=>
   simp only[hbc,hc,bt] at hsh
   obtain⟨e0,B,e1,e2⟩:=h3 b hb hs' t' a' hbc
   subst hsh
   exact⟨e0,B,hρ.trans e1,e2⟩
  |rows _ _=>simp[hbc,hc,bt] at hsh
  |deep _ _ _=>simp[hbc,hc,bt] at hsh
  |dead=>simp[hbc,hc,bt] at hsh
 |ptr id st row p=>
  intro vs h
  simp only[af] at h ⊢
  obtain⟨h1,h2,h3⟩:=h
  refine⟨h1,h2.mono hk,fun b' hb' hs t n hc=>?_⟩
  obtain⟨b,hb,hs',hsh,hρ,hcs⟩:=hk.back h2 hb' hs
  rw[←hsh.arr] at hc
  obtain⟨ep,e0,B,o,e1,e2⟩:=h3 b hb hs' t n hc
  exact⟨ep,e0,B,o,hρ.trans e1,e2⟩
 |nest id st rs row p u=>
  intro vs h
  simp only[af] at h ⊢
  obtain⟨h1,h10,h2,h3⟩:=h
  refine⟨h1,h10,h2.mono hk,fun b' hb' hs r t xs hc=>?_⟩
  obtain⟨b,hb,hs',hsh,hρ,hcs⟩:=hk.back h2 hb' hs
  cases hbc:b.c with
  |deep r0 t0 ys=>
   simp only[hbc,hc,bt] at hsh
   obtain⟨g1,g2,g3⟩:=hsh
   subst g2
   obtain⟨k1,k2⟩:=h3 b hb hs' r0 t0 ys hbc
   refine⟨by omega,fun hr=>?_⟩
   have hr0:r0=rs:=by omega
   obtain⟨q1,q2,q3,B,o,q4,q5⟩:=k2 hr0
   have hsame:=hk.nest id b b' r0 t0 t0 ys xs hb hb' (by omega) hbc (by rw[hc,hr,hr0]) B o q4
   exact⟨q1,q2,by omega,B,o,hρ.trans q4,fun j hj=>(World.cell?_of_block (w:=w) hsame).trans (q5 j hj)⟩
  |var _ _=>simp[hbc,hc,bt] at hsh
  |rows _ _=>simp[hbc,hc,bt] at hsh
  |dead=>simp[hbc,hc,bt] at hsh
 |fn f c ih=>
  intro vs h
  simp only[af] at h ⊢
  obtain⟨caps,e,h⟩:=h
  exact⟨caps,e,ih h⟩
 |bB l r ihl ihr=>
  intro vs h
  simp only[af] at h ⊢
  obtain⟨v,vs',e,h1,h2⟩:=h
  exact⟨v,vs',e,ihl h1,ihr h2⟩
 |b7=>intro vs h;simpa only[af] using h
 |bC T a ih=>intro vs h;simp only[af] at h
 |any=>intro vs h;simp only[af] at h
theorem aB.mono {w w':World}{I I':Nat→Prop}{m m':MF}{ρ ρ':Pl}(ha:bD I I' w w')(hk:cC m m' ρ ρ' w w'){a:AT}{v:Value}(h:aB w I m ρ a v):aB w' I' m' ρ' a v:=by
 unfold aB at *
 split
 ·rename_i hh
  rw[if_pos hh] at h
  obtain⟨arr,e,h⟩:=h
  exact⟨arr,e,h.mono ha hk⟩
 ·rename_i hh
  rw[if_neg hh] at h
  exact h.mono ha hk
theorem cD.mono {w w':World}{I I':Nat→Prop}{m m':MF}{ρ ρ':Pl}(ha:bD I I' w w')(hk:cC m m' ρ ρ' w w') :
  ∀{a:AT} {vs:List Value},cD w I m ρ a vs→cD w' I' m' ρ' a vs
 |.bB l r,vs,h=>by
  simp only[cD] at h ⊢
  obtain⟨v,vs',e,h1,h2⟩:=h
  exact⟨v,vs',e,h1.mono ha hk,h2.mono ha hk⟩
 |.b7,_,h=>by simpa only[cD] using h
 |.leaf _ _,_,h | .whole _ _ _,_,h | .piece _ _ _ _ _,_,h | .nil _,_,h | .cy,_,h | .pair _ _,_,h | .undef _,_,h | .aZ _ _ _,_,h | .ptr _ _ _ _,_,h
 |.fn _ _,_,h | .bC _ _,_,h | .any,_,h=>by simp only[cD] at h
theorem au.mono {w w':World}{I I':Nat→Prop}{m m':MF}{ρ ρ':Pl}(ha:bD I I' w w')(hk:cC m m' ρ ρ' w w'){a:AT}{v:Value}(h:au w I m ρ a v):au w' I' m' ρ' a v:=by
 unfold au at *
 split
 ·obtain⟨arr,e,h⟩:=h
  exact⟨arr,e,h.mono ha hk⟩
 ·exact h
 ·trivial
 ·trivial
 ·rename_i h1 h2 h3 h4
  cases a<;>first|exact absurd rfl (h1 _ _)|exact absurd rfl h2|exact absurd rfl h3|exact absurd rfl (h4 _ _)|exact aB.mono ha hk h
theorem fO.mono {w w':World}{I I':Nat→Prop}{m m':MF}{ρ ρ':Pl}(ha:bD I I' w w')(hk:cC m m' ρ ρ' w w'){tmps:Array Value}{a:AT}{v:Value}(h:fO w I m ρ tmps a v):fO w' I' m' ρ' tmps a v:=by
 cases a with
 |bC T b=>exact⟨fun ht=>(h.1 ht).mono ha hk,h.2⟩
 |_=>simp only[fO] at h ⊢;exact h.mono ha hk
theorem aR.split {α:Type}{R:α→List Value→Prop}{n:Nat}(hR:∀x vs,R x vs→vs.length=n):∀{xs:List α} {vs:List Value} {i:Nat} {x:α},aR R xs vs→xs[i]?=some x →
  ∃pre mid post,vs=pre++mid++post∧pre.length=i*n∧R x mid∧∀y aN,R y aN→aR R (xs.set i y) (pre++aN++post)
 | [],_,_,_,_,hx=>by simp at hx
 |z::xs,vs,0,x,⟨v1,v2,h,h1,h2⟩,hx=>by
  simp at hx
  subst hx
  exact⟨[],v1,v2,by simpa using h,by simp,h1,fun y aN hy=>⟨aN,v2,by simp,hy,h2⟩⟩
 |z::xs,vs,i+1,x,⟨v1,v2,h,h1,h2⟩,hx=>by
  simp at hx
  obtain⟨pre,mid,post,e1,e2,e3,e4⟩:=aR.split hR h2 hx
  refine⟨v1++pre,mid,post,by rw[h,e1];simp,by rw[List.length_append,hR _ _ h1,e2,Nat.add_mul];omega,e3,fun y aN hy=>?_⟩
  exact⟨v1,pre++aN++post,by simp,h1,e4 y aN hy⟩
theorem eV.length {vs:List Value}(h:eV vs):vs.length=1:=by obtain⟨v,rfl,_⟩:=h;rfl
section
variable {w:World} {I:Nat→Prop} {m:MF} {ρ:Pl}
theorem Typed.length:∀{a:AT} {t:Ty} {vs:List Value},Typed a t→af w I m ρ a vs→vs.length=t.size:=by
 intro a
 induction a with
 |leaf u x=>intro t vs ht h;simp only[Typed] at ht;subst ht;exact aa.length h
 |whole id st u=>intro t vs ht h;simp only[Typed] at ht;subst ht;simp only[af] at h;simpa[Ty.size] using h.1.length
 |piece id st off len u=>intro t vs ht h;simp only[Typed] at ht;subst ht;simp only[af] at h;simpa[Ty.size] using h.1.length
 |nil u=>intro t vs ht h;simp only[Typed] at ht;subst ht;simp only[af] at h;subst h;rfl
 |pair l r ihl ihr=>
  intro t vs ht h
  simp only[Typed] at ht
  obtain⟨a,b,rfl,h1,h2⟩:=ht
  simp only[af] at h
  obtain⟨v1,v2,rfl,h3,h4⟩:=h
  simp[Ty.size,ihl h1 h3,ihr h2 h4]
 |undef n=>intro t vs ht h;simp only[Typed] at ht;simp only[af] at h;omega
 |nest _ _ _ _ _ _=>intro t vs ht h;simp only[Typed] at ht;subst ht;simp only[af] at h;exact h.1
 |cy=>intro t vs ht h;simp only[Typed] at ht
 |aZ _ _ _=>intro t vs ht h;simp only[Typed] at ht
 |ptr _ _ _ _=>intro t vs ht h;simp only[Typed] at ht
 |fn _ _=>intro t vs ht h;simp only[Typed] at ht
 |bB _ _=>intro t vs ht h;simp only[Typed] at ht
 |b7=>intro t vs ht h;simp only[Typed] at ht
 |bC _ _=>intro t vs ht h;simp only[Typed] at ht
 |any=>intro t vs ht h;simp only[Typed] at ht
theorem af.bV:∀{a:AT} {t:Ty} {vs:List Value},Typed a t→af w I m ρ a vs→∀v∈vs,v.oneCell'=true:=by
 intro a
 induction a with
 |leaf u x=>intro t vs _ h;exact aa.bV h
 |whole id st u=>intro t vs _ h;simp only[af] at h;obtain⟨⟨v,rfl,hv⟩,_⟩:=h;simpa using hv
 |piece id st off len u=>intro t vs _ h;simp only[af] at h;obtain⟨⟨v,rfl,hv⟩,_⟩:=h;simpa using hv
 |nil u=>intro t vs _ h;simp only[af] at h;subst h;simp[Value.oneCell']
 |pair l r ihl ihr=>
  intro t vs ht h
  simp only[Typed] at ht
  obtain⟨a,b,rfl,h1,h2⟩:=ht
  simp only[af] at h
  obtain⟨v1,v2,rfl,h3,h4⟩:=h
  intro v hv
  rcases List.mem_append.1 hv with h|h
  ·exact ihl h1 h3 v h
  ·exact ihr h2 h4 v h
 |undef n=>intro t vs _ h;simp only[af] at h;exact h.2
 |nest _ _ _ _ _ _=>intro t vs _ h;simp only[af] at h;exact h.2.1
 |cy=>intro t vs ht h;simp only[Typed] at ht
 |aZ _ _ _=>intro t vs ht h;simp only[Typed] at ht
 |ptr _ _ _ _=>intro t vs ht h;simp only[Typed] at ht
 |fn _ _=>intro t vs ht h;simp only[Typed] at ht
 |bB _ _=>intro t vs ht h;simp only[Typed] at ht
 |b7=>intro t vs ht h;simp only[Typed] at ht
 |bC _ _=>intro t vs ht h;simp only[Typed] at ht
 |any=>intro t vs ht h;simp only[Typed] at ht
theorem Typed.isAgg {a:AT}{t:Ty}(h:Typed a t):a.isAgg=t.isAgg:=by
 cases a<;>simp only[Typed] at h<;>first
  | (subst h;rfl)
  | (obtain⟨_,_,rfl,_⟩:=h;rfl)
  | (simp[AT.isAgg,h.2])
  |exact h.elim
theorem DV.bT {d:DV}{t:Ty}{x:t.den}(h:d.as t=some x):∃e:d.t=t,e▸d.x=x:=by
 unfold DV.as at h
 split at h
 ·rename_i e
  exact⟨e,by simpa using h⟩
 ·simp at h
theorem mG:∀{a:AT} {d:DV} {vs:List Value},a.pure=some d→af w I m ρ a vs→aa w I d.t d.x vs:=by
 intro a
 induction a with
 |leaf t x=>intro d vs h hr;simp only[AT.pure,Option.some.injEq] at h;subst h;exact hr
 |nil t=>
  intro d vs h hr
  simp only[AT.pure,Option.some.injEq] at h
  subst h
  simp only[af] at hr
  subst hr
  simp only[aa]
  exact⟨none,0,rfl,by simp,.inl trivial⟩
 |pair l r ihl ihr=>
  intro d vs h hr
  simp only[AT.pure] at h
  split at h
  ·rename_i x y hx hy
   simp only[Option.some.injEq] at h
   subst h
   simp only[af] at hr
   obtain⟨v1,v2,rfl,h1,h2⟩:=hr
   simp only[aa]
   exact⟨v1,v2,rfl,ihl hx h1,ihr hy h2⟩
  ·simp at h
 |_=>intro d vs h hr;simp[AT.pure] at h
theorem iE:∀(p:Path) {a b:AT} {t u:Ty} {vs:List Value},Typed a t→af w I m ρ a vs→cZ p t→a.get p=some b→t.at p=some u →
  Typed b u∧∃pre mid post,vs=pre++mid++post∧pre.length=t.off p∧mid.length=u.size∧af w I m ρ b mid
 | [],a,b,t,u,vs,ht,h,_,hg,hu=>by
  simp only[AT.get,Option.some.injEq] at hg
  simp only[Ty.at,Option.some.injEq] at hu
  subst hg hu
  exact⟨ht,[],vs,[],by simp,by simp[Ty.off],ht.length h,h⟩
 |.fst::p,a,b,t,u,vs,ht,h,hp,hg,hu=>by
  cases a<;>try (simp[AT.get] at hg;done)
  case pair l r=>
   simp only[Typed] at ht
   obtain⟨ta,tb,rfl,h1,h2⟩:=ht
   simp only[af] at h
   obtain⟨v1,v2,rfl,h3,h4⟩:=h
   simp only[AT.get] at hg
   simp only[Ty.at] at hu
   obtain⟨e0,pre,mid,post,e1,e2,e3,e4⟩:=iE p h1 h3 hp hg hu
   exact⟨e0,pre,mid,post++v2,by rw[e1];simp,by simpa[Ty.off] using e2,e3,e4⟩
  case leaf s x=>
   simp only[Typed] at ht
   subst ht
   cases s<;>try (simp[AT.get] at hg;done)
   simp only[af,aa] at h
   obtain⟨v1,v2,rfl,h3,h4⟩:=h
   simp only[AT.get] at hg
   simp only[Ty.at] at hu
   obtain⟨e0,pre,mid,post,e1,e2,e3,e4⟩:=iE p (a:=.leaf _ x.1) rfl h3 hp hg hu
   exact⟨e0,pre,mid,post++v2,by rw[e1];simp,by simpa[Ty.off] using e2,e3,e4⟩
 |.snd::p,a,b,t,u,vs,ht,h,hp,hg,hu=>by
  cases a<;>try (simp[AT.get] at hg;done)
  case pair l r=>
   simp only[Typed] at ht
   obtain⟨ta,tb,rfl,h1,h2⟩:=ht
   simp only[af] at h
   obtain⟨v1,v2,rfl,h3,h4⟩:=h
   simp only[AT.get] at hg
   simp only[Ty.at] at hu
   obtain⟨e0,pre,mid,post,e1,e2,e3,e4⟩:=iE p h2 h4 hp hg hu
   exact⟨e0,v1++pre,mid,post,by rw[e1];simp,by simp[Ty.off,h1.length h3,e2],e3,e4⟩
  case leaf s x=>
   simp only[Typed] at ht
   subst ht
   cases s<;>try (simp[AT.get] at hg;done)
   simp only[af,aa] at h
   obtain⟨v1,v2,rfl,h3,h4⟩:=h
   simp only[AT.get] at hg
   simp only[Ty.at] at hu
   obtain⟨e0,pre,mid,post,e1,e2,e3,e4⟩:=iE p (a:=.leaf _ x.2) rfl h4 hp hg hu
   exact⟨e0,v1++pre,mid,post,by rw[e1];simp,by simp[Ty.off,aa.length h3,e2],e3,e4⟩
 |.idx i::p,a,b,t,u,vs,ht,h,hp,hg,hu=>by
  cases a<;>try (simp[AT.get] at hg;done)
  case leaf s xs=>
   simp only[Typed] at ht
   subst ht
   cases s<;>try (simp[AT.get] at hg;done)
   rename_i n s
   simp only[af,aa] at h
   obtain⟨hn,h⟩:=h
   simp only[AT.get] at hg
   simp only[Ty.at] at hu
   obtain⟨hi,hp⟩:=hp
   have hx:xs[i]?=some (xs.getD i s.dflt):=by
    rw[List.getD_eq_getElem?_getD]
    rw[List.getElem?_eq_getElem (by omega)]
    rfl
   obtain⟨pre0,mid0,qg,e1,e2,e3,_⟩:=aR.split (fun x vs h=>aa.length h) h hx
   obtain⟨f0,pre,mid,post,f1,f2,f3,f4⟩:=iE p (a:=.leaf s (xs.getD i s.dflt)) rfl e3 hp hg hu
   exact⟨f0,pre0++pre,mid,post++qg,by rw[e1,f1];simp,by simp[Ty.off,e2,f2],f3,f4⟩
theorem append3_inj {α:Type}{a b c a' b' c':List α}(h:a++b++c=a'++b'++c')(h1:a.length=a'.length)(h2:b.length=b'.length):a=a'∧b=b'∧c=c':=by
 have e:=List.append_inj h (by simp;omega)
 have e2:=List.append_inj e.1 h1
 exact⟨e2.1,e2.2,e.2⟩
theorem jL:∀(p:Path) {a a' v:AT} {t u:Ty} {vs aN:List Value},Typed a t→af w I m ρ a vs→cZ p t→AT.set p a v=some a'→t.at p=some u→Typed v u→af w I m ρ v aN →
  Typed a' t∧∃pre mid post,vs=pre++mid++post∧pre.length=t.off p∧mid.length=u.size∧af w I m ρ a' (pre++aN++post)
 | [],a,a',v,t,u,vs,aN,ht,h,_,hg,hu,hv,hm=>by
  simp only[AT.set,Option.some.injEq] at hg
  simp only[Ty.at,Option.some.injEq] at hu
  subst hg hu
  exact⟨hv,[],vs,[],by simp,by simp[Ty.off],ht.length h,by simpa using hm⟩
 |.fst::p,a,a',v,t,u,vs,aN,ht,h,hp,hg,hu,hv,hm=>by
  cases a<;>try (simp[AT.set] at hg;done)
  case pair l r=>
   simp only[Typed] at ht
   obtain⟨ta,tb,rfl,h1,h2⟩:=ht
   simp only[af] at h
   obtain⟨v1,v2,rfl,h3,h4⟩:=h
   simp only[AT.set,Option.map_eq_some_iff] at hg
   obtain⟨l',hl,rfl⟩:=hg
   simp only[Ty.at] at hu
   obtain⟨e0,pre,mid,post,e1,e2,e3,e4⟩:=jL p h1 h3 hp hl hu hv hm
   refine⟨⟨ta,tb,rfl,e0,h2⟩,pre,mid,post++v2,by rw[e1];simp,by simpa[Ty.off] using e2,e3,?_⟩
   simp only[af]
   exact⟨pre++aN++post,v2,by simp,e4,h4⟩
  case leaf s x=>
   simp only[Typed] at ht
   subst ht
   cases s<;>try (simp[AT.set] at hg;done)
   rename_i ta tb
   simp only[af,aa] at h
   obtain⟨v1,v2,rfl,h3,h4⟩:=h
   simp only[AT.set,Option.map_eq_some_iff] at hg
   obtain⟨l',hl,rfl⟩:=hg
   simp only[Ty.at] at hu
   obtain⟨e0,pre,mid,post,e1,e2,e3,e4⟩:=jL p (a:=.leaf _ x.1) rfl h3 hp hl hu hv hm
   refine⟨⟨ta,tb,rfl,e0,rfl⟩,pre,mid,post++v2,by rw[e1];simp,by simpa[Ty.off] using e2,e3,?_⟩
   simp only[af]
   exact⟨pre++aN++post,v2,by simp,e4,h4⟩
 |.snd::p,a,a',v,t,u,vs,aN,ht,h,hp,hg,hu,hv,hm=>by
  cases a<;>try (simp[AT.set] at hg;done)
  case pair l r=>
   simp only[Typed] at ht
   obtain⟨ta,tb,rfl,h1,h2⟩:=ht
   simp only[af] at h
   obtain⟨v1,v2,rfl,h3,h4⟩:=h
   simp only[AT.set,Option.map_eq_some_iff] at hg
   obtain⟨l',hl,rfl⟩:=hg
   simp only[Ty.at] at hu
   obtain⟨e0,pre,mid,post,e1,e2,e3,e4⟩:=jL p h2 h4 hp hl hu hv hm
   refine⟨⟨ta,tb,rfl,h1,e0⟩,v1++pre,mid,post,by rw[e1];simp,by simp[Ty.off,h1.length h3,e2],e3,?_⟩
   simp only[af]
   exact⟨v1,pre++aN++post,by simp,h3,e4⟩
  case leaf s x=>
   simp only[Typed] at ht
   subst ht
   cases s<;>try (simp[AT.set] at hg;done)
   rename_i ta tb
   simp only[af,aa] at h
   obtain⟨v1,v2,rfl,h3,h4⟩:=h
   simp only[AT.set,Option.map_eq_some_iff] at hg
   obtain⟨l',hl,rfl⟩:=hg
   simp only[Ty.at] at hu
   obtain⟨e0,pre,mid,post,e1,e2,e3,e4⟩:=jL p (a:=.leaf _ x.2) rfl h4 hp hl hu hv hm
   refine⟨⟨ta,tb,rfl,rfl,e0⟩,v1++pre,mid,post,by rw[e1];simp,by simp[Ty.off,aa.length h3,e2],e3,?_⟩
   simp only[af]
   exact⟨v1,pre++aN++post,by simp,h3,e4⟩
 |.idx i::p,a,a',v,t,u,vs,aN,ht,h,hp,hg,hu,hv,hm=>by
  cases a<;>try (simp[AT.set] at hg;done)
  case leaf s xs=>
   simp only[Typed] at ht
   subst ht
   cases s<;>try (simp[AT.set] at hg;done)
   rename_i n s
   simp only[af,aa] at h
   obtain⟨hn,h⟩:=h
   simp only[AT.set] at hg
   simp only[Ty.at] at hu
   obtain⟨hi,hp⟩:=hp
   have hx:xs[i]?=some (xs.getD i s.dflt):=by
    rw[List.getD_eq_getElem?_getD]
    rw[List.getElem?_eq_getElem (by omega)]
    rfl
   split at hg
   ·rename_i d hd
    obtain⟨y,hy,rfl⟩:=Option.map_eq_some_iff.1 hg
    obtain⟨b,hb,hbp⟩:=Option.bind_eq_some_iff.1 hd
    obtain⟨pre0,mid0,qg,e1,e2,e3,e4⟩:=aR.split (fun x vs h=>aa.length h) h hx
    obtain⟨f0,pre,mid,post,f1,f2,f3,f4⟩:=jL p (a:=.leaf s (xs.getD i s.dflt)) rfl e3 hp hb hu hv hm
    have f5:=mG hbp f4
    obtain⟨hdt,hdx⟩:=DV.bT hy
    refine⟨rfl,pre0++pre,mid,post++qg,by rw[e1,f1];simp,by simp[Ty.off,e2,f2],f3,?_⟩
    simp only[af,aa]
    refine⟨by simpa using hn,?_⟩
    have:aa w I s y (pre++aN++post):=by
     cases d with
     |mk dt dx=>
      simp only at hdt
      subst hdt
      subst hdx
      exact f5
    have:=e4 y _ this
    simpa[List.append_assoc] using this
   ·simp at hg
end
end Go.Ab
namespace Go.Ab
def aX:Ty→List Value
 |.unit=>[]
 |.bool=>[.bool false]
 |.int k=>[.int k 0]
 |.str=>[.string ⟨#[]⟩]
 |.lst _=>[.slice none 0 0]
 |.own _=>[.slice none 0 0]
 |.pair a b=>aX a++aX b
 |.arr n t=>(List.replicate n (aX t)).flatten
 |.ref _=>[.pointer none]
def aL (t:Ty)(cs:List Value):Value:=if t.isAgg then .agg cs.toArray else cs.headD Go.undef
structure fA (P:Program) (t:Ty) (T:TypeId):Prop where
 info:∃i,P.info? T=some i∧i.size=t.size∧i.zero=some (aL t (aX t))∧i.bytes≤4096
def TO (P:Program):Ty→(TypeId→Prop)×(List Field→Nat→Prop)
 |.unit=>(fun T=>fA P .unit T∧∃fs,P.underlying T=some (.struct fs)∧fs.toList = [],fun fs _=>fs = [])
 |.bool=>(fun T=>fA P .bool T∧P.underlying T=some .bool,fun _ _=>False)
 |.int k=>(fun T=>fA P (.int k) T∧P.underlying T=some (.int k),fun _ _=>False)
 |.str=>(fun T=>fA P .str T∧P.underlying T=some .string,fun _ _=>False)
 |.lst t=>(fun T=>fA P (.lst t) T∧∃E,P.underlying T=some (.slice E)∧0<t.size∧(TO P t).1 E,fun _ _=>False)
 |.own _=>(fun _=>False,fun _ _=>False)
 |.pair a b=>(fun T=>fA P (.pair a b) T∧∃fs,P.underlying T=some (.struct fs) ∧
     ∃f l,fs.toList=f::l∧f.offset=0∧(TO P a).1 f.type∧(TO P b).2 l a.size,
   fun fs off=>∃f l,fs=f::l∧f.offset=off∧(TO P a).1 f.type∧(TO P b).2 l (off+a.size))
 |.arr n t=>(fun T=>fA P (.arr n t) T∧∃E,P.underlying T=some (.array n E)∧1<n∧(∃k,t = .int k)∧(TO P t).1 E,fun _ _=>False)
 |.ref t=>(fun T=>fA P (.ref t) T∧∃E,P.underlying T=some (.pointer E),fun _ _=>False)
def aF (P:Program)(t:Ty)(T:TypeId):Prop:=(TO P t).1 T
def bO (P:Program)(t:Ty)(fs:List Field)(off:Nat):Prop:=(TO P t).2 fs off
theorem aF.info {P:Program}{t:Ty}{T:TypeId}(h:aF P t T):fA P t T:=by
 unfold aF at h
 cases t<;>simp only[TO] at h<;>first|exact h.1|exact h.elim
theorem bO.field {P:Program}:∀(n:Nat) {t u:Ty} {fs:List Field} {off:Nat},bO P t fs off→t.at (bg n)=some u →
  ∃f,fs[n]?=some f∧f.offset=off+t.off (bg n)∧aF P u f.type
 |n,t,u,fs,off,h,hu=>by
  unfold bO at h
  cases t<;>simp only[TO] at h<;>try exact h.elim
  case unit=>cases n<;>simp[bg,Ty.at] at hu
  case pair a b=>
   obtain⟨f,l,rfl,h1,h2,h3⟩:=h
   cases n with
   |zero=>
    simp only[bg,Ty.at,Option.some.injEq] at hu
    subst hu
    exact⟨f,rfl,by simp[bg,Ty.off,h1],h2⟩
   |succ n=>
    simp only[bg,Ty.at] at hu
    obtain⟨g,e1,e2,e3⟩:=bO.field n (t:=b) h3 hu
    exact⟨g,by simpa using e1,by simp[bg,Ty.off,e2];omega,e3⟩
theorem aF.field {P:Program}{t u:Ty}{T:TypeId}{n:Nat}(h:aF P t T)(hu:t.at (bg n)=some u) :
  ∃fs f,P.underlying T=some (.struct fs)∧fs[n]?=some f∧f.offset=t.off (bg n)∧aF P u f.type:=by
 unfold aF at h
 cases t with
 |pair a b=>
  simp only[TO] at h
  obtain⟨_,fs,h1,f,l,h2,h3,h4,h5⟩:=h
  obtain⟨g,e1,e2,e3⟩:=bO.field (P:=P) n (t:=.pair a b) (fs:=fs.toList) (off:=0) (by unfold bO;simp only[TO];exact⟨f,l,h2,h3,h4,by simpa using h5⟩) hu
  exact⟨fs,g,h1,by simpa using e1,by simpa using e2,e3⟩
 |_=>cases n<;>simp[bg,Ty.at] at hu
structure EqOk (P:Program) (T:TypeId):Prop where
 held:P.stoodInHeld T=false
 guard:P.eqGuardType P.depth T=false
 names:∀f∈(P.fieldsOf T).toList,f.name ≠ "_"
structure bH (P:Program) (C:Cx):Prop where
 eS:∀T ti,find C.eS T=some ti→aF P ti.t T
 eqs:∀T ti,find C.eS T=some ti→ti.e=1→EqOk P T
theorem bH.ty {P:Program}{C:Cx}(h:bH P C){T:Nat}{t:Ty}(ht:C.ty T=some t):aF P t T:=by
 unfold Cx.ty at ht
 cases hf:find C.eS T with
 |none=>simp[hf] at ht
 |some ti=>simp[hf] at ht;subst ht;exact h.eS T ti hf
theorem bH.eqt {P:Program}{C:Cx}(h:bH P C){T:Nat}{t:Ty}(ht:C.eqt T=some t):aF P t T∧EqOk P T:=by
 unfold Cx.eqt at ht
 split at ht
 ·rename_i u hf
  cases ht
  exact⟨h.eS T _ hf,h.eqs T _ hf rfl⟩
 ·cases ht
theorem bH.el {P:Program}{C:Cx}(h:bH P C){T:Nat}{t:Ty}(ht:C.el T=some t):∃E,P.underlying T=some (.slice E)∧0<t.size∧aF P t E:=by
 unfold Cx.el at ht
 split at ht
 ·rename_i u e hf
  cases ht
  have:=h.eS T _ hf
  unfold aF at this
  simp only[TO] at this
  exact this.2
 ·simp at ht
section
variable {P:Program} {t:Ty} {T:TypeId} {w:World}
theorem fA.run_sizeOf (h:fA P t T):(sizeOf T).run P w = .ok t.size w:=by
 obtain⟨i,h1,h2,_⟩:=h.info
 simp[sizeOf,typeInfo,h1,h2]
theorem fA.tE (h:fA P t T):(zeroValue T).run P w = .ok (aL t (aX t)) w:=by
 obtain⟨i,h1,h2,h3,_⟩:=h.info
 simp[zeroValue,typeInfo,h1,h3]
theorem aF.oh (h:aF P t T):(isAgg T).run P w = .ok t.isAgg w:=by
 unfold aF at h
 unfold isAgg
 cases t<;>simp only[TO] at h<;>first|exact h.elim|skip
 case unit=>obtain⟨_,fs,h,_⟩:=h;simp[run_underlying h,Ty.isAgg]
 case bool=>simp[run_underlying h.2,Ty.isAgg]
 case int k=>simp[run_underlying h.2,Ty.isAgg]
 case str=>simp[run_underlying h.2,Ty.isAgg]
 case lst u=>obtain⟨_,E,h,_⟩:=h;simp[run_underlying h,Ty.isAgg]
 case pair a b=>obtain⟨_,fs,h,_⟩:=h;simp[run_underlying h,Ty.isAgg]
 case arr n u=>obtain⟨_,E,h,_⟩:=h;simp[run_underlying h,Ty.isAgg]
 case ref u=>obtain⟨_,E,h⟩:=h;simp[run_underlying h,Ty.isAgg]
theorem Ty.oq {P:Program}{t:Ty}{T:TypeId}(_:aF P t T)(h:t.isAgg=false):t.size=1:=by
 cases t<;>simp[Ty.isAgg] at h<;>rfl
theorem aF.tC (h:aF P t T){B o:Nat}{vs:List Value}(hl:vs.length=t.size)(hc:∀j,j<vs.length→w.cell? ⟨B,o+j,none⟩=vs[j]?) :
  (loadVar T ⟨B,o,none⟩).run P w = .ok (aL t vs) w:=by
 unfold loadVar
 rw[Sem.run_bind,h.oh]
 simp only[Result.andThen_ok]
 cases ha:t.isAgg with
 |true=>
  have hld:=om (P:=P) hc
  rw[hl] at hld
  simp[h.info.run_sizeOf,hld,aL,ha]
 |false=>
  have hs:=Ty.oq h ha
  obtain⟨v,rfl⟩:∃v,vs = [v]:=by
   match vs,hl with
   | [v],_=>exact⟨v,rfl⟩
   | [],hl=>simp[hs] at hl
   |_::_::_,hl=>simp[hs] at hl
  have:=hc 0 (by simp)
  simp at this
  simp[aL,ha,this]
theorem eW {vs:List Value}(h:aF P t T)(hl:vs.length=t.size)(h1:∀v∈vs,v.oneCell'=true):(aL t vs).cells=vs.toArray:=by
 unfold aL
 cases ha:t.isAgg with
 |true=>simp[Value.cells]
 |false=>
  have hs:=Ty.oq h ha
  obtain⟨v,rfl⟩:∃v,vs = [v]:=by
   match vs,hl with
   | [v],_=>exact⟨v,rfl⟩
   | [],hl=>simp[hs] at hl
   |_::_::_,hl=>simp[hs] at hl
  have:=h1 v (by simp)
  cases v<;>simp[Value.oneCell'] at this<;>simp[Value.cells]
end
section
variable {w:World} {I:Nat→Prop} {m:MF} {ρ:Pl}
theorem aB.pack {a:AT}{t:Ty}{v:Value}(ht:Typed a t)(h:aB w I m ρ a v):∃vs,v=aL t vs∧af w I m ρ a vs:=by
 unfold aB at h
 unfold aL
 rw[ht.isAgg] at h
 cases ha:t.isAgg with
 |true=>
  rw[if_pos ha] at h
  obtain⟨arr,e,h⟩:=h
  exact⟨arr.toList,by simp[e],h⟩
 |false=>
  simp[ha] at h
  exact⟨[v],by simp,h⟩
theorem aB.unpack {a:AT}{t:Ty}{vs:List Value}{P:Program}{T:TypeId}(ht:Typed a t)(hT:aF P t T)(h:af w I m ρ a vs):aB w I m ρ a (aL t vs):=by
 unfold aB aL
 rw[ht.isAgg]
 cases ha:t.isAgg with
 |true=>rw[if_pos rfl,if_pos rfl];exact⟨vs.toArray,rfl,by simpa using h⟩
 |false=>
  have hs:=Ty.oq hT ha
  have hl:=ht.length h
  obtain⟨v,rfl⟩:∃v,vs = [v]:=by
   match vs,hl with
   | [v],_=>exact⟨v,rfl⟩
   | [],hl=>simp[hs] at hl
   |_::_::_,hl=>simp[hs] at hl
  simpa using h
theorem fo {a:AT}{v:Value}{t:Ty}(ht:Typed a t):au w I m ρ a v↔aB w I m ρ a v:=by
 cases a<;>simp only[Typed] at ht<;>first|exact Iff.rfl|exact ht.elim
theorem oP (k:IntKind):∀n,aR (fun(x:Int) (vs:List Value)=>vs = [.int k x]) (List.replicate n 0) (List.replicate n [Value.int k 0]).flatten
 |0=>by simp[aR]
 |n+1=>⟨[.int k 0],_,by simp only[List.replicate_succ,List.flatten_cons],rfl,oP k n⟩
theorem ju:∀{t:Ty} {T:TypeId} {P:Program},aF P t T→Typed (gW t) t∧af w I m ρ (gW t) (aX t):=by
 intro t
 have key:∀{P:Program},((∀T,aF P t T→Typed (gW t) t∧af w I m ρ (gW t) (aX t))∧(∀fs off,bO P t fs off→Typed (gW t) t∧af w I m ρ (gW t) (aX t))):=by
  intro P
  induction t with
  |unit=>exact⟨fun _ _=>⟨rfl,rfl⟩,fun _ _ _=>⟨rfl,rfl⟩⟩
  |bool=>exact⟨fun _ _=>⟨rfl,rfl⟩,fun _ _ _=>⟨rfl,rfl⟩⟩
  |int k=>exact⟨fun _ _=>⟨rfl,rfl⟩,fun _ _ _=>⟨rfl,rfl⟩⟩
  |str=>exact⟨fun _ _=>⟨rfl,rfl⟩,fun _ _ _=>⟨rfl,rfl⟩⟩
  |lst u _=>exact⟨fun _ _=>⟨rfl,rfl⟩,fun _ _ _=>⟨rfl,rfl⟩⟩
  |own u _=>exact⟨fun _ h=>by unfold aF at h;simp only[TO] at h,fun _ _ h=>by unfold bO at h;simp only[TO] at h⟩
  |pair a b aI aH=>
   refine⟨fun T h=>?_,fun fs off h=>?_⟩
   ·unfold aF at h
    simp only[TO] at h
    obtain⟨_,fs,_,f,l,_,_,h1,h2⟩:=h
    exact⟨⟨a,b,rfl,(aI.1 _ h1).1,(aH.2 _ _ h2).1⟩,⟨_,_,rfl,(aI.1 _ h1).2,(aH.2 _ _ h2).2⟩⟩
   ·unfold bO at h
    simp only[TO] at h
    obtain⟨f,l,_,_,h1,h2⟩:=h
    exact⟨⟨a,b,rfl,(aI.1 _ h1).1,(aH.2 _ _ h2).1⟩,⟨_,_,rfl,(aI.1 _ h1).2,(aH.2 _ _ h2).2⟩⟩
  |arr n u ih=>
   refine⟨fun T h=>⟨rfl,?_⟩,fun _ _ h=>by unfold bO at h;simp only[TO] at h⟩
   unfold aF at h
   simp only[TO] at h
   obtain⟨_,E,_,_,⟨k,rfl⟩,h⟩:=h
   simp only[gW,af,aa,aX,Ty.dflt]
   exact⟨by simp,oP k n⟩
  |ref u _=>exact⟨fun _ _=>⟨⟨rfl,rfl⟩,rfl,by simp[aX,Value.oneCell']⟩,fun _ _ _=>⟨⟨rfl,rfl⟩,rfl,by simp[aX,Value.oneCell']⟩⟩
 intro T P h
 exact key.1 T h
end
end Go.Ab
namespace Go.Ab
theorem aG {α:Type}(i:Nat)(b:α)(l:List (Nat×α))(j:Nat):find ((i,b)::l) j=if i=j then some b else find l j:=by
 simp only[find]
 cases h:Nat.beq i j with
 |true=>simp[Nat.eq_of_beq_eq_true h]
 |false=>simp[Nat.ne_of_beq_eq_false h]
theorem b9 {α:Type}(l l':List (Nat×α))(j:Nat):find (app l l') j=match find l j with | some b=>some b|none=>find l' j:=by
 induction l with
 |nil=>rfl
 |cons x l ih=>
  obtain⟨i,b⟩:=x
  simp only[app,aG]
  split
  ·rfl
  ·exact ih
def MF.put (m:MF)(n:Nat)(b:ag):MF:=fun i=>if n=i then some b else m i
theorem find_put (n:Nat)(b:ag)(mem:Mem):find ((n,b)::mem)=MF.put (find mem) n b:=by
 funext i
 rw[aG]
 rfl
structure aC (F:Fix) (m m':MF) (w w':World) (I I':Nat→Prop) (ρ ρ':Pl):Prop where
 agree:bD I I' w w'
 keep:cC m m' ρ ρ' w w'
 mem:aD F m' w' I' ρ'
theorem bt.refl:∀c:BC,bt c c
 |.var _ _=>rfl
 |.rows _ _=>⟨rfl,rfl⟩
 |.deep _ _ _=>⟨Nat.le_refl _,rfl,rfl⟩
 |.dead=>trivial
theorem bt.trans {a b c:BC}(h:bt a b)(k:bt b c):bt a c:=by
 cases a<;>cases b<;>simp only[bt] at h<;>cases c<;>simp only[bt] at k ⊢
 ·exact h.trans k
 ·exact⟨h.1.trans k.1,h.2.trans k.2⟩
 ·exact⟨Nat.le_trans h.1 k.1,h.2.1.trans k.2.1,h.2.2.trans k.2.2⟩
theorem deep_same {b b':ag}(h:bt b.c b'.c)(hl:b'.bq):b.bq:=by
 unfold ag.bq at *
 cases hb:b.c<;>cases hb':b'.c<;>simp_all [bt]
theorem dL {b:ag}(h:b.bq):b.live:=by
 unfold ag.bq ag.live at *
 cases hb:b.c<;>simp_all
theorem vM {b b':ag}(h:bt b.c b'.c)(hl:b.live):b'.live:=by
 unfold ag.live at *
 cases hb:b.c<;>cases hb':b'.c<;>simp_all [bt]
theorem cC.refl (m:MF)(ρ:Pl)(w:World):cC m m ρ ρ w w:=
 ⟨fun _ b hb=>⟨b,hb,.inr ⟨rfl,bt.refl _,rfl,fun _ _ _ _ cs hc=>⟨cs,hc,Nat.le_refl _⟩⟩⟩,fun _ _ _ _ _ _ _ _ _ _ _ _ _ _ _ _=>rfl⟩
theorem cC.trans {m m' m'':MF}{ρ ρ' mS:Pl}{w w' w'':World}(h:cC m m' ρ ρ' w w')(k:cC m' m'' ρ' mS w' w''):cC m m'' ρ mS w w'':=by
 refine⟨fun id b hb=>?_,fun id b b'' rs t u xs ys hb jX hst hc nL B o hB=>?_⟩
 case refine_2=>
  obtain⟨b',hb',h1⟩:=h.keep id b hb
  obtain⟨b3,hb3,h2⟩:=k.keep id b' hb'
  rw[jX] at hb3
  cases hb3
  have e1:b.st=b'.st:=by rcases h1 with h1|h1<;>rcases h2 with h2|h2<;>omega
  have e2:b'.st=b''.st:=by omega
  rcases h1 with h1|⟨_,s1,r1,_⟩
  ·omega
  rcases h2 with h2|⟨_,s2,r2,_⟩
  ·omega
  rw[hc] at s1
  rw[nL] at s2
  cases aJ:b'.c with
  |deep r v zs=>
   rw[aJ] at s1 s2
   simp only[bt] at s1 s2
   have:r=rs:=by omega
   subst this
   exact(k.nest id b' b'' r v u zs ys hb' jX e2 aJ nL B o (r1.trans hB)).trans (h.nest id b b' r t v xs zs hb hb' e1 hc aJ B o hB)
  |var _ _=>rw[aJ] at s1;simp[bt] at s1
  |rows _ _=>rw[aJ] at s1;simp[bt] at s1
  |dead=>rw[aJ] at s1;simp[bt] at s1
 obtain⟨b',hb',h1⟩:=h.keep id b hb
 obtain⟨b'',jX,h2⟩:=k.keep id b' hb'
 refine⟨b'',jX,?_⟩
 rcases h1 with h1|⟨h1,h3,h4,h5⟩
 ·rcases h2 with h2|⟨h2,_⟩
  ·exact .inl (by omega)
  ·exact .inl (by omega)
 ·rcases h2 with h2|⟨h2,h6,h7,h8⟩
  ·exact .inl (by omega)
  ·refine .inr ⟨by omega,h3.trans h6,h7.trans h4,fun hl0 B o hB cs hc=>?_⟩
   obtain⟨cs',aJ,hl⟩:=h5 hl0 B o hB cs hc
   obtain⟨cs'',nL,hl'⟩:=h8 (vM h3 hl0) B o (h4.trans hB) cs' aJ
   exact⟨cs'',nL,by omega⟩
theorem aC.refl {F:Fix}{m:MF}{w:World}{I:Nat→Prop}{ρ:Pl}(h:aD F m w I ρ):aC F m m w w I I ρ ρ:=⟨bD.refl I w,cC.refl m ρ w,h⟩
theorem aC.trans {F:Fix}{m m' m'':MF}{w w' w'':World}{I I' bM:Nat→Prop}{ρ ρ' mS:Pl}(h:aC F m m' w w' I I' ρ ρ')(k:aC F m' m'' w' w'' I' bM ρ' mS) :
  aC F m m'' w w'' I bM ρ mS:=⟨h.agree.trans k.agree,h.keep.trans k.keep,k.mem⟩
theorem dP {b:ag}{t:Ty}{xs:List t.den}(h:b.c = .rows t xs):b.live:=by simp[ag.live,h]
theorem iL {b:ag}{t:Ty}{a:AT}(h:b.c = .var t a):b.live:=by simp[ag.live,h]
theorem aS.mono {w w':World}{I I':Nat→Prop}{m m':MF}{ρ ρ':Pl}(ha:bD I I' w w')(hk:cC m m' ρ ρ' w w'){id:Nat}{b:ag}(h:aS w I m ρ id b)
  (hρ:ρ' id=ρ id) (lW:ρ'.d id=ρ.d id) (hc:∀B o,ρ id=some (B,o)→b.live→w'.heap[B]?=w.heap[B]?∧(I' B→I B))
  (hd:b.bq→∀B∈ρ.d id,w'.heap[B]?=w.heap[B]?∧(I' B→I B)):aS w' I' m' ρ' id b:=by
 unfold aS at *
 split
 ·trivial
 ·rename_i t a e
  simp only[e] at h
  obtain⟨h1,B,cs,h2,h3,h4,h5⟩:=h
  obtain⟨h6,h7⟩:=hc B 0 h2 (iL e)
  exact⟨h1,B,cs,hρ.trans h2,h3.of_same h6,h4.mono ha hk,h5.trans ⟨ha.sub B,h7⟩⟩
 ·rename_i t xs e
  simp only[e] at h
  obtain⟨h0,h⟩:=h
  refine⟨h0,h.imp (fun⟨h1,h2⟩=>⟨h1,hρ.trans h2⟩) ?_⟩
  rintro⟨B,o,cs,h2,h3,h4,h5,h6⟩
  obtain⟨h7,h8⟩:=hc B o h2 (dP e)
  refine⟨B,o,cs,hρ.trans h2,h3.of_same h7,h4,h5.mono (fun o=>?_) (fun x vs h=>aa.mono ha h),h6.trans ⟨ha.sub B,h8⟩⟩
  exact World.cell?_of_block (w:=w) h7
 ·rename_i rs t xs e
  simp only[e] at h
  obtain⟨h0,h⟩:=h
  refine⟨h0,h.imp (fun⟨h1,h2,h3⟩=>⟨h1,hρ.trans h2,lW.trans h3⟩) ?_⟩
  rintro⟨B,o,cs,h2,h3,h4,h5,h6⟩
  have cL:b.live:=by unfold ag.live;rw[e];trivial
  have iG:b.bq:=by unfold ag.bq;rw[e];trivial
  obtain⟨h7,h8⟩:=hc B o h2 cL
  refine⟨B,o,cs,hρ.trans h2,h3.of_same h7,h4,?_,fun h=>h6 (h8 h)⟩
  rw[lW]
  exact h5.mono (fun o=>World.cell?_of_block (w:=w) h7) (fun x vs D hD h=>aq.mono ha (fun B hB=>hd iG B (hD B hB)) h)
def Pl.put (ρ:Pl)(n:Nat)(p:Option (Nat×Nat)):Pl:=⟨fun i=>if n=i then p else ρ i,fun i=>if n=i then [] else ρ.d i⟩
theorem aD.dlt {F:Fix}{m:MF}{w:World}{I:Nat→Prop}{ρ:Pl}(h:aD F m w I ρ){id:Nat}{b:ag}(hm:m id=some b)(hd:b.bq){B:Nat}(hB:B∈ρ.d id):B<w.heap.size∧¬I B:=by
 have hb:=h.blk id b hm
 unfold ag.bq at hd
 cases hc:b.c with
 |deep rs t xs=>
  simp only[aS,hc] at hb
  rcases hb.2 with⟨_,_,h3⟩|⟨B0,o,cs,_,_,_,h4,_⟩
  ·rw[h3] at hB;simp at hB
  ·exact h4.blk B hB
 |var _ _=>simp[hc] at hd
 |rows _ _=>simp[hc] at hd
 |dead=>simp[hc] at hd
theorem aC.new {F:Fix}{m:MF}{w:World}{I:Nat→Prop}{ρ:Pl}(h:aD F m w I ρ)(n:Nat)(b:ag)(arr:Array Value)(e:TypeId)(fr:Nat×Nat)(hfr:∀j,j<arr.size→¬(fr.1≤j∧j<fr.2))
  (hst:∀b0,m n=some b0→b0.st<b.st)
  (hb:cC m (m.put n b) ρ (ρ.put n (some (w.heap.size,0))) w (w.alloc (.cells arr e fr)) →
   Cells (w.alloc (.cells arr e fr)) w.heap.size arr.toList →
   aS (w.alloc (.cells arr e fr)) I (m.put n b) (ρ.put n (some (w.heap.size,0))) n b) :
  aC F m (m.put n b) w (w.alloc (.cells arr e fr)) I I ρ (ρ.put n (some (w.heap.size,0))):=by
 have hsame:∀B,B<w.heap.size→(w.alloc (.cells arr e fr)).heap[B]?=w.heap[B]? :=fun B hB=>heap_alloc_old w _ B hB
 have ha:bD I I w (w.alloc (.cells arr e fr)):=⟨fun _ h=>h,fun B hB=>hsame B (h.aV B hB)⟩
 have hlt:∀id b0 B o,m id=some b0→b0.live→ρ id=some (B,o)→B<w.heap.size:=by
  intro id b0 B o hm hl hρ
  have:=h.blk id b0 hm
  unfold aS at this
  unfold ag.live at hl
  cases hc:b0.c with
  |dead=>simp[hc] at hl
  |var t a=>simp only[hc] at this;obtain⟨_,B',cs,e1,e2,_⟩:=this;rw[hρ] at e1;cases e1;exact e2.lt
  |rows t xs=>
   simp only[hc] at this
   rcases this.2 with⟨_,e1⟩|⟨B',o',cs,e1,e2,_⟩
   ·rw[hρ] at e1;cases e1
   ·rw[hρ] at e1;cases e1;exact e2.lt
  |deep rs t xs=>
   simp only[hc] at this
   rcases this.2 with⟨_,e1,_⟩|⟨B',o',cs,e1,e2,_⟩
   ·rw[hρ] at e1;cases e1
   ·rw[hρ] at e1;cases e1;exact e2.lt
 have hk:cC m (m.put n b) ρ (ρ.put n (some (w.heap.size,0))) w (w.alloc (.cells arr e fr)):=by
  refine⟨fun id b0 hm=>?_,fun id b0 b1 rs t u xs ys h0 h1 hs hc0 eK B o hB=>hsame B (hlt id b0 B o h0 (by unfold ag.live;rw[hc0];trivial) hB)⟩
  by_cases hid:n=id
  ·subst hid
   exact⟨b,by simp[MF.put],.inl (hst b0 hm)⟩
  ·refine⟨b0,by simp[MF.put,hid,hm],.inr ⟨rfl,bt.refl _,by simp[Pl.put,hid],fun _ B o hρ cs hc=>⟨cs,hc.of_same (hsame B hc.lt),Nat.le_refl _⟩⟩⟩
 refine⟨ha,hk,?_⟩
 refine { blk:=?_,inj:=?_,aV:=?_,fX:=h.fX,fI:=h.fI,mine:=?_,dp:=?_,frame:=?_,size:=?_,os:=h.os,tape:=h.tape,output:=h.output,ez:=F.G.mono ha h.ez }
 ·intro id b0 hm
  by_cases hid:n=id
  ·subst hid
   simp only[MF.put,if_true,Option.some.injEq] at hm
   subst hm
   exact hb hk (Cells.alloc w arr e fr hfr)
  ·simp only[MF.put,hid,if_false] at hm
   exact(h.blk id b0 hm).mono ha hk (by simp[Pl.put,hid]) (by simp[Pl.put,hid]) (fun B o hρ hl=>⟨hsame B (hlt id b0 B o hm hl hρ),fun h=>h⟩)
    fun hd B hB=>⟨hsame B (h.dlt hm hd hB).1,fun h=>h⟩
 ·intro id id' b1 b2 B o o' h1 h2 l1 l2 r1 r2
  simp only[MF.put,Pl.put] at h1 h2 r1 r2
  by_cases e1:n=id
  ·by_cases e2:n=id'
   ·omega
   ·simp only[e1,if_true,Option.some.injEq,Prod.mk.injEq] at *
    have:=hlt id' b2 B o' (by simpa[e2] using h2) l2 (by simpa[e2] using r2)
    omega
  ·by_cases e2:n=id'
   ·simp only[e2,if_true,Option.some.injEq,Prod.mk.injEq] at *
    have:=hlt id b1 B o (by simpa[e1] using h1) l1 (by simpa[e1] using r1)
    omega
   ·simp only[e1,e2,if_false] at *
    exact h.inj id id' b1 b2 B o o' h1 h2 l1 l2 r1 r2
 ·intro B hB
  have:=h.aV B hB
  simp
  omega
 ·intro id b0 B o hm hl hρ
  simp only[MF.put,Pl.put] at hm hρ
  by_cases hid:n=id
  ·simp only[hid,if_true,Option.some.injEq,Prod.mk.injEq] at hρ
   exact .inl (by have:=h.size;omega)
  ·simp only[hid,if_false] at hm hρ
   exact h.mine id b0 B o hm hl hρ
 ·intro id b0 hm hd
  by_cases hid:n=id
  ·subst hid;simp[Pl.put]
  ·simp only[MF.put,hid,if_false] at hm
   have he:(ρ.put n (some (w.heap.size,0))).d id=ρ.d id:=by simp[Pl.put,hid]
   rw[he]
   obtain⟨k1,k2⟩:=h.dp id b0 hm hd
   refine⟨k1,fun B hB=>?_⟩
   obtain⟨q1,q2,q3⟩:=k2 B hB
   have hlt':=(h.dlt hm hd hB).1
   refine⟨q1,fun id' b' o h1 h2=>?_,fun id' b' h1 h2 h3=>?_⟩
   ·by_cases lQ:n=id'
    ·simp only[Pl.put,lQ,if_true,ne_eq,Option.some.injEq,Prod.mk.injEq,not_and]
     intro e;omega
    ·simp only[MF.put,Pl.put,lQ,if_false] at h1 ⊢
     exact q2 id' b' o h1 h2
   ·by_cases lQ:n=id'
    ·simp[Pl.put,lQ] at h3
    ·simp only[MF.put,Pl.put,lQ,if_false] at h1 h3
     exact q3 id' b' h1 h2 h3
 ·intro B hB hX
  rw[hsame B (by have:=h.size;omega)]
  exact h.frame B hB hX
 ·have:=h.size
  simp
  omega
theorem aC.write {F:Fix}{m:MF}{w w':World}{I:Nat→Prop}{ρ:Pl}(h:aD F m w I ρ)(n:Nat)(b b':ag)(B o:Nat)(cs cs':List Value)
  (hm:m n=some b) (hl:b.live) (hst:b.st<b'.st∨(b.st=b'.st∧bt b.c b'.c)) (hρ:ρ n=some (B,o)) (hI:¬I B)
  (hcs:Cells w B cs) (hcs':Cells w' B cs') (hlen:cs.length≤cs'.length)
  (hsame:∀k,k≠B→w'.heap[k]?=w.heap[k]?) (hsize:w'.heap.size=w.heap.size) (hos:w'.os=w.os) (eL:w'.tape=w.tape) (hout:w'.output=w.output)
  (hb:bD I I w w'→cC m (m.put n b') ρ ρ w w'→aS w' I (m.put n b') ρ n b') (hnd:¬b'.bq:=by simp[ag.bq]) :
  aC F m (m.put n b') w w' I I ρ ρ:=by
 have ha:bD I I w w':=⟨fun _ h=>h,fun k hk=>hsame k (fun e=>hI (e▸hk))⟩
 have hk:cC m (m.put n b') ρ ρ w w':=by
  refine⟨fun id b0 hm0=>?_,fun id b0 b1 rs t u xs ys h0 h1 hs hc0 eK B1 o1 hB=>?_⟩
  case refine_2=>
   by_cases hid:n=id
   ·simp only[MF.put,hid,if_true,Option.some.injEq] at h1
    subst h1
    exact absurd (by unfold ag.bq;rw[eK];trivial) hnd
   ·refine hsame B1 fun e=>?_
    subst e
    exact hid (h.inj n id b b0 B1 o o1 hm h0 hl (by unfold ag.live;rw[hc0];trivial) hρ hB)
  by_cases hid:n=id
  ·subst hid
   rw[hm] at hm0
   cases hm0
   refine⟨b',by simp[MF.put],hst.imp id fun hst=>⟨hst.1,hst.2,rfl,fun _ B' o' jl ds hd=>?_⟩⟩
   rw[hρ] at jl
   cases jl
   have:=hcs.unique hd
   subst this
   exact⟨cs',hcs',hlen⟩
  ·refine⟨b0,by simp[MF.put,hid,hm0],.inr ⟨rfl,bt.refl _,rfl,fun _ B' o' jl ds hd=>?_⟩⟩
   by_cases hB:B'=B
   ·subst hB
    have:=hcs.unique hd
    subst this
    exact⟨cs',hcs',hlen⟩
   ·exact⟨ds,hd.of_same (hsame B' hB),Nat.le_refl _⟩
 refine⟨ha,hk,?_⟩
 have bG:=h.mine n b B o hm hl hρ
 refine { blk:=?_,inj:=?_,aV:=?_,fX:=h.fX,fI:=h.fI,mine:=?_,dp:=?_,frame:=?_,size:=by have:=h.size;omega,os:=hos.trans h.os,tape:=eL.trans h.tape,output:=hout.trans h.output,ez:=F.G.mono ha h.ez }
 ·intro id b0 hm0
  by_cases hid:n=id
  ·subst hid
   simp only[MF.put,if_true,Option.some.injEq] at hm0
   subst hm0
   exact hb ha hk
  ·simp only[MF.put,hid,if_false] at hm0
   refine(h.blk id b0 hm0).mono ha hk rfl rfl (fun B' o' jl hl0=>⟨hsame B' fun e=>?_,fun h=>h⟩) (fun hd B' aY=>⟨hsame B' fun e=>?_,fun h=>h⟩)
   ·subst e
    exact hid (h.inj n id b b0 B' o o' hm hm0 hl hl0 hρ jl)
   ·subst e
    exact((h.dp id b0 hm0 hd).2 B' aY).2.1 n b o hm hl hρ
 ·intro id id' b1 b2 C o1 o2 h1 h2 l1 l2 r1 r2
  have fix:∀j bj,(m.put n b') j=some bj→bj.live→∃bj',m j=some bj'∧bj'.live:=by
   intro j bj hj hlj
   by_cases hid:n=j
   ·subst hid;exact⟨b,hm,hl⟩
   ·simp only[MF.put,hid,if_false] at hj;exact⟨bj,hj,hlj⟩
  obtain⟨c1,k1,k2⟩:=fix id b1 h1 l1
  obtain⟨c2,k3,k4⟩:=fix id' b2 h2 l2
  exact h.inj id id' c1 c2 C o1 o2 k1 k3 k2 k4 r1 r2
 ·intro k hk
  rw[hsize]
  exact h.aV k hk
 ·intro id b0 C o1 hm0 hl0 hr
  by_cases hid:n=id
  ·subst hid;exact h.mine n b C o1 hm hl hr
  ·simp only[MF.put,hid,if_false] at hm0;exact h.mine id b0 C o1 hm0 hl0 hr
 ·intro id b0 hm0 hd
  have back:∀j bj,(m.put n b') j=some bj→bj.bq→m j=some bj:=by
   intro j bj hj hdj
   by_cases hid:n=j
   ·simp only[MF.put,hid,if_true,Option.some.injEq] at hj;subst hj;exact absurd hdj hnd
   ·simpa only[MF.put,hid,if_false] using hj
  obtain⟨k1,k2⟩:=h.dp id b0 (back id b0 hm0 hd) hd
  refine⟨k1,fun B1 hB1=>?_⟩
  obtain⟨q1,q2,q3⟩:=k2 B1 hB1
  refine⟨q1,fun id' b1 o1 h1 h2=>?_,fun id' b1 h1 h2 h3=>q3 id' b1 (back id' b1 h1 h2) h2 h3⟩
  by_cases hid:n=id'
  ·subst hid;exact q2 n b o1 hm hl
  ·simp only[MF.put,hid,if_false] at h1;exact q2 id' b1 o1 h1 h2
 ·intro k hk hX
  have:k≠B:=by
   rintro rfl
   rcases bG with h|h
   ·omega
   ·exact hX h
  rw[hsame k this]
  exact h.frame k hk hX
theorem aC.drew {F:Fix}{m:MF}{w:World}{I:Nat→Prop}{ρ:Pl}(h:aD F m w I ρ):aC F m m w w.drew I I ρ ρ:=by
 have ha:bD I I w w.drew:=⟨fun _ h=>h,fun _ _=>rfl⟩
 have hk:cC m m ρ ρ w w.drew:=⟨fun _ b hb=>⟨b,hb,.inr ⟨rfl,bt.refl _,rfl,fun _ _ _ _ cs hc=>⟨cs,hc.of_same rfl,Nat.le_refl _⟩⟩⟩,fun _ _ _ _ _ _ _ _ _ _ _ _ _ _ _ _=>rfl⟩
 exact⟨ha,hk,⟨fun id b hm=>(h.blk id b hm).mono ha hk rfl rfl (fun _ _ _ _=>⟨rfl,fun h=>h⟩) fun _ _ _=>⟨rfl,fun h=>h⟩,h.inj,h.aV,h.fX,h.fI,h.mine,h.dp,h.frame,h.size,h.os,h.tape,h.output,F.G.mono ha h.ez⟩⟩
theorem aC.stale {F:Fix}{m:MF}{w:World}{I:Nat→Prop}{ρ:Pl}(h:aD F m w I ρ)(n:Nat)(b':ag)(hst:∀b,m n=some b→b.st<b'.st)
  (hb:¬b'.live∨∃t:Ty,b'.c = .rows t []):aC F m (m.put n b') w w I I ρ (ρ.put n none):=by
 have hk:cC m (m.put n b') ρ (ρ.put n none) w w:=by
  refine⟨fun id b0 hm0=>?_,fun _ _ _ _ _ _ _ _ _ _ _ _ _ _ _ _=>rfl⟩
  by_cases hid:n=id
  ·subst hid
   exact⟨b',by simp[MF.put],.inl (hst b0 hm0)⟩
  ·exact⟨b0,by simp[MF.put,hid,hm0],.inr ⟨rfl,bt.refl _,by simp[Pl.put,hid],fun _ _ _ _ cs hc=>⟨cs,hc,Nat.le_refl _⟩⟩⟩
 have hput:∀j bj B o,(m.put n b') j=some bj→bj.live→(ρ.put n none) j=some (B,o)→n≠j∧m j=some bj∧ρ j=some (B,o):=by
  intro j bj B o h1 _ h2
  by_cases hid:n=j
  ·simp[Pl.put,hid] at h2
  ·simp only[MF.put,Pl.put,hid,if_false] at h1 h2
   exact⟨hid,h1,h2⟩
 refine⟨bD.refl I w,hk,⟨fun id b0 hm0=>?_,fun id id' b1 b2 B o o' h1 h2 l1 l2 r1 r2=>?_,h.aV,h.fX,h.fI,fun id b0 B o h1 l1 r1=>?_,?dp,h.frame,h.size,h.os,h.tape,h.output,h.ez⟩⟩
 ·by_cases hid:n=id
  ·subst hid
   simp only[MF.put,if_true,Option.some.injEq] at hm0
   subst hm0
   unfold aS
   rcases hb with hb|⟨t,hb⟩
   ·unfold ag.live at hb
    cases hc:b'.c<;>simp[hc] at hb
    trivial
   ·rw[hb]
    exact⟨trivial,.inl ⟨rfl,by simp[Pl.put]⟩⟩
  ·simp only[MF.put,hid,if_false] at hm0
   exact(h.blk id b0 hm0).mono (bD.refl I w) hk (by simp[Pl.put,hid]) (by simp[Pl.put,hid]) (fun _ _ _ _=>⟨rfl,fun h=>h⟩) fun _ _ _=>⟨rfl,fun h=>h⟩
 ·obtain⟨_,k1,k2⟩:=hput id b1 B o h1 l1 r1
  obtain⟨_,k3,k4⟩:=hput id' b2 B o' h2 l2 r2
  exact h.inj id id' b1 b2 B o o' k1 k3 l1 l2 k2 k4
 ·obtain⟨_,k1,k2⟩:=hput id b0 B o h1 l1 r1
  exact h.mine id b0 B o k1 l1 k2
 case dp=>
  have hnd:¬b'.bq:=by
   rcases hb with hb|⟨t,hb⟩
   ·exact fun hd=>hb (dL hd)
   ·unfold ag.bq;rw[hb];exact fun h=>h
  have back:∀j bj,(m.put n b') j=some bj→bj.bq→n≠j∧m j=some bj:=by
   intro j bj hj hdj
   by_cases hid:n=j
   ·simp only[MF.put,hid,if_true,Option.some.injEq] at hj;subst hj;exact absurd hdj hnd
   ·exact⟨hid,by simpa only[MF.put,hid,if_false] using hj⟩
  intro id b0 hm0 hd
  obtain⟨e0,e1⟩:=back id b0 hm0 hd
  have he:(ρ.put n none).d id=ρ.d id:=by simp[Pl.put,e0]
  rw[he]
  obtain⟨k1,k2⟩:=h.dp id b0 e1 hd
  refine⟨k1,fun B1 hB1=>?_⟩
  obtain⟨q1,q2,q3⟩:=k2 B1 hB1
  refine⟨q1,fun id' b1 o1 h1 h2 h3=>?_,fun id' b1 h1 h2 h3=>?_⟩
  ·obtain⟨_,g1,g2⟩:=hput id' b1 B1 o1 h1 h2 h3
   exact q2 id' b1 o1 g1 h2 g2
  ·obtain⟨g0,g1⟩:=back id' b1 h1 h2
   exact q3 id' b1 g1 h2 (by simpa[Pl.put,g0] using h3)
end Go.Ab
namespace Go.Ab
theorem Ty.cA {a b:Ty}(h:a.is b=true):a=b:=by
 unfold Ty.is at h
 split at h
 ·assumption
 ·simp at h
theorem bT {d:DV}{t:Ty}{x:t.den}(h:d.as t=some x):d=⟨t,x⟩:=by
 obtain⟨u,y⟩:=d
 unfold DV.as at h
 split at h
 ·rename_i e
  simp only at e
  subst e
  cases h
  rfl
 ·cases h
theorem aQ {α:Type}{b:Bool}{x:Option α}{y:α}(h:(bif b then x else none)=some y):b=true∧x=some y:=by
 cases b<;>simp_all
theorem bR.of {m:MF}{id st:Nat}{b:ag}(h:m id=some b)(hs:b.st=st):bR m id st:=⟨b,h,by omega⟩
theorem fJ {o:Option Ty}{t:Ty}(h:cM o t=true):o=some t:=by
 cases o with
 |none=>simp[cM] at h
 |some u=>simp only[cM] at h;rw[Ty.cA h]
theorem cp {m:MF}{id st:Nat}{b:ag}(h:cur m id st=some b):m id=some b∧b.st=st:=by
 unfold cur at h
 cases hm:m id with
 |none=>simp[hm] at h
 |some b0=>
  simp only[hm] at h
  cases hb:Nat.beq b0.st st with
  |true=>simp[hb] at h;subst h;exact⟨rfl,Nat.eq_of_beq_eq_true hb⟩
  |false=>simp[hb] at h
theorem eR {m:MF}{id st:Nat}{t:Ty}{fz:Bool}{xs:List t.den}(h:rowsOf m id st t=some (fz,xs)):m id=some ⟨st,fz,.rows t xs⟩:=by
 unfold rowsOf at h
 split at h
 ·rename_i st' fz' u ys hc
  obtain⟨h1,h2⟩:=cp hc
  simp only[Option.map_eq_some_iff] at h
  obtain⟨zs,hz,he⟩:=h
  obtain⟨e,he'⟩:=DV.bT hz
  simp only at e
  cases e
  simp only at he'
  simp only at h2
  simp only[Prod.mk.injEq] at he
  obtain⟨rfl,rfl⟩:=he
  subst h2
  subst he'
  exact h1
 ·simp at h
def MF.aj (m:MF)(l:List (Nat×ag)):MF:=fun i=>match find l i with | some b=>some b|none=>m i
theorem uJ (l:List (Nat×ag))(mem:Mem):find (app l mem)=MF.aj (find mem) l:=by
 funext i
 rw[b9]
 unfold MF.aj
 cases find l i<;>rfl
theorem MF.xA (m:MF):m.aj []=m:=rfl
theorem MF.cO (m:MF)(n:Nat)(b:ag):m.aj [(n,b)]=m.put n b:=by
 funext i
 simp only[MF.aj,MF.put,aG]
 by_cases h:n=i<;>simp[h,find]
theorem MF.mR (m:MF)(n:Nat)(b:ag)(l:List (Nat×ag)):m.aj ((n,b)::l)=(m.aj l).put n b:=by
 funext i
 simp only[MF.aj,MF.put,aG]
 by_cases h:n=i<;>simp[h]
theorem MF.upd_app (m:MF)(l l':List (Nat×ag)):m.aj (app l l')=(m.aj l').aj l:=by
 funext i
 simp only[MF.aj,b9]
 cases find l i<;>rfl
def aA (P:Program)(F:Fix)(o:Oper)(a:Act)(w:World)(m:MF)(I:Nat→Prop)(ρ:Pl)(d:aE):Prop:=
 ∀(K:Act→World→Prop) (Q:Exit→Act→World→Prop),
  (∀v w' I' ρ',aC F m (m.aj d.aj) w w' I I' ρ ρ'→au w' I' (m.aj d.aj) ρ' d.av v→K (a.put o.dst v) w')→o.wp P a w K Q
section
variable {P:Program} {F:Fix} {C:Cx} {o:Oper} {a:Act} {w:World} {m:MF} {I:Nat→Prop} {ρ:Pl} {d:aE}
theorem aA.value {av:AT}{ok:List Bool}{v:Value}(hm:aD F m w I ρ)(hr:(execOp a.eval o).run P w = .ok (.value v) w)(hs:au w I m ρ av v) :
  aA P F o a w m I ρ ⟨av,[],ok⟩:=by
 intro K Q h
 unfold Oper.wp
 rw[hr]
 exact h v w I ρ (aC.refl hm) hs
theorem aA.world {v:Value}{w':World}{I':Nat→Prop}{ρ':Pl}(hr:(execOp a.eval o).run P w = .ok (.value v) w')(hd:aC F m (m.aj d.aj) w w' I I' ρ ρ')
  (hs:au w' I' (m.aj d.aj) ρ' d.av v):aA P F o a w m I ρ d:=by
 intro K Q h
 unfold Oper.wp
 rw[hr]
 exact h v w' I' ρ' hd hs
theorem aA.skip {w':World}{I':Nat→Prop}{ρ':Pl}(hr:(execOp a.eval o).run P w = .ok .skip w')(hd:aC F m (m.aj d.aj) w w' I I' ρ ρ')
  (hs:d.av = .any):aA P F o a w m I ρ d:=by
 intro K Q h
 unfold Oper.wp
 rw[hr]
 exact h Go.undef w' I' ρ' hd (by rw[hs];trivial)
theorem kn {t:Ty}{x:t.den}{v:Value}:au w I m ρ (.leaf t x) v↔aB w I m ρ (.leaf t x) v:=Iff.rfl
theorem cJ {k:IntKind}{n:Int}{v:Value}:au w I m ρ (.leaf (.int k) n) v↔v = .int k n:=by
 rw[kn];unfold aB;simp[AT.isAgg,Ty.isAgg,af,aa]
theorem eo {b:Bool}{v:Value}:au w I m ρ (.leaf .bool b) v↔v = .bool b:=by
 rw[kn];unfold aB;simp[AT.isAgg,Ty.isAgg,af,aa]
theorem gA {s:List UInt8}{v:Value}:au w I m ρ (.leaf .str s) v↔v = .string ⟨s.toArray⟩:=by
 rw[kn];unfold aB;simp[AT.isAgg,Ty.isAgg,af,aa]
theorem bQ {a:AT}{v:Value}(h:a.isAgg=false)(hs:au w I m ρ a v)(hn:∀l r,a ≠ .bB l r)(h1:a ≠ .b7)(h2:a ≠ .any)(h3:∀g b,a ≠ .bC g b):af w I m ρ a [v]:=by
 unfold au at hs
 split at hs
 ·exact absurd rfl (hn _ _)
 ·exact absurd rfl h1
 ·exact absurd rfl h2
 ·exact absurd rfl (h3 _ _)
 ·unfold aB at hs
  simpa[h] using hs
theorem nt {T:Nat}{x:AT}{v:Value}(h:au w I m ρ x v):au w I m ρ (C.co T x) v:=by
 unfold Cx.co
 cases x<;>try exact h
 simp only
 split
 ·exact h
 ·exact h
theorem rI {x:Operand}{av:AT}(ho:o.op = .move x∨o.op = .assign x)(hm:aD F m w I ρ)(hx:au w I m ρ av (a.eval x)):aA P F o a w m I ρ ⟨C.co o.type av,[],[]⟩:=by
 refine aA.value hm (v:=a.eval x) ?_ (nt hx)
 rcases ho with h|h<;>simp[execOp,h]
theorem q9 {B:Nat}{pre mid post:List Value}{k:Nat}(hc:Cells w B (pre++mid++post))(hk:pre.length=k):∀j,j<mid.length→w.cell? ⟨B,k+j,none⟩=mid[j]? :=by
 intro j hj
 rw[hc.cell]
 subst hk
 rw[List.append_assoc,List.getElem?_append_right (by omega),List.getElem?_append_left (by omega)]
 congr 1
 omega
theorem o3 {id st rs row:Nat}{fz:Bool}{t u:Ty}{xs:List t.den}{p:Path}(hm:aD F m w I ρ)(hb:m id=some ⟨st,fz,.deep rs t xs⟩)(hrow:row<xs.length)(hp:p.pairs=true)(hu:t.at p=some u) :
  ∃(B o:Nat) (cs rcs pre mid post:List Value) (D1 D2 B1 Bm B2:List Nat) (y:u.den),ρ id=some (B,o)∧Cells w B cs∧o+xs.length*t.size≤cs.length∧¬I B∧fz=false ∧
   ρ.d id=D1++(B1++Bm++B2)++D2∧rcs.length=t.size∧(∀j,j<t.size→w.cell? ⟨B,o+row*t.size+j,none⟩=rcs[j]?)∧AT.get p (.leaf t (xs.getD row t.dflt))=some (.leaf u y) ∧
   rcs=pre++mid++post∧pre.length=t.off p∧aq w I u y mid Bm ∧
   ∀(w':World) (I':Nat→Prop) (z:u.den) (aN:List Value) (fu:List Nat),bD I I' w w'→(∀b∈D1++(B1++B2)++D2,w'.heap[b]?=w.heap[b]?∧(I' b→I b)) →
    (∀k,¬(o+row*t.size≤k∧k<o+row*t.size+t.size)→w'.cell? ⟨B,k,none⟩=w.cell? ⟨B,k,none⟩)→(∀j,j<t.size→w'.cell? ⟨B,o+row*t.size+j,none⟩=(pre++aN++post)[j]?)→aq w' I' u z aN fu →
    ∃x',(AT.set p (.leaf t (xs.getD row t.dflt)) (.leaf u z)).bind AT.pure=some ⟨t,x'⟩∧br w' B t.size (aq w' I' t) o (xs.set row x') (D1++(B1++fu++B2)++D2):=by
 have az:=hm.blk id _ hb
 simp only[aS] at az
 obtain⟨hfz,az⟩:=az
 rcases az with⟨cW,_⟩|⟨B,o',cs,e3,e4,e5,e6,e7⟩
 ·subst cW;simp at hrow
 ·have hxr:xs[row]?=some (xs.getD row t.dflt):=by
   rw[List.getD_eq_getElem?_getD,List.getElem?_eq_getElem hrow]
   rfl
  obtain⟨D1,Di,D2,rcs,f1,f2,f3,f4,f5⟩:=br.split hxr e6
  obtain⟨y,pre,mid,post,B1,Bm,B2,g1,g2,g3,g4,g5,g6⟩:=aq.part p hp hu f4
  subst g4
  refine⟨B,o',cs,rcs,pre,mid,post,D1,D2,B1,Bm,B2,y,e3,e4,e5,e7,hfz,f1,f2,f3,g1,g2,g3,g5,fun w' I' z aN fu ha hs hc aJ hz=>?_⟩
  obtain⟨x',k1,k2⟩:=g6 w' I' z aN fu ha (fun b hb=>hs b (by simp only[List.mem_append] at hb ⊢;rcases hb with hb|hb<;>simp[hb])) hz
  refine⟨x',k1,f5 w' (aq w' I' t) x' (pre++aN++post) (B1++fu++B2) hc (fun x vs D hD h=>aq.mono ha (fun b hb=>hs b (by have:=hD b hb;simp only[List.mem_append] at this ⊢;rcases this with h|h<;>simp[h])) h) (by rw[aq.length k2]) aJ k2⟩
theorem u5 {T:Nat}{x:Operand}{av:AT}(hC:bH P C)(ho:o.op = .load T x)(hm:aD F m w I ρ)(hx:au w I m ρ av (a.eval x))(hd:pW C m T av=some d):aA P F o a w m I ρ d:=by
 have fin:∀{B off:Nat} {u:Ty} {b:AT} {vs:List Value},a.eval x = .pointer (some ⟨B,off,none⟩)→aF P u T→Typed b u→af w I m ρ b vs →
   (∀j,j<vs.length→w.cell? ⟨B,off+j,none⟩=vs[j]?)→aA P F o a w m I ρ ⟨b,[],[]⟩:=by
  intro B off u b vs he hT ht hr hc
  refine aA.value hm (v:=aL u vs) ?_ ((fo ht).2 (aB.unpack ht hT hr))
  have:=hT.tC (w:=w) (ht.length hr) hc
  simp[execOp,ho,Instr.loadAt,he,Instr.sureAddr,this]
 unfold pW at hd
 split at hd
 ·rename_i t y u hu
  have hT:=hC.ty hu
  cases hi:t.is u with
  |false=>simp[hi] at hd
  |true=>
   simp[hi] at hd
   subst hd
   have:=Ty.cA hi
   subst this
   have hx':=bQ (a:=.leaf (.ref t) y) rfl hx (by simp) (by simp) (by simp) (by simp)
   simp only[af,aa] at hx'
   obtain⟨B,off,e1,e2,e3,cs,e4,e5,e6⟩:=hx'
   exact fin (u:=t) (b:=.leaf t y) (by simpa using e1) hT rfl e6 (by rw[e4];exact e5)
 ·rename_i id st p u hu
  have hT:=hC.ty hu
  split at hd
  ·rename_i st' fz t at_ hc
   obtain⟨hb,hst⟩:=cp hc
   cases hi:cM (t.at p) u with
   |false=>simp[hi] at hd
   |true=>
    simp only[hi,cond_true] at hd
    split at hd
    ·rename_i b hg
     cases hd
     have hx':=bQ (a:=.aZ id st p) rfl hx (by simp) (by simp) (by simp) (by simp)
     simp only[af] at hx'
     obtain⟨_,_,h3⟩:=hx'
     obtain⟨e0,B,e1,e2⟩:=h3 _ hb hst t at_ rfl
     have az:=hm.blk id _ hb
     simp only[aS] at az
     obtain⟨ht,B',cs,e3,e4,e5,_⟩:=az
     rw[e1] at e3
     cases e3
     obtain⟨f0,pre,mid,post,f1,f2,f3,f4⟩:=iE p ht e5 e0 hg (fJ hi)
     subst f1
     exact fin (by simpa using e2) hT f0 f4 (q9 e4 f2)
    ·simp at hd
  ·simp at hd
 ·rename_i id st row p u hu
  have hT:=hC.ty hu
  split at hd
  ·rename_i st' fz t xs hc
   obtain⟨hb,hst⟩:=cp hc
   cases hi:cM (t.at p) u with
   |false=>simp[hi] at hd
   |true=>
    simp only[hi,cond_true] at hd
    split at hd
    ·rename_i b hg
     cases hd
     have hx':=bQ (a:=.ptr id st row p) rfl hx (by simp) (by simp) (by simp) (by simp)
     simp only[af] at hx'
     obtain⟨_,_,h3⟩:=hx'
     obtain⟨e0,iZ,B,o',e1,e2⟩:=h3 _ hb hst t xs.length rfl
     have az:=hm.blk id _ hb
     simp only[aS] at az
     obtain⟨hsz,az⟩:=az
     rcases az with⟨cW,_⟩|⟨B',cH,cs,e3,e4,e5,e6,_⟩
     ·subst cW;simp at iZ
     ·rw[e1] at e3
      cases e3
      have hxr:xs[row]?=some (xs.getD row t.dflt):=by
       rw[List.getD_eq_getElem?_getD,List.getElem?_eq_getElem iZ]
       rfl
      obtain⟨rs,g1,g2,g3⟩:=e6 row _ hxr
      obtain⟨f0,pre,mid,post,f1,f2,f3,f4⟩:=iE (w:=w) (I:=I) (m:=m) (ρ:=ρ) p (a:=.leaf t (xs.getD row t.dflt)) rfl g3 e0 hg (fJ hi)
      subst f1
      refine fin (by simpa using e2) hT f0 f4 fun j hj=>?_
      have:=g2 (t.off p+j) (by simp at g1;omega)
      rw[←Nat.add_assoc] at this
      rw[this,←f2,List.append_assoc,List.getElem?_append_right (by omega),List.getElem?_append_left (by omega)]
      congr 1
      omega
    ·simp at hd
  ·rename_i st' fz rs t xs hc
   obtain⟨hb,hst⟩:=cp hc
   simp only at hst
   obtain⟨hi,hd⟩:=aQ hd
   simp only[Bool.and_eq_true] at hi
   obtain⟨hi1,hi2⟩:=hi
   have cE:=fJ hi1
   have hx':=bQ (a:=.ptr id st row p) rfl hx (by simp) (by simp) (by simp) (by simp)
   simp only[af] at hx'
   obtain⟨_,_,h3⟩:=hx'
   obtain⟨e0,hrow,B,o',e1,e2⟩:=h3 _ hb hst t xs.length rfl
   obtain⟨B',cH,cs,rcs,pre,mid,post,D1,D2,B1,Bm,B2,y,f1,f2,f3,f4,f5,f6,f7,f8,f9,f10,f11,f12,_⟩:=o3 hm hb hrow hi2 cE
   rw[e1] at f1
   cases f1
   have hml:=aq.length f12
   have hcells:∀j,j<u.size→w.cell? ⟨B,o'+row*t.size+t.off p+j,none⟩=mid[j]? :=by
    intro j hj
    have hl:rcs.length=t.off p+u.size+post.length:=by rw[f10,List.length_append,List.length_append,f11,hml]
    have:=f8 (t.off p+j) (by omega)
    rw[←Nat.add_assoc] at this
    rw[this,f10,List.append_assoc,List.getElem?_append_right (by omega),List.getElem?_append_left (by omega)]
    congr 1
    omega
   cases hl:u.aK with
   |true=>
    rw[hl] at hd
    cases hd
    refine fin (by simpa using e2) hT (b:=.nest id st rs row p u) (vs:=mid) rfl ?_ (by rw[hml];exact hcells)
    simp only[af]
    refine⟨hml,aq.bV f12,bR.of hb hst,fun b hb' lU r t' xs' aJ=>?_⟩
    rw[hb] at hb'
    cases hb'
    cases aJ
    exact⟨Nat.le_refl _,fun _=>⟨cE,hi2,hrow,B,o',e1,hcells⟩⟩
   |false=>
    rw[hl] at hd
    simp only[cond_false,f9,Option.some.injEq] at hd
    cases hd
    exact fin (by simpa using e2) hT (b:=.leaf u y) (vs:=mid) rfl (aq.rep hl f12).1 (by rw[hml];exact hcells)
  ·simp at hd
 ·simp at hd
end
end Go.Ab
namespace Go.Ab
section
variable {P:Program} {F:Fix} {C:Cx} {o:Oper} {a:Act} {w:World} {m:MF} {I:Nat→Prop} {ρ:Pl} {d:aE}
theorem nT {k k':IntKind}(h:jC k k'=true):k=k':=by
 cases k<;>cases k'<;>first|rfl|simp[jC] at h
theorem nk (s:List UInt8):(⟨s.toArray⟩:ByteArray).toList=s:=ByteArray.toList_mk s
theorem vE {op:BinOp}{k:IntKind}{x y:Int}{T:Nat}(hd:l5 op k x y=some d)(hok:∀b∈d.ok,b=true)(hsh:op ≠ .shl∧op ≠ .shr) :
  ∃t r,d=⟨.leaf t r,[],d.ok⟩∧∃v,au w I m ρ (.leaf t r) v∧(binOp op T (.int k x) (.int k y)).run P w = .ok v w:=by
 cases op<;>simp only[l5,Option.some.injEq,reduceCtorEq] at hd<;>subst hd
 case quo=>
  have hy:y≠0:=by simpa using hok
  exact⟨_,_,rfl,_,cJ.2 rfl,by simp[binOp,Op.intDiv,hy]⟩
 case rem=>
  have hy:y≠0:=by simpa using hok
  exact⟨_,_,rfl,_,cJ.2 rfl,by simp[binOp,Op.intDiv,hy]⟩
 all_goals first
  |exact⟨_,_,rfl,_,cJ.2 rfl,by simp[binOp,Op.intArith,Op.intBits,nj]⟩
  |exact⟨_,_,rfl,_,eo.2 rfl,by simp[binOp,Op.intCmp]⟩
theorem w_ {op:BinOp}{x y:List UInt8}{T:Nat}(hd:qq op x y=some d)(hok:∀b∈d.ok,b=true) :
  ∃t r,d=⟨.leaf t r,[],d.ok⟩∧∃v,au w I m ρ (.leaf t r) v∧(binOp op T (.string ⟨x.toArray⟩) (.string ⟨y.toArray⟩)).run P w = .ok v w:=by
 have e1:=nk x
 have e2:=nk y
 cases op<;>simp only[qq,Option.some.injEq,reduceCtorEq] at hd<;>subst hd
 case add=>
  have hy:x.length+y.length≤dh:=by simpa using hok
  have hmax:IntKind.i64.max=9223372036854775807:=by decide
  refine⟨_,_,rfl,_,gA.2 rfl,?_⟩
  have:¬(((x.length+y.length:Nat):Int)>IntKind.i64.max):=by rw[hmax];unfold dh at hy;omega
  simp only[binOp,Op.stringOp]
  have hs:((ByteArray.size ⟨x.toArray⟩+ByteArray.size ⟨y.toArray⟩:Nat):Int)=((x.length+y.length:Nat):Int):=by simp[ByteArray.size]
  rw[hs,if_neg this]
  simp only[Sem.run_pure]
  congr 2
 all_goals exact⟨_,_,rfl,_,eo.2 rfl,by simp[binOp,Op.stringOp,e1,e2]⟩
theorem o5 {op:BinOp}{T:Nat}{x y:Operand}{k k':IntKind}{u v:Int}:(eqGuard op T x y (.int k u) (.int k' v)).run P w = .ok () w:=by
 cases op<;>rfl
theorem uH {op:BinOp}{T:Nat}{x y:Operand}{u v:ByteArray}:(eqGuard op T x y (.string u) (.string v)).run P w = .ok () w:=by
 cases op<;>rfl
theorem rD {op:BinOp}{T:Nat}{x y:Operand}{u v:Bool}:(eqGuard op T x y (.bool u) (.bool v)).run P w = .ok () w:=by
 cases op<;>rfl
theorem vj {op:UnOp}{T:Nat}{x:Operand}{av:AT}(ho:o.op = .unOp op T x)(hm:aD F m w I ρ)(hx:au w I m ρ av (a.eval x))(hd:unD op av=some d) :
  aA P F o a w m I ρ d:=by
 unfold unD at hd
 split at hd<;>simp only[Option.some.injEq,reduceCtorEq] at hd<;>subst hd
 ·have:=cJ.1 hx
  exact aA.value hm (by simp[execOp,ho,this,Op.unary,Op.intArith]) (cJ.2 rfl)
 ·have:=cJ.1 hx
  exact aA.value hm (by simp[execOp,ho,this,Op.unary,Op.intBits];rfl) (cJ.2 (by simp[nj]))
 ·have:=eo.1 hx
  exact aA.value hm (by simp[execOp,ho,this,Op.unary]) (eo.2 rfl)
theorem Ty.oQ:∀(p q:Path) (t:Ty),t.at (app p q)=(t.at p).bind (Ty.at q)
 | [],_,_=>rfl
 |.fst::p,q,t=>by cases t<;>simp only[app,Ty.at,Option.bind_none]<;>exact Ty.oQ p q _
 |.snd::p,q,t=>by cases t<;>simp only[app,Ty.at,Option.bind_none]<;>exact Ty.oQ p q _
 |.idx i::p,q,t=>by cases t<;>simp only[app,Ty.at,Option.bind_none]<;>exact Ty.oQ p q _
theorem Ty.kV:∀(p q:Path) {t u:Ty},t.at p=some u→t.off (app p q)=t.off p+u.off q
 | [],q,t,u,h=>by simp only[Ty.at,Option.some.injEq] at h;subst h;simp[app,Ty.off]
 |.fst::p,q,t,u,h=>by
  cases t<;>simp only[Ty.at,reduceCtorEq] at h
  simp only[app,Ty.off];exact Ty.kV p q h
 |.snd::p,q,t,u,h=>by
  cases t<;>simp only[Ty.at,reduceCtorEq] at h
  simp only[app,Ty.off];rw[Ty.kV p q h];omega
 |.idx i::p,q,t,u,h=>by
  cases t<;>simp only[Ty.at,reduceCtorEq] at h
  simp only[app,Ty.off];rw[Ty.kV p q h];omega
theorem cZ.app:∀(p q:Path) {t u:Ty},t.at p=some u→cZ p t→cZ q u→cZ (app p q) t
 | [],q,t,u,h,_,hq=>by simp only[Ty.at,Option.some.injEq] at h;subst h;exact hq
 |.fst::p,q,t,u,h,hp,hq=>by
  cases t<;>simp only[Ty.at,reduceCtorEq] at h
  exact cZ.app p q h hp hq
 |.snd::p,q,t,u,h,hp,hq=>by
  cases t<;>simp only[Ty.at,reduceCtorEq] at h
  exact cZ.app p q h hp hq
 |.idx i::p,q,t,u,h,hp,hq=>by
  cases t<;>simp only[Ty.at,reduceCtorEq] at h
  exact⟨hp.1,cZ.app p q h hp.2 hq⟩
theorem kX:∀(n:Nat) {t u:Ty},t.at (bg n)=some u→cZ (bg n) t
 |0,t,u,h=>by cases t<;>simp only[bg,Ty.at,reduceCtorEq] at h<;>exact trivial
 |n+1,t,u,h=>by
  cases t<;>simp only[bg,Ty.at,reduceCtorEq] at h
  exact kX n h
theorem Addr.iw (B k n:Nat):(⟨B,k,none⟩:Addr).add n=⟨B,k+n,none⟩:=by
 unfold Addr.add
 split<;>simp_all
theorem ql {t u:Ty}{T n:Nat}{v:Value}{B k:Nat}(hT:aF P t T)(hu:t.at (bg n)=some u)(hsz:u.size≠0)(hv:v = .pointer (some ⟨B,k,none⟩)) :
  (Instr.fieldAt T v n).run P w = .ok (.pointer (some ⟨B,k+t.off (bg n),none⟩)) w:=by
 obtain⟨fs,f,h1,h2,h3,h4⟩:=hT.field hu
 subst hv
 simp[Instr.fieldAt,run_underlying h1,h2,Instr.sureAddr,fieldPlace,h4.info.run_sizeOf,hsz,Addr.iw,h3]
theorem eV.pointer (x:Option Addr):eV [Value.pointer x]:=⟨_,rfl,rfl⟩
end
end Go.Ab
namespace Go.Ab
section
variable {P:Program} {F:Fix} {C:Cx} {o:Oper} {a:Act} {w:World} {m:MF} {I:Nat→Prop} {ρ:Pl} {d:aE}
theorem iD:∀{x:AT} {t:Ty},x.fits t=true→Typed x t:=by
 intro x
 induction x with
 |leaf u y=>intro t h;simp only[AT.fits] at h;exact(Ty.cA h).symm▸rfl
 |whole id st u=>intro t h;cases t<;>simp only[AT.fits,reduceCtorEq] at h<;>simp only[Typed];rw[Ty.cA h]
 |piece id st off len u=>intro t h;cases t<;>simp only[AT.fits,reduceCtorEq] at h<;>simp only[Typed];rw[Ty.cA h]
 |nil u=>intro t h;cases t<;>simp only[AT.fits,reduceCtorEq] at h<;>simp only[Typed];rw[Ty.cA h]
 |pair l r ihl ihr=>
  intro t h
  cases t<;>simp only[AT.fits,reduceCtorEq] at h
  simp only[Bool.and_eq_true] at h
  exact⟨_,_,rfl,ihl h.1,ihr h.2⟩
 |_=>intro t h;cases t<;>simp[AT.fits] at h
theorem tD {T:Nat}{t:Ty}{xs:Array Value}{k:Nat}{v:Value}(hT:aF P t T)(ha:t.isAgg=false)(hx:xs[k]?=some v):(part T xs k).run P w = .ok v w:=by
 unfold part
 rw[Sem.run_bind,hT.oh,ha]
 simp[hx]
theorem uG {d:Nat}:∀{t:Ty} {fs:List Field} {off:Nat} {pre pre' v1 v2:List Value} {x y:t.den},t.flat=true→bO P t fs off→(∀f∈fs,f.name ≠ "_")→aa w I t x v1→aa w I t y v2 →
  pre.length=off→pre'.length=off→(Op.eqFields (d+1) (pre++v1).toArray (pre'++v2).toArray fs).run P w = .ok (gb t x y) w:=by
 intro t
 induction t with
 |unit=>
  intro fs off pre pre' v1 v2 x y _ hf _ _ _ _ _
  unfold bO at hf
  simp only[TO] at hf
  subst hf
  simp[Op.eqFields,gb]
 |pair a b aI aH=>
  intro fs off pre pre' v1 v2 x y hfl hf hn h1 h2 hp hp'
  unfold bO at hf
  simp only[TO] at hf
  obtain⟨f,l,rfl,ho,hta,hl⟩:=hf
  simp only[aa] at h1 h2
  obtain⟨a1,b1,rfl,gZ,cq⟩:=h1
  obtain⟨a2,b2,rfl,ha2,bZ⟩:=h2
  have hname:=hn f List.mem_cons_self
  have hn':∀f∈l,f.name ≠ "_" :=fun g hg=>hn g (List.mem_cons_of_mem _ hg)
  have key:∀(c1 c2:Value) (r:Bool),a.isAgg=false→a.size=1→a1 = [c1]→a2 = [c2]→b.flat=true→(Op.equalIn (d+1) f.type c1 c2).run P w = .ok r w →
    (Op.eqFields (d+1) (pre++(a1++b1)).toArray (pre'++(a2++b2)).toArray (f::l)).run P w = .ok (r&&gb b x.2 y.2) w:=by
   intro c1 c2 r jc hsz e1 e2 hfb hr
   subst e1
   subst e2
   have p1:=tD (w:=w) (xs:=(pre++([c1]++b1)).toArray) (k:=f.offset) (v:=c1) hta jc (by rw[ho];simp[←hp])
   have p2:=tD (w:=w) (xs:=(pre'++([c2]++b2)).toArray) (k:=f.offset) (v:=c2) hta jc (by rw[ho];simp[←hp'])
   have dj:=aH (pre:=pre ++ [c1]) (pre':=pre' ++ [c2]) hfb hl hn' cq bZ (by simp[hp,hsz]) (by simp[hp',hsz])
   simp only[List.append_assoc] at dj
   simp only[Op.eqFields,hname,ne_eq,not_false_eq_true,if_true,Sem.run_bind,p1,p2,hr,Result.andThen_ok]
   cases r with
   |true=>simpa using dj
   |false=>simp
  cases a with
  |int k=>
   simp only[aa] at gZ ha2
   have hu:P.underlying f.type=some (.int k):=by simp only[TO] at hta;exact hta.2
   exact key _ _ _ rfl rfl gZ ha2 (by simpa[Ty.flat] using hfl) (run_equalIn_int w d f.type k k _ _ hu)
  |bool=>
   simp only[aa] at gZ ha2
   have hu:P.underlying f.type=some .bool:=by simp only[TO] at hta;exact hta.2
   exact key _ _ _ rfl rfl gZ ha2 (by simpa[Ty.flat] using hfl) (run_equalIn_bool' w d f.type _ _ hu)
  |str=>
   simp only[aa] at gZ ha2
   have hu:P.underlying f.type=some .string:=by simp only[TO] at hta;exact hta.2
   refine key _ _ _ rfl rfl gZ ha2 (by simpa[Ty.flat] using hfl) ?_
   rw[run_equalIn_string w d f.type _ _ hu,nk,nk]
   rfl
  |_=>simp[Ty.flat] at hfl
 |_=>intro fs off pre pre' v1 v2 x y hfl;simp[Ty.flat] at hfl
theorem uU {op:BinOp}{T T2:Nat}{x y:Operand}{ax ay:AT}(hC:bH P C)(ho:o.op = .binOp op T x y T2)(hm:aD F m w I ρ)(hx:au w I m ρ ax (a.eval x))(hy:au w I m ρ ay (a.eval y))
  (hd:(match lN op,C.eqt T with
  |some n,some t=>bif t.flat&&ax.fits t&&ay.fits t then
   match ax.pure,ay.pure with
   |some d,some e=>match d.as t,e.as t with
    |some p,some q=>some ⟨.leaf .bool (bif n then !gb t p q else gb t p q),[],[]⟩
    |_,_=>none
   |_,_=>none
   else none
  |_,_=>(none:Option aE))=some d):aA P F o a w m I ρ d:=by
 split at hd
 ·rename_i n t hn ht
  obtain⟨hc,hd⟩:=aQ hd
  simp only[Bool.and_eq_true] at hc
  obtain⟨⟨hfl,hfx⟩,hfy⟩:=hc
  split at hd
  ·rename_i d1 d2 hp1 hp2
   split at hd
   ·rename_i p q hq1 hq2
    cases hd
    have:=bT hq1
    subst this
    have:=bT hq2
    subst this
    obtain⟨hT,hE⟩:=hC.eqt ht
    have t1:=iD hfx
    have t2:=iD hfy
    obtain⟨c1,e1,r1⟩:=aB.pack t1 ((fo t1).1 hx)
    obtain⟨c2,e2,r2⟩:=aB.pack t2 ((fo t2).1 hy)
    have s1:=mG hp1 r1
    have s2:=mG hp2 r2
    have jc:t.isAgg=true:=by cases t<;>first|rfl|simp[Ty.flat] at hfl
    obtain⟨fs,hu,hfs⟩:∃fs,P.underlying T=some (.struct fs)∧bO P t fs.toList 0:=by
     unfold aF at hT
     cases t with
     |unit=>simp only[TO] at hT;obtain⟨_,fs,h1,h2⟩:=hT;exact⟨fs,h1,by unfold bO;simp only[TO];exact h2⟩
     |pair a b=>simp only[TO] at hT;obtain⟨_,fs,h1,f,l,h2,h3,h4,h5⟩:=hT;exact⟨fs,h1,by unfold bO;simp only[TO];exact⟨f,l,h2,h3,h4,by simpa using h5⟩⟩
     |_=>simp[Ty.flat] at hfl
    have hfo:P.fieldsOf T=fs:=by simp[Program.fieldsOf,hu]
    have hrun:=uG (P:=P) (w:=w) (I:=I) (d:=9998) (pre:=[]) (pre':=[]) (x:=p) (y:=q) hfl hfs (by rw[←hfo];exact hE.names) s1 s2 rfl rfl
    simp only[List.nil_append] at hrun
    have heq:(Op.equalIn 10000 T (.agg c1.toArray) (.agg c2.toArray)).run P w = .ok (gb t p q) w:=by
     rw[show(10000:Nat)=9999+1 from rfl,run_equalIn_agg w 9999 T _ _ (by rw[hfo];exact hu) hE.held,hfo]
     exact hrun
    have g1:a.eval x = .agg c1.toArray:=by rw[e1];simp[aL,jc]
    have g2:a.eval y = .agg c2.toArray:=by rw[e2];simp[aL,jc]
    have hgd:=run_eqGuard_agg (P:=P) w op T x y c1.toArray c2.toArray hE.guard
    cases op with
    |eql=>
     simp only[lN,Option.some.injEq] at hn
     subst hn
     have hb:(binOp .eql T (.agg c1.toArray) (.agg c2.toArray)).run P w = .ok (.bool (gb t p q)) w:=by rw[run_eql_struct,heq];rfl
     exact aA.value hm (by simp[execOp,ho,g1,g2,hgd,hb]) (eo.2 rfl)
    |neq=>
     simp only[lN,Option.some.injEq] at hn
     subst hn
     have hb:(binOp .neq T (.agg c1.toArray) (.agg c2.toArray)).run P w = .ok (.bool (!gb t p q)) w:=by
      have h0:binOp .neq T (.agg c1.toArray) (.agg c2.toArray)=(do pure (.bool (!(←Op.equal T (.agg c1.toArray) (.agg c2.toArray))))):=rfl
      rw[h0,Sem.run_bind]
      have:(Op.equal T (.agg c1.toArray) (.agg c2.toArray)).run P w = .ok (gb t p q) w:=heq
      rw[this]
      rfl
     exact aA.value hm (by simp[execOp,ho,g1,g2,hgd,hb]) (eo.2 rfl)
    |_=>simp[lN] at hn
   ·cases hd
  ·cases hd
 ·cases hd
end
end Go.Ab
namespace Go.Ab
section
variable {P:Program} {F:Fix} {C:Cx} {o:Oper} {a:Act} {w:World} {m:MF} {I:Nat→Prop} {ρ:Pl} {d:aE}
theorem uM {op:BinOp}{T T2:Nat}{x y:Operand}{ax ay:AT}(hC:bH P C)(ho:o.op = .binOp op T x y T2)(hm:aD F m w I ρ)(hx:au w I m ρ ax (a.eval x))(hy:au w I m ρ ay (a.eval y))
  (hd:binD C T op ax ay=some d) (hok:∀b∈d.ok,b=true):aA P F o a w m I ρ d:=by
 unfold binD at hd
 split at hd
 ·rename_i k p k' q
  simp only[Option.some.injEq] at hd
  subst hd
  have e1:=cJ.1 hx
  have e2:=cJ.1 hy
  have h0:(0:Int)≤q:=by simpa using hok
  have:¬(q:Int)<0:=Int.not_lt.mpr h0
  exact aA.value hm (by simp[execOp,ho,e1,e2,o5,binOp,Op.shift,this]) (cJ.2 rfl)
 ·rename_i k p k' q
  simp only[Option.some.injEq] at hd
  subst hd
  have e1:=cJ.1 hx
  have e2:=cJ.1 hy
  have h0:(0:Int)≤q:=by simpa using hok
  have:¬(q:Int)<0:=Int.not_lt.mpr h0
  exact aA.value hm (by simp[execOp,ho,e1,e2,o5,binOp,Op.shift,this]) (cJ.2 rfl)
 ·rename_i k p k' q hn1 hn2
  cases hk:jC k k' with
  |false=>simp[hk] at hd
  |true=>
   simp only[hk,cond_true] at hd
   have:=nT hk
   subst this
   have e1:=cJ.1 hx
   have e2:=cJ.1 hy
   obtain⟨t,r,hdd,v,hv,hr⟩:=vE (m:=m) (I:=I) (ρ:=ρ) (w:=w) (P:=P) (T:=T) hd hok ⟨by rintro rfl;simp[l5] at hd,by rintro rfl;simp[l5] at hd⟩
   rw[hdd]
   exact aA.value hm (by simp[execOp,ho,e1,e2,o5,hr]) hv
 ·have e1:=gA.1 hx
  have e2:=gA.1 hy
  obtain⟨t,r,hdd,v,hv,hr⟩:=w_ (m:=m) (I:=I) (ρ:=ρ) (w:=w) (P:=P) (T:=T) hd hok
  rw[hdd]
  exact aA.value hm (by simp[execOp,ho,e1,e2,uH,hr]) hv
 ·rename_i p q
  cases hi:cM (C.ty T) .bool with
  |false=>simp[hi] at hd
  |true=>
   simp only[hi,cond_true,Option.some.injEq] at hd
   subst hd
   have hT:=hC.ty (fJ hi)
   unfold aF at hT
   simp only[TO] at hT
   have e1:=eo.1 hx
   have e2:=eo.1 hy
   exact aA.value hm (by simp[execOp,ho,e1,e2,rD,run_eql_bool _ _ _ _ hT.2]) (eo.2 rfl)
 ·rename_i p q
  cases hi:cM (C.ty T) .bool with
  |false=>simp[hi] at hd
  |true=>
   simp only[hi,cond_true,Option.some.injEq] at hd
   subst hd
   have hT:=hC.ty (fJ hi)
   unfold aF at hT
   simp only[TO] at hT
   have e1:=eo.1 hx
   have e2:=eo.1 hy
   exact aA.value hm (by simp[execOp,ho,e1,e2,rD,run_neq_bool _ _ _ _ hT.2]) (eo.2 rfl)
 ·exact uU hC ho hm hx hy hd
theorem uX {T n:Nat}{x:Operand}{ax:AT}(hC:bH P C)(ho:o.op = .fieldAddr T x n)(hm:aD F m w I ρ)(hx:au w I m ρ ax (a.eval x))
  (hd:o8 C m T ax n=some d):aA P F o a w m I ρ d:=by
 unfold o8 at hd
 split at hd
 ·rename_i t y u hu
  have hT:=hC.ty hu
  cases hi:t.is u with
  |false=>simp[hi] at hd
  |true=>
   simp only[hi,cond_true] at hd
   have:=Ty.cA hi
   subst this
   split at hd
   ·rename_i v' s z ef hg
    cases hs:Nat.ble 1 v'.size with
    |false=>simp[hs] at hd
    |true=>
     simp only[hs,cond_true,Option.some.injEq] at hd
     subst hd
     have hsz:=Nat.le_of_ble_eq_true hs
     have hx':=bQ (a:=.leaf (.ref t) y) rfl hx (by simp) (by simp) (by simp) (by simp)
     simp only[af,aa,List.cons.injEq,and_true] at hx'
     obtain⟨B,off,e1,e2,e3,cs,e4,e5,e6⟩:=hx'
     obtain⟨f0,pre,mid,post,f1,f2,f3,f4⟩:=iE (w:=w) (I:=I) (m:=m) (ρ:=ρ) (bg n) (a:=.leaf t y) rfl e6 (kX n ef) hg ef
     simp only[Typed] at f0
     subst f0
     refine aA.value hm (v:=.pointer (some ⟨B,off+t.off (bg n),none⟩)) ?_ ?_
     ·have:=ql (w:=w) hT ef (by omega) e1
      simp[execOp,ho,this]
     ·rw[kn]
      unfold aB
      simp only[AT.isAgg,Ty.isAgg,Bool.false_eq_true,if_false,af,aa]
      refine⟨B,_,rfl,e2,by omega,mid,f3,fun j hj=>?_,f4⟩
      have:=e5 (t.off (bg n)+j) (by rw[←e4,f1];simp;omega)
      rw[←Nat.add_assoc] at this
      rw[this,f1,List.append_assoc,List.getElem?_append_right (by omega),List.getElem?_append_left (by omega)]
      congr 1
      omega
   ·simp at hd
 ·rename_i id st p u hu
  have hT:=hC.ty hu
  split at hd
  ·rename_i st' fz t at_ hc
   obtain⟨hb,hst⟩:=cp hc
   cases hi:cM (t.at p) u&&iN (u.at (bg n)) with
   |false=>simp[hi] at hd
   |true=>
    simp only[hi,cond_true,Option.some.injEq] at hd
    subst hd
    simp only[Bool.and_eq_true] at hi
    have cE:=fJ hi.1
    cases ef:u.at (bg n) with
    |none=>simp[ef,iN] at hi
    |some v'=>
     have hsz:1≤v'.size:=Nat.le_of_ble_eq_true (by simpa[ef,iN] using hi.2)
     have hx':=bQ (a:=.aZ id st p) rfl hx (by simp) (by simp) (by simp) (by simp)
     simp only[af] at hx'
     obtain⟨_,_,h3⟩:=hx'
     obtain⟨e0,B,e1,e2⟩:=h3 _ hb hst t at_ rfl
     refine aA.value hm (v:=.pointer (some ⟨B,t.off (app p (bg n)),none⟩)) ?_ ?_
     ·have:=ql (w:=w) hT ef (by omega) (by simpa using e2)
      simp[execOp,ho,this,Ty.kV p (bg n) cE]
     ·show aB _ _ _ _ _ _
      unfold aB
      simp only[AT.isAgg,Bool.false_eq_true,if_false,af]
      refine⟨eV.pointer _,bR.of hb hst,fun b hb' hs t' a' aJ=>?_⟩
      rw[hb] at hb'
      cases hb'
      cases aJ
      exact⟨cZ.app p (bg n) cE e0 (kX n ef),B,e1,rfl⟩
  ·simp at hd
 ·rename_i id st row p u hu
  have hT:=hC.ty hu
  have key:∀{st':Nat} {fz:Bool} {c:BC} {t:Ty} {k:Nat},cur m id st=some ⟨st',fz,c⟩→c.arr=some (t,k)→(bif cM (t.at p) u&&iN (u.at (bg n)) then some (⟨.ptr id st row (app p (bg n)),[],[]⟩:aE) else none)=some d→aA P F o a w m I ρ d:=by
   intro st' fz c t k hc bU hd
   obtain⟨hb,hst⟩:=cp hc
   cases hi:cM (t.at p) u&&iN (u.at (bg n)) with
   |false=>simp[hi] at hd
   |true=>
    simp only[hi,cond_true,Option.some.injEq] at hd
    subst hd
    simp only[Bool.and_eq_true] at hi
    have cE:=fJ hi.1
    cases ef:u.at (bg n) with
    |none=>simp[ef,iN] at hi
    |some v'=>
     have hsz:1≤v'.size:=Nat.le_of_ble_eq_true (by simpa[ef,iN] using hi.2)
     have hx':=bQ (a:=.ptr id st row p) rfl hx (by simp) (by simp) (by simp) (by simp)
     simp only[af] at hx'
     obtain⟨_,_,h3⟩:=hx'
     obtain⟨e0,iZ,B,o',e1,e2⟩:=h3 _ hb hst t k bU
     refine aA.value hm (v:=.pointer (some ⟨B,o'+row*t.size+t.off (app p (bg n)),none⟩)) ?_ ?_
     ·have:=ql (w:=w) hT ef (by omega) (by simpa using e2)
      simp[execOp,ho,this,Ty.kV p (bg n) cE,Nat.add_assoc]
     ·show aB _ _ _ _ _ _
      unfold aB
      simp only[AT.isAgg,Bool.false_eq_true,if_false,af]
      refine⟨eV.pointer _,bR.of hb hst,fun b hb' hs t' a' aJ=>?_⟩
      rw[hb] at hb'
      cases hb'
      rw[bU] at aJ
      cases aJ
      exact⟨cZ.app p (bg n) cE e0 (kX n ef),iZ,B,o',e1,rfl⟩
  split at hd
  ·rename_i st' fz t xs hc
   exact key hc rfl hd
  ·rename_i st' fz rs t xs hc
   exact key hc rfl hd
  ·simp at hd
 ·simp at hd
theorem uW {T n:Nat}{x:Operand}{ax:AT}(hC:bH P C)(ho:o.op = .field T x n)(hm:aD F m w I ρ)(hx:au w I m ρ ax (a.eval x))
  (hd:o9 C T ax n=some d):aA P F o a w m I ρ d:=by
 unfold o9 at hd
 split at hd
 ·rename_i t ht
  have hT:=hC.ty ht
  cases hf:ax.fits t with
  |false=>simp[hf] at hd
  |true=>
   simp only[hf,cond_true] at hd
   have hty:=iD hf
   split at hd
   ·rename_i u b hu hg
    cases hd
    obtain⟨vs,hv,hvs⟩:=aB.pack hty ((fo hty).1 hx)
    obtain⟨fs,f,h1,h2,h3,h4⟩:=hT.field hu
    obtain⟨f0,pre,mid,post,f1,f2,f3,f4⟩:=iE (bg n) hty hvs (kX n hu) hg hu
    have jc:t.isAgg=true:=by
     cases t<;>first|rfl|(cases n<;>simp[bg,Ty.at] at hu)
    refine aA.value hm (v:=aL u mid) ?_ ((fo f0).2 (aB.unpack f0 h4 f4))
    have hpart:(part f.type vs.toArray f.offset).run P w = .ok (aL u mid) w:=by
     unfold part
     rw[Sem.run_bind,h4.oh]
     simp only[Result.andThen_ok]
     cases ha:u.isAgg with
     |true=>
      have:vs.toArray.extract f.offset (f.offset+u.size)=mid.toArray:=by
       rw[f1,h3,←f2,←f3]
       apply Array.ext'
       simp[List.extract_eq_take_drop]
      simp only[if_true,Sem.run_bind,h4.info.run_sizeOf,Result.andThen_ok,Sem.run_pure,aL,ha,this]
     |false=>
      have hs:=Ty.oq h4 ha
      obtain⟨v,rfl⟩:∃v,mid = [v]:=by
       match mid,f3 with
       | [v],_=>exact⟨v,rfl⟩
       | [],hl=>simp[hs] at hl
       |_::_::_,hl=>simp[hs] at hl
      have:vs.toArray[f.offset]?=some v:=by
       rw[f1,h3,←f2]
       simp
      simp[aL,ha,this]
    simp[execOp,ho,hv,aL,jc,Instr.field,run_underlying h1,h2,asAgg]
    rw[hpart]
    simp[aL]
   ·simp at hd
 ·simp at hd
end
end Go.Ab
