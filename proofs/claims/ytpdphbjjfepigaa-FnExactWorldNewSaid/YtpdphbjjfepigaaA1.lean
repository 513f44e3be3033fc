import GoSem.Core.Code
import GoSem.Core.View
import GoSem.Op.String
import GoSem.Dispatch
import Derived.Calls
import Derived.Orders
import Derived.Laws.CopyRow
import Derived.Laws.AppendOwn
import Derived.Laws.OwnMore
import Derived.Laws.MakeOwn
import Derived.Laws.Rows
import Derived.Tactics
import Derived.Laws.Small
import Derived.Laws.Strings
import Derived.Laws.Slices
namespace Go.Ab

/-- Types of plain data. 'own': a slice that nobody else holds; 'ref': a pointer to memory that is written no more. -/
inductive Ty where
  | unit | bool | int (k : IntKind) | str
  | lst (t : Ty) | own (t : Ty) | pair (a b : Ty) | arr (n : Nat) (t : Ty) | ref (t : Ty)
  deriving DecidableEq, Repr, Inhabited

@[reducible] def Ty.den : Ty → Type
  | .unit => Unit
  | .bool => Bool
  | .int _ => Int
  | .str => List UInt8
  | .lst t => List t.den
  | .own t => List t.den
  | .pair a b => a.den × b.den
  | .arr _ t => List t.den
  | .ref t => t.den

def Ty.size : Ty → Nat
  | .unit => 0
  | .pair a b => a.size + b.size
  | .arr n t => n * t.size
  | _ => 1

def Ty.dflt : (t : Ty) → t.den
  | .unit => ()
  | .bool => false
  | .int _ => 0
  | .str => []
  | .lst _ => []
  | .own _ => []
  | .pair a b => (a.dflt, b.dflt)
  | .arr n t => List.replicate n t.dflt
  | .ref t => t.dflt

def Ty.isAgg : Ty → Bool
  | .unit | .pair _ _ | .arr _ _ => true
  | _ => false

def Ty.hasOwn : Ty → Bool
  | .own _ => true
  | .pair a b => a.hasOwn || b.hasOwn
  | _ => false

/-- no list in it that could be somebody else's -/
def Ty.hasLst : Ty → Bool
  | .lst _ | .ref _ => true
  | .own t | .arr _ t => t.hasLst
  | .pair a b => a.hasLst || b.hasLst
  | _ => false

/-! list functions of our own (so that a print can tell them from the program's) -/
def app {α : Type} : List α → List α → List α
  | [], b => b
  | x :: a, b => x :: app a b
def anyL {α : Type} (p : α → Bool) : List α → Bool
  | [] => false
  | x :: l => p x || anyL p l
def allL {α : Type} (p : α → Bool) : List α → Bool
  | [] => true
  | x :: l => p x && allL p l
def mapL {α β : Type} (f : α → β) : List α → List β
  | [] => []
  | x :: l => f x :: mapL f l
def fmapL {α β : Type} (f : α → Option β) : List α → List β
  | [] => []
  | x :: l => match f x with | some y => y :: fmapL f l | none => fmapL f l
def bindL {α β : Type} (f : α → List β) : List α → List β
  | [] => []
  | x :: l => app (f x) (bindL f l)
def nthL {α : Type} : List α → Nat → Option α
  | [], _ => none
  | x :: _, 0 => some x
  | _ :: l, n + 1 => nthL l n
def upto : Nat → List Nat
  | 0 => []
  | n + 1 => app (upto n) [n]
def kindIs : IntKind → IntKind → Bool
  | .i8, .i8 | .i16, .i16 | .i32, .i32 | .i64, .i64 | .u8, .u8 | .u16, .u16 | .u32, .u32 | .u64, .u64 => true
  | _, _ => false
def Ty.is (a b : Ty) : Bool := if a = b then true else false
def isSome? (o : Option Ty) (t : Ty) : Bool := match o with | some u => u.is t | none => false

/-- data with its type -/
structure DV where
  t : Ty
  x : t.den

def DV.as (d : DV) (t : Ty) : Option t.den := if h : d.t = t then some (h ▸ d.x) else none

inductive PS where
  | fst | snd | idx (i : Nat)
  deriving DecidableEq, Repr
abbrev Path := List PS

/-- abstract values of slots, and of the parts of variables -/
inductive AT where
  | leaf (t : Ty) (x : t.den)
  /-- the whole list of a block -/
  | whole (id st : Nat) (t : Ty)
  /-- a piece of it -/
  | piece (id st off len : Nat) (t : Ty)
  /-- an empty slice of capacity 0 -/
  | nil (t : Ty)
  /-- the constant nil, its type not yet known -/
  | nil0
  | pair (l r : AT)
  | undef (n : Nat)
  /-- into a variable -/
  | vptr (id st : Nat) (path : Path)
  /-- into a list's row -/
  | ptr (id st row : Nat) (path : Path)
  | fn (f : FuncId) (caps : AT)
  | tup (l r : AT)
  | tend
  /-- what stands at a place of a deep list's row: its lists are lent -/
  | nest (id st rs row : Nat) (p : Path) (u : Ty)
  /-- what a guarded operation gave: it holds where these slots say so -/
  | when_ (g : List (Nat × Bool)) (a : AT)
  | any

inductive BC where
  | var (t : Ty) (a : AT)
  | rows (t : Ty) (xs : List t.den)
  /-- a list whose rows hold lists of their own; 'rs': the stamp of the rows' headers -/
  | deep (rs : Nat) (t : Ty) (xs : List t.den)
  | dead

/-- the way to a part: through pairs alone -/
def Path.pairs : Path → Bool
  | [] => true
  | .idx _ :: _ => false
  | _ :: p => Path.pairs p

/-- an array's type and length -/
def BC.arr : BC → Option (Ty × Nat)
  | .rows t xs | .deep _ t xs => some (t, xs.length)
  | _ => none

structure Blk where
  st : Nat
  fz : Bool
  c : BC

abbrev Mem := List (Nat × Blk)

structure St where
  env : List (Nat × AT)
  mem : Mem
  /-- conditions that must hold -/
  ok : List Bool

def find {α : Type} : List (Nat × α) → Nat → Option α
  | [], _ => none
  | (i, a) :: l, j => bif Nat.beq i j then some a else find l j

def AT.isAgg : AT → Bool
  | .leaf t _ => t.isAgg
  | .pair _ _ => true
  | .nest _ _ _ _ _ u => u.isAgg
  | _ => false

/-! parts -/
def AT.get : Path → AT → Option AT
  | [], a => some a
  | .fst :: p, .pair l _ => l.get p
  | .snd :: p, .pair _ r => r.get p
  | .fst :: p, .leaf (.pair a _) x => AT.get p (.leaf a x.1)
  | .snd :: p, .leaf (.pair _ b) x => AT.get p (.leaf b x.2)
  | .idx i :: p, .leaf (.arr _ t) xs => AT.get p (.leaf t (xs.getD i t.dflt))
  | _ :: _, _ => none

/-- data without memory of ours -/
def AT.pure : AT → Option DV
  | .leaf t x => some ⟨t, x⟩
  | .nil t => some ⟨.lst t, []⟩
  | .pair l r => match l.pure, r.pure with
    | some a, some b => some ⟨.pair a.t b.t, (a.x, b.x)⟩
    | _, _ => none
  | _ => none

def AT.set : Path → AT → AT → Option AT
  | [], _, v => some v
  | .fst :: p, .pair l r, v => (AT.set p l v).map (.pair · r)
  | .snd :: p, .pair l r, v => (AT.set p r v).map (.pair l ·)
  | .fst :: p, .leaf (.pair a b) x, v => (AT.set p (.leaf a x.1) v).map (.pair · (.leaf b x.2))
  | .snd :: p, .leaf (.pair a b) x, v => (AT.set p (.leaf b x.2) v).map (.pair (.leaf a x.1) ·)
  | .idx i :: p, .leaf (.arr n t) xs, v =>
    match (AT.set p (.leaf t (xs.getD i t.dflt)) v).bind AT.pure with
    | some d => (d.as t).map fun y => .leaf (.arr n t) (xs.set i y)
    | none => none
  | _ :: _, _, _ => none

def Ty.at : Path → Ty → Option Ty
  | [], t => some t
  | .fst :: p, .pair a _ => a.at p
  | .snd :: p, .pair _ b => b.at p
  | .idx _ :: p, .arr _ t => t.at p
  | _ :: _, _ => none

def Ty.off : Path → Ty → Nat
  | .fst :: p, .pair a _ => a.off p
  | .snd :: p, .pair a b => a.size + b.off p
  | .idx i :: p, .arr _ t => i * t.size + t.off p
  | _, _ => 0

/-- has this type -/
def AT.fits : AT → Ty → Bool
  | .leaf t _, u => t.is u
  | .whole _ _ t, .lst u | .piece _ _ _ _ t, .lst u | .nil t, .lst u => t.is u
  | .pair l r, .pair a b => l.fits a && r.fits b
  | _, _ => false

/-- a type's own lists, as lists -/
def Ty.imm : Ty → Ty
  | .own t => .lst t
  | .pair a b => .pair a.imm b.imm
  | t => t

/-! memory -/
/-- a block that is as its reference says -/
def cur (m : Nat → Option Blk) (id st : Nat) : Option Blk :=
  match m id with
  | some b => bif Nat.beq b.st st then some b else none
  | none => none

def rowsOf (m : Nat → Option Blk) (id st : Nat) (t : Ty) : Option (Bool × List t.den) :=
  match cur m id st with
  | some ⟨_, fz, .rows u xs⟩ => (DV.as ⟨.lst u, xs⟩ (.lst t)).map fun ys => (fz, ys)
  | _ => none

/-- a list's rows, of either kind -/
def lendOf (m : Nat → Option Blk) (id st : Nat) (t : Ty) : Option (List t.den) :=
  match cur m id st with
  | some ⟨_, _, .rows u xs⟩ => DV.as ⟨.lst u, xs⟩ (.lst t)
  | some ⟨_, _, .deep _ u xs⟩ => DV.as ⟨.lst u, xs⟩ (.lst t)
  | _ => none

/-- a list's rows where all in them is ours -/
def ownOf (m : Nat → Option Blk) (id st : Nat) (t : Ty) : Option (List t.den) :=
  match cur m id st with
  | some ⟨_, false, .rows u xs⟩ => bif u.hasLst then none else DV.as ⟨.lst u, xs⟩ (.lst t)
  | some ⟨_, _, .deep _ u xs⟩ => DV.as ⟨.lst u, xs⟩ (.lst t)
  | _ => none

/-- as data, whatever memory it lies in -/
def toV (m : Nat → Option Blk) : AT → Option DV
  | .leaf t x => some ⟨t, x⟩
  | .nil t => some ⟨.lst t, []⟩
  | .whole id st t => (rowsOf m id st t).map fun r => ⟨.lst t, r.2⟩
  | .piece id st off len t => (rowsOf m id st t).map fun r => ⟨.lst t, (r.2.drop off).take len⟩
  | .pair l r => match toV m l, toV m r with
    | some a, some b => some ⟨.pair a.t b.t, (a.x, b.x)⟩
    | _, _ => none
  | _ => none

/-- likewise, lent: lists inside lists too -/
def toL (m : Nat → Option Blk) : AT → Option DV
  | .leaf t x => some ⟨t, x⟩
  | .nil t => some ⟨.lst t, []⟩
  | .whole id st t => (lendOf m id st t).map fun r => ⟨.lst t, r⟩
  | .piece id st off len t => (lendOf m id st t).map fun r => ⟨.lst t, (r.drop off).take len⟩
  | .pair l r => match toL m l, toL m r with
    | some a, some b => some ⟨.pair a.t b.t, (a.x, b.x)⟩
    | _, _ => none
  | _ => none

/-- as data all of whose lists are its own -/
def toD (m : Nat → Option Blk) : AT → Option DV
  | .leaf t x => bif t.hasLst then none else some ⟨t, x⟩
  | .nil t => some ⟨.lst t, []⟩
  | .whole id st t => (ownOf m id st t).map fun r => ⟨.lst t, r⟩
  | .pair l r => match toD m l, toD m r with
    | some a, some b => some ⟨.pair a.t b.t, (a.x, b.x)⟩
    | _, _ => none
  | .nest id st rs row p u => match cur m id st with
    | some ⟨_, _, .deep rs' t xs⟩ => bif Nat.beq rs rs' && p.pairs && isSome? (t.at p) u then (AT.get p (.leaf t (xs.getD row t.dflt))).bind AT.pure else none
    | _ => none
  | _ => none

/-- likewise, through a pointer -/
def toR (m : Nat → Option Blk) : AT → Option DV
  | .vptr id st p => match cur m id st with
    | some ⟨_, _, .var _ a⟩ => match (a.get p).bind (toV m) with
      | some d => bif Nat.ble 1 d.t.size then some ⟨.ref d.t, d.x⟩ else none
      | none => none
    | _ => none
  | a => toL m a

/-- what a function value holds -/
def toC (m : Nat → Option Blk) : AT → Option DV
  | .tup l r => match toR m l, toC m r with
    | some a, some b => bif a.t.isAgg then none else some ⟨.pair a.t b.t, (a.x, b.x)⟩
    | _, _ => none
  | .tend => some ⟨.unit, ()⟩
  | _ => none

/-- as data whose lists nobody else holds -/
def toO (m : Nat → Option Blk) : AT → Option DV
  | .leaf t x => some ⟨t, x⟩
  | .nil t => some ⟨.own t, []⟩
  | .whole id st t => match rowsOf m id st t with
    | some (false, xs) => some ⟨.own t, xs⟩
    | _ => none
  | .pair l r => match toO m l, toO m r with
    | some a, some b => some ⟨.pair a.t b.t, (a.x, b.x)⟩
    | _, _ => none
  | _ => none

/-- the blocks that a value names -/
def AT.ids : AT → List Nat
  | .whole id _ _ | .piece id _ _ _ _ | .ptr id _ _ _ | .vptr id _ _ | .nest id _ _ _ _ _ => [id]
  | .pair l r | .tup l r => app l.ids r.ids
  | .fn _ c => c.ids
  | .when_ _ a => a.ids
  | _ => []

def idsIn (m : Nat → Option Blk) : List Nat → List Nat
  | [] => []
  | i :: l => i :: app (match m i with | some ⟨_, _, .var _ a⟩ => a.ids | _ => []) (idsIn m l)

/-- own lists into blocks of their own: (value, blocks, next number) -/
def inj (st : Nat) : (t : Ty) → t.den → Nat → AT × List (Nat × Blk) × Nat
  | .own t, xs, n => (.whole n st t, [(n, ⟨st, false, .rows t xs⟩)], n + 1)
  | .pair a b, x, n =>
    bif (Ty.pair a b).hasOwn then
      let l := inj st a x.1 n
      let r := inj st b x.2 l.2.2
      (.pair l.1 r.1, app l.2.1 r.2.1, r.2.2)
    else (.leaf (.pair a b) x, [], n)
  | t, x, n => (.leaf t x, [], n)

/-! contracts, as the evaluator sees them -/
inductive Arg where
  | v (d : DV)
  | d (d : DV)
  | p (d : DV)
  | m (t : Ty) (xs : List t.den)
  | f (g : FuncId) (caps : DV)

inductive RV where
  | v (d : DV)
  | d (d : DV)
  | p (d : DV)

structure Res where
  outs : List RV
  upds : List DV := []
  ok : List Bool := []

inductive Mode where
  | v | d | p | m | k | f

structure TI where
  t : Ty
  /-- an element's type, for slices -/
  e : Nat := 0

structure Cx where
  tab : List (Nat × TI)
  fns : List (Nat × List Mode × (List Arg → Option Res))
  /-- lists of rows with lists are made deep -/
  dp : Bool := false

def Cx.ty (C : Cx) (t : Nat) : Option Ty := (find C.tab t).map (·.t)
def Cx.el (C : Cx) (t : Nat) : Option Ty := match find C.tab t with
  | some ⟨.lst u, _⟩ => some u
  | _ => none

def zeroAT : Ty → AT
  | .lst t => .nil t
  | .pair a b => .pair (zeroAT a) (zeroAT b)
  | .ref _ => .undef 1
  | t => .leaf t t.dflt

def maxRows : Nat := 34359738368


/-! operands -/
def constAT : Value → AT
  | .bool b => .leaf .bool b
  | .int k n => .leaf (.int k) n
  | .string s => .leaf .str s.data.toList
  | .slice none 0 0 => .nil0
  | _ => .any

def operand (C : Cx) (env : List (Nat × AT)) : Operand → AT
  | .tmp t => (find env t).getD .any
  | .const v => constAT v
  | .global _ => .any
  | .func f => .fn f .tend

def Cx.co (C : Cx) (t : Nat) : AT → AT
  | .nil0 => match C.el t with | some u => .nil u | none => .nil0
  | a => a

structure Did where
  av : AT
  upd : List (Nat × Blk) := []
  ok : List Bool := []

def newSt (m : Nat → Option Blk) (id : Nat) : Nat := match m id with | some b => b.st + 1 | none => 0

def injM (m : Nat → Option Blk) : (t : Ty) → t.den → Nat → AT × List (Nat × Blk) × Nat
  | .own t, xs, n => (.whole n (newSt m n) t, [(n, ⟨newSt m n, false, .rows t xs⟩)], n + 1)
  | .pair a b, x, n =>
    bif (Ty.pair a b).hasOwn then
      let l := injM m a x.1 n
      let r := injM m b x.2 l.2.2
      (.pair l.1 r.1, app l.2.1 r.2.1, r.2.2)
    else (.leaf (.pair a b) x, [], n)
  | t, x, n => (.leaf t x, [], n)

def mkRows (t : Ty) (xs : List t.den) : BC := bif t.hasLst then .deep 0 t xs else .rows t xs

/-- all lists into blocks of their own -/
def injD (m : Nat → Option Blk) : (t : Ty) → t.den → Nat → AT × List (Nat × Blk) × Nat
  | .lst t, xs, n => (.whole n (newSt m n) t, [(n, ⟨newSt m n, false, mkRows t xs⟩)], n + 1)
  | .pair a b, x, n =>
    bif (Ty.pair a b).hasLst then
      let l := injD m a x.1 n
      let r := injD m b x.2 l.2.2
      (.pair l.1 r.1, app l.2.1 r.2.1, r.2.2)
    else (.leaf (.pair a b) x, [], n)
  | t, x, n => (.leaf t x, [], n)

/-! arithmetic -/
def bitsOp (op : BinOp) (k : IntKind) (x y : Int) : Int :=
  let a := BitVec.ofInt k.bits x
  let b := BitVec.ofInt k.bits y
  match op with
  | .and => k.wrap (a &&& b).toNat
  | .or => k.wrap (a ||| b).toNat
  | .xor => k.wrap (a ^^^ b).toNat
  | _ => k.wrap (a &&& ~~~b).toNat

def intOp (op : BinOp) (k : IntKind) (a b : Int) : Option Did :=
  match op with
  | .add => some ⟨.leaf (.int k) (k.wrap (a + b)), [], []⟩
  | .sub => some ⟨.leaf (.int k) (k.wrap (a - b)), [], []⟩
  | .mul => some ⟨.leaf (.int k) (k.wrap (a * b)), [], []⟩
  | .quo => some ⟨.leaf (.int k) (k.wrap (a.tdiv b)), [], [b != 0]⟩
  | .rem => some ⟨.leaf (.int k) (a.tmod b), [], [b != 0]⟩
  | .and | .or | .xor | .andNot => some ⟨.leaf (.int k) (bitsOp op k a b), [], []⟩
  | .eql => some ⟨.leaf .bool (a == b), [], []⟩
  | .neq => some ⟨.leaf .bool (a != b), [], []⟩
  | .lss => some ⟨.leaf .bool (decide (a < b)), [], []⟩
  | .leq => some ⟨.leaf .bool (decide (a ≤ b)), [], []⟩
  | .gtr => some ⟨.leaf .bool (decide (a > b)), [], []⟩
  | .geq => some ⟨.leaf .bool (decide (a ≥ b)), [], []⟩
  | _ => none

def strOp (op : BinOp) (a b : List UInt8) : Option Did :=
  match op with
  | .add => some ⟨.leaf .str (a ++ b), [], [decide (a.length + b.length ≤ maxRows)]⟩
  | .eql => some ⟨.leaf .bool (a == b), [], []⟩
  | .neq => some ⟨.leaf .bool (!(a == b)), [], []⟩
  | .lss => some ⟨.leaf .bool (Op.bytesLess a b), [], []⟩
  | .leq => some ⟨.leaf .bool (Op.bytesLess a b || a == b), [], []⟩
  | .gtr => some ⟨.leaf .bool (!(Op.bytesLess a b || a == b)), [], []⟩
  | .geq => some ⟨.leaf .bool (!Op.bytesLess a b), [], []⟩
  | _ => none

def binD (C : Cx) (T : Nat) (op : BinOp) (x y : AT) : Option Did :=
  match op, x, y with
  | .shl, .leaf (.int k) a, .leaf (.int _) b => some ⟨.leaf (.int k) (k.wrap (a * 2 ^ (min b.toNat k.bits))), [], [decide (0 ≤ b)]⟩
  | .shr, .leaf (.int k) a, .leaf (.int _) b => some ⟨.leaf (.int k) (a.fdiv (2 ^ (min b.toNat k.bits))), [], [decide (0 ≤ b)]⟩
  | op, .leaf (.int k) a, .leaf (.int k') b => bif kindIs k k' then intOp op k a b else none
  | op, .leaf .str a, .leaf .str b => strOp op a b
  | .eql, .leaf .bool a, .leaf .bool b => bif isSome? (C.ty T) .bool then some ⟨.leaf .bool (a == b), [], []⟩ else none
  | .neq, .leaf .bool a, .leaf .bool b => bif isSome? (C.ty T) .bool then some ⟨.leaf .bool (!(a == b)), [], []⟩ else none
  | _, _, _ => none

def unD (op : UnOp) (x : AT) : Option Did :=
  match op, x with
  | .neg, .leaf (.int k) n => some ⟨.leaf (.int k) (k.wrap (0 - n)), [], []⟩
  | .xor, .leaf (.int k) n => some ⟨.leaf (.int k) (bitsOp .xor k (if k.signed then -1 else k.max) n), [], []⟩
  | .not, .leaf .bool b => some ⟨.leaf .bool (!b), [], []⟩
  | _, _ => none

def bytesOf : List UInt8 → List Int := List.map fun b => (b.toNat : Int)
def strOf : List Int → List UInt8 := List.map fun n => UInt8.ofNat n.toNat

def lenD (m : Nat → Option Blk) : AT → Option Int
  | .leaf .str s => some s.length
  | .leaf (.lst _) xs => some xs.length
  | .nil _ => some 0
  | .nil0 => some 0
  | .whole id st t => match lendOf m id st t with
    | some xs => some xs.length
    | none => none
  | .piece id st _ len t => match rowsOf m id st t with
    | some _ => some len
    | none => none
  | _ => none

/-- of a type that such a value has -/
def lenTy (C : Cx) (T : Nat) : AT → Bool
  | .leaf .str _ => isSome? (C.ty T) .str
  | _ => match C.ty T with | some (.lst _) => true | _ => false

/-- an index: the place of it -/
def indexAddrD (C : Cx) (m : Nat → Option Blk) (T : Nat) (x : AT) (i : Int) : Option Did :=
  match x, C.ty T with
  | .leaf (.lst t) xs, some (.lst u) => bif t.is u then some ⟨.leaf (.ref t) (xs.getD i.toNat t.dflt), [], [decide (0 ≤ i), decide (i < xs.length)]⟩ else none
  | .whole id st t, some (.lst u) => bif t.is u then
      match lendOf m id st t with
      | some xs => some ⟨.ptr id st i.toNat [], [], [decide (0 ≤ i), decide (i < xs.length)]⟩
      | none => none
    else none
  | .piece id st off len t, some (.lst u) => bif t.is u then
      match rowsOf m id st t with
      | some _ => some ⟨.ptr id st (off + i.toNat) [], [], [decide (0 ≤ i), decide (i < len)]⟩
      | none => none
    else none
  | .leaf (.ref (.arr n t)) xs, some (.arr n' u) => bif Nat.beq n n' && t.is u then some ⟨.leaf (.ref t) (xs.getD i.toNat t.dflt), [], [decide (0 ≤ i), decide (i < n)]⟩ else none
  | .vptr id st p, some (.arr n u) => match cur m id st with
    | some ⟨_, _, .var t _⟩ => bif isSome? (t.at p) (.arr n u) then some ⟨.vptr id st (app p [.idx i.toNat]), [], [decide (0 ≤ i), decide (i < n)]⟩ else none
    | _ => none
  | _, _ => none

def loadD (C : Cx) (m : Nat → Option Blk) (T : Nat) (x : AT) : Option Did :=
  match x, C.ty T with
  | .leaf (.ref t) y, some u => bif t.is u then some ⟨.leaf t y, [], []⟩ else none
  | .vptr id st p, some u => match cur m id st with
    | some ⟨_, _, .var t a⟩ => bif isSome? (t.at p) u then (match a.get p with | some b => some ⟨b, [], []⟩ | none => none) else none
    | _ => none
  | .ptr id st row p, some u => match cur m id st with
    | some ⟨_, _, .rows t xs⟩ => bif isSome? (t.at p) u then (match AT.get p (.leaf t (xs.getD row t.dflt)) with | some b => some ⟨b, [], []⟩ | none => none) else none
    | some ⟨_, _, .deep rs t xs⟩ => bif isSome? (t.at p) u && p.pairs then
        (bif u.hasLst then some ⟨.nest id st rs row p u, [], []⟩ else match AT.get p (.leaf t (xs.getD row t.dflt)) with | some b => some ⟨b, [], []⟩ | none => none) else none
    | _ => none
  | _, _ => none

/-- a block that is written no more; a deep one is given up -/
def Blk.frz : Blk → Blk
  | ⟨st, _, .deep _ _ _⟩ => ⟨st + 1, false, .dead⟩
  | ⟨st, _, c⟩ => ⟨st, true, c⟩

def frz (m : Nat → Option Blk) (ids : List Nat) : List (Nat × Blk) := fmapL (fun i => match m i with | some b => some (i, b.frz) | none => none) ids

def killed (m : Nat → Option Blk) (ids : List Nat) : List (Nat × Blk) := fmapL (fun i => (m i).map fun b => (i, ⟨b.st + 1, false, .dead⟩)) ids

def nodup : List Nat → Bool
  | [] => true
  | i :: l => !(anyL (Nat.beq i) l) && nodup l

def storeD (C : Cx) (m : Nat → Option Blk) (T : Nat) (x v : AT) : Option Did :=
  match x, C.ty T with
  | .vptr id st p, some u => match cur m id st with
    | some ⟨_, false, .var t a⟩ => bif isSome? (t.at p) u && v.fits u then (match AT.set p a v with | some a' => some ⟨.any, [(id, ⟨st, false, .var t a'⟩)], []⟩ | none => none) else none
    | _ => none
  | .ptr id st row p, some u => match cur m id st with
    | some ⟨_, false, .rows t xs⟩ => bif isSome? (t.at p) u && v.fits u && !(anyL (Nat.beq id) v.ids) then
        match toV m v with
        | some ⟨s, y⟩ => match (AT.set p (.leaf t (xs.getD row t.dflt)) (.leaf s y)).bind AT.pure with
          | some r => match r.as t with
            | some z => some ⟨.any, (id, ⟨st, false, .rows t (xs.set row z)⟩) :: frz m v.ids, []⟩
            | none => none
          | none => none
        | none => none
      else none
    | some ⟨_, false, .deep rs t xs⟩ => bif isSome? (t.at p) u && v.fits u && p.pairs && !(anyL (Nat.beq id) v.ids) && nodup v.ids then
        match toD m v with
        | some ⟨s, y⟩ => match (AT.set p (.leaf t (xs.getD row t.dflt)) (.leaf s y)).bind AT.pure with
          | some r => match r.as t with
            | some z => some ⟨.any, (id, ⟨st, false, .deep (rs + 1) t (xs.set row z)⟩) :: killed m v.ids, []⟩
            | none => none
          | none => none
        | none => none
      else none
    | _ => none
  | _, _ => none

def fpath : Nat → Path
  | 0 => [.fst]
  | n + 1 => .snd :: fpath n

def nonzero : Option Ty → Bool
  | some t => Nat.ble 1 t.size
  | none => false

def fieldAddrD (C : Cx) (m : Nat → Option Blk) (T : Nat) (x : AT) (f : Nat) : Option Did :=
  match x, C.ty T with
  | .leaf (.ref t) y, some u => bif t.is u then
      match u.at (fpath f), AT.get (fpath f) (.leaf t y) with
      | some v, some (.leaf s z) => bif Nat.ble 1 v.size then some ⟨.leaf (.ref s) z, [], []⟩ else none
      | _, _ => none
    else none
  | .vptr id st p, some u => match cur m id st with
    | some ⟨_, _, .var t _⟩ => bif isSome? (t.at p) u && nonzero (u.at (fpath f)) then some ⟨.vptr id st (app p (fpath f)), [], []⟩ else none
    | _ => none
  | .ptr id st row p, some u => match cur m id st with
    | some ⟨_, _, .rows t _⟩ => bif isSome? (t.at p) u && nonzero (u.at (fpath f)) then some ⟨.ptr id st row (app p (fpath f)), [], []⟩ else none
    | some ⟨_, _, .deep _ t _⟩ => bif isSome? (t.at p) u && nonzero (u.at (fpath f)) then some ⟨.ptr id st row (app p (fpath f)), [], []⟩ else none
    | _ => none
  | _, _ => none

def fieldD (C : Cx) (T : Nat) (x : AT) (f : Nat) : Option Did :=
  match C.ty T with
  | some t => bif x.fits t then
      match t.at (fpath f), AT.get (fpath f) x with
      | some _, some b => some ⟨b, [], []⟩
      | _, _ => none
    else none
  | none => none

def indexD (C : Cx) (T : Nat) (x : AT) (i : Int) : Option Did :=
  match x, C.ty T with
  | .leaf .str s, some .str => some ⟨.leaf (.int .u8) ((s.getD i.toNat 0).toNat : Int), [], [decide (0 ≤ i), decide (i < s.length)]⟩
  | .leaf (.arr n (.int k)) xs, some (.arr n' (.int k')) => bif Nat.beq n n' && kindIs k k' then some ⟨.leaf (.int k) (xs.getD i.toNat 0), [], [decide (0 ≤ i), decide (i < n)]⟩ else none
  | _, _ => none

def coerceTo : Option Ty → AT → AT
  | some (.lst t), .nil0 => .nil t
  | _, a => a

def partPath (t : Ty) (i : Nat) : Path := match t with
  | .arr _ _ => [.idx i]
  | _ => fpath i

def partOk (t : Ty) (i : Nat) : Bool := match t with
  | .arr n _ => Nat.ble (i + 1) n
  | _ => true

def buildParts (t : Ty) : AT → List (Nat × AT) → Option AT
  | a, [] => some a
  | a, (i, v) :: l => match t.at (partPath t i) with
    | some u => bif (coerceTo (some u) v).fits u && partOk t i then
        match AT.set (partPath t i) a (coerceTo (some u) v) with
        | some a' => buildParts t a' l
        | none => none
      else none
    | none => none

def buildD (C : Cx) (T : Nat) (parts : List (Nat × AT)) : Option Did :=
  match C.ty T with
  | some t => bif t.isAgg then (buildParts t (zeroAT t) parts).map (⟨·, [], []⟩) else none
  | none => none

/-- the elements of a literal of a slice: (rows, blocks that are written no more) -/
def litRows (m : Nat → Option Blk) (t : Ty) (len : Nat) : List t.den → List (Nat × AT) → Option (List t.den)
  | xs, [] => some xs
  | xs, (i, v) :: l => bif Nat.ble (i + 1) len && (coerceTo (some t) v).fits t then
    match toV m (coerceTo (some t) v) with
    | some d => match d.as t with
      | some y => litRows m t len (xs.set i y) l
      | none => none
    | none => none
    else none

/-- its zero value is data -/
def Ty.zok : Ty → Bool
  | .own _ | .ref _ => false
  | .pair a b => a.zok && b.zok
  | _ => true

/-- the elements of a literal whose lists are its own -/
def litRowsD (m : Nat → Option Blk) (t : Ty) (n : Nat) : List (Nat × AT) → Option (List t.den)
  | [] => some []
  | (i, v) :: l => bif Nat.beq i n && (coerceTo (some t) v).fits t then
    match toD m (coerceTo (some t) v) with
    | some d => match d.as t, litRowsD m t (n + 1) l with
      | some y, some ys => some (y :: ys)
      | _, _ => none
    | none => none
    else none

def buildSliceD (C : Cx) (m : Nat → Option Blk) (dst T len : Nat) (parts : List (Nat × AT)) : Option Did :=
  match C.el T with
  | some t => bif C.dp && t.hasLst then
      bif Nat.beq parts.length len && Nat.ble (len * t.size) 16777216 && nodup (dst :: bindL (fun p => p.2.ids) parts) then (litRowsD m t 0 parts).map fun xs =>
        ⟨.whole dst (newSt m dst) t, (dst, ⟨newSt m dst, false, .deep 0 t xs⟩) :: killed m (bindL (fun p => p.2.ids) parts), []⟩ else none
    else bif t.zok && Nat.ble (len * t.size) 16777216 && !(anyL (Nat.beq dst) (bindL (fun p => p.2.ids) parts)) then (litRows m t len (List.replicate len t.dflt) parts).map fun xs =>
      ⟨.whole dst (newSt m dst) t, (dst, ⟨newSt m dst, false, .rows t xs⟩) :: frz m (bindL (fun p => p.2.ids) parts), []⟩
    else none
  | none => none

/-- its zero value is data with lists of its own -/
def Ty.dok : Ty → Bool
  | .own _ | .ref _ => false
  | .pair a b => a.dok && b.dok
  | .arr _ t => t.zok && !t.hasLst
  | _ => true

def makeSliceD (C : Cx) (m : Nat → Option Blk) (dst T : Nat) (l c : Int) : Option Did :=
  match C.el T with
  | some t => bif t.zok && (t.dok || !C.dp) then some ⟨.whole dst (newSt m dst) t, [(dst, ⟨newSt m dst, false, bif C.dp && t.hasLst then .deep 0 t (List.replicate l.toNat t.dflt) else .rows t (List.replicate l.toNat t.dflt)⟩)], [decide (0 ≤ l), decide (l ≤ c), decide (c ≤ maxRows)]⟩ else none
  | none => none

def intAt : AT → Option Int
  | .leaf (.int _) n => some n
  | _ => none

def boundAt (d : Int) : Option AT → Option Int
  | none => some d
  | some a => intAt a

def sliceD (C : Cx) (m : Nat → Option Blk) (T : Nat) (x : AT) (lo hi : Option AT) : Option Did :=
  match lenD m x with
  | none => none
  | some n =>
    match boundAt 0 lo, boundAt n hi with
    | some l, some h =>
      match x, C.ty T with
      | .leaf .str s, some .str => some ⟨.leaf .str ((s.drop l.toNat).take (h - l).toNat), [], [decide (0 ≤ l), decide (l ≤ h), decide (h ≤ n)]⟩
      | .leaf (.lst t) xs, some (.lst u) => bif t.is u then some ⟨.leaf (.lst t) ((xs.drop l.toNat).take (h - l).toNat), [], [decide (0 ≤ l), decide (l ≤ h), decide (h ≤ n)]⟩ else none
      | .whole id st t, some (.lst u) => bif t.is u then some ⟨.piece id st l.toNat (h - l).toNat t, [], [decide (0 ≤ l), decide (l ≤ h), decide (h ≤ n)]⟩ else none
      | .piece id st off len t, some (.lst u) => bif t.is u then
          match rowsOf m id st t with
          | some _ => some ⟨.piece id st (off + l.toNat) (h - l).toNat t, [], [decide (0 ≤ l), decide (l ≤ h), decide (h ≤ (len : Int))]⟩
          | none => none
        else none
      | _, _ => none
    | _, _ => none

def convD (C : Cx) (m : Nat → Option Blk) (dst S T : Nat) (x : AT) : Option Did :=
  match x, C.ty S, C.ty T with
  | .leaf (.int _) n, some _, some (.int k) => some ⟨.leaf (.int k) (k.wrap n), [], []⟩
  | .leaf .str s, some _, some .str => some ⟨.leaf .str s, [], []⟩
  | .leaf .str s, some .str, some (.lst (.int .u8)) => some ⟨.whole dst (newSt m dst) (.int .u8), [(dst, ⟨newSt m dst, false, .rows (.int .u8) (bytesOf s)⟩)], [decide (s.length ≤ maxRows)]⟩
  | a, some (.lst (.int .u8)), some .str => match toV m a with
    | some d => (d.as (.lst (.int .u8))).map fun xs => ⟨.leaf .str (strOf xs), [], []⟩
    | none => none
  | _, _, _ => none

/-- what is put behind: a list, or a string's bytes -/
def tailD (m : Nat → Option Blk) (t : Ty) (y : AT) : Option (List t.den) :=
  match y, t with
  | .leaf .str s, .int .u8 => some (bytesOf s)
  | a, t => (toV m (coerceTo (some (.lst t)) a)).bind fun d => d.as (.lst t)

/-- rows with lists of their own, put behind -/
def appendDD (C : Cx) (m : Nat → Option Blk) (dst : Nat) (t : Ty) (x y : AT) : Option Did :=
  match y with
  | .whole jd sj u' => match cur m jd sj with
    | some ⟨_, false, .deep _ v zs⟩ => match DV.as ⟨.lst v, zs⟩ (.lst t) with
      | none => none
      | some ys =>
        let mk : Option Did := bif C.dp && !(Nat.beq dst jd) then some ⟨.whole dst (newSt m dst) t, (dst, ⟨newSt m dst, false, .deep 0 t ys⟩) :: killed m [jd], [decide (ys.length ≤ maxRows)]⟩ else none
        match x with
        | .nil u => bif t.is u then mk else none
        | .nil0 => mk
        | .whole id st u => match cur m id st with
          | some ⟨_, false, .deep rs v' ws⟩ => match DV.as ⟨.lst v', ws⟩ (.lst t) with
            | some xs => bif u.is t && !(Nat.beq id jd) then some ⟨.whole id (st + 1) t, (id, ⟨st + 1, false, .deep (rs + 1) t (xs ++ ys)⟩) :: killed m [jd], [decide (xs.length + ys.length ≤ maxRows)]⟩ else none
            | none => none
          | _ => none
        | _ => none
    | _ => none
  | _ => none

def isDeepAt (m : Nat → Option Blk) : AT → Bool
  | .whole id st _ => match cur m id st with | some ⟨_, _, .deep _ _ _⟩ => true | _ => false
  | _ => false

def appendD (C : Cx) (m : Nat → Option Blk) (dst : Nat) (t : Ty) (x y : AT) : Option Did :=
  bif isDeepAt m y then appendDD C m dst t x y else
  match tailD m t y with
  | none => none
  | some ys =>
    match x with
    | .nil u => match (DV.mk (.lst u) []).as (.lst t) with
      | some _ => some ⟨.whole dst (newSt m dst) t, [(dst, ⟨newSt m dst, false, .rows t ys⟩)], [decide (ys.length ≤ maxRows)]⟩
      | none => none
    | .nil0 => some ⟨.whole dst (newSt m dst) t, [(dst, ⟨newSt m dst, false, .rows t ys⟩)], [decide (ys.length ≤ maxRows)]⟩
    | .whole id st u => match rowsOf m id st t with
      | some (false, xs) => bif u.is t then some ⟨.whole id (st + 1) t, [(id, ⟨st + 1, false, .rows t (xs ++ ys)⟩)], [decide (xs.length + ys.length ≤ maxRows)]⟩ else none
      | _ => none
    | _ => none


/-! calls -/
def mkArg (m : Nat → Option Blk) : Mode → AT → Option Arg
  | .v, a => (toR m a).map .v
  | .d, a => (toD m a).map .d
  | .p, .vptr id st [] => match cur m id st with
    | some ⟨_, false, .var _ a⟩ => (toO m a).map .p
    | _ => none
  | .m, .whole id st t => match rowsOf m id st t with
    | some (false, xs) => some (.m t xs)
    | _ => none
  | .m, .nil t => some (.m t [])
  | .k, a => (toO m a).map .v
  | .f, .fn g c => (toC m c).map (.f g)
  | _, _ => none

def mkArgs (m : Nat → Option Blk) : List Mode → List AT → Option (List Arg)
  | [], [] => some []
  | o :: os, a :: as => match mkArg m o a, mkArgs m os as with
    | some x, some xs => some (x :: xs)
    | _, _ => none
  | _, _ => none

/-- new data of lists that a callee wrote -/
def upD (m : Nat → Option Blk) : AT → DV → Option (List (Nat × Blk))
  | .leaf _ _, _ => some []
  | .nil _, _ => some []
  | .whole id st t, d => match d.as (.lst t) with
    | some ys => match cur m id st with
      | some ⟨_, _, .rows _ _⟩ => some [(id, ⟨st, false, .rows t ys⟩)]
      | some ⟨_, _, .deep rs _ _⟩ => some [(id, ⟨st, false, .deep (rs + 1) t ys⟩)]
      | _ => none
    | none => none
  | .pair l r, ⟨.pair a b, x⟩ => match upD m l ⟨a, x.1⟩, upD m r ⟨b, x.2⟩ with
    | some u, some v => some (app u v)
    | _, _ => none
  | .nest id st _ row p u, d => match cur m id st with
    | some ⟨_, _, .deep rs t xs⟩ => bif d.t.is u then
      match (AT.set p (.leaf t (xs.getD row t.dflt)) (.leaf d.t d.x)).bind AT.pure with
      | some r => match r.as t with
        | some z => some [(id, ⟨st, false, .deep rs t (xs.set row z)⟩)]
        | none => none
      | none => none
      else none
    | _ => none
  | _, _ => none

/-- what becomes of the arguments' memory -/
def upsOf (m : Nat → Option Blk) : List Mode → List AT → List DV → Option (List (Nat × Blk))
  | [], [], [] => some []
  | .p :: os, .vptr id st [] :: as, d :: ds => match cur m id st, upsOf m os as ds with
    | some ⟨_, _, .var t _⟩, some u => bif t.is d.t.imm then
        let n := injM m d.t d.x ((id + 1) * 1000)
        some ((id, ⟨st, false, .var t n.1⟩) :: app n.2.1 u)
      else none
    | _, _ => none
  | .m :: os, .whole id st t :: as, d :: ds => match d.as (.own t), upsOf m os as ds with
    | some ys, some u => some ((id, ⟨st, false, .rows t ys⟩) :: u)
    | _, _ => none
  | .m :: os, .nil _ :: as, _ :: ds => upsOf m os as ds
  | .d :: os, a :: as, d :: ds => match upD m a d, upsOf m os as ds with
    | some u, some v => some (app u v)
    | _, _ => none
  | .v :: os, _ :: as, ds => upsOf m os as ds
  | .k :: os, _ :: as, ds => upsOf m os as ds
  | .f :: os, _ :: as, ds => upsOf m os as ds
  | _, _, _ => none

def varIds (m : Nat → Option Blk) (id : Nat) : List Nat := match m id with
  | some ⟨_, _, .var _ a⟩ => a.ids
  | _ => []

def killIds (m : Nat → Option Blk) : List Mode → List AT → List Nat
  | .p :: os, .vptr id _ _ :: as => app (varIds m id) (killIds m os as)
  | .k :: os, a :: as => app a.ids (killIds m os as)
  | _ :: os, _ :: as => killIds m os as
  | _, _ => []

/-- the arguments' own blocks that stay theirs -/
def keepIds : List Mode → List AT → List Nat
  | .p :: os, .vptr id _ _ :: as => id :: keepIds os as
  | .m :: os, .whole id _ _ :: as => id :: keepIds os as
  | .d :: os, a :: as => app a.ids (keepIds os as)
  | _ :: os, _ :: as => keepIds os as
  | _, _ => []

/-- it may hold lists that others hold -/
def RV.lends : RV → Bool
  | .v x | .p x => x.t.hasLst
  | .d _ => false
def updLst : List Arg → List DV → Bool
  | .p _ :: l, d :: ds | .m _ _ :: l, d :: ds => d.t.hasLst || updLst l ds
  | .d _ :: l, _ :: ds => updLst l ds
  | .v _ :: l, ds | .f _ _ :: l, ds => updLst l ds
  | _, _ => false

def outAT (m : Nat → Option Blk) : List RV → Nat → List AT × List (Nat × Blk)
  | [], _ => ([], [])
  | .v d :: l, n =>
    let a := injM m d.t d.x n
    let r := outAT m l a.2.2
    (a.1 :: r.1, app a.2.1 r.2)
  | .d d :: l, n =>
    let a := injD m d.t d.x n
    let r := outAT m l a.2.2
    (a.1 :: r.1, app a.2.1 r.2)
  | .p d :: l, n =>
    let a := injM m d.t d.x (n + 1)
    let r := outAT m l a.2.2
    (.vptr n (newSt m n) [] :: r.1, (n, ⟨newSt m n, false, .var d.t.imm a.1⟩) :: app a.2.1 r.2)

def tupOf : List AT → AT
  | [] => .tend
  | a :: l => .tup a (tupOf l)

def oneOf : List AT → AT
  | [a] => a
  | l => tupOf l

/-- what it may only read -/
def lentIds (m : Nat → Option Blk) : List Mode → List AT → List Nat
  | .v :: os, a :: as => app (idsIn m a.ids) (lentIds m os as)
  | .f :: os, a :: as => app (idsIn m a.ids) (lentIds m os as)
  | _ :: os, _ :: as => lentIds m os as
  | _, _ => []

def apartL (l l' : List Nat) : Bool := allL (fun x => !(anyL (Nat.beq x) l')) l

def callD (C : Cx) (m : Nat → Option Blk) (dst f : Nat) (args : List AT) : Option Did :=
  match find C.fns f with
  | none => none
  | some (modes, den) =>
    let ke := keepIds modes args
    let ki := killIds m modes args
    let le := lentIds m modes args
    bif nodup (app ke ki) && apartL le (app ke ki) then
      match mkArgs m modes args with
      | none => none
      | some ar => match den ar with
      | none => none
      | some r =>
        match upsOf m modes args r.upds with
        | none => none
        | some u =>
          let o := outAT m r.outs ((dst + 1) * 1000)
          bif nodup (mapL (fun x => x.1) (app o.2 u)) then
            some ⟨oneOf o.1, app o.2 (app u (app (killed m ki) (bif anyL RV.lends r.outs || updLst ar r.upds then frz m le else []))), r.ok⟩
          else none
    else none

def tupList : AT → List AT
  | .tup a l => a :: tupList l
  | _ => []

/-- a value of one cell -/
def AT.one : AT → Bool
  | .leaf t _ => !t.isAgg
  | .nest _ _ _ _ _ u => !u.isAgg
  | .whole _ _ _ | .piece _ _ _ _ _ | .nil _ | .nil0 | .undef _ | .vptr _ _ _ | .ptr _ _ _ _ | .fn _ _ => true
  | _ => false

def capsOk : AT → Bool
  | .tup l r => l.one && capsOk r
  | .tend => true
  | _ => false

def AT.slot : AT → Bool
  | .pair _ _ | .leaf _ _ | .nest _ _ _ _ _ _ => true
  | a => a.one

def extractD (x : AT) (i : Nat) : Option Did :=
  match nthL (tupList x) i with
  | some a => bif a.slot then some ⟨a, [], []⟩ else none
  | none => none

def nilCheckD (m : Nat → Option Blk) : AT → Option Did
  | .ptr id st row p => match cur m id st with
    | some ⟨_, _, .rows _ _⟩ => some ⟨.ptr id st row p, [], []⟩
    | some ⟨_, _, .deep _ _ _⟩ => some ⟨.ptr id st row p, [], []⟩
    | _ => none
  | .vptr id st p => match cur m id st with
    | some ⟨_, _, .var _ _⟩ => some ⟨.vptr id st p, [], []⟩
    | _ => none
  | .leaf (.ref t) x => some ⟨.leaf (.ref t) x, [], []⟩
  | _ => none

def minD : List AT → Option Did
  | [.leaf (.int k) x, .leaf (.int _) y] => some ⟨.leaf (.int k) (if y < x then y else x), [], []⟩
  | _ => none
def maxD : List AT → Option Did
  | [.leaf (.int k) x, .leaf (.int _) y] => some ⟨.leaf (.int k) (if x < y then y else x), [], []⟩
  | _ => none

def coArgs (C : Cx) : List Nat → List AT → List AT
  | t :: ts, a :: as => C.co t a :: coArgs C ts as
  | _, as => as

def builtinD (C : Cx) (m : Nat → Option Blk) (dst : Nat) (b : Builtin) (ts : List Nat) (args : List AT) : Option Did :=
  match b, ts, args with
  | .len, [T], [a] => bif lenTy C T a then
      match lenD m a with
      | some n => some ⟨.leaf (.int .i64) n, [], []⟩
      | none => none
    else none
  | .append, [t, t2], [x, y] => match C.el t, C.ty t2 with
    | some u, some (.lst _) | some u, some .str => appendD C m dst u x y
    | _, _ => none
  | .min, _, as => minD as
  | .max, _, as => maxD as
  | _, _, _ => none

def pickD (c a b : AT) : Option Did :=
  match c, a, b with
  | .leaf .bool g, .leaf t x, .leaf t' y => if h : t' = t then some ⟨.leaf t (bif g then x else (h ▸ y)), [], []⟩ else none
  | _, _, _ => none

/-- one operation; 'dst': the slot that it writes (a large number where it writes none) -/
def stepD (C : Cx) (m : Nat → Option Blk) (dst : Nat) (ρ : Operand → AT) (o : Oper) : Option Did :=
  match o.op with
  | .move x | .assign x => some ⟨C.co o.type (ρ x), [], []⟩
  | .alloc T => match C.ty T with
    | some t => some ⟨.vptr dst (newSt m dst) [], [(dst, ⟨newSt m dst, false, .var t (zeroAT t)⟩)], []⟩
    | none => none
  | .box T x => match C.ty T with
    | some t => bif (C.co T (ρ x)).fits t then some ⟨.vptr dst (newSt m dst) [], [(dst, ⟨newSt m dst, false, .var t (C.co T (ρ x))⟩)], []⟩ else none
    | none => none
  | .build T parts => buildD C T (mapL (fun p => (p.1, ρ p.2)) parts.toList)
  | .buildSlice T len parts => buildSliceD C m dst T len (mapL (fun p => (p.1, ρ p.2)) parts.toList)
  | .load T x => loadD C m T (ρ x)
  | .store T x v => storeD C m T (ρ x) (C.co T (ρ v))
  | .binOp op T x y _ => binD C T op (ρ x) (ρ y)
  | .unOp op _ x => unD op (ρ x)
  | .convert S T x => convD C m dst S T (ρ x)
  | .makeSlice T l c => match intAt (ρ l), intAt (ρ c) with
    | some a, some b => makeSliceD C m dst T a b
    | _, _ => none
  | .slice T x lo hi none => sliceD C m T (ρ x) (lo.map ρ) (hi.map ρ)
  | .fieldAddr T x f => fieldAddrD C m T (ρ x) f
  | .field T x f => fieldD C T (ρ x) f
  | .indexAddr T x i => match intAt (ρ i) with
    | some n => indexAddrD C m T (ρ x) n
    | none => none
  | .index T x i => match intAt (ρ i) with
    | some n => indexD C T (ρ x) n
    | none => none
  | .extract x i => extractD (ρ x) i
  | .makeFunc (.func g) first caps => bif first.toList.isEmpty && allL AT.one (mapL ρ caps.toList) then some ⟨.fn g (tupOf (mapL ρ caps.toList)), [], []⟩ else none
  | .nilCheck x => nilCheckD m (ρ x)
  | .call ⟨.builtin b, args, ts⟩ => builtinD C m dst b ts.toList (coArgs C ts.toList (mapL ρ args.toList))
  | .call ⟨.value g, args, ts⟩ => match ρ g with
    | .fn f caps => bif capsOk caps then callD C m dst f (app (coArgs C ts.toList (mapL ρ args.toList)) (tupList caps)) else none
    | _ => none
  | _ => none


/-! operations in a state -/
abbrev Tags := List (Nat × Bool)

def boolIs (a b : Bool) : Bool := match a, b with | true, true | false, false => true | _, _ => false
def hasTag (T : Tags) (s : Nat) (w : Bool) : Bool := anyL (fun t => Nat.beq t.1 s && boolIs t.2 w) T
def subTags (A T : Tags) : Bool := allL (fun t => hasTag T t.1 t.2) A

/-- an operand, where these tags hold -/
def opnd (C : Cx) (env : List (Nat × AT)) (T : Tags) (x : Operand) : AT :=
  match operand C env x with
  | .when_ A a => bif subTags A T then a else .any
  | a => a

def tagsAt (env : List (Nat × AT)) (s : Nat) (w : Bool) : Tags :=
  match find env s with
  | some (.when_ A _) => (s, w) :: A
  | _ => [(s, w)]

/-- an operation's domain: the blocks that it may look at or write -/
def dom (mem : Mem) (dst : Nat) (as : List AT) : List Nat := dst :: idsIn (find mem) (bindL AT.ids as)
def inDom (D : List Nat) (i : Nat) : Bool := anyL (fun d => Nat.beq d i || Nat.beq ((d + 1) * 1000) (i - i % 1000)) D
def view (mem : Mem) (D : List Nat) (i : Nat) : Option Blk := bif inDom D i then find mem i else none

def dstOf (o : Oper) : Nat := o.dst.getD 999

structure Foot where
  D : List Nat
  W : List Nat
  /-- slots that it looks at, and the one that it writes -/
  R : List Nat
  d : Option Nat

def guardOf (env : List (Nat × AT)) (ops : List Oper) (o : Oper) : Option Tags :=
  match o.guard with
  | none => some []
  | some (j, want) => ((nthL ops j).bind (·.dst)).map fun s => tagsAt env s want

def tagB (env : List (Nat × AT)) (s : Nat) (w : Bool) : Bool :=
  match find env s with
  | some (.leaf .bool b) | some (.when_ _ (.leaf .bool b)) => bif w then b else !b
  | _ => true

def tagsB (env : List (Nat × AT)) : Tags → Bool
  | [] => true
  | [(s, w)] => tagB env s w
  | (s, w) :: l => tagB env s w && tagsB env l

def onlyIf (g : Bool) : List Bool → List Bool := mapL fun c => !g || c

def tmpOf : Operand → Option Nat
  | .tmp t => some t
  | _ => none

def doS (C : Cx) (env : List (Nat × AT)) (T : Tags) (m : Nat → Option Blk) (o : Oper) : Option Did :=
  match o.op with
  | .pick c a b => match tmpOf c with
    | some s => pickD (opnd C env T c) (opnd C env (app (tagsAt env s true) T) a) (opnd C env (app (tagsAt env s false) T) b)
    | none => none
  | _ => stepD C m (dstOf o) (opnd C env T) o

/-- what the view's variables name lies in the view -/
def closedB (mem : Mem) (D : List Nat) : Bool :=
  allL (fun x => !inDom D x.1 || (match find mem x.1 with | some ⟨_, _, .var _ a⟩ => allL (inDom D) a.ids | _ => true)) mem

/-- what an operation gives here: its tags, its domain, what it did -/
structure Rec where
  o : Oper
  T : Tags
  D : List Nat
  d : Did

def recS (C : Cx) (ops : List Oper) (o : Oper) (st : St) : Option Rec :=
  match guardOf st.env ops o with
  | none => none
  | some T =>
    let D := dom st.mem (dstOf o) (mapL (opnd C st.env T) o.op.operands.toList)
    match doS C st.env T (view st.mem D) o with
    | none => none
    | some d =>
      bif allL (fun x => inDom D x.1) d.upd && closedB st.mem D && (T.isEmpty || d.upd.isEmpty) then some ⟨o, T, D, d⟩ else none

def whenT (T : Tags) (a : AT) : AT :=
  match T with
  | [] => (match a with | .when_ _ _ => .any | a => a)
  | T => .when_ T a

def okT (env : List (Nat × AT)) : Tags → List Bool → List Bool
  | [], l => l
  | T, l => onlyIf (tagsB env T) l

/-- the state behind it -/
def Rec.go (r : Rec) (st : St) : St :=
  ⟨(match r.o.dst with | some s => (s, whenT r.T r.d.av) :: st.env | none => st.env), app r.d.upd st.mem, app (okT st.env r.T r.d.ok) st.ok⟩

def looks (ops : List Oper) (o : Oper) : List Nat :=
  app (fmapL tmpOf o.op.operands.toList) (match o.guard with
    | some (j, _) => match (nthL ops j).bind (·.dst) with | some s => [s] | none => []
    | none => [])

def Rec.foot (ops : List Oper) (r : Rec) : Foot := ⟨r.D, mapL (fun x => x.1) r.d.upd, looks ops r.o, r.o.dst⟩

def opsS (C : Cx) (ops : List Oper) : List Oper → St → Option (St × List Rec)
  | [], st => some (st, [])
  | o :: l, st => match recS C ops o st with
    | some r => match opsS C ops l (r.go st) with
      | some (st', rs) => some (st', r :: rs)
      | none => none
    | none => none

def aheadOf (acc : List Nat) : List Edge → Nat
  | [] => 0
  | e :: l => match e.ground with
    | .gcOnly _ | .textOnly _ => aheadOf acc l
    | _ => Nat.lor (Nat.lor (2 ^ e.on) ((nthL acc e.on).getD 0)) (aheadOf acc l)

/-- which operations stand ahead of each, by its edges: bits -/
def aheads : List Oper → List Nat → List Nat
  | [], acc => acc
  | o :: l, acc => aheads l (app acc [aheadOf acc o.after.toList])

def slotApart (d : Option Nat) (R : List Nat) : Bool := match d with
  | some s => !(anyL (Nat.beq s) R)
  | none => true
def apartF (f g : Foot) : Bool := allL (fun i => !inDom g.D i) f.W && allL (fun i => !inDom f.D i) g.W && slotApart f.d g.R && slotApart g.d f.R

/-- two operations that no edge orders look at nothing that the other writes; and edges go back -/
def free (bits : List Nat) (fs : List Foot) : Nat → Bool
  | 0 => true
  | j + 1 => free bits fs j && Nat.ble ((nthL bits j).getD 0 + 1) (2 ^ j) &&
      allL (fun i => Nat.testBit ((nthL bits j).getD 0) i || (match nthL fs i, nthL fs j with | some f, some g => apartF f g | _, _ => false)) (upto j)

def noWhen : List (Nat × AT) → List (Nat × AT)
  | [] => []
  | (s, .when_ _ _) :: l => (s, .any) :: noWhen l
  | x :: l => x :: noWhen l

def regionS (C : Cx) (ops : List Oper) (draw : Bool) (st : St) : Option St :=
  match opsS C ops ops st with
  | none => none
  | some (st', rs) =>
    let r : St := bif anyL (fun o => o.guard.isSome) ops then { st' with env := noWhen st'.env } else st'
    bif draw then (bif free (aheads ops []) (mapL (Rec.foot ops) rs) ops.length then some r else none) else some r

def guardsBack : Nat → List Oper → Bool
  | _, [] => true
  | n, o :: l => (match o.guard with | some (g, _) => Nat.ble (g + 1) n | none => true) && guardsBack (n + 1) l

/-- each slot is written once in a region, and lies in the frame; guards stand ahead -/
def opsOk (n : Nat) (ops : List Oper) : Bool :=
  nodup (fmapL (fun o => o.dst) ops) && guardsBack 0 ops && allL (fun o => match o.dst with | some s => Nat.ble (s + 1) n | none => true) ops

def codeOk (n : Nat) : Code → Bool
  | .region _ ops _ => opsOk n ops.toList
  | .seq a b => codeOk n a && codeOk n b
  | .cond _ a b => codeOk n a && codeOk n b
  | .block _ c | .loop c | .scope c => codeOk n c
  | _ => true

/-! a state in its plainest form: few slots, blocks numbered in order -/
def base : Nat := 500000000
def nilBase : Nat := 700000000

/-- nil gets a block of its own -/
def nilW : AT → Nat → AT × List (Nat × Blk) × Nat
  | .nil t, n => (.whole n 0 t, [(n, ⟨0, false, .rows t []⟩)], n + 1)
  | .pair a b, n => let l := nilW a n; let r := nilW b l.2.2; (.pair l.1 r.1, app l.2.1 r.2.1, r.2.2)
  | .tup a b, n => let l := nilW a n; let r := nilW b l.2.2; (.tup l.1 r.1, app l.2.1 r.2.1, r.2.2)
  | .fn f c, n => let l := nilW c n; (.fn f l.1, l.2.1, l.2.2)
  | a, n => (a, [], n)

def nilEnv : List (Nat × AT) → Nat → List (Nat × AT) × List (Nat × Blk) × Nat
  | [], n => ([], [], n)
  | (s, a) :: l, n => let x := nilW a n; let r := nilEnv l x.2.2; ((s, x.1) :: r.1, app x.2.1 r.2.1, r.2.2)

def nilBlk (b : Blk) (n : Nat) : Blk × List (Nat × Blk) × Nat := match b with
  | ⟨st, fz, .var t a⟩ => let x := nilW a n; (⟨st, fz, .var t x.1⟩, x.2.1, x.2.2)
  | b => (b, [], n)

def nilMem : Mem → Nat → Mem × List (Nat × Blk) × Nat
  | [], n => ([], [], n)
  | (i, b) :: l, n => let x := nilBlk b n; let r := nilMem l x.2.2; ((i, x.1) :: r.1, app x.2.1 r.2.1, r.2.2)

/-- the blocks of parameters keep their numbers -/
def pid (s : Nat) : Nat := 900 + s
def isPid (i : Nat) : Bool := Nat.ble 900 i && Nat.ble i 989

def pids : Mem → List Nat → List Nat
  | [], acc => acc
  | (i, _) :: l, acc => bif isPid i && !(anyL (Nat.beq i) acc) then pids l (app acc [i]) else pids l acc

def curIds (m : Nat → Option Blk) : AT → List Nat
  | .whole id st _ | .piece id st _ _ _ | .ptr id st _ _ | .vptr id st _ => match cur m id st with | some _ => [id] | none => []
  | .pair l r | .tup l r => app (curIds m l) (curIds m r)
  | .fn _ c => curIds m c
  | _ => []

structure Ren where
  map : List (Nat × Nat)
  todo : List Nat
  next : Nat

def addIds : List Nat → Ren → Ren
  | [], r => r
  | i :: l, r => match find r.map i with
    | some _ => addIds l r
    | none => addIds l ⟨app r.map [(i, r.next)], app r.todo [i], r.next + 1⟩

def renIds (m : Mem) : Nat → Ren → List (Nat × Nat)
  | 0, r => r.map
  | n + 1, r => match r.todo with
    | [] => r.map
    | id :: l => match find m id with
      | some ⟨_, _, .var _ a⟩ => renIds m n (addIds (curIds (find m) a) { r with todo := l })
      | _ => renIds m n { r with todo := l }

def renRef (m : Nat → Option Blk) (μ : List (Nat × Nat)) (id st : Nat) (f : Nat → AT) : AT :=
  match cur m id st with
  | some _ => match find μ id with
    | some j => f j
    | none => .undef 1
  | none => .undef 1

def renA (m : Nat → Option Blk) (μ : List (Nat × Nat)) : AT → AT
  | .whole id st t => renRef m μ id st fun j => .whole j 0 t
  | .piece id st off len t => renRef m μ id st fun j => .piece j 0 off len t
  | .ptr id st row p => renRef m μ id st fun j => .ptr j 0 row p
  | .vptr id st p => renRef m μ id st fun j => .vptr j 0 p
  | .pair a b => .pair (renA m μ a) (renA m μ b)
  | .tup a b => .tup (renA m μ a) (renA m μ b)
  | .fn f c => .fn f (renA m μ c)
  | .when_ _ _ => .any
  | .nest _ _ _ _ _ u => .undef u.size
  | a => a

def AT.noNest : AT → Bool
  | .nest _ _ _ _ _ _ => false
  | .pair a b => a.noNest && b.noNest
  | .tup a b => a.noNest && b.noNest
  | _ => true

def renE (m : Nat → Option Blk) (μ : List (Nat × Nat)) : AT → AT
  | .nest _ _ _ _ _ _ => .any
  | a => bif a.noNest then renA m μ a else .any

def renBlk (m : Nat → Option Blk) (μ : List (Nat × Nat)) (i : Nat) : Blk :=
  match m i with
  | none => ⟨0, false, .dead⟩
  | some ⟨st, fz, c⟩ => bif isPid i && !(Nat.beq st 0) then ⟨1, false, .dead⟩ else
    match c with
    | .var t a => ⟨0, fz, .var t (renA m μ a)⟩
    | .deep _ t xs => ⟨0, fz, .deep 0 t xs⟩
    | c => ⟨0, fz, c⟩

def keepEnv (env : List (Nat × AT)) : List Nat → List (Nat × AT)
  | [] => []
  | s :: l => match find env s with | some a => (s, a) :: keepEnv env l | none => keepEnv env l

def putM (i : Nat) (b : Blk) : Mem → Mem
  | [] => [(i, b)]
  | (j, c) :: l => bif Nat.ble i j then (i, b) :: (j, c) :: l else (j, c) :: putM i b l
def sortM : Mem → Mem
  | [] => []
  | (i, b) :: l => putM i b (sortM l)

def idsEnv (m : Nat → Option Blk) : List (Nat × AT) → List Nat
  | [] => []
  | (_, a) :: l => app (curIds m a) (idsEnv m l)

/-- each block once, in the order of the list -/
def uniq : Mem → List Nat → Mem
  | [], _ => []
  | (i, b) :: l, seen => bif anyL (Nat.beq i) seen then uniq l seen else (i, b) :: uniq l (i :: seen)

def renOk (mem : Mem) (μ : List (Nat × Nat)) : Bool :=
  nodup (mapL (fun x => x.1) μ) && nodup (mapL (fun x => x.2) μ) && allL (fun x => !isPid x.2 || Nat.beq x.1 x.2) μ &&
    allL (fun x => !isPid x.1 || (match find μ x.1 with | some j => Nat.beq j x.1 | none => false)) mem

def plainA (keep : List Nat) (st : St) : St :=
  let e := nilEnv (keepEnv st.env keep) nilBase
  let m := nilMem (uniq st.mem []) e.2.2
  ⟨e.1, app m.1 (app e.2.1 m.2.1), st.ok⟩

def plainB (st : St) : Option St :=
  let ps := pids st.mem []
  let μ := renIds st.mem 100 (addIds (idsEnv (find st.mem) st.env) ⟨mapL (fun i => (i, i)) ps, ps, base⟩)
  bif renOk st.mem μ && allL (fun x => match x.2.c with | .var _ a => a.noNest | _ => true) st.mem then some ⟨mapL (fun x => (x.1, renE (find st.mem) μ x.2)) st.env, sortM (mapL (fun x => (x.2, renBlk (find st.mem) μ x.1)) μ), st.ok⟩ else none

def plain (keep : List Nat) (st : St) : Option St :=
  bif allL (fun x => Nat.ble (x.1 + 1) nilBase) st.mem then plainB (plainA keep st) else none

def plainD (keep : List Nat) (st : St) : St := match plain keep st with | some s => s | none => ⟨[], [], []⟩

/-! a plain state's shape, and its data -/
inductive AS where
  | leaf (t : Ty) | whole (id : Nat) (t : Ty) | piece (id : Nat) (t : Ty) | nil0 | pair (l r : AS) | undef (n : Nat)
  | ptr (id : Nat) (path : Path) | vptr (id : Nat) (path : Path) | fn (f : FuncId) (c : AS) | tup (l r : AS) | tend | any

@[reducible] def AS.den : AS → Type
  | .leaf t => t.den
  | .piece _ _ => Nat × Nat
  | .pair l r => l.den × r.den
  | .tup l r => l.den × r.den
  | .ptr _ _ => Nat
  | .fn _ c => c.den
  | _ => Unit

def AS.of : (s : AS) → s.den → AT
  | .leaf t, x => .leaf t x
  | .whole id t, _ => .whole id 0 t
  | .piece id t, x => .piece id 0 x.1 x.2 t
  | .nil0, _ => .nil0
  | .pair l r, x => .pair (l.of x.1) (r.of x.2)
  | .undef n, _ => .undef n
  | .ptr id p, row => .ptr id 0 row p
  | .vptr id p, _ => .vptr id 0 p
  | .fn f c, x => .fn f (c.of x)
  | .tup l r, x => .tup (l.of x.1) (r.of x.2)
  | .tend, _ => .tend
  | .any, _ => .any

def pathIs : Path → Path → Bool
  | [], [] => true
  | .fst :: p, .fst :: q => pathIs p q
  | .snd :: p, .snd :: q => pathIs p q
  | .idx i :: p, .idx j :: q => Nat.beq i j && pathIs p q
  | _, _ => false

def AS.data : (s : AS) → AT → Option s.den
  | .leaf t, .leaf u x => DV.as ⟨u, x⟩ t
  | .whole id t, .whole jd 0 u => bif Nat.beq id jd && t.is u then some () else none
  | .piece id t, .piece jd 0 o n u => bif Nat.beq id jd && t.is u then some (o, n) else none
  | .nil0, .nil0 => some ()
  | .pair l r, .pair a b => match l.data a, r.data b with
    | some x, some y => some (x, y)
    | _, _ => none
  | .tup l r, .tup a b => match l.data a, r.data b with
    | some x, some y => some (x, y)
    | _, _ => none
  | .undef n, .undef k => bif Nat.beq n k then some () else none
  | .ptr id p, .ptr jd 0 row q => bif Nat.beq id jd && pathIs p q then some row else none
  | .vptr id p, .vptr jd 0 q => bif Nat.beq id jd && pathIs p q then some () else none
  | .fn f c, .fn g d => bif Nat.beq f g then c.data d else none
  | .tend, .tend => some ()
  | .any, .any => some ()
  | _, _ => none

inductive BS where
  | var (t : Ty) (a : AS) | rows (t : Ty) | deep (t : Ty)

@[reducible] def BS.den : BS → Type
  | .var _ a => a.den
  | .rows t => List t.den
  | .deep t => List t.den

def BS.of : (s : BS) → s.den → BC
  | .var t a, x => .var t (a.of x)
  | .rows t, x => .rows t x
  | .deep t, x => .deep 0 t x

def BS.data : (s : BS) → BC → Option s.den
  | .var t a, .var u b => bif t.is u then a.data b else none
  | .rows t, .rows u xs => DV.as ⟨.lst u, xs⟩ (.lst t)
  | .deep t, .deep 0 u xs => DV.as ⟨.lst u, xs⟩ (.lst t)
  | _, _ => none

structure Sh where
  env : List (Nat × AS)
  mem : List (Nat × Bool × BS)

@[reducible] def envDen : List (Nat × AS) → Type
  | [] => Unit
  | [(_, a)] => a.den
  | (_, a) :: l => a.den × envDen l
@[reducible] def memDen : List (Nat × Bool × BS) → Type
  | [] => Unit
  | [(_, _, a)] => a.den
  | (_, _, a) :: l => a.den × memDen l

def envOf : (l : List (Nat × AS)) → envDen l → List (Nat × AT)
  | [], _ => []
  | [(s, a)], x => [(s, a.of x)]
  | (s, a) :: b :: l, x => (s, a.of x.1) :: envOf (b :: l) x.2
def memOf : (l : List (Nat × Bool × BS)) → memDen l → Mem
  | [], _ => []
  | [(s, fz, a)], x => [(s, ⟨0, fz, a.of x⟩)]
  | (s, fz, a) :: b :: l, x => (s, ⟨0, fz, a.of x.1⟩) :: memOf (b :: l) x.2

def envData : (l : List (Nat × AS)) → List (Nat × AT) → Option (envDen l)
  | [], [] => some ()
  | [(s, a)], [(s', b)] => bif Nat.beq s s' then a.data b else none
  | (s, a) :: a' :: l, (s', b) :: l' => bif Nat.beq s s' then match a.data b, envData (a' :: l) l' with
      | some x, some y => some (x, y)
      | _, _ => none
    else none
  | _, _ => none
def memData : (l : List (Nat × Bool × BS)) → Mem → Option (memDen l)
  | [], [] => some ()
  | [(s, f, a)], [(s', ⟨0, f', b⟩)] => bif Nat.beq s s' && boolIs f f' then a.data b else none
  | (s, f, a) :: a' :: l, (s', ⟨0, f', b⟩) :: l' => bif Nat.beq s s' && boolIs f f' then match a.data b, memData (a' :: l) l' with
      | some x, some y => some (x, y)
      | _, _ => none
    else none
  | _, _ => none

@[reducible] def Sh.den (s : Sh) : Type := envDen s.env × memDen s.mem
def Sh.of (s : Sh) (x : s.den) : St := ⟨envOf s.env x.1, memOf s.mem x.2, []⟩
/-- the data of a state, in this shape -/
def Sh.data (s : Sh) (st : St) : Option s.den :=
  match plain (mapL (fun e => e.1) s.env) st with
  | none => none
  | some p => match envData s.env p.env, memData s.mem p.mem with
    | some x, some y => some (x, y)
    | _, _ => none

/-! code -/
inductive Ex where
  | norm | exit (id : Nat) | ret

def Ex.is : Ex → Ex → Bool
  | .norm, .norm => true
  | .exit i, .exit j => Nat.beq i j
  | .ret, .ret => true
  | _, _ => false

abbrev Exits := List (Ex × Sh)
@[reducible] def Exits.den : Exits → Type
  | [] => Empty
  | [(_, s)] => s.den
  | (_, s) :: l => s.den ⊕ Exits.den l

def Exits.data : (l : Exits) → Ex → St → Option l.den
  | [], _, _ => none
  | [(e, s)], f, st => bif e.is f then s.data st else none
  | (e, s) :: b :: l, f, st => match (bif e.is f then s.data st else none) with
    | some x => some (.inl x)
    | none => (Exits.data (b :: l) f st).map .inr

@[reducible] def sumC {α β γ : Type} (x : α ⊕ β) (f : α → γ) (g : β → γ) : γ := match x with
  | .inl a => f a
  | .inr b => g b

def Exits.go {α : Type} (K : Ex → St → Option α) (ok : List Bool) : (l : Exits) → l.den → Option α
  | [], x => x.elim
  | [(e, s)], x => K e { s.of x with ok := ok }
  | (e, s) :: b :: l, x => sumC x (fun y => K e { s.of y with ok := ok }) (fun z => Exits.go K ok (b :: l) z)

/-- what a loop comes to, from its head on -/
structure LoopD where
  sh : Sh
  exits : Exits
  dom : sh.den → Bool
  val : sh.den → exits.den

def firstReg : Code → Nat
  | .region id _ _ => id
  | .seq a _ => firstReg a
  | .block _ c | .loop c | .scope c => firstReg c
  | _ => 0

def allB : List Bool → Bool
  | [] => true
  | [a] => a
  | a :: l => a && allB l

def condB (env : List (Nat × AT)) (C : Cx) (c : Operand) : Option Bool :=
  match operand C env c with
  | .leaf .bool g => some g
  | _ => none

def evC {α : Type} (C : Cx) (lt : List (Nat × LoopD)) : Code → (Ex → St → Option α) → St → Option α
  | .skip, K, st => K .norm st
  | .region _ ops draw, K, st => match regionS C ops.toList draw st with
    | some st' => bif allB st'.ok then K .norm { st' with ok := [] } else none
    | none => none
  | .seq a b, K, st => evC C lt a (fun e st' => match e with
      | .norm => evC C lt b K st'
      | e => K e st') st
  | .cond c a b, K, st => match condB st.env C c with
    | some g => bif g then evC C lt a K st else evC C lt b K st
    | none => none
  | .block id c, K, st => evC C lt c (fun e st' => match e with
      | .exit i => bif Nat.beq i id then K .norm st' else K e st'
      | e => K e st') st
  | .loop c, K, st => match find lt (firstReg c) with
    | some L => match L.sh.data st with
      | some x => bif L.dom x then Exits.go K st.ok L.exits (L.val x) else none
      | none => none
    | none => none
  | .exit id, K, st => K (.exit id) st
  | .scope c, K, st => evC C lt c K st
  | .label _, K, st => K .norm st
  | .ret, K, st => K .ret st
  | _, _, _ => none

/-- one round of a loop: again, or out -/
def round (C : Cx) (lt : List (Nat × LoopD)) (c : Code) (L : LoopD) (x : L.sh.den) : Option (L.sh.den ⊕ L.exits.den) :=
  evC C lt c (fun e st => bif allB st.ok then (match e with
    | .norm => (L.sh.data st).map .inl
    | e => (L.exits.data e st).map .inr) else none) (L.sh.of x)

/-- round by round -/
inductive Comes {X Y : Type} (r : X → Option (X ⊕ Y)) : X → Y → Prop where
  | out {x : X} {y : Y} : r x = some (.inr y) → Comes r x y
  | again {x x' : X} {y : Y} : r x = some (.inl x') → Comes r x' y → Comes r x y

/-! a function -/
def capsAT : (t : Ty) → t.den → AT
  | .pair a b, x => .tup (.leaf a x.1) (capsAT b x.2)
  | _, _ => .tend

/-- the blocks of a parameter's lists -/
def dpid (s : Nat) : Nat := 950 + 10 * s

def argAT (s : Nat) : Arg → AT × Mem
  | .d d => let a := injD (fun _ => none) d.t d.x (dpid s); (a.1, a.2.1)
  | .v d => let a := injM (fun _ => none) d.t d.x ((pid s + 1) * 1000); (a.1, a.2.1)
  | .p d => let a := injM (fun _ => none) d.t d.x ((pid s + 1) * 1000); (.vptr (pid s) 0 [], (pid s, ⟨0, false, .var d.t.imm a.1⟩) :: a.2.1)
  | .m t xs => (.whole (pid s) 0 t, [(pid s, ⟨0, false, .rows t xs⟩)])
  | .f g d => (.fn g (capsAT d.t d.x), [])

def argsSt : Nat → List Arg → St → St
  | _, [], st => st
  | s, a :: l, st => let r := argAT s a; argsSt (s + 1) l { st with env := app st.env [(s, r.1)], mem := app st.mem r.2 }

structure Took where
  own : List Nat := []
  imm : List Nat := []

def Took.app (a b : Took) : Took := ⟨Ab.app a.own b.own, Ab.app a.imm b.imm⟩

/-- results: as the wanted type says; and the blocks that they take along -/
def toT (m : Nat → Option Blk) : (t : Ty) → AT → Option (t.den × Took)
  | .own t, .whole id st u => match rowsOf m id st u with
    | some (false, xs) => match (DV.mk (.own u) xs).as (.own t) with
      | some ys => some (ys, ⟨[id], []⟩)
      | none => none
    | _ => none
  | .own t, .nil u => match (DV.mk (.own u) []).as (.own t) with
    | some ys => some (ys, {})
    | none => none
  | .own _, .nil0 => some ([], {})
  | .pair a b, .pair l r => match toT m a l, toT m b r with
    | some (x, i), some (y, j) => some ((x, y), i.app j)
    | _, _ => none
  | t, a => bif t.hasOwn then none else match toV m (coerceTo (some t) a) with
    | some d => match d.as t with
      | some x => some (x, ⟨[], idsIn m a.ids⟩)
      | none => none
    | none => none

/-- results all of whose lists are theirs -/
def toTD (m : Nat → Option Blk) (t : Ty) (a : AT) : Option (t.den × Took) :=
  match toD m (coerceTo (some t) a) with
  | some d => match d.as t with
    | some x => some (x, ⟨a.ids, []⟩)
    | none => none
  | none => none

/-- a parameter's lists, behind the run: (data, blocks, next number) -/
def updD (m : Nat → Option Blk) : (t : Ty) → t.den → Nat → Option (t.den × List Nat × Nat)
  | .lst t, _, n => bif isPid n then match ownOf m n 0 t with
    | some xs => some (xs, [n], n + 1)
    | none => none
    else none
  | .pair a b, x, n => bif (Ty.pair a b).hasLst then
      match updD m a x.1 n with
      | some (y, l, k) => match updD m b x.2 k with
        | some (z, l', e) => some ((y, z), app l l', e)
        | none => none
      | none => none
    else some (x, [], n)
  | _, x, n => some (x, [], n)

inductive Want where
  | v (t : Ty) | d (t : Ty) | p (t : Ty)

def loadRes (C : Cx) (st : St) : ResultVar → Option AT
  | .tmp s => find st.env s
  | .cell s T => match find st.env s, C.ty T with
    | some (.vptr id s0 []), some u => match cur (find st.mem) id s0 with
      | some ⟨_, _, .var t a⟩ => bif t.is u then some a else none
      | _ => none
    | _, _ => none

def outOf (C : Cx) (st : St) : List ResultVar → List Want → Option (List RV × Took)
  | [], [] => some ([], {})
  | r :: rs, w :: ws => match loadRes C st r, outOf C st rs ws with
    | some a, some (l, ids) => match w, a with
      | .v t, a => match toT (find st.mem) t a with
        | some (x, i) => some (.v ⟨t, x⟩ :: l, i.app ids)
        | none => none
      | .d t, a => match toTD (find st.mem) t a with
        | some (x, i) => some (.d ⟨t, x⟩ :: l, i.app ids)
        | none => none
      | .p t, .vptr id s [] => match cur (find st.mem) id s with
        | some ⟨_, false, .var _ b⟩ => match toT (find st.mem) t b with
          | some (x, i) => some (.p ⟨t, x⟩ :: l, (Took.mk [id] []).app (i.app ids))
          | none => none
        | _ => none
      | _, _ => none
    | _, _ => none
  | _, _ => none

def updOf (st : St) : Nat → List Arg → Option (List DV × Took)
  | _, [] => some ([], {})
  | s, .p d :: l => match find st.mem (pid s), updOf st (s + 1) l with
    | some ⟨0, false, .var _ a⟩, some (r, ids) => match toT (find st.mem) d.t a with
      | some (x, i) => some (⟨d.t, x⟩ :: r, (Took.mk [pid s] []).app (i.app ids))
      | none => none
    | _, _ => none
  | s, .m t _ :: l => match rowsOf (find st.mem) (pid s) 0 t, updOf st (s + 1) l with
    | some (false, xs), some (r, ids) => some (⟨.own t, xs⟩ :: r, (Took.mk [pid s] []).app ids)
    | _, _ => none
  | s, .d d :: l => match updD (find st.mem) d.t d.x (dpid s), updOf st (s + 1) l with
    | some (x, i, _), some (r, ids) => some (⟨d.t, x⟩ :: r, (Took.mk i []).app ids)
    | _, _ => none
  | s, _ :: l => updOf st (s + 1) l

def finish (C : Cx) (fn : Func) (args : List Arg) (ws : List Want) (st : St) : Option (List RV × List DV) :=
  match outOf C st fn.results.toList ws, updOf st 0 args with
  | some (o, i), some (u, j) =>
    let k := i.app j
    bif nodup k.own && allL (fun x => !(anyL (Nat.beq x) k.own)) k.imm then (bif allB st.ok then some (o, u) else none) else none
  | _, _ => none

def evF (C : Cx) (lt : List (Nat × LoopD)) (fn : Func) (args : List Arg) (ws : List Want) : Option (List RV × List DV) :=
  match fn.body with
  | none => none
  | some c => bif codeOk fn.ntmps c && Nat.ble args.length fn.ntmps && Nat.ble args.length 50 && Nat.ble ws.length 3 && nodup (mapL (fun x => x.1) (argsSt 0 args ⟨[], [], []⟩).mem) then evC C lt c (fun e st => match e with
      | .exit _ => none
      | _ => finish C fn args ws st) (argsSt 0 args ⟨[], [], []⟩) else none

/-! typed: a function's parameters, what it answers -/
inductive PT where
  | v (t : Ty) | d (t : Ty) | p (t : Ty) | m (t : Ty) | k (t : Ty) | f (g : FuncId) (t : Ty)

@[reducible] def PT.den : PT → Type
  | .v t | .d t | .p t | .k t | .f _ t => t.den
  | .m t => List t.den
def PT.mode : PT → Mode
  | .v _ => .v | .d _ => .d | .p _ => .p | .m _ => .m | .k _ => .k | .f _ _ => .f
def PT.arg : (p : PT) → p.den → Arg
  | .v t, x => .v ⟨t, x⟩
  | .d t, x => .d ⟨t, x⟩
  | .k t, x => .v ⟨t, x⟩
  | .p t, x => .p ⟨t, x⟩
  | .m t, x => .m t x
  | .f g t, x => .f g ⟨t, x⟩
@[reducible] def argsDen : List PT → Type
  | [] => Unit
  | [p] => p.den
  | p :: l => p.den × argsDen l
def toArgs : (l : List PT) → argsDen l → List Arg
  | [], _ => []
  | [p], x => [p.arg x]
  | p :: q :: l, x => p.arg x.1 :: toArgs (q :: l) x.2
@[reducible] def updsDen : List PT → Type
  | [] => Unit
  | .p t :: l | .d t :: l => t.den × updsDen l
  | .m t :: l => List t.den × updsDen l
  | .v _ :: l | .k _ :: l | .f _ _ :: l => updsDen l
def toUpds : (l : List PT) → updsDen l → List DV
  | [], _ => []
  | .p t :: l, x | .d t :: l, x => ⟨t, x.1⟩ :: toUpds l x.2
  | .m t :: l, x => ⟨.own t, x.1⟩ :: toUpds l x.2
  | .v _ :: l, x | .k _ :: l, x | .f _ _ :: l, x => toUpds l x
@[reducible] def Want.den : Want → Type
  | .v t | .d t | .p t => t.den
def Want.rv : (w : Want) → w.den → RV
  | .v t, x => .v ⟨t, x⟩
  | .d t, x => .d ⟨t, x⟩
  | .p t, x => .p ⟨t, x⟩
@[reducible] def outsDen : List Want → Type
  | [] => Unit
  | [w] => w.den
  | w :: l => w.den × outsDen l
def toOuts : (l : List Want) → outsDen l → List RV
  | [], _ => []
  | [w], x => [w.rv x]
  | w :: u :: l, x => w.rv x.1 :: toOuts (u :: l) x.2

def outOne (C : Cx) (st : St) (r : ResultVar) : (w : Want) → Option (w.den × Took)
  | .v t => match loadRes C st r with
    | some a => toT (find st.mem) t a
    | none => none
  | .d t => match loadRes C st r with
    | some a => toTD (find st.mem) t a
    | none => none
  | .p t => match loadRes C st r with
    | some (.vptr id s []) => match cur (find st.mem) id s with
      | some ⟨_, false, .var _ b⟩ => match toT (find st.mem) t b with
        | some (x, i) => some (x, (Took.mk [id] []).app i)
        | none => none
      | _ => none
    | _ => none

def outT (C : Cx) (st : St) : List ResultVar → (l : List Want) → Option (outsDen l × Took)
  | [], [] => some ((), {})
  | [r], [w] => outOne C st r w
  | r :: r' :: rs, w :: u :: ws => match outOne C st r w, outT C st (r' :: rs) (u :: ws) with
    | some (x, i), some (y, j) => some ((x, y), i.app j)
    | _, _ => none
  | _, _ => none

def updT (st : St) : Nat → (l : List PT) → List Arg → Option (updsDen l × Took)
  | _, [], _ => some ((), {})
  | s, .p t :: l, _ :: as => match find st.mem (pid s), updT st (s + 1) l as with
    | some ⟨0, false, .var _ a⟩, some (r, ids) => match toT (find st.mem) t a with
      | some (x, i) => some ((x, r), (Took.mk [pid s] []).app (i.app ids))
      | none => none
    | _, _ => none
  | s, .m t :: l, _ :: as => match rowsOf (find st.mem) (pid s) 0 t, updT st (s + 1) l as with
    | some (false, xs), some (r, ids) => some ((xs, r), (Took.mk [pid s] []).app ids)
    | _, _ => none
  | s, .d t :: l, .d d :: as => match d.as t with
    | some x0 => match updD (find st.mem) t x0 (dpid s), updT st (s + 1) l as with
      | some (x, i, _), some (r, ids) => some ((x, r), (Took.mk i []).app ids)
      | _, _ => none
    | none => none
  | s, .v _ :: l, _ :: as | s, .k _ :: l, _ :: as | s, .f _ _ :: l, _ :: as => updT st (s + 1) l as
  | _, _, _ => none

def finT (C : Cx) (fn : Func) (ps : List PT) (as : List Arg) (ws : List Want) (st : St) : Option (outsDen ws × updsDen ps) :=
  match outT C st fn.results.toList ws, updT st 0 ps as with
  | some (o, i), some (u, j) =>
    let k := i.app j
    bif nodup k.own && allL (fun x => !(anyL (Nat.beq x) k.own)) k.imm then (bif allB st.ok then some (o, u) else none) else none
  | _, _ => none

def evT (C : Cx) (lt : List (Nat × LoopD)) (fn : Func) (ps : List PT) (ws : List Want) (xs : argsDen ps) : Option (outsDen ws × updsDen ps) :=
  match fn.body with
  | none => none
  | some c =>
    let st := argsSt 0 (toArgs ps xs) ⟨[], [], []⟩
    bif codeOk fn.ntmps c && Nat.ble (toArgs ps xs).length fn.ntmps && Nat.ble (toArgs ps xs).length 50 && Nat.ble ws.length 3 && nodup (mapL (fun x => x.1) st.mem) then evC C lt c (fun e st => match e with
      | .exit _ => none
      | _ => finT C fn ps (toArgs ps xs) ws st) st else none

/-- a function's contract -/
structure Con where
  id : FuncId
  ps : List PT
  ws : List Want
  fn : argsDen ps → Option (outsDen ws × updsDen ps)
  /-- its answer, also where it has none -/
  val : argsDen ps → outsDen ws × updsDen ps

def isSm {α : Type} : Option α → Bool
  | some _ => true
  | none => false
def Con.res (c : Con) (x : argsDen c.ps) : Res := ⟨toOuts c.ws (c.val x).1, toUpds c.ps (c.val x).2, [isSm (c.fn x)]⟩

def PT.of : (p : PT) → Arg → Option p.den
  | .v t, .v y | .k t, .v y | .p t, .p y | .d t, .d y => y.as t
  | .m t, .m u xs => (DV.mk (.own u) xs).as (.own t)
  | .f g t, .f h y => bif Nat.beq g h then y.as t else none
  | _, _ => none
def ofArgs : (l : List PT) → List Arg → Option (argsDen l)
  | [], [] => some ()
  | [p], [a] => p.of a
  | p :: q :: l, a :: as => match p.of a, ofArgs (q :: l) as with
    | some x, some y => some (x, y)
    | _, _ => none
  | _, _ => none

def Con.entry (c : Con) : Nat × List Mode × (List Arg → Option Res) := (c.id, c.ps.map PT.mode, fun as => (ofArgs c.ps as).map c.res)

/-- a loop of which a round is known -/
def CDom {X Y : Type} (r : X → Option (X ⊕ Y)) (x : X) : Prop := ∃ y, Comes r x y
noncomputable def comesB {X Y : Type} (r : X → Option (X ⊕ Y)) (x : X) : Bool := @decide (CDom r x) (Classical.propDecidable _)
noncomputable def comesV {X Y : Type} (r : X → Option (X ⊕ Y)) (y0 : Y) (x : X) : Y := @dite Y (CDom r x) (Classical.propDecidable _) (fun h => Classical.choose h) (fun _ => y0)
noncomputable def loopD (sh : Sh) (exits : Exits) (y0 : exits.den) (r : sh.den → Option (sh.den ⊕ exits.den)) : LoopD := ⟨sh, exits, comesB r, comesV r y0⟩

end Go.Ab
namespace Go.Ab

/-! ## memory -/
/-- a block of cells, all of which can be written -/
def Cells (w : World) (B : Nat) (cs : List Value) : Prop :=
  ∃ e fr, w.heap[B]? = some (.cells cs.toArray e fr) ∧ ∀ j, j < cs.length → ¬ (fr.1 ≤ j ∧ j < fr.2)

theorem Cells.lt {w : World} {B : Nat} {cs : List Value} (h : Cells w B cs) : B < w.heap.size := by
  obtain ⟨e, fr, h, _⟩ := h
  exact (Array.getElem?_eq_some_iff.1 h).1

theorem Cells.cell {w : World} {B : Nat} {cs : List Value} (h : Cells w B cs) (j : Nat) : w.cell? ⟨B, j, none⟩ = cs[j]? := by
  obtain ⟨e, fr, h, _⟩ := h
  simp [World.cell?, h]

theorem Cells.frozen {w : World} {B : Nat} {cs : List Value} (h : Cells w B cs) {j : Nat} (hj : j < cs.length) : w.frozen? ⟨B, j, none⟩ = false := by
  obtain ⟨e, fr, h, hf⟩ := h
  have := hf j hj
  simp only [World.frozen?, h]
  simpa using this

theorem Cells.of_same {w w' : World} {B : Nat} {cs : List Value} (h : Cells w B cs) (hs : w'.heap[B]? = w.heap[B]?) : Cells w' B cs := by
  obtain ⟨e, fr, h, hf⟩ := h
  exact ⟨e, fr, hs.trans h, hf⟩

theorem Cells.unique {w : World} {B : Nat} {cs ds : List Value} (h : Cells w B cs) (h' : Cells w B ds) : cs = ds := by
  obtain ⟨e, fr, h, _⟩ := h
  obtain ⟨e', fr', h', _⟩ := h'
  rw [h] at h'
  simp at h'
  exact h'.1

theorem Cells.alloc (w : World) (cs : Array Value) (e : TypeId) (fr : Nat × Nat := (0, 0)) (hfr : ∀ j, j < cs.size → ¬ (fr.1 ≤ j ∧ j < fr.2) := by simp) : Cells (w.alloc (.cells cs e fr)) w.heap.size cs.toList :=
  ⟨e, fr, by simpa using heap_alloc_new w _, fun j hj => hfr j (by simpa using hj)⟩

theorem heap_setCell_ne (w : World) (a : Addr) (v : Value) (k : Nat) (h : k ≠ a.block) : (w.setCell a v).heap[k]? = w.heap[k]? := by
  simp only [World.setCell, Array.getElem?_modify]
  rw [if_neg (by omega)]

theorem Cells.set {w : World} {B : Nat} {cs : List Value} (h : Cells w B cs) (j : Nat) (v : Value) : Cells (w.setCell ⟨B, j, none⟩ v) B (cs.set j v) := by
  obtain ⟨e, fr, h, hf⟩ := h
  refine ⟨e, fr, ?_, fun i hi => hf i (by simpa using hi)⟩
  simp only [World.setCell, Array.getElem?_modify, if_true, h]
  simp

/-- a piece of a list put anew -/
def putAt (cs : List Value) (o : Nat) (vs : List Value) : List Value := cs.take o ++ vs ++ cs.drop (o + vs.length)

theorem putAt_length {cs : List Value} {o : Nat} {vs : List Value} (h : o + vs.length ≤ cs.length) : (putAt cs o vs).length = cs.length := by
  simp only [putAt, List.length_append, List.length_take, List.length_drop]
  omega

theorem putAt_get {cs : List Value} {o : Nat} {vs : List Value} (h : o + vs.length ≤ cs.length) (j : Nat) :
    (putAt cs o vs)[j]? = if o ≤ j ∧ j < o + vs.length then vs[j - o]? else cs[j]? := by
  simp only [putAt, List.getElem?_append, List.length_append, List.length_take, List.getElem?_take, List.getElem?_drop]
  have : min o cs.length = o := by omega
  rw [this]
  by_cases h1 : j < o
  · simp [h1, show j < o + vs.length by omega, show ¬ o ≤ j by omega]
  · by_cases h2 : j < o + vs.length
    · simp [h1, h2, show o ≤ j by omega]
    · simp [h1, h2, show o ≤ j by omega]
      congr 1
      omega

theorem putAt_cons {cs : List Value} {o : Nat} {v : Value} {vs : List Value} (h : o + (v :: vs).length ≤ cs.length) :
    putAt (cs.set o v) (o + 1) vs = putAt cs o (v :: vs) := by
  apply List.ext_getElem?
  intro j
  rw [putAt_get (by simp at h ⊢; omega), putAt_get h]
  simp only [List.length_cons] at h ⊢
  by_cases h1 : o + 1 ≤ j ∧ j < o + 1 + vs.length
  · rw [if_pos h1, if_pos (by omega)]
    have : j - o = (j - (o + 1)) + 1 := by omega
    rw [this]
    simp
  · rw [if_neg h1]
    by_cases h2 : o = j
    · subst h2
      rw [if_pos (by omega)]
      simp [show o < cs.length by omega]
    · rw [if_neg (by omega)]
      simp [List.getElem?_set, h2]

theorem run_storeCells_cells (P : Program) (B o : Nat) : ∀ (vs : List Value) (i : Nat) (cs : List Value) (w : World), Cells w B cs → o + i + vs.length ≤ cs.length →
    (∀ v ∈ vs, v.oneCell' = true) →
    ∃ w', (storeCells ⟨B, o, none⟩ vs i).run P w = .ok () w' ∧ Cells w' B (putAt cs (o + i) vs) ∧ (∀ k, k ≠ B → w'.heap[k]? = w.heap[k]?) ∧ w'.heap.size = w.heap.size ∧
      w'.os = w.os ∧ w'.tape = w.tape ∧ w'.output = w.output
  | [], i, cs, w, hc, _, _ => ⟨w, rfl, by simpa [putAt] using hc, fun _ _ => rfl, rfl, rfl, rfl, rfl⟩
  | v :: rest, i, cs, w, hc, hl, h1 => by
    have hi : o + i < cs.length := by simp at hl; omega
    have hadd : (⟨B, o, none⟩ : Addr).add i = ⟨B, o + i, none⟩ := by unfold Addr.add; split <;> simp_all
    have hst : (store ((⟨B, o, none⟩ : Addr).add i) v).run P w = .ok () (w.setCell ⟨B, o + i, none⟩ v) := by
      rw [hadd, run_store P w _ v _ (h1 v (by simp)), hc.cell]
      simp [hc.frozen hi, hi]
    obtain ⟨w', hr, hc', hk, hs, ho, ht, hu⟩ := run_storeCells_cells P B o rest (i + 1) (cs.set (o + i) v) (w.setCell ⟨B, o + i, none⟩ v) (hc.set _ _) (by simp at hl ⊢; omega) (fun x hx => h1 x (by simp [hx]))
    refine ⟨w', ?_, ?_, fun k hk' => (hk k hk').trans (heap_setCell_ne _ _ _ _ hk'), by simpa using hs, ho, ht, hu⟩
    · simp only [storeCells, Sem.run_bind, hst, Result.andThen_ok, hr]
    · have := putAt_cons (cs := cs) (o := o + i) (v := v) (vs := rest) (by simp at hl ⊢; omega)
      rw [← this, show o + i + 1 = o + (i + 1) by omega]
      exact hc'

theorem run_loadCells_at {P : Program} {w : World} {B o : Nat} {vs : List Value} (h : ∀ j, j < vs.length → w.cell? ⟨B, o + j, none⟩ = vs[j]?) :
    (loadCells ⟨B, o, none⟩ vs.length).run P w = .ok vs.toArray w := by
  refine run_loadCells_list (P := P) w _ vs fun j v hv => ?_
  have hj : j < vs.length := by
    rcases Nat.lt_or_ge j vs.length with h | h
    · exact h
    · simp [List.getElem?_eq_none h] at hv
  have : (⟨B, o, none⟩ : Addr).add j = ⟨B, o + j, none⟩ := by unfold Addr.add; split <;> simp_all
  rw [this, h j hj, hv]

/-! ## data in memory -/
/-- rows of cells, from a place on -/
def RowsAt {α : Type} (w : World) (B off sz : Nat) (R : α → List Value → Prop) (xs : List α) : Prop :=
  ∀ (i : Nat) (x : α), xs[i]? = some x → ∃ cs : List Value, cs.length = sz ∧ (∀ j, j < sz → w.cell? ⟨B, off + i * sz + j, none⟩ = cs[j]?) ∧ R x cs

def ArrR {α : Type} (R : α → List Value → Prop) : List α → List Value → Prop
  | [], vs => vs = []
  | x :: xs, vs => ∃ v1 v2, vs = v1 ++ v2 ∧ R x v1 ∧ ArrR R xs v2

/-- data, as cells; 'I': the blocks that are written no more -/
def RepC (w : World) (I : Nat → Prop) : (t : Ty) → t.den → List Value → Prop
  | .unit, _, vs => vs = []
  | .bool, x, vs => vs = [.bool x]
  | .int k, x, vs => vs = [.int k x]
  | .str, x, vs => vs = [.string ⟨x.toArray⟩]
  | .lst t, xs, vs => ∃ a cap, vs = [.slice a xs.length cap] ∧ xs.length ≤ cap ∧
      (xs = [] ∨ ∃ B off, a = some ⟨B, off, none⟩ ∧ I B ∧ RowsAt w B off t.size (RepC w I t) xs)
  | .own _, _, _ => False
  | .pair a b, x, vs => ∃ v1 v2, vs = v1 ++ v2 ∧ RepC w I a x.1 v1 ∧ RepC w I b x.2 v2
  | .arr n t, xs, vs => xs.length = n ∧ ArrR (RepC w I t) xs vs
  | .ref t, x, vs => ∃ B off, vs = [.pointer (some ⟨B, off, none⟩)] ∧ I B ∧ 0 < t.size ∧
      ∃ cs : List Value, cs.length = t.size ∧ (∀ j, j < t.size → w.cell? ⟨B, off + j, none⟩ = cs[j]?) ∧ RepC w I t x cs

theorem ArrR.length {α : Type} {R : α → List Value → Prop} {n : Nat} (hR : ∀ x vs, R x vs → vs.length = n) : ∀ {xs : List α} {vs : List Value}, ArrR R xs vs → vs.length = xs.length * n
  | [], _, h => by cases h; simp
  | x :: xs, vs, ⟨v1, v2, h, h1, h2⟩ => by
    subst h
    rw [List.length_append, hR _ _ h1, ArrR.length hR h2, List.length_cons, Nat.add_mul]
    omega

theorem RepC.length {w : World} {I : Nat → Prop} : {t : Ty} → {x : t.den} → {vs : List Value} → RepC w I t x vs → vs.length = t.size
  | .unit, _, _, h => by simp only [RepC] at h; simp [h, Ty.size]
  | .bool, _, _, h => by simp only [RepC] at h; simp [h, Ty.size]
  | .int _, _, _, h => by simp only [RepC] at h; simp [h, Ty.size]
  | .str, _, _, h => by simp only [RepC] at h; simp [h, Ty.size]
  | .lst _, _, _, h => by simp only [RepC] at h; obtain ⟨a, cap, h, _⟩ := h; simp [h, Ty.size]
  | .own _, _, _, h => by simp only [RepC] at h
  | .pair a b, _, _, h => by
    simp only [RepC] at h
    obtain ⟨v1, v2, h, h1, h2⟩ := h
    simp [h, Ty.size, RepC.length h1, RepC.length h2]
  | .arr n t, _, _, h => by
    simp only [RepC] at h
    rw [ArrR.length (fun x vs h => RepC.length h) h.2, h.1]
    rfl
  | .ref _, _, _, h => by simp only [RepC] at h; obtain ⟨B, off, h, _⟩ := h; simp [h, Ty.size]

theorem ArrR.mono {α : Type} {R R' : α → List Value → Prop} (hR : ∀ x vs, R x vs → R' x vs) : ∀ {xs : List α} {vs : List Value}, ArrR R xs vs → ArrR R' xs vs
  | [], _, h => h
  | _ :: _, _, ⟨v1, v2, h, h1, h2⟩ => ⟨v1, v2, h, hR _ _ h1, ArrR.mono hR h2⟩

/-- the blocks of I are as they were -/
structure Agree (I I' : Nat → Prop) (w w' : World) : Prop where
  sub : ∀ b, I b → I' b
  same : ∀ b, I b → w'.heap[b]? = w.heap[b]?

theorem Agree.refl (I : Nat → Prop) (w : World) : Agree I I w w := ⟨fun _ h => h, fun _ _ => rfl⟩
theorem Agree.trans {I I' I'' : Nat → Prop} {w w' w'' : World} (h : Agree I I' w w') (k : Agree I' I'' w' w'') : Agree I I'' w w'' :=
  ⟨fun b hb => k.sub b (h.sub b hb), fun b hb => (k.same b (h.sub b hb)).trans (h.same b hb)⟩

theorem Agree.cell {I I' : Nat → Prop} {w w' : World} (h : Agree I I' w w') {B : Nat} (hB : I B) (o : Nat) : w'.cell? ⟨B, o, none⟩ = w.cell? ⟨B, o, none⟩ :=
  World.cell?_of_block (w := w) (h.same B hB)

theorem RowsAt.mono {α : Type} {w w' : World} {B off sz : Nat} {R R' : α → List Value → Prop} {xs : List α} (h : RowsAt w B off sz R xs)
    (hc : ∀ o, w'.cell? ⟨B, o, none⟩ = w.cell? ⟨B, o, none⟩) (hR : ∀ x vs, R x vs → R' x vs) : RowsAt w' B off sz R' xs := by
  intro i x hx
  obtain ⟨cs, h1, h2, h3⟩ := h i x hx
  exact ⟨cs, h1, fun j hj => (hc _).trans (h2 j hj), hR _ _ h3⟩

theorem RepC.mono {w w' : World} {I I' : Nat → Prop} (ha : Agree I I' w w') : {t : Ty} → {x : t.den} → {vs : List Value} → RepC w I t x vs → RepC w' I' t x vs
  | .unit, _, _, h => by simpa only [RepC] using h
  | .bool, _, _, h => by simpa only [RepC] using h
  | .int _, _, _, h => by simpa only [RepC] using h
  | .str, _, _, h => by simpa only [RepC] using h
  | .lst t, _, _, h => by
    simp only [RepC] at h ⊢
    obtain ⟨a, cap, h1, h2, h3⟩ := h
    refine ⟨a, cap, h1, h2, h3.imp id ?_⟩
    rintro ⟨B, off, h4, h5, h6⟩
    exact ⟨B, off, h4, ha.sub _ h5, h6.mono (fun o => ha.cell h5 o) (fun x vs h => RepC.mono ha h)⟩
  | .own _, _, _, h => by simp only [RepC] at h
  | .pair a b, _, _, h => by
    simp only [RepC] at h ⊢
    obtain ⟨v1, v2, h, h1, h2⟩ := h
    exact ⟨v1, v2, h, RepC.mono ha h1, RepC.mono ha h2⟩
  | .arr n t, _, _, h => by
    simp only [RepC] at h ⊢
    exact ⟨h.1, ArrR.mono (fun x vs h => RepC.mono ha h) h.2⟩
  | .ref t, _, _, h => by
    simp only [RepC] at h ⊢
    obtain ⟨B, off, h1, h2, h3, cs, h4, h5, h6⟩ := h
    exact ⟨B, off, h1, ha.sub _ h2, h3, cs, h4, fun j hj => (ha.cell h2 _).trans (h5 j hj), RepC.mono ha h6⟩

theorem ArrR.oneCell {α : Type} {R : α → List Value → Prop} (hR : ∀ x vs, R x vs → ∀ v ∈ vs, v.oneCell' = true) : ∀ {xs : List α} {vs : List Value}, ArrR R xs vs → ∀ v ∈ vs, v.oneCell' = true
  | [], _, h, v, hv => by cases h; simp at hv
  | _ :: _, _, ⟨v1, v2, h, h1, h2⟩, v, hv => by
    subst h
    rcases List.mem_append.1 hv with h | h
    · exact hR _ _ h1 v h
    · exact ArrR.oneCell hR h2 v h

theorem RepC.oneCell {w : World} {I : Nat → Prop} : {t : Ty} → {x : t.den} → {vs : List Value} → RepC w I t x vs → ∀ v ∈ vs, v.oneCell' = true
  | .unit, _, _, h => by simp only [RepC] at h; simp [h]
  | .bool, _, _, h => by simp only [RepC] at h; simp [h, Value.oneCell']
  | .int _, _, _, h => by simp only [RepC] at h; simp [h, Value.oneCell']
  | .str, _, _, h => by simp only [RepC] at h; simp [h, Value.oneCell']
  | .lst _, _, _, h => by simp only [RepC] at h; obtain ⟨a, cap, h, _⟩ := h; simp [h, Value.oneCell']
  | .own _, _, _, h => by simp only [RepC] at h
  | .pair a b, _, _, h => by
    simp only [RepC] at h
    obtain ⟨v1, v2, h, h1, h2⟩ := h
    subst h
    intro v hv
    rcases List.mem_append.1 hv with h | h
    · exact RepC.oneCell h1 v h
    · exact RepC.oneCell h2 v h
  | .arr n t, _, _, h => by
    simp only [RepC] at h
    exact ArrR.oneCell (fun x vs h => RepC.oneCell h) h.2
  | .ref _, _, _, h => by simp only [RepC] at h; obtain ⟨B, off, h, _⟩ := h; simp [h, Value.oneCell']

end Go.Ab
namespace Go.Ab

/-! ## data all of whose lists are its own -/
/-- rows of cells, one behind the other, with the blocks of each -/
def RowsD {α : Type} (w : World) (B sz : Nat) (R : α → List Value → List Nat → Prop) : Nat → List α → List Nat → Prop
  | _, [], Ds => Ds = []
  | off, x :: xs, Ds => ∃ cs D1 D2, Ds = D1 ++ D2 ∧ cs.length = sz ∧ (∀ j, j < sz → w.cell? ⟨B, off + j, none⟩ = cs[j]?) ∧ R x cs D1 ∧ RowsD w B sz R (off + sz) xs D2

/-- data, as cells; 'Bs': the blocks of its lists -/
def RepD (w : World) (I : Nat → Prop) : (t : Ty) → t.den → List Value → List Nat → Prop
  | .lst t, xs, vs, Bs => ∃ a cap, vs = [.slice a xs.length cap] ∧ xs.length ≤ cap ∧ ((a = none ∧ cap = 0 ∧ Bs = []) ∨
      ∃ B o cs Ds, a = some ⟨B, o, none⟩ ∧ Cells w B cs ∧ o + cap * t.size ≤ cs.length ∧ RowsD w B t.size (RepD w I t) o xs Ds ∧ ¬ I B ∧ Bs = B :: Ds)
  | .pair a b, x, vs, Bs => ∃ v1 v2 B1 B2, vs = v1 ++ v2 ∧ Bs = B1 ++ B2 ∧ RepD w I a x.1 v1 B1 ∧ RepD w I b x.2 v2 B2
  | .unit, x, vs, Bs => Bs = [] ∧ RepC w I .unit x vs
  | .bool, x, vs, Bs => Bs = [] ∧ RepC w I .bool x vs
  | .int k, x, vs, Bs => Bs = [] ∧ RepC w I (.int k) x vs
  | .str, x, vs, Bs => Bs = [] ∧ RepC w I .str x vs
  | .arr n t, x, vs, Bs => Bs = [] ∧ t.hasLst = false ∧ RepC w I (.arr n t) x vs
  | .own _, _, _, _ => False
  | .ref _, _, _, _ => False

theorem RepD.length {w : World} {I : Nat → Prop} : ∀ {t : Ty} {x : t.den} {vs : List Value} {Bs : List Nat}, RepD w I t x vs Bs → vs.length = t.size := by
  intro t
  induction t with
  | lst t _ => intro x vs Bs h; simp only [RepD] at h; obtain ⟨a, cap, e, _⟩ := h; simp [e, Ty.size]
  | pair a b iha ihb =>
    intro x vs Bs h
    simp only [RepD] at h
    obtain ⟨v1, v2, B1, B2, e, eb, h1, h2⟩ := h
    simp [e, Ty.size, iha h1, ihb h2]
  | arr n t _ => intro x vs Bs h; simp only [RepD] at h; exact RepC.length h.2.2
  | own t _ => intro x vs Bs h; simp only [RepD] at h
  | ref t _ => intro x vs Bs h; simp only [RepD] at h
  | _ => intro x vs Bs h; simp only [RepD] at h; exact RepC.length h.2

theorem RepD.oneCell {w : World} {I : Nat → Prop} : ∀ {t : Ty} {x : t.den} {vs : List Value} {Bs : List Nat}, RepD w I t x vs Bs → ∀ v ∈ vs, v.oneCell' = true := by
  intro t
  induction t with
  | lst t _ => intro x vs Bs h; simp only [RepD] at h; obtain ⟨a, cap, e, _⟩ := h; simp [e, Value.oneCell']
  | pair a b iha ihb =>
    intro x vs Bs h v hv
    simp only [RepD] at h
    obtain ⟨v1, v2, B1, B2, e, eb, h1, h2⟩ := h
    subst e
    rcases List.mem_append.1 hv with h | h
    · exact iha h1 v h
    · exact ihb h2 v h
  | arr n t _ => intro x vs Bs h; simp only [RepD] at h; exact RepC.oneCell h.2.2
  | own t _ => intro x vs Bs h; simp only [RepD] at h
  | ref t _ => intro x vs Bs h; simp only [RepD] at h
  | _ => intro x vs Bs h; simp only [RepD] at h; exact RepC.oneCell h.2

/-- in a later world, its blocks being as they were -/
theorem RowsD.mono {α : Type} {w w' : World} {B sz : Nat} {R R' : α → List Value → List Nat → Prop} (hc : ∀ o, w'.cell? ⟨B, o, none⟩ = w.cell? ⟨B, o, none⟩) :
    ∀ {xs : List α} {off : Nat} {Ds : List Nat}, (∀ x vs D, (∀ B ∈ D, B ∈ Ds) → R x vs D → R' x vs D) → RowsD w B sz R off xs Ds → RowsD w' B sz R' off xs Ds
  | [], _, _, _, h => h
  | x :: xs, off, Ds, hR, h => by
    obtain ⟨cs, D1, D2, e, h1, h2, h3, h4⟩ := h
    subst e
    exact ⟨cs, D1, D2, rfl, h1, fun j hj => (hc _).trans (h2 j hj), hR _ _ _ (fun B hB => List.mem_append_left _ hB) h3,
      RowsD.mono hc (fun x vs D hD => hR x vs D fun B hB => List.mem_append_right _ (hD B hB)) h4⟩

theorem RepD.mono {w w' : World} {I I' : Nat → Prop} (ha : Agree I I' w w') : ∀ {t : Ty} {x : t.den} {vs : List Value} {Bs : List Nat},
    (∀ B ∈ Bs, w'.heap[B]? = w.heap[B]? ∧ (I' B → I B)) → RepD w I t x vs Bs → RepD w' I' t x vs Bs := by
  intro t
  induction t with
  | lst t ih =>
    intro x vs Bs hB h
    simp only [RepD] at h ⊢
    obtain ⟨a, cap, e, hl, h⟩ := h
    refine ⟨a, cap, e, hl, h.imp id ?_⟩
    rintro ⟨B, o, cs, Ds, h1, h2, h3, h4, h5, h6⟩
    subst h6
    obtain ⟨k1, k2⟩ := hB B (by simp)
    exact ⟨B, o, cs, Ds, h1, h2.of_same k1, h3, h4.mono (fun o => World.cell?_of_block (w := w) k1) (fun x vs D hD h => ih (fun B' hB' => hB B' (List.mem_cons_of_mem _ (hD B' hB'))) h), fun h => h5 (k2 h), rfl⟩
  | pair a b iha ihb =>
    intro x vs Bs hB h
    simp only [RepD] at h ⊢
    obtain ⟨v1, v2, B1, B2, e, eb, h1, h2⟩ := h
    subst eb
    exact ⟨v1, v2, B1, B2, e, rfl, iha (fun B hb => hB B (List.mem_append_left _ hb)) h1, ihb (fun B hb => hB B (List.mem_append_right _ hb)) h2⟩
  | arr n t _ => intro x vs Bs _ h; simp only [RepD] at h ⊢; exact ⟨h.1, h.2.1, RepC.mono ha h.2.2⟩
  | own t _ => intro x vs Bs _ h; simp only [RepD] at h
  | ref t _ => intro x vs Bs _ h; simp only [RepD] at h
  | _ => intro x vs Bs _ h; simp only [RepD] at h ⊢; exact ⟨h.1, RepC.mono ha h.2⟩

/-- rows of plain data -/
theorem RowsD.at {α : Type} {w : World} {B sz : Nat} {R : α → List Value → List Nat → Prop} {R' : α → List Value → Prop} :
    ∀ {xs : List α} {off : Nat} {Ds : List Nat}, (∀ x vs D, (∀ B ∈ D, B ∈ Ds) → R x vs D → R' x vs) → RowsD w B sz R off xs Ds → RowsAt w B off sz R' xs
  | [], _, _, _, _ => by intro i x hx; simp at hx
  | x :: xs, off, Ds, hR, h => by
    obtain ⟨cs, D1, D2, e, h1, h2, h3, h4⟩ := h
    subst e
    have ih := RowsD.at (R' := R') (fun x vs D hD => hR x vs D fun B hB => List.mem_append_right _ (hD B hB)) h4
    intro i y hy
    cases i with
    | zero => simp at hy; subst hy; exact ⟨cs, h1, fun j hj => by simpa using h2 j hj, hR _ _ _ (fun B hB => List.mem_append_left _ hB) h3⟩
    | succ i =>
      obtain ⟨cs', k1, k2, k3⟩ := ih i y (by simpa using hy)
      refine ⟨cs', k1, fun j hj => ?_, k3⟩
      have : off + (i + 1) * sz + j = off + sz + i * sz + j := by rw [Nat.add_mul]; omega
      rw [this]; exact k2 j hj

/-- lent: for the while it is written no more -/
theorem RepD.lend {w : World} {I I' : Nat → Prop} (hI : ∀ B, I B → I' B) : ∀ {t : Ty} {x : t.den} {vs : List Value} {Bs : List Nat}, (∀ B ∈ Bs, I' B) → RepD w I t x vs Bs → RepC w I' t x vs := by
  intro t
  induction t with
  | lst t ih =>
    intro x vs Bs hB h
    simp only [RepD] at h
    simp only [RepC]
    obtain ⟨a, cap, e, hl, h⟩ := h
    refine ⟨a, cap, e, hl, ?_⟩
    rcases h with ⟨h1, h2, h3⟩ | ⟨B, o, cs, Ds, h1, h2, h3, h4, h5, h6⟩
    · left; rw [← List.length_eq_zero_iff]; omega
    · right
      subst h6
      exact ⟨B, o, h1, hB B (by simp), h4.at fun x vs D hD h => ih (fun B' hB' => hB B' (List.mem_cons_of_mem _ (hD B' hB'))) h⟩
  | pair a b iha ihb =>
    intro x vs Bs hB h
    simp only [RepD] at h
    simp only [RepC]
    obtain ⟨v1, v2, B1, B2, e, eb, h1, h2⟩ := h
    subst eb
    exact ⟨v1, v2, e, iha (fun B hb => hB B (List.mem_append_left _ hb)) h1, ihb (fun B hb => hB B (List.mem_append_right _ hb)) h2⟩
  | arr n t _ => intro x vs Bs _ h; simp only [RepD] at h; exact RepC.mono ⟨hI, fun _ _ => rfl⟩ h.2.2
  | own t _ => intro x vs Bs _ h; simp only [RepD] at h
  | ref t _ => intro x vs Bs _ h; simp only [RepD] at h
  | _ => intro x vs Bs _ h; simp only [RepD] at h; exact RepC.mono ⟨hI, fun _ _ => rfl⟩ h.2

theorem RepD.of_rep {w : World} {I : Nat → Prop} : ∀ {t : Ty} {x : t.den} {vs : List Value}, t.hasLst = false → RepC w I t x vs → RepD w I t x vs [] := by
  intro t
  induction t with
  | lst t _ => intro x vs h; simp [Ty.hasLst] at h
  | ref t _ => intro x vs h; simp [Ty.hasLst] at h
  | own t _ => intro x vs _ h; simp only [RepC] at h
  | pair a b iha ihb =>
    intro x vs hh h
    simp only [Ty.hasLst, Bool.or_eq_false_iff] at hh
    simp only [RepC] at h
    simp only [RepD]
    obtain ⟨v1, v2, e, h1, h2⟩ := h
    exact ⟨v1, v2, [], [], e, rfl, iha hh.1 h1, ihb hh.2 h2⟩
  | arr n t _ => intro x vs hh h; unfold RepD; exact ⟨rfl, by simpa [Ty.hasLst] using hh, h⟩
  | _ => intro x vs _ h; unfold RepD; exact ⟨rfl, h⟩

theorem RepD.rep {w : World} {I : Nat → Prop} : ∀ {t : Ty} {x : t.den} {vs : List Value} {Bs : List Nat}, t.hasLst = false → RepD w I t x vs Bs → RepC w I t x vs ∧ Bs = [] := by
  intro t
  induction t with
  | lst t _ => intro x vs Bs h; simp [Ty.hasLst] at h
  | ref t _ => intro x vs Bs h; simp [Ty.hasLst] at h
  | own t _ => intro x vs Bs _ h; simp only [RepD] at h
  | pair a b iha ihb =>
    intro x vs Bs hh h
    simp only [Ty.hasLst, Bool.or_eq_false_iff] at hh
    simp only [RepD] at h
    obtain ⟨v1, v2, B1, B2, e, eb, h1, h2⟩ := h
    obtain ⟨k1, k2⟩ := iha hh.1 h1
    obtain ⟨k3, k4⟩ := ihb hh.2 h2
    refine ⟨?_, by rw [eb, k2, k4]; rfl⟩
    simp only [RepC]
    exact ⟨v1, v2, e, k1, k3⟩
  | arr n t _ => intro x vs Bs _ h; simp only [RepD] at h; exact ⟨h.2.2, h.1⟩
  | _ => intro x vs Bs _ h; simp only [RepD] at h; exact ⟨h.2, h.1⟩

end Go.Ab
namespace Go.Ab

/-- one row, and what stands when it is put anew -/
theorem RowsD.split {α : Type} {w : World} {B sz : Nat} {R : α → List Value → List Nat → Prop} :
    ∀ {xs : List α} {off : Nat} {Ds : List Nat} {i : Nat} {x : α}, xs[i]? = some x → RowsD w B sz R off xs Ds →
    ∃ D1 Di D2 cs, Ds = D1 ++ Di ++ D2 ∧ cs.length = sz ∧ (∀ j, j < sz → w.cell? ⟨B, off + i * sz + j, none⟩ = cs[j]?) ∧ R x cs Di ∧
      ∀ (w' : World) (R' : α → List Value → List Nat → Prop) (y : α) (cs' : List Value) (Di' : List Nat),
        (∀ k, ¬ (off + i * sz ≤ k ∧ k < off + i * sz + sz) → w'.cell? ⟨B, k, none⟩ = w.cell? ⟨B, k, none⟩) →
        (∀ x vs D, (∀ b ∈ D, b ∈ D1 ++ D2) → R x vs D → R' x vs D) → cs'.length = sz → (∀ j, j < sz → w'.cell? ⟨B, off + i * sz + j, none⟩ = cs'[j]?) → R' y cs' Di' →
        RowsD w' B sz R' off (xs.set i y) (D1 ++ Di' ++ D2)
  | [], _, _, i, x, hx, _ => by simp at hx
  | z :: xs, off, Ds, 0, x, hx, h => by
    simp at hx
    subst hx
    obtain ⟨cs, D1, D2, e, h1, h2, h3, h4⟩ := h
    subst e
    refine ⟨[], D1, D2, cs, by simp, h1, fun j hj => by simpa using h2 j hj, h3, fun w' R' y cs' Di' hc hR hl hy hr => ?_⟩
    simp only [List.set_cons_zero, List.nil_append]
    refine ⟨cs', Di', D2, rfl, hl, fun j hj => by simpa using hy j hj, hr, ?_⟩
    -- the rest lies behind
    have rest : ∀ {xs : List α} {o : Nat} {D : List Nat}, off + sz ≤ o → (∀ b ∈ D, b ∈ D2) → RowsD w B sz R o xs D → RowsD w' B sz R' o xs D := by
      intro xs
      induction xs with
      | nil => intro o D _ _ h; exact h
      | cons z xs ih =>
        intro o D ho hD h
        obtain ⟨cs, E1, E2, e, k1, k2, k3, k4⟩ := h
        subst e
        refine ⟨cs, E1, E2, rfl, k1, fun j hj => (hc _ (by simp; omega)).trans (k2 j hj), hR _ _ _ (fun b hb => by simpa using hD b (List.mem_append_left _ hb)) k3,
          ih (by omega) (fun b hb => hD b (List.mem_append_right _ hb)) k4⟩
    exact rest (Nat.le_refl _) (fun b hb => hb) h4
  | z :: xs, off, Ds, i + 1, x, hx, h => by
    simp at hx
    obtain ⟨cs0, E1, E2, e, h1, h2, h3, h4⟩ := h
    subst e
    obtain ⟨D1, Di, D2, cs, e, k1, k2, k3, k4⟩ := RowsD.split hx h4
    have ho : off + (i + 1) * sz = off + sz + i * sz := by rw [Nat.add_mul]; omega
    refine ⟨E1 ++ D1, Di, D2, cs, by rw [e]; simp, k1, fun j hj => by rw [ho]; exact k2 j hj, k3, fun w' R' y cs' Di' hc hR hl hy hr => ?_⟩
    simp only [List.set_cons_succ, List.append_assoc]
    refine ⟨cs0, E1, D1 ++ (Di' ++ D2), rfl, h1, fun j hj => (hc _ (by rw [ho]; omega)).trans (h2 j hj), hR _ _ _ (fun b hb => by simp [hb]) h3, ?_⟩
    have := k4 w' R' y cs' Di' (fun k hk => hc k (by rw [ho]; exact hk)) (fun x vs D hD => hR x vs D fun b hb => by have := hD b hb; simp only [List.append_assoc, List.mem_append] at this ⊢; exact .inr this) hl (fun j hj => by have := hy j hj; rw [ho] at this; exact this) hr
    simpa using this

/-- rows put behind -/
theorem RowsD.app {α : Type} {w : World} {B sz : Nat} {R : α → List Value → List Nat → Prop} :
    ∀ {xs ys : List α} {off : Nat} {D1 D2 : List Nat}, RowsD w B sz R off xs D1 → RowsD w B sz R (off + xs.length * sz) ys D2 → RowsD w B sz R off (xs ++ ys) (D1 ++ D2)
  | [], ys, off, D1, D2, h, k => by
    simp only [RowsD] at h
    subst h
    simpa using k
  | x :: xs, ys, off, D1, D2, h, k => by
    obtain ⟨cs, E1, E2, e, h1, h2, h3, h4⟩ := h
    subst e
    rw [List.append_assoc, List.cons_append]
    refine ⟨cs, E1, E2 ++ D2, rfl, h1, h2, h3, RowsD.app h4 ?_⟩
    have : off + (x :: xs).length * sz = off + sz + xs.length * sz := by rw [List.length_cons, Nat.add_mul]; omega
    rw [this] at k
    exact k

/-- a part of data that is all its own, and what stands when it is put anew -/
theorem RepD.part {w : World} {I : Nat → Prop} : ∀ (p : Path) {t u : Ty} {x : t.den} {vs : List Value} {Bs : List Nat}, p.pairs = true → t.at p = some u → RepD w I t x vs Bs →
    ∃ (y : u.den) (pre mid post : List Value) (B1 Bm B2 : List Nat), AT.get p (.leaf t x) = some (.leaf u y) ∧ vs = pre ++ mid ++ post ∧ pre.length = t.off p ∧ Bs = B1 ++ Bm ++ B2 ∧ RepD w I u y mid Bm ∧
      ∀ (w' : World) (I' : Nat → Prop) (z : u.den) (mid' : List Value) (Bm' : List Nat), Agree I I' w w' → (∀ B ∈ B1 ++ B2, w'.heap[B]? = w.heap[B]? ∧ (I' B → I B)) → RepD w' I' u z mid' Bm' →
        ∃ x', (AT.set p (.leaf t x) (.leaf u z)).bind AT.pure = some ⟨t, x'⟩ ∧ RepD w' I' t x' (pre ++ mid' ++ post) (B1 ++ Bm' ++ B2)
  | [], t, u, x, vs, Bs, _, hu, h => by
    simp only [Ty.at, Option.some.injEq] at hu
    subst hu
    refine ⟨x, [], vs, [], [], Bs, [], rfl, by simp, rfl, by simp, h, fun w' I' z mid' Bm' _ _ hz => ⟨z, rfl, by simpa using hz⟩⟩
  | .fst :: p, t, u, x, vs, Bs, hp, hu, h => by
    cases t <;> simp only [Ty.at, reduceCtorEq] at hu
    rename_i a b
    simp only [RepD] at h
    obtain ⟨v1, v2, C1, C2, e, eb, h1, h2⟩ := h
    obtain ⟨y, pre, mid, post, B1, Bm, B2, k1, k2, k3, k4, k5, k6⟩ := RepD.part p (by simpa [Path.pairs] using hp) hu h1
    subst e k2 eb k4
    refine ⟨y, pre, mid, post ++ v2, B1, Bm, B2 ++ C2, by simpa only [AT.get] using k1, by simp, by simpa only [Ty.off] using k3, by simp, k5, fun w' I' z mid' Bm' ha hB hz => ?_⟩
    obtain ⟨x', q1, q2⟩ := k6 w' I' z mid' Bm' ha (fun B hb => hB B (by simp only [List.mem_append] at hb ⊢; rcases hb with hb | hb <;> simp [hb])) hz
    obtain ⟨s, q3, q4⟩ := Option.bind_eq_some_iff.1 q1
    refine ⟨(x', x.2), ?_, ?_⟩
    · simp only [AT.set, q3, Option.map_some, Option.bind_some, AT.pure, q4]
    · simp only [RepD]
      exact ⟨pre ++ mid' ++ post, v2, B1 ++ Bm' ++ B2, C2, by simp, by simp, q2, RepD.mono ha (fun B hb => hB B (by simp [hb])) h2⟩
  | .snd :: p, t, u, x, vs, Bs, hp, hu, h => by
    cases t <;> simp only [Ty.at, reduceCtorEq] at hu
    rename_i a b
    simp only [RepD] at h
    obtain ⟨v1, v2, C1, C2, e, eb, h1, h2⟩ := h
    obtain ⟨y, pre, mid, post, B1, Bm, B2, k1, k2, k3, k4, k5, k6⟩ := RepD.part p (by simpa [Path.pairs] using hp) hu h2
    subst e k2 eb k4
    refine ⟨y, v1 ++ pre, mid, post, C1 ++ B1, Bm, B2, by simpa only [AT.get] using k1, by simp, by simp only [Ty.off, List.length_append, RepD.length h1, k3], by simp, k5, fun w' I' z mid' Bm' ha hB hz => ?_⟩
    obtain ⟨x', q1, q2⟩ := k6 w' I' z mid' Bm' ha (fun B hb => hB B (by simp only [List.mem_append] at hb ⊢; rcases hb with hb | hb <;> simp [hb])) hz
    obtain ⟨s, q3, q4⟩ := Option.bind_eq_some_iff.1 q1
    refine ⟨(x.1, x'), ?_, ?_⟩
    · simp only [AT.set, q3, Option.map_some, Option.bind_some, AT.pure, q4]
    · simp only [RepD]
      exact ⟨v1, pre ++ mid' ++ post, C1, B1 ++ Bm' ++ B2, by simp, by simp, RepD.mono ha (fun B hb => hB B (by simp [hb])) h1, q2⟩
  | .idx _ :: p, t, u, x, vs, Bs, hp, _, _ => by simp [Path.pairs] at hp

/-- its blocks are in the heap, and ours -/
theorem RepD.blk {w : World} {I : Nat → Prop} : ∀ {t : Ty} {x : t.den} {vs : List Value} {Bs : List Nat}, RepD w I t x vs Bs → ∀ B ∈ Bs, B < w.heap.size ∧ ¬ I B := by
  intro t
  induction t with
  | lst t ih =>
    intro x vs Bs h B hB
    simp only [RepD] at h
    obtain ⟨a, cap, e, hl, h⟩ := h
    rcases h with ⟨_, _, h⟩ | ⟨B0, o, cs, Ds, h1, h2, h3, h4, h5, h6⟩
    · subst h; simp at hB
    · subst h6
      have rows : ∀ (xs : List t.den) (off : Nat) (Ds : List Nat), RowsD w B0 t.size (RepD w I t) off xs Ds → ∀ B ∈ Ds, B < w.heap.size ∧ ¬ I B := by
        intro xs
        induction xs with
        | nil => intro off Ds h B hB; simp only [RowsD] at h; subst h; simp at hB
        | cons z xs ihx =>
          intro off Ds h B hB
          obtain ⟨cs, D1, D2, e, _, _, k3, k4⟩ := h
          subst e
          rcases List.mem_append.1 hB with hB | hB
          · exact ih k3 B hB
          · exact ihx _ _ k4 B hB
      rcases List.mem_cons.1 hB with e | hB
      · subst e; exact ⟨h2.lt, h5⟩
      · exact rows _ _ _ h4 B hB
  | pair a b iha ihb =>
    intro x vs Bs h B hB
    simp only [RepD] at h
    obtain ⟨v1, v2, B1, B2, e, eb, h1, h2⟩ := h
    subst eb
    rcases List.mem_append.1 hB with hB | hB
    · exact iha h1 B hB
    · exact ihb h2 B hB
  | own t _ => intro x vs Bs h; simp only [RepD] at h
  | ref t _ => intro x vs Bs h; simp only [RepD] at h
  | _ => intro x vs Bs h B hB; simp only [RepD] at h; rw [h.1] at hB; simp at hB

theorem RowsD.blk {w : World} {I : Nat → Prop} {t : Ty} {B0 : Nat} : ∀ {xs : List t.den} {off : Nat} {Ds : List Nat}, RowsD w B0 t.size (RepD w I t) off xs Ds → ∀ B ∈ Ds, B < w.heap.size ∧ ¬ I B
  | [], _, _, h, B, hB => by simp only [RowsD] at h; subst h; simp at hB
  | _ :: _, _, _, h, B, hB => by
    obtain ⟨cs, D1, D2, e, _, _, k3, k4⟩ := h
    subst e
    rcases List.mem_append.1 hB with hB | hB
    · exact RepD.blk k3 B hB
    · exact RowsD.blk k4 B hB

end Go.Ab
namespace Go.Ab

/-- where the blocks lie: each block's place; the blocks of the lists inside a deep one -/
structure Pl where
  f : Nat → Option (Nat × Nat)
  d : Nat → List Nat
instance : CoeFun Pl (fun _ => Nat → Option (Nat × Nat)) := ⟨Pl.f⟩
abbrev MF := Nat → Option Blk

def OneR (vs : List Value) : Prop := ∃ v, vs = [v] ∧ v.oneCell' = true
def RefOk (m : MF) (id st : Nat) : Prop := ∃ b, m id = some b ∧ st ≤ b.st

def HdrAt (w : World) (ρ : Pl) (id sz off : Nat) (a : Option Addr) (cap : Nat) : Prop :=
  cap = 0 ∨ ∃ B o cs, ρ id = some (B, o) ∧ a = some ⟨B, o + off * sz, none⟩ ∧ Cells w B cs ∧ o + off * sz + cap * sz ≤ cs.length

/-- a whole list's header -/
def HdrW (w : World) (ρ : Pl) (id sz : Nat) (a : Option Addr) (cap : Nat) : Prop :=
  (a = none ∧ cap = 0 ∧ ρ id = none) ∨ ∃ B o cs, ρ id = some (B, o) ∧ a = some ⟨B, o, none⟩ ∧ Cells w B cs ∧ o + cap * sz ≤ cs.length

theorem HdrW.weak {w : World} {ρ : Pl} {id sz : Nat} {a : Option Addr} {cap : Nat} (h : HdrW w ρ id sz a cap) : HdrAt w ρ id sz 0 a cap := by
  rcases h with h | ⟨B, o, cs, h1, h2, h3, h4⟩
  · exact .inl h.2.1
  · exact .inr ⟨B, o, cs, h1, by simpa using h2, h3, by simpa using h4⟩

/-- the indexes on the way are in range -/
def PathOk : Path → Ty → Prop
  | [], _ => True
  | .fst :: p, .pair a _ => PathOk p a
  | .snd :: p, .pair _ b => PathOk p b
  | .idx i :: p, .arr n t => i < n ∧ PathOk p t
  | _ :: _, _ => False

/-- an abstract value, as cells -/
def ATR (w : World) (I : Nat → Prop) (m : MF) (ρ : Pl) : AT → List Value → Prop
  | .leaf t x, vs => RepC w I t x vs
  | .whole id st _, vs => OneR vs ∧ RefOk m id st ∧ ∀ b, m id = some b → b.st = st → ∀ u n, b.c.arr = some (u, n) →
      ∃ a cap, vs = [.slice a n cap] ∧ n ≤ cap ∧ HdrW w ρ id u.size a cap
  | .piece id st off len _, vs => OneR vs ∧ RefOk m id st ∧ ∀ b, m id = some b → b.st = st → ∀ u n, b.c.arr = some (u, n) →
      ∃ a cap, vs = [.slice a len cap] ∧ len ≤ cap ∧ off + len ≤ n ∧ HdrAt w ρ id u.size off a cap
  | .nil _, vs => vs = [.slice none 0 0]
  | .nil0, vs => vs = [.slice none 0 0]
  | .pair l r, vs => ∃ v1 v2, vs = v1 ++ v2 ∧ ATR w I m ρ l v1 ∧ ATR w I m ρ r v2
  | .undef n, vs => vs.length = n ∧ ∀ v ∈ vs, v.oneCell' = true
  | .vptr id st p, vs => OneR vs ∧ RefOk m id st ∧ ∀ b, m id = some b → b.st = st → ∀ t a, b.c = .var t a →
      PathOk p t ∧ ∃ B, ρ id = some (B, 0) ∧ vs = [.pointer (some ⟨B, t.off p, none⟩)]
  | .ptr id st row p, vs => OneR vs ∧ RefOk m id st ∧ ∀ b, m id = some b → b.st = st → ∀ t n, b.c.arr = some (t, n) →
      PathOk p t ∧ row < n ∧ ∃ B o, ρ id = some (B, o) ∧ vs = [.pointer (some ⟨B, o + row * t.size + t.off p, none⟩)]
  | .nest id st rs row p u, vs => vs.length = u.size ∧ (∀ v ∈ vs, v.oneCell' = true) ∧ RefOk m id st ∧ ∀ b, m id = some b → b.st = st → ∀ r t xs, b.c = .deep r t xs → rs ≤ r ∧ (r = rs →
      t.at p = some u ∧ p.pairs = true ∧ row < xs.length ∧ ∃ B o, ρ id = some (B, o) ∧ ∀ j, j < u.size → w.cell? ⟨B, o + row * t.size + t.off p + j, none⟩ = vs[j]?)
  | .fn f c, vs => ∃ caps : Array Value, vs = [.func (.func f) #[] caps] ∧ ATR w I m ρ c caps.toList
  | .tup l r, vs => ∃ v vs', vs = v :: vs' ∧ ATR w I m ρ l [v] ∧ ATR w I m ρ r vs'
  | .tend, vs => vs = []
  | .when_ _ _, _ => False
  | .any, _ => False

def ValR (w : World) (I : Nat → Prop) (m : MF) (ρ : Pl) (a : AT) (v : Value) : Prop :=
  if a.isAgg then ∃ arr, v = .agg arr ∧ ATR w I m ρ a arr.toList else ATR w I m ρ a [v]

def TupR (w : World) (I : Nat → Prop) (m : MF) (ρ : Pl) : AT → List Value → Prop
  | .tup l r, vs => ∃ v vs', vs = v :: vs' ∧ ValR w I m ρ l v ∧ TupR w I m ρ r vs'
  | .tend, vs => vs = []
  | _, _ => False

/-- a slot's value -/
def SlotR (w : World) (I : Nat → Prop) (m : MF) (ρ : Pl) (a : AT) (v : Value) : Prop :=
  match a with
  | .tup l r => ∃ arr, v = .tuple arr ∧ TupR w I m ρ (.tup l r) arr.toList
  | .tend => v = .tuple #[]
  | .any => True
  | .when_ _ _ => True
  | a => ValR w I m ρ a v

def TagsHold (tmps : Array Value) (T : Tags) : Prop := ∀ t ∈ T, tmps.getD t.1 Go.undef = .bool t.2

def EnvR (w : World) (I : Nat → Prop) (m : MF) (ρ : Pl) (tmps : Array Value) (a : AT) (v : Value) : Prop :=
  match a with
  | .when_ T b => (TagsHold tmps T → SlotR w I m ρ b v) ∧ (¬ TagsHold tmps T → v = Go.undef)
  | a => SlotR w I m ρ a v

/-- has the shape of a type -/
def Typed : AT → Ty → Prop
  | .leaf t _, u => t = u
  | .whole _ _ t, u => u = .lst t
  | .piece _ _ _ _ t, u => u = .lst t
  | .nil t, u => u = .lst t
  | .pair l r, u => ∃ a b, u = .pair a b ∧ Typed l a ∧ Typed r b
  | .undef n, u => u.size = n ∧ u.isAgg = false
  | .nest _ _ _ _ _ t, u => t = u
  | _, _ => False

def BlkR (w : World) (I : Nat → Prop) (m : MF) (ρ : Pl) (id : Nat) (b : Blk) : Prop :=
  match b.c with
  | .dead => True
  | .var t a => Typed a t ∧ ∃ B cs, ρ id = some (B, 0) ∧ Cells w B cs ∧ ATR w I m ρ a cs ∧ (b.fz = true ↔ I B)
  | .rows t xs => True ∧ ((xs = [] ∧ ρ id = none) ∨
      ∃ B o cs, ρ id = some (B, o) ∧ Cells w B cs ∧ o + xs.length * t.size ≤ cs.length ∧ RowsAt w B o t.size (RepC w I t) xs ∧ (b.fz = true ↔ I B))
  | .deep _ t xs => b.fz = false ∧ ((xs = [] ∧ ρ id = none ∧ ρ.d id = []) ∨
      ∃ B o cs, ρ id = some (B, o) ∧ Cells w B cs ∧ o + xs.length * t.size ≤ cs.length ∧ RowsD w B t.size (RepD w I t) o xs (ρ.d id) ∧ ¬ I B)

def Blk.isDeep (b : Blk) : Prop := match b.c with | .deep _ _ _ => True | _ => False

def Blk.live (b : Blk) : Prop := match b.c with | .dead => False | _ => True

/-- what stood when the call began: the world, what is written no more, what is the call's own to write -/
structure Fix where
  w0 : World
  I0 : Nat → Prop
  X0 : Nat → Prop

structure MemR (F : Fix) (m : MF) (w : World) (I : Nat → Prop) (ρ : Pl) : Prop where
  blk : ∀ id b, m id = some b → BlkR w I m ρ id b
  inj : ∀ id id' b b' B o o', m id = some b → m id' = some b' → b.live → b'.live → ρ id = some (B, o) → ρ id' = some (B, o') → id = id'
  imm : ∀ B, I B → B < w.heap.size
  imm0 : ∀ B, F.I0 B → I B
  immN : ∀ B, I B → F.I0 B ∨ F.w0.heap.size ≤ B ∨ F.X0 B
  mine : ∀ id b B o, m id = some b → b.live → ρ id = some (B, o) → F.w0.heap.size ≤ B ∨ F.X0 B
  /-- the blocks inside a deep one are ours, and nobody else's -/
  dp : ∀ id b, m id = some b → b.isDeep → (ρ.d id).Nodup ∧ ∀ B ∈ ρ.d id, (F.w0.heap.size ≤ B ∨ F.X0 B) ∧ (∀ id' b' o, m id' = some b' → b'.live → ρ id' ≠ some (B, o)) ∧
    ∀ id' b', m id' = some b' → b'.isDeep → B ∈ ρ.d id' → id' = id
  frame : ∀ B, B < F.w0.heap.size → ¬ F.X0 B → w.heap[B]? = F.w0.heap[B]?
  size : F.w0.heap.size ≤ w.heap.size
  os : w.os = F.w0.os
  tape : w.tape = F.w0.tape
  output : w.output = F.w0.output

def SameSh : BC → BC → Prop
  | .var t _, .var u _ => t = u
  | .rows t xs, .rows u ys => t = u ∧ xs.length = ys.length
  | .deep rs t xs, .deep rs' u ys => rs ≤ rs' ∧ t = u ∧ xs.length = ys.length
  | .dead, .dead => True
  | _, _ => False

structure Keeps (m m' : MF) (ρ ρ' : Pl) (w w' : World) : Prop where
  keep : ∀ id b, m id = some b → ∃ b', m' id = some b' ∧ (b.st < b'.st ∨ (b.st = b'.st ∧ SameSh b.c b'.c ∧ ρ' id = ρ id ∧
    (b.live → ∀ B o, ρ id = some (B, o) → ∀ cs, Cells w B cs → ∃ cs', Cells w' B cs' ∧ cs.length ≤ cs'.length)))
  /-- while a deep block's stamps stand, so do its rows' cells -/
  nest : ∀ id b b' rs t u xs ys, m id = some b → m' id = some b' → b.st = b'.st → b.c = .deep rs t xs → b'.c = .deep rs u ys → ∀ B o, ρ id = some (B, o) → w'.heap[B]? = w.heap[B]?

theorem live_of_arr {b : Blk} {x : Ty × Nat} (h : b.c.arr = some x) : b.live := by
  unfold Blk.live; cases hc : b.c <;> simp_all [BC.arr]

theorem SameSh.arr {c c' : BC} (h : SameSh c c') : c.arr = c'.arr := by
  cases c <;> cases c' <;> simp_all [SameSh, BC.arr]

theorem RefOk.mono {m m' : MF} {ρ ρ' : Pl} {w w' : World} (hk : Keeps m m' ρ ρ' w w') {id st : Nat} (h : RefOk m id st) : RefOk m' id st := by
  obtain ⟨b, hb, hs⟩ := h
  obtain ⟨b', hb', h⟩ := hk.keep id b hb
  exact ⟨b', hb', by rcases h with h | h <;> omega⟩

/-- a reference that is current behind was current ahead -/
theorem Keeps.back {m m' : MF} {ρ ρ' : Pl} {w w' : World} (hk : Keeps m m' ρ ρ' w w') {id st : Nat} (h : RefOk m id st) {b' : Blk} (hb' : m' id = some b') (hs : b'.st = st) :
    ∃ b, m id = some b ∧ b.st = st ∧ SameSh b.c b'.c ∧ ρ' id = ρ id ∧ (b.live → ∀ B o, ρ id = some (B, o) → ∀ cs, Cells w B cs → ∃ cs', Cells w' B cs' ∧ cs.length ≤ cs'.length) := by
  obtain ⟨b, hb, hle⟩ := h
  obtain ⟨b'', hb'', h⟩ := hk.keep id b hb
  rw [hb'] at hb''
  cases hb''
  rcases h with h | ⟨h1, h2, h3, h4⟩
  · omega
  · exact ⟨b, hb, by omega, h2, h3, h4⟩

theorem HdrAt.mono {w w' : World} {ρ ρ' : Pl} {id sz off : Nat} {a : Option Addr} {cap : Nat} (h : HdrAt w ρ id sz off a cap) (hρ : ρ' id = ρ id)
    (hc : ∀ B o, ρ id = some (B, o) → ∀ cs, Cells w B cs → ∃ cs', Cells w' B cs' ∧ cs.length ≤ cs'.length) : HdrAt w' ρ' id sz off a cap := by
  rcases h with h | ⟨B, o, cs, h1, h2, h3, h4⟩
  · exact .inl h
  · obtain ⟨cs', h5, h6⟩ := hc B o h1 cs h3
    exact .inr ⟨B, o, cs', hρ.trans h1, h2, h5, by omega⟩

theorem HdrW.mono {w w' : World} {ρ ρ' : Pl} {id sz : Nat} {a : Option Addr} {cap : Nat} (h : HdrW w ρ id sz a cap) (hρ : ρ' id = ρ id)
    (hc : ∀ B o, ρ id = some (B, o) → ∀ cs, Cells w B cs → ∃ cs', Cells w' B cs' ∧ cs.length ≤ cs'.length) : HdrW w' ρ' id sz a cap := by
  rcases h with h | ⟨B, o, cs, h1, h2, h3, h4⟩
  · exact .inl ⟨h.1, h.2.1, hρ.trans h.2.2⟩
  · obtain ⟨cs', h5, h6⟩ := hc B o h1 cs h3
    exact .inr ⟨B, o, cs', hρ.trans h1, h2, h5, by omega⟩

theorem ATR.mono {w w' : World} {I I' : Nat → Prop} {m m' : MF} {ρ ρ' : Pl} (ha : Agree I I' w w') (hk : Keeps m m' ρ ρ' w w') :
    ∀ {a : AT} {vs : List Value}, ATR w I m ρ a vs → ATR w' I' m' ρ' a vs := by
  intro a
  induction a with
  | leaf t x => intro vs h; exact RepC.mono ha h
  | whole id st t =>
    intro vs h
    simp only [ATR] at h ⊢
    obtain ⟨h1, h2, h3⟩ := h
    refine ⟨h1, h2.mono hk, fun b' hb' hs u n hc => ?_⟩
    obtain ⟨b, hb, hs', hsh, hρ, hcs⟩ := hk.back h2 hb' hs
    rw [← hsh.arr] at hc
    obtain ⟨a, cap, e1, e2, e3⟩ := h3 b hb hs' u n hc
    exact ⟨a, cap, e1, e2, e3.mono hρ (hcs (live_of_arr hc))⟩
  | piece id st off len t =>
    intro vs h
    simp only [ATR] at h ⊢
    obtain ⟨h1, h2, h3⟩ := h
    refine ⟨h1, h2.mono hk, fun b' hb' hs u n hc => ?_⟩
    obtain ⟨b, hb, hs', hsh, hρ, hcs⟩ := hk.back h2 hb' hs
    rw [← hsh.arr] at hc
    obtain ⟨a, cap, e1, e2, e3, e4⟩ := h3 b hb hs' u n hc
    exact ⟨a, cap, e1, e2, e3, e4.mono hρ (hcs (live_of_arr hc))⟩
  | nil t => intro vs h; simpa only [ATR] using h
  | nil0 => intro vs h; simpa only [ATR] using h
  | pair l r ihl ihr =>
    intro vs h
    simp only [ATR] at h ⊢
    obtain ⟨v1, v2, e, h1, h2⟩ := h
    exact ⟨v1, v2, e, ihl h1, ihr h2⟩
  | undef n => intro vs h; simpa only [ATR] using h
  | vptr id st p =>
    intro vs h
    simp only [ATR] at h ⊢
    obtain ⟨h1, h2, h3⟩ := h
    refine ⟨h1, h2.mono hk, fun b' hb' hs t a hc => ?_⟩
    obtain ⟨b, hb, hs', hsh, hρ, hcs⟩ := hk.back h2 hb' hs
    cases hbc : b.c with
    | var t' a' =>
      simp only [hbc, hc, SameSh] at hsh
      obtain ⟨e0, B, e1, e2⟩ := h3 b hb hs' t' a' hbc
      subst hsh
      exact ⟨e0, B, hρ.trans e1, e2⟩
    | rows _ _ => simp [hbc, hc, SameSh] at hsh
    | deep _ _ _ => simp [hbc, hc, SameSh] at hsh
    | dead => simp [hbc, hc, SameSh] at hsh
  | ptr id st row p =>
    intro vs h
    simp only [ATR] at h ⊢
    obtain ⟨h1, h2, h3⟩ := h
    refine ⟨h1, h2.mono hk, fun b' hb' hs t n hc => ?_⟩
    obtain ⟨b, hb, hs', hsh, hρ, hcs⟩ := hk.back h2 hb' hs
    rw [← hsh.arr] at hc
    obtain ⟨ep, e0, B, o, e1, e2⟩ := h3 b hb hs' t n hc
    exact ⟨ep, e0, B, o, hρ.trans e1, e2⟩
  | nest id st rs row p u =>
    intro vs h
    simp only [ATR] at h ⊢
    obtain ⟨h1, h10, h2, h3⟩ := h
    refine ⟨h1, h10, h2.mono hk, fun b' hb' hs r t xs hc => ?_⟩
    obtain ⟨b, hb, hs', hsh, hρ, hcs⟩ := hk.back h2 hb' hs
    cases hbc : b.c with
    | deep r0 t0 ys =>
      simp only [hbc, hc, SameSh] at hsh
      obtain ⟨g1, g2, g3⟩ := hsh
      subst g2
      obtain ⟨k1, k2⟩ := h3 b hb hs' r0 t0 ys hbc
      refine ⟨by omega, fun hr => ?_⟩
      have hr0 : r0 = rs := by omega
      obtain ⟨q1, q2, q3, B, o, q4, q5⟩ := k2 hr0
      have hsame := hk.nest id b b' r0 t0 t0 ys xs hb hb' (by omega) hbc (by rw [hc, hr, hr0]) B o q4
      exact ⟨q1, q2, by omega, B, o, hρ.trans q4, fun j hj => (World.cell?_of_block (w := w) hsame).trans (q5 j hj)⟩
    | var _ _ => simp [hbc, hc, SameSh] at hsh
    | rows _ _ => simp [hbc, hc, SameSh] at hsh
    | dead => simp [hbc, hc, SameSh] at hsh
  | fn f c ih =>
    intro vs h
    simp only [ATR] at h ⊢
    obtain ⟨caps, e, h⟩ := h
    exact ⟨caps, e, ih h⟩
  | tup l r ihl ihr =>
    intro vs h
    simp only [ATR] at h ⊢
    obtain ⟨v, vs', e, h1, h2⟩ := h
    exact ⟨v, vs', e, ihl h1, ihr h2⟩
  | tend => intro vs h; simpa only [ATR] using h
  | when_ T a ih => intro vs h; simp only [ATR] at h
  | any => intro vs h; simp only [ATR] at h

theorem ValR.mono {w w' : World} {I I' : Nat → Prop} {m m' : MF} {ρ ρ' : Pl} (ha : Agree I I' w w') (hk : Keeps m m' ρ ρ' w w') {a : AT} {v : Value} (h : ValR w I m ρ a v) : ValR w' I' m' ρ' a v := by
  unfold ValR at *
  split
  · rename_i hh
    rw [if_pos hh] at h
    obtain ⟨arr, e, h⟩ := h
    exact ⟨arr, e, h.mono ha hk⟩
  · rename_i hh
    rw [if_neg hh] at h
    exact h.mono ha hk

theorem TupR.mono {w w' : World} {I I' : Nat → Prop} {m m' : MF} {ρ ρ' : Pl} (ha : Agree I I' w w') (hk : Keeps m m' ρ ρ' w w') :
    ∀ {a : AT} {vs : List Value}, TupR w I m ρ a vs → TupR w' I' m' ρ' a vs
  | .tup l r, vs, h => by
    simp only [TupR] at h ⊢
    obtain ⟨v, vs', e, h1, h2⟩ := h
    exact ⟨v, vs', e, h1.mono ha hk, h2.mono ha hk⟩
  | .tend, _, h => by simpa only [TupR] using h
  | .leaf _ _, _, h | .whole _ _ _, _, h | .piece _ _ _ _ _, _, h | .nil _, _, h | .nil0, _, h | .pair _ _, _, h | .undef _, _, h | .vptr _ _ _, _, h | .ptr _ _ _ _, _, h
  | .fn _ _, _, h | .when_ _ _, _, h | .any, _, h => by simp only [TupR] at h

theorem SlotR.mono {w w' : World} {I I' : Nat → Prop} {m m' : MF} {ρ ρ' : Pl} (ha : Agree I I' w w') (hk : Keeps m m' ρ ρ' w w') {a : AT} {v : Value} (h : SlotR w I m ρ a v) : SlotR w' I' m' ρ' a v := by
  unfold SlotR at *
  split
  · obtain ⟨arr, e, h⟩ := h
    exact ⟨arr, e, h.mono ha hk⟩
  · exact h
  · trivial
  · trivial
  · rename_i h1 h2 h3 h4
    cases a <;> first | exact absurd rfl (h1 _ _) | exact absurd rfl h2 | exact absurd rfl h3 | exact absurd rfl (h4 _ _) | exact ValR.mono ha hk h

theorem EnvR.mono {w w' : World} {I I' : Nat → Prop} {m m' : MF} {ρ ρ' : Pl} (ha : Agree I I' w w') (hk : Keeps m m' ρ ρ' w w') {tmps : Array Value} {a : AT} {v : Value} (h : EnvR w I m ρ tmps a v) : EnvR w' I' m' ρ' tmps a v := by
  cases a with
  | when_ T b => exact ⟨fun ht => (h.1 ht).mono ha hk, h.2⟩
  | _ => simp only [EnvR] at h ⊢; exact h.mono ha hk

/-! ## parts of values -/
theorem ArrR.split {α : Type} {R : α → List Value → Prop} {n : Nat} (hR : ∀ x vs, R x vs → vs.length = n) : ∀ {xs : List α} {vs : List Value} {i : Nat} {x : α}, ArrR R xs vs → xs[i]? = some x →
    ∃ pre mid post, vs = pre ++ mid ++ post ∧ pre.length = i * n ∧ R x mid ∧ ∀ y mid', R y mid' → ArrR R (xs.set i y) (pre ++ mid' ++ post)
  | [], _, _, _, _, hx => by simp at hx
  | z :: xs, vs, 0, x, ⟨v1, v2, h, h1, h2⟩, hx => by
    simp at hx
    subst hx
    exact ⟨[], v1, v2, by simpa using h, by simp, h1, fun y mid' hy => ⟨mid', v2, by simp, hy, h2⟩⟩
  | z :: xs, vs, i + 1, x, ⟨v1, v2, h, h1, h2⟩, hx => by
    simp at hx
    obtain ⟨pre, mid, post, e1, e2, e3, e4⟩ := ArrR.split hR h2 hx
    refine ⟨v1 ++ pre, mid, post, by rw [h, e1]; simp, by rw [List.length_append, hR _ _ h1, e2, Nat.add_mul]; omega, e3, fun y mid' hy => ?_⟩
    exact ⟨v1, pre ++ mid' ++ post, by simp, h1, e4 y mid' hy⟩

theorem OneR.length {vs : List Value} (h : OneR vs) : vs.length = 1 := by obtain ⟨v, rfl, _⟩ := h; rfl

section
variable {w : World} {I : Nat → Prop} {m : MF} {ρ : Pl}

theorem Typed.length : ∀ {a : AT} {t : Ty} {vs : List Value}, Typed a t → ATR w I m ρ a vs → vs.length = t.size := by
  intro a
  induction a with
  | leaf u x => intro t vs ht h; simp only [Typed] at ht; subst ht; exact RepC.length h
  | whole id st u => intro t vs ht h; simp only [Typed] at ht; subst ht; simp only [ATR] at h; simpa [Ty.size] using h.1.length
  | piece id st off len u => intro t vs ht h; simp only [Typed] at ht; subst ht; simp only [ATR] at h; simpa [Ty.size] using h.1.length
  | nil u => intro t vs ht h; simp only [Typed] at ht; subst ht; simp only [ATR] at h; subst h; rfl
  | pair l r ihl ihr =>
    intro t vs ht h
    simp only [Typed] at ht
    obtain ⟨a, b, rfl, h1, h2⟩ := ht
    simp only [ATR] at h
    obtain ⟨v1, v2, rfl, h3, h4⟩ := h
    simp [Ty.size, ihl h1 h3, ihr h2 h4]
  | undef n => intro t vs ht h; simp only [Typed] at ht; simp only [ATR] at h; omega
  | nest _ _ _ _ _ _ => intro t vs ht h; simp only [Typed] at ht; subst ht; simp only [ATR] at h; exact h.1
  | nil0 => intro t vs ht h; simp only [Typed] at ht
  | vptr _ _ _ => intro t vs ht h; simp only [Typed] at ht
  | ptr _ _ _ _ => intro t vs ht h; simp only [Typed] at ht
  | fn _ _ => intro t vs ht h; simp only [Typed] at ht
  | tup _ _ => intro t vs ht h; simp only [Typed] at ht
  | tend => intro t vs ht h; simp only [Typed] at ht
  | when_ _ _ => intro t vs ht h; simp only [Typed] at ht
  | any => intro t vs ht h; simp only [Typed] at ht

theorem ATR.oneCell : ∀ {a : AT} {t : Ty} {vs : List Value}, Typed a t → ATR w I m ρ a vs → ∀ v ∈ vs, v.oneCell' = true := by
  intro a
  induction a with
  | leaf u x => intro t vs _ h; exact RepC.oneCell h
  | whole id st u => intro t vs _ h; simp only [ATR] at h; obtain ⟨⟨v, rfl, hv⟩, _⟩ := h; simpa using hv
  | piece id st off len u => intro t vs _ h; simp only [ATR] at h; obtain ⟨⟨v, rfl, hv⟩, _⟩ := h; simpa using hv
  | nil u => intro t vs _ h; simp only [ATR] at h; subst h; simp [Value.oneCell']
  | pair l r ihl ihr =>
    intro t vs ht h
    simp only [Typed] at ht
    obtain ⟨a, b, rfl, h1, h2⟩ := ht
    simp only [ATR] at h
    obtain ⟨v1, v2, rfl, h3, h4⟩ := h
    intro v hv
    rcases List.mem_append.1 hv with h | h
    · exact ihl h1 h3 v h
    · exact ihr h2 h4 v h
  | undef n => intro t vs _ h; simp only [ATR] at h; exact h.2
  | nest _ _ _ _ _ _ => intro t vs _ h; simp only [ATR] at h; exact h.2.1
  | nil0 => intro t vs ht h; simp only [Typed] at ht
  | vptr _ _ _ => intro t vs ht h; simp only [Typed] at ht
  | ptr _ _ _ _ => intro t vs ht h; simp only [Typed] at ht
  | fn _ _ => intro t vs ht h; simp only [Typed] at ht
  | tup _ _ => intro t vs ht h; simp only [Typed] at ht
  | tend => intro t vs ht h; simp only [Typed] at ht
  | when_ _ _ => intro t vs ht h; simp only [Typed] at ht
  | any => intro t vs ht h; simp only [Typed] at ht

theorem Typed.isAgg {a : AT} {t : Ty} (h : Typed a t) : a.isAgg = t.isAgg := by
  cases a <;> simp only [Typed] at h <;> first
    | (subst h; rfl)
    | (obtain ⟨_, _, rfl, _⟩ := h; rfl)
    | (simp [AT.isAgg, h.2])
    | exact h.elim

theorem DV.as_some {d : DV} {t : Ty} {x : t.den} (h : d.as t = some x) : ∃ e : d.t = t, e ▸ d.x = x := by
  unfold DV.as at h
  split at h
  · rename_i e
    exact ⟨e, by simpa using h⟩
  · simp at h

theorem pure_ok : ∀ {a : AT} {d : DV} {vs : List Value}, a.pure = some d → ATR w I m ρ a vs → RepC w I d.t d.x vs := by
  intro a
  induction a with
  | leaf t x => intro d vs h hr; simp only [AT.pure, Option.some.injEq] at h; subst h; exact hr
  | nil t =>
    intro d vs h hr
    simp only [AT.pure, Option.some.injEq] at h
    subst h
    simp only [ATR] at hr
    subst hr
    simp only [RepC]
    exact ⟨none, 0, rfl, by simp, .inl trivial⟩
  | pair l r ihl ihr =>
    intro d vs h hr
    simp only [AT.pure] at h
    split at h
    · rename_i x y hx hy
      simp only [Option.some.injEq] at h
      subst h
      simp only [ATR] at hr
      obtain ⟨v1, v2, rfl, h1, h2⟩ := hr
      simp only [RepC]
      exact ⟨v1, v2, rfl, ihl hx h1, ihr hy h2⟩
    · simp at h
  | _ => intro d vs h hr; simp [AT.pure] at h

/-- a part of a value: its cells, and what it may be put anew by -/
theorem get_ok : ∀ (p : Path) {a b : AT} {t u : Ty} {vs : List Value}, Typed a t → ATR w I m ρ a vs → PathOk p t → a.get p = some b → t.at p = some u →
    Typed b u ∧ ∃ pre mid post, vs = pre ++ mid ++ post ∧ pre.length = t.off p ∧ mid.length = u.size ∧ ATR w I m ρ b mid
  | [], a, b, t, u, vs, ht, h, _, hg, hu => by
    simp only [AT.get, Option.some.injEq] at hg
    simp only [Ty.at, Option.some.injEq] at hu
    subst hg hu
    exact ⟨ht, [], vs, [], by simp, by simp [Ty.off], ht.length h, h⟩
  | .fst :: p, a, b, t, u, vs, ht, h, hp, hg, hu => by
    cases a <;> try (simp [AT.get] at hg; done)
    case pair l r =>
      simp only [Typed] at ht
      obtain ⟨ta, tb, rfl, h1, h2⟩ := ht
      simp only [ATR] at h
      obtain ⟨v1, v2, rfl, h3, h4⟩ := h
      simp only [AT.get] at hg
      simp only [Ty.at] at hu
      obtain ⟨e0, pre, mid, post, e1, e2, e3, e4⟩ := get_ok p h1 h3 hp hg hu
      exact ⟨e0, pre, mid, post ++ v2, by rw [e1]; simp, by simpa [Ty.off] using e2, e3, e4⟩
    case leaf s x =>
      simp only [Typed] at ht
      subst ht
      cases s <;> try (simp [AT.get] at hg; done)
      simp only [ATR, RepC] at h
      obtain ⟨v1, v2, rfl, h3, h4⟩ := h
      simp only [AT.get] at hg
      simp only [Ty.at] at hu
      obtain ⟨e0, pre, mid, post, e1, e2, e3, e4⟩ := get_ok p (a := .leaf _ x.1) rfl h3 hp hg hu
      exact ⟨e0, pre, mid, post ++ v2, by rw [e1]; simp, by simpa [Ty.off] using e2, e3, e4⟩
  | .snd :: p, a, b, t, u, vs, ht, h, hp, hg, hu => by
    cases a <;> try (simp [AT.get] at hg; done)
    case pair l r =>
      simp only [Typed] at ht
      obtain ⟨ta, tb, rfl, h1, h2⟩ := ht
      simp only [ATR] at h
      obtain ⟨v1, v2, rfl, h3, h4⟩ := h
      simp only [AT.get] at hg
      simp only [Ty.at] at hu
      obtain ⟨e0, pre, mid, post, e1, e2, e3, e4⟩ := get_ok p h2 h4 hp hg hu
      exact ⟨e0, v1 ++ pre, mid, post, by rw [e1]; simp, by simp [Ty.off, h1.length h3, e2], e3, e4⟩
    case leaf s x =>
      simp only [Typed] at ht
      subst ht
      cases s <;> try (simp [AT.get] at hg; done)
      simp only [ATR, RepC] at h
      obtain ⟨v1, v2, rfl, h3, h4⟩ := h
      simp only [AT.get] at hg
      simp only [Ty.at] at hu
      obtain ⟨e0, pre, mid, post, e1, e2, e3, e4⟩ := get_ok p (a := .leaf _ x.2) rfl h4 hp hg hu
      exact ⟨e0, v1 ++ pre, mid, post, by rw [e1]; simp, by simp [Ty.off, RepC.length h3, e2], e3, e4⟩
  | .idx i :: p, a, b, t, u, vs, ht, h, hp, hg, hu => by
    cases a <;> try (simp [AT.get] at hg; done)
    case leaf s xs =>
      simp only [Typed] at ht
      subst ht
      cases s <;> try (simp [AT.get] at hg; done)
      rename_i n s
      simp only [ATR, RepC] at h
      obtain ⟨hn, h⟩ := h
      simp only [AT.get] at hg
      simp only [Ty.at] at hu
      obtain ⟨hi, hp⟩ := hp
      have hx : xs[i]? = some (xs.getD i s.dflt) := by
        rw [List.getD_eq_getElem?_getD]
        rw [List.getElem?_eq_getElem (by omega)]
        rfl
      obtain ⟨pre0, mid0, post0, e1, e2, e3, _⟩ := ArrR.split (fun x vs h => RepC.length h) h hx
      obtain ⟨f0, pre, mid, post, f1, f2, f3, f4⟩ := get_ok p (a := .leaf s (xs.getD i s.dflt)) rfl e3 hp hg hu
      exact ⟨f0, pre0 ++ pre, mid, post ++ post0, by rw [e1, f1]; simp, by simp [Ty.off, e2, f2], f3, f4⟩

theorem append3_inj {α : Type} {a b c a' b' c' : List α} (h : a ++ b ++ c = a' ++ b' ++ c') (h1 : a.length = a'.length) (h2 : b.length = b'.length) : a = a' ∧ b = b' ∧ c = c' := by
  have e := List.append_inj h (by simp; omega)
  have e2 := List.append_inj e.1 h1
  exact ⟨e2.1, e2.2, e.2⟩

/-- a part put anew -/
theorem set_ok : ∀ (p : Path) {a a' v : AT} {t u : Ty} {vs mid' : List Value}, Typed a t → ATR w I m ρ a vs → PathOk p t → AT.set p a v = some a' → t.at p = some u → Typed v u → ATR w I m ρ v mid' →
    Typed a' t ∧ ∃ pre mid post, vs = pre ++ mid ++ post ∧ pre.length = t.off p ∧ mid.length = u.size ∧ ATR w I m ρ a' (pre ++ mid' ++ post)
  | [], a, a', v, t, u, vs, mid', ht, h, _, hg, hu, hv, hm => by
    simp only [AT.set, Option.some.injEq] at hg
    simp only [Ty.at, Option.some.injEq] at hu
    subst hg hu
    exact ⟨hv, [], vs, [], by simp, by simp [Ty.off], ht.length h, by simpa using hm⟩
  | .fst :: p, a, a', v, t, u, vs, mid', ht, h, hp, hg, hu, hv, hm => by
    cases a <;> try (simp [AT.set] at hg; done)
    case pair l r =>
      simp only [Typed] at ht
      obtain ⟨ta, tb, rfl, h1, h2⟩ := ht
      simp only [ATR] at h
      obtain ⟨v1, v2, rfl, h3, h4⟩ := h
      simp only [AT.set, Option.map_eq_some_iff] at hg
      obtain ⟨l', hl, rfl⟩ := hg
      simp only [Ty.at] at hu
      obtain ⟨e0, pre, mid, post, e1, e2, e3, e4⟩ := set_ok p h1 h3 hp hl hu hv hm
      refine ⟨⟨ta, tb, rfl, e0, h2⟩, pre, mid, post ++ v2, by rw [e1]; simp, by simpa [Ty.off] using e2, e3, ?_⟩
      simp only [ATR]
      exact ⟨pre ++ mid' ++ post, v2, by simp, e4, h4⟩
    case leaf s x =>
      simp only [Typed] at ht
      subst ht
      cases s <;> try (simp [AT.set] at hg; done)
      rename_i ta tb
      simp only [ATR, RepC] at h
      obtain ⟨v1, v2, rfl, h3, h4⟩ := h
      simp only [AT.set, Option.map_eq_some_iff] at hg
      obtain ⟨l', hl, rfl⟩ := hg
      simp only [Ty.at] at hu
      obtain ⟨e0, pre, mid, post, e1, e2, e3, e4⟩ := set_ok p (a := .leaf _ x.1) rfl h3 hp hl hu hv hm
      refine ⟨⟨ta, tb, rfl, e0, rfl⟩, pre, mid, post ++ v2, by rw [e1]; simp, by simpa [Ty.off] using e2, e3, ?_⟩
      simp only [ATR]
      exact ⟨pre ++ mid' ++ post, v2, by simp, e4, h4⟩
  | .snd :: p, a, a', v, t, u, vs, mid', ht, h, hp, hg, hu, hv, hm => by
    cases a <;> try (simp [AT.set] at hg; done)
    case pair l r =>
      simp only [Typed] at ht
      obtain ⟨ta, tb, rfl, h1, h2⟩ := ht
      simp only [ATR] at h
      obtain ⟨v1, v2, rfl, h3, h4⟩ := h
      simp only [AT.set, Option.map_eq_some_iff] at hg
      obtain ⟨l', hl, rfl⟩ := hg
      simp only [Ty.at] at hu
      obtain ⟨e0, pre, mid, post, e1, e2, e3, e4⟩ := set_ok p h2 h4 hp hl hu hv hm
      refine ⟨⟨ta, tb, rfl, h1, e0⟩, v1 ++ pre, mid, post, by rw [e1]; simp, by simp [Ty.off, h1.length h3, e2], e3, ?_⟩
      simp only [ATR]
      exact ⟨v1, pre ++ mid' ++ post, by simp, h3, e4⟩
    case leaf s x =>
      simp only [Typed] at ht
      subst ht
      cases s <;> try (simp [AT.set] at hg; done)
      rename_i ta tb
      simp only [ATR, RepC] at h
      obtain ⟨v1, v2, rfl, h3, h4⟩ := h
      simp only [AT.set, Option.map_eq_some_iff] at hg
      obtain ⟨l', hl, rfl⟩ := hg
      simp only [Ty.at] at hu
      obtain ⟨e0, pre, mid, post, e1, e2, e3, e4⟩ := set_ok p (a := .leaf _ x.2) rfl h4 hp hl hu hv hm
      refine ⟨⟨ta, tb, rfl, rfl, e0⟩, v1 ++ pre, mid, post, by rw [e1]; simp, by simp [Ty.off, RepC.length h3, e2], e3, ?_⟩
      simp only [ATR]
      exact ⟨v1, pre ++ mid' ++ post, by simp, h3, e4⟩
  | .idx i :: p, a, a', v, t, u, vs, mid', ht, h, hp, hg, hu, hv, hm => by
    cases a <;> try (simp [AT.set] at hg; done)
    case leaf s xs =>
      simp only [Typed] at ht
      subst ht
      cases s <;> try (simp [AT.set] at hg; done)
      rename_i n s
      simp only [ATR, RepC] at h
      obtain ⟨hn, h⟩ := h
      simp only [AT.set] at hg
      simp only [Ty.at] at hu
      obtain ⟨hi, hp⟩ := hp
      have hx : xs[i]? = some (xs.getD i s.dflt) := by
        rw [List.getD_eq_getElem?_getD]
        rw [List.getElem?_eq_getElem (by omega)]
        rfl
      split at hg
      · rename_i d hd
        obtain ⟨y, hy, rfl⟩ := Option.map_eq_some_iff.1 hg
        obtain ⟨b, hb, hbp⟩ := Option.bind_eq_some_iff.1 hd
        obtain ⟨pre0, mid0, post0, e1, e2, e3, e4⟩ := ArrR.split (fun x vs h => RepC.length h) h hx
        obtain ⟨f0, pre, mid, post, f1, f2, f3, f4⟩ := set_ok p (a := .leaf s (xs.getD i s.dflt)) rfl e3 hp hb hu hv hm
        have f5 := pure_ok hbp f4
        obtain ⟨hdt, hdx⟩ := DV.as_some hy
        refine ⟨rfl, pre0 ++ pre, mid, post ++ post0, by rw [e1, f1]; simp, by simp [Ty.off, e2, f2], f3, ?_⟩
        simp only [ATR, RepC]
        refine ⟨by simpa using hn, ?_⟩
        have : RepC w I s y (pre ++ mid' ++ post) := by
          cases d with
          | mk dt dx =>
            simp only at hdt
            subst hdt
            subst hdx
            exact f5
        have := e4 y _ this
        simpa [List.append_assoc] using this
      · simp at hg

end

end Go.Ab
namespace Go.Ab

/-! ## the program's types -/
def zcells : Ty → List Value
  | .unit => []
  | .bool => [.bool false]
  | .int k => [.int k 0]
  | .str => [.string ⟨#[]⟩]
  | .lst _ => [.slice none 0 0]
  | .own _ => [.slice none 0 0]
  | .pair a b => zcells a ++ zcells b
  | .arr n t => (List.replicate n (zcells t)).flatten
  | .ref _ => [.pointer none]

def packV (t : Ty) (cs : List Value) : Value := if t.isAgg then .agg cs.toArray else cs.headD Go.undef

structure InfoOk (P : Program) (t : Ty) (T : TypeId) : Prop where
  info : ∃ i, P.info? T = some i ∧ i.size = t.size ∧ i.zero = some (packV t (zcells t)) ∧ i.bytes ≤ 4096

/-- the type of a program's number; the fields of a struct from a place on -/
def TO (P : Program) : Ty → (TypeId → Prop) × (List Field → Nat → Prop)
  | .unit => (fun T => InfoOk P .unit T ∧ ∃ fs, P.underlying T = some (.struct fs) ∧ fs.toList = [], fun fs _ => fs = [])
  | .bool => (fun T => InfoOk P .bool T ∧ P.underlying T = some .bool, fun _ _ => False)
  | .int k => (fun T => InfoOk P (.int k) T ∧ P.underlying T = some (.int k), fun _ _ => False)
  | .str => (fun T => InfoOk P .str T ∧ P.underlying T = some .string, fun _ _ => False)
  | .lst t => (fun T => InfoOk P (.lst t) T ∧ ∃ E, P.underlying T = some (.slice E) ∧ 0 < t.size ∧ (TO P t).1 E, fun _ _ => False)
  | .own _ => (fun _ => False, fun _ _ => False)
  | .pair a b => (fun T => InfoOk P (.pair a b) T ∧ ∃ fs, P.underlying T = some (.struct fs) ∧
        ∃ f l, fs.toList = f :: l ∧ f.offset = 0 ∧ (TO P a).1 f.type ∧ (TO P b).2 l a.size,
      fun fs off => ∃ f l, fs = f :: l ∧ f.offset = off ∧ (TO P a).1 f.type ∧ (TO P b).2 l (off + a.size))
  | .arr n t => (fun T => InfoOk P (.arr n t) T ∧ ∃ E, P.underlying T = some (.array n E) ∧ 1 < n ∧ (∃ k, t = .int k) ∧ (TO P t).1 E, fun _ _ => False)
  | .ref t => (fun T => InfoOk P (.ref t) T ∧ ∃ E, P.underlying T = some (.pointer E), fun _ _ => False)

def TyOk (P : Program) (t : Ty) (T : TypeId) : Prop := (TO P t).1 T
def FieldsOk (P : Program) (t : Ty) (fs : List Field) (off : Nat) : Prop := (TO P t).2 fs off

theorem TyOk.info {P : Program} {t : Ty} {T : TypeId} (h : TyOk P t T) : InfoOk P t T := by
  unfold TyOk at h
  cases t <;> simp only [TO] at h <;> first | exact h.1 | exact h.elim

/-- a field by its number -/
theorem FieldsOk.field {P : Program} : ∀ (n : Nat) {t u : Ty} {fs : List Field} {off : Nat}, FieldsOk P t fs off → t.at (fpath n) = some u →
    ∃ f, fs[n]? = some f ∧ f.offset = off + t.off (fpath n) ∧ TyOk P u f.type
  | n, t, u, fs, off, h, hu => by
    unfold FieldsOk at h
    cases t <;> simp only [TO] at h <;> try exact h.elim
    case unit => cases n <;> simp [fpath, Ty.at] at hu
    case pair a b =>
      obtain ⟨f, l, rfl, h1, h2, h3⟩ := h
      cases n with
      | zero =>
        simp only [fpath, Ty.at, Option.some.injEq] at hu
        subst hu
        exact ⟨f, rfl, by simp [fpath, Ty.off, h1], h2⟩
      | succ n =>
        simp only [fpath, Ty.at] at hu
        obtain ⟨g, e1, e2, e3⟩ := FieldsOk.field n (t := b) h3 hu
        exact ⟨g, by simpa using e1, by simp [fpath, Ty.off, e2]; omega, e3⟩

theorem TyOk.field {P : Program} {t u : Ty} {T : TypeId} {n : Nat} (h : TyOk P t T) (hu : t.at (fpath n) = some u) :
    ∃ fs f, P.underlying T = some (.struct fs) ∧ fs[n]? = some f ∧ f.offset = t.off (fpath n) ∧ TyOk P u f.type := by
  unfold TyOk at h
  cases t with
  | pair a b =>
    simp only [TO] at h
    obtain ⟨_, fs, h1, f, l, h2, h3, h4, h5⟩ := h
    obtain ⟨g, e1, e2, e3⟩ := FieldsOk.field (P := P) n (t := .pair a b) (fs := fs.toList) (off := 0) (by unfold FieldsOk; simp only [TO]; exact ⟨f, l, h2, h3, h4, by simpa using h5⟩) hu
    exact ⟨fs, g, h1, by simpa using e1, by simpa using e2, e3⟩
  | _ => cases n <;> simp [fpath, Ty.at] at hu

structure CxOk (P : Program) (C : Cx) : Prop where
  tab : ∀ T ti, find C.tab T = some ti → TyOk P ti.t T

theorem CxOk.ty {P : Program} {C : Cx} (h : CxOk P C) {T : Nat} {t : Ty} (ht : C.ty T = some t) : TyOk P t T := by
  unfold Cx.ty at ht
  cases hf : find C.tab T with
  | none => simp [hf] at ht
  | some ti => simp [hf] at ht; subst ht; exact h.tab T ti hf

theorem CxOk.el {P : Program} {C : Cx} (h : CxOk P C) {T : Nat} {t : Ty} (ht : C.el T = some t) : ∃ E, P.underlying T = some (.slice E) ∧ 0 < t.size ∧ TyOk P t E := by
  unfold Cx.el at ht
  split at ht
  · rename_i u e hf
    cases ht
    have := h.tab T _ hf
    unfold TyOk at this
    simp only [TO] at this
    exact this.2
  · simp at ht

section
variable {P : Program} {t : Ty} {T : TypeId} {w : World}

theorem InfoOk.run_sizeOf (h : InfoOk P t T) : (sizeOf T).run P w = .ok t.size w := by
  obtain ⟨i, h1, h2, _⟩ := h.info
  simp [sizeOf, typeInfo, h1, h2]

theorem InfoOk.run_zero (h : InfoOk P t T) : (zeroValue T).run P w = .ok (packV t (zcells t)) w := by
  obtain ⟨i, h1, h2, h3, _⟩ := h.info
  simp [zeroValue, typeInfo, h1, h3]

theorem TyOk.run_isAgg (h : TyOk P t T) : (isAgg T).run P w = .ok t.isAgg w := by
  unfold TyOk at h
  unfold isAgg
  cases t <;> simp only [TO] at h <;> first | exact h.elim | skip
  case unit => obtain ⟨_, fs, h, _⟩ := h; simp [run_underlying h, Ty.isAgg]
  case bool => simp [run_underlying h.2, Ty.isAgg]
  case int k => simp [run_underlying h.2, Ty.isAgg]
  case str => simp [run_underlying h.2, Ty.isAgg]
  case lst u => obtain ⟨_, E, h, _⟩ := h; simp [run_underlying h, Ty.isAgg]
  case pair a b => obtain ⟨_, fs, h, _⟩ := h; simp [run_underlying h, Ty.isAgg]
  case arr n u => obtain ⟨_, E, h, _⟩ := h; simp [run_underlying h, Ty.isAgg]
  case ref u => obtain ⟨_, E, h⟩ := h; simp [run_underlying h, Ty.isAgg]

theorem Ty.size_of_not_agg {P : Program} {t : Ty} {T : TypeId} (_ : TyOk P t T) (h : t.isAgg = false) : t.size = 1 := by
  cases t <;> simp [Ty.isAgg] at h <;> rfl

theorem TyOk.run_loadVar (h : TyOk P t T) {B o : Nat} {vs : List Value} (hl : vs.length = t.size) (hc : ∀ j, j < vs.length → w.cell? ⟨B, o + j, none⟩ = vs[j]?) :
    (loadVar T ⟨B, o, none⟩).run P w = .ok (packV t vs) w := by
  unfold loadVar
  rw [Sem.run_bind, h.run_isAgg]
  simp only [Result.andThen_ok]
  cases ha : t.isAgg with
  | true =>
    have hld := run_loadCells_at (P := P) hc
    rw [hl] at hld
    simp [h.info.run_sizeOf, hld, packV, ha]
  | false =>
    have hs := Ty.size_of_not_agg h ha
    obtain ⟨v, rfl⟩ : ∃ v, vs = [v] := by
      match vs, hl with
      | [v], _ => exact ⟨v, rfl⟩
      | [], hl => simp [hs] at hl
      | _ :: _ :: _, hl => simp [hs] at hl
    have := hc 0 (by simp)
    simp at this
    simp [packV, ha, this]

/-- a value of a type, and its cells -/
theorem cells_packV {vs : List Value} (h : TyOk P t T) (hl : vs.length = t.size) (h1 : ∀ v ∈ vs, v.oneCell' = true) : (packV t vs).cells = vs.toArray := by
  unfold packV
  cases ha : t.isAgg with
  | true => simp [Value.cells]
  | false =>
    have hs := Ty.size_of_not_agg h ha
    obtain ⟨v, rfl⟩ : ∃ v, vs = [v] := by
      match vs, hl with
      | [v], _ => exact ⟨v, rfl⟩
      | [], hl => simp [hs] at hl
      | _ :: _ :: _, hl => simp [hs] at hl
    have := h1 v (by simp)
    cases v <;> simp [Value.oneCell'] at this <;> simp [Value.cells]

end

section
variable {w : World} {I : Nat → Prop} {m : MF} {ρ : Pl}

/-- a typed value in a slot is its cells, packed -/
theorem ValR.pack {a : AT} {t : Ty} {v : Value} (ht : Typed a t) (h : ValR w I m ρ a v) : ∃ vs, v = packV t vs ∧ ATR w I m ρ a vs := by
  unfold ValR at h
  unfold packV
  rw [ht.isAgg] at h
  cases ha : t.isAgg with
  | true =>
    rw [if_pos ha] at h
    obtain ⟨arr, e, h⟩ := h
    exact ⟨arr.toList, by simp [e], h⟩
  | false =>
    simp [ha] at h
    exact ⟨[v], by simp, h⟩

theorem ValR.unpack {a : AT} {t : Ty} {vs : List Value} {P : Program} {T : TypeId} (ht : Typed a t) (hT : TyOk P t T) (h : ATR w I m ρ a vs) : ValR w I m ρ a (packV t vs) := by
  unfold ValR packV
  rw [ht.isAgg]
  cases ha : t.isAgg with
  | true => rw [if_pos rfl, if_pos rfl]; exact ⟨vs.toArray, rfl, by simpa using h⟩
  | false =>
    have hs := Ty.size_of_not_agg hT ha
    have hl := ht.length h
    obtain ⟨v, rfl⟩ : ∃ v, vs = [v] := by
      match vs, hl with
      | [v], _ => exact ⟨v, rfl⟩
      | [], hl => simp [hs] at hl
      | _ :: _ :: _, hl => simp [hs] at hl
    simpa using h

theorem slotR_val {a : AT} {v : Value} {t : Ty} (ht : Typed a t) : SlotR w I m ρ a v ↔ ValR w I m ρ a v := by
  cases a <;> simp only [Typed] at ht <;> first | exact Iff.rfl | exact ht.elim

theorem arr_zero (k : IntKind) : ∀ n, ArrR (fun (x : Int) (vs : List Value) => vs = [.int k x]) (List.replicate n 0) (List.replicate n [Value.int k 0]).flatten
  | 0 => by simp [ArrR]
  | n + 1 => ⟨[.int k 0], _, by simp only [List.replicate_succ, List.flatten_cons], rfl, arr_zero k n⟩

/-- zero values -/
theorem zeroAT_typed : ∀ {t : Ty} {T : TypeId} {P : Program}, TyOk P t T → Typed (zeroAT t) t ∧ ATR w I m ρ (zeroAT t) (zcells t) := by
  intro t
  have key : ∀ {P : Program}, ((∀ T, TyOk P t T → Typed (zeroAT t) t ∧ ATR w I m ρ (zeroAT t) (zcells t)) ∧ (∀ fs off, FieldsOk P t fs off → Typed (zeroAT t) t ∧ ATR w I m ρ (zeroAT t) (zcells t))) := by
    intro P
    induction t with
    | unit => exact ⟨fun _ _ => ⟨rfl, rfl⟩, fun _ _ _ => ⟨rfl, rfl⟩⟩
    | bool => exact ⟨fun _ _ => ⟨rfl, rfl⟩, fun _ _ _ => ⟨rfl, rfl⟩⟩
    | int k => exact ⟨fun _ _ => ⟨rfl, rfl⟩, fun _ _ _ => ⟨rfl, rfl⟩⟩
    | str => exact ⟨fun _ _ => ⟨rfl, rfl⟩, fun _ _ _ => ⟨rfl, rfl⟩⟩
    | lst u _ => exact ⟨fun _ _ => ⟨rfl, rfl⟩, fun _ _ _ => ⟨rfl, rfl⟩⟩
    | own u _ => exact ⟨fun _ h => by unfold TyOk at h; simp only [TO] at h, fun _ _ h => by unfold FieldsOk at h; simp only [TO] at h⟩
    | pair a b iha ihb =>
      refine ⟨fun T h => ?_, fun fs off h => ?_⟩
      · unfold TyOk at h
        simp only [TO] at h
        obtain ⟨_, fs, _, f, l, _, _, h1, h2⟩ := h
        exact ⟨⟨a, b, rfl, (iha.1 _ h1).1, (ihb.2 _ _ h2).1⟩, ⟨_, _, rfl, (iha.1 _ h1).2, (ihb.2 _ _ h2).2⟩⟩
      · unfold FieldsOk at h
        simp only [TO] at h
        obtain ⟨f, l, _, _, h1, h2⟩ := h
        exact ⟨⟨a, b, rfl, (iha.1 _ h1).1, (ihb.2 _ _ h2).1⟩, ⟨_, _, rfl, (iha.1 _ h1).2, (ihb.2 _ _ h2).2⟩⟩
    | arr n u ih =>
      refine ⟨fun T h => ⟨rfl, ?_⟩, fun _ _ h => by unfold FieldsOk at h; simp only [TO] at h⟩
      unfold TyOk at h
      simp only [TO] at h
      obtain ⟨_, E, _, _, ⟨k, rfl⟩, h⟩ := h
      simp only [zeroAT, ATR, RepC, zcells, Ty.dflt]
      exact ⟨by simp, arr_zero k n⟩
    | ref u _ => exact ⟨fun _ _ => ⟨⟨rfl, rfl⟩, rfl, by simp [zcells, Value.oneCell']⟩, fun _ _ _ => ⟨⟨rfl, rfl⟩, rfl, by simp [zcells, Value.oneCell']⟩⟩
  intro T P h
  exact key.1 T h
end

end Go.Ab
namespace Go.Ab

/-! ## memory, step by step -/
theorem find_cons {α : Type} (i : Nat) (b : α) (l : List (Nat × α)) (j : Nat) : find ((i, b) :: l) j = if i = j then some b else find l j := by
  simp only [find]
  cases h : Nat.beq i j with
  | true => simp [Nat.eq_of_beq_eq_true h]
  | false => simp [Nat.ne_of_beq_eq_false h]

theorem find_app {α : Type} (l l' : List (Nat × α)) (j : Nat) : find (app l l') j = match find l j with | some b => some b | none => find l' j := by
  induction l with
  | nil => rfl
  | cons x l ih =>
    obtain ⟨i, b⟩ := x
    simp only [app, find_cons]
    split
    · rfl
    · exact ih

/-- a block put -/
def MF.put (m : MF) (n : Nat) (b : Blk) : MF := fun i => if n = i then some b else m i

theorem find_put (n : Nat) (b : Blk) (mem : Mem) : find ((n, b) :: mem) = MF.put (find mem) n b := by
  funext i
  rw [find_cons]
  rfl

structure Done (F : Fix) (m m' : MF) (w w' : World) (I I' : Nat → Prop) (ρ ρ' : Pl) : Prop where
  agree : Agree I I' w w'
  keep : Keeps m m' ρ ρ' w w'
  mem : MemR F m' w' I' ρ'

theorem SameSh.refl : ∀ c : BC, SameSh c c
  | .var _ _ => rfl
  | .rows _ _ => ⟨rfl, rfl⟩
  | .deep _ _ _ => ⟨Nat.le_refl _, rfl, rfl⟩
  | .dead => trivial

theorem SameSh.trans {a b c : BC} (h : SameSh a b) (k : SameSh b c) : SameSh a c := by
  cases a <;> cases b <;> simp only [SameSh] at h <;> cases c <;> simp only [SameSh] at k ⊢
  · exact h.trans k
  · exact ⟨h.1.trans k.1, h.2.trans k.2⟩
  · exact ⟨Nat.le_trans h.1 k.1, h.2.1.trans k.2.1, h.2.2.trans k.2.2⟩

theorem deep_same {b b' : Blk} (h : SameSh b.c b'.c) (hl : b'.isDeep) : b.isDeep := by
  unfold Blk.isDeep at *
  cases hb : b.c <;> cases hb' : b'.c <;> simp_all [SameSh]

theorem deep_live {b : Blk} (h : b.isDeep) : b.live := by
  unfold Blk.isDeep Blk.live at *
  cases hb : b.c <;> simp_all

theorem live_same {b b' : Blk} (h : SameSh b.c b'.c) (hl : b.live) : b'.live := by
  unfold Blk.live at *
  cases hb : b.c <;> cases hb' : b'.c <;> simp_all [SameSh]

theorem Keeps.refl (m : MF) (ρ : Pl) (w : World) : Keeps m m ρ ρ w w :=
  ⟨fun _ b hb => ⟨b, hb, .inr ⟨rfl, SameSh.refl _, rfl, fun _ _ _ _ cs hc => ⟨cs, hc, Nat.le_refl _⟩⟩⟩, fun _ _ _ _ _ _ _ _ _ _ _ _ _ _ _ _ => rfl⟩

theorem Keeps.trans {m m' m'' : MF} {ρ ρ' ρ'' : Pl} {w w' w'' : World} (h : Keeps m m' ρ ρ' w w') (k : Keeps m' m'' ρ' ρ'' w' w'') : Keeps m m'' ρ ρ'' w w'' := by
  refine ⟨fun id b hb => ?_, fun id b b'' rs t u xs ys hb hb'' hst hc hc'' B o hB => ?_⟩
  case refine_2 =>
    obtain ⟨b', hb', h1⟩ := h.keep id b hb
    obtain ⟨b3, hb3, h2⟩ := k.keep id b' hb'
    rw [hb''] at hb3
    cases hb3
    have e1 : b.st = b'.st := by rcases h1 with h1 | h1 <;> rcases h2 with h2 | h2 <;> omega
    have e2 : b'.st = b''.st := by omega
    rcases h1 with h1 | ⟨_, s1, r1, _⟩
    · omega
    rcases h2 with h2 | ⟨_, s2, r2, _⟩
    · omega
    rw [hc] at s1
    rw [hc''] at s2
    cases hc' : b'.c with
    | deep r v zs =>
      rw [hc'] at s1 s2
      simp only [SameSh] at s1 s2
      have : r = rs := by omega
      subst this
      exact (k.nest id b' b'' r v u zs ys hb' hb'' e2 hc' hc'' B o (r1.trans hB)).trans (h.nest id b b' r t v xs zs hb hb' e1 hc hc' B o hB)
    | var _ _ => rw [hc'] at s1; simp [SameSh] at s1
    | rows _ _ => rw [hc'] at s1; simp [SameSh] at s1
    | dead => rw [hc'] at s1; simp [SameSh] at s1
  obtain ⟨b', hb', h1⟩ := h.keep id b hb
  obtain ⟨b'', hb'', h2⟩ := k.keep id b' hb'
  refine ⟨b'', hb'', ?_⟩
  rcases h1 with h1 | ⟨h1, h3, h4, h5⟩
  · rcases h2 with h2 | ⟨h2, _⟩
    · exact .inl (by omega)
    · exact .inl (by omega)
  · rcases h2 with h2 | ⟨h2, h6, h7, h8⟩
    · exact .inl (by omega)
    · refine .inr ⟨by omega, h3.trans h6, h7.trans h4, fun hl0 B o hB cs hc => ?_⟩
      obtain ⟨cs', hc', hl⟩ := h5 hl0 B o hB cs hc
      obtain ⟨cs'', hc'', hl'⟩ := h8 (live_same h3 hl0) B o (h4.trans hB) cs' hc'
      exact ⟨cs'', hc'', by omega⟩

theorem Done.refl {F : Fix} {m : MF} {w : World} {I : Nat → Prop} {ρ : Pl} (h : MemR F m w I ρ) : Done F m m w w I I ρ ρ := ⟨Agree.refl I w, Keeps.refl m ρ w, h⟩

theorem Done.trans {F : Fix} {m m' m'' : MF} {w w' w'' : World} {I I' I'' : Nat → Prop} {ρ ρ' ρ'' : Pl} (h : Done F m m' w w' I I' ρ ρ') (k : Done F m' m'' w' w'' I' I'' ρ' ρ'') :
    Done F m m'' w w'' I I'' ρ ρ'' := ⟨h.agree.trans k.agree, h.keep.trans k.keep, k.mem⟩

theorem live_of_rows {b : Blk} {t : Ty} {xs : List t.den} (h : b.c = .rows t xs) : b.live := by simp [Blk.live, h]
theorem live_of_var {b : Blk} {t : Ty} {a : AT} (h : b.c = .var t a) : b.live := by simp [Blk.live, h]

/-- a block's relation, carried to a later state -/
theorem BlkR.mono {w w' : World} {I I' : Nat → Prop} {m m' : MF} {ρ ρ' : Pl} (ha : Agree I I' w w') (hk : Keeps m m' ρ ρ' w w') {id : Nat} {b : Blk} (h : BlkR w I m ρ id b)
    (hρ : ρ' id = ρ id) (hρd : ρ'.d id = ρ.d id) (hc : ∀ B o, ρ id = some (B, o) → b.live → w'.heap[B]? = w.heap[B]? ∧ (I' B → I B))
    (hd : b.isDeep → ∀ B ∈ ρ.d id, w'.heap[B]? = w.heap[B]? ∧ (I' B → I B)) : BlkR w' I' m' ρ' id b := by
  unfold BlkR at *
  split
  · trivial
  · rename_i t a e
    simp only [e] at h
    obtain ⟨h1, B, cs, h2, h3, h4, h5⟩ := h
    obtain ⟨h6, h7⟩ := hc B 0 h2 (live_of_var e)
    exact ⟨h1, B, cs, hρ.trans h2, h3.of_same h6, h4.mono ha hk, h5.trans ⟨ha.sub B, h7⟩⟩
  · rename_i t xs e
    simp only [e] at h
    obtain ⟨h0, h⟩ := h
    refine ⟨h0, h.imp (fun ⟨h1, h2⟩ => ⟨h1, hρ.trans h2⟩) ?_⟩
    rintro ⟨B, o, cs, h2, h3, h4, h5, h6⟩
    obtain ⟨h7, h8⟩ := hc B o h2 (live_of_rows e)
    refine ⟨B, o, cs, hρ.trans h2, h3.of_same h7, h4, h5.mono (fun o => ?_) (fun x vs h => RepC.mono ha h), h6.trans ⟨ha.sub B, h8⟩⟩
    exact World.cell?_of_block (w := w) h7
  · rename_i rs t xs e
    simp only [e] at h
    obtain ⟨h0, h⟩ := h
    refine ⟨h0, h.imp (fun ⟨h1, h2, h3⟩ => ⟨h1, hρ.trans h2, hρd.trans h3⟩) ?_⟩
    rintro ⟨B, o, cs, h2, h3, h4, h5, h6⟩
    have hlive : b.live := by unfold Blk.live; rw [e]; trivial
    have hdeep : b.isDeep := by unfold Blk.isDeep; rw [e]; trivial
    obtain ⟨h7, h8⟩ := hc B o h2 hlive
    refine ⟨B, o, cs, hρ.trans h2, h3.of_same h7, h4, ?_, fun h => h6 (h8 h)⟩
    rw [hρd]
    exact h5.mono (fun o => World.cell?_of_block (w := w) h7) (fun x vs D hD h => RepD.mono ha (fun B hB => hd hdeep B (hD B hB)) h)

def Pl.put (ρ : Pl) (n : Nat) (p : Option (Nat × Nat)) : Pl := ⟨fun i => if n = i then p else ρ i, fun i => if n = i then [] else ρ.d i⟩

/-- the blocks inside a deep one are in the heap, and ours -/
theorem MemR.dlt {F : Fix} {m : MF} {w : World} {I : Nat → Prop} {ρ : Pl} (h : MemR F m w I ρ) {id : Nat} {b : Blk} (hm : m id = some b) (hd : b.isDeep) {B : Nat} (hB : B ∈ ρ.d id) : B < w.heap.size ∧ ¬ I B := by
  have hb := h.blk id b hm
  unfold Blk.isDeep at hd
  cases hc : b.c with
  | deep rs t xs =>
    simp only [BlkR, hc] at hb
    rcases hb.2 with ⟨_, _, h3⟩ | ⟨B0, o, cs, _, _, _, h4, _⟩
    · rw [h3] at hB; simp at hB
    · exact h4.blk B hB
  | var _ _ => simp [hc] at hd
  | rows _ _ => simp [hc] at hd
  | dead => simp [hc] at hd

/-- a new block -/
theorem Done.new {F : Fix} {m : MF} {w : World} {I : Nat → Prop} {ρ : Pl} (h : MemR F m w I ρ) (n : Nat) (b : Blk) (arr : Array Value) (e : TypeId) (fr : Nat × Nat) (hfr : ∀ j, j < arr.size → ¬ (fr.1 ≤ j ∧ j < fr.2))
    (hst : ∀ b0, m n = some b0 → b0.st < b.st)
    (hb : Keeps m (m.put n b) ρ (ρ.put n (some (w.heap.size, 0))) w (w.alloc (.cells arr e fr)) →
      Cells (w.alloc (.cells arr e fr)) w.heap.size arr.toList →
      BlkR (w.alloc (.cells arr e fr)) I (m.put n b) (ρ.put n (some (w.heap.size, 0))) n b) :
    Done F m (m.put n b) w (w.alloc (.cells arr e fr)) I I ρ (ρ.put n (some (w.heap.size, 0))) := by
  have hsame : ∀ B, B < w.heap.size → (w.alloc (.cells arr e fr)).heap[B]? = w.heap[B]? := fun B hB => heap_alloc_old w _ B hB
  have ha : Agree I I w (w.alloc (.cells arr e fr)) := ⟨fun _ h => h, fun B hB => hsame B (h.imm B hB)⟩
  have hlt : ∀ id b0 B o, m id = some b0 → b0.live → ρ id = some (B, o) → B < w.heap.size := by
    intro id b0 B o hm hl hρ
    have := h.blk id b0 hm
    unfold BlkR at this
    unfold Blk.live at hl
    cases hc : b0.c with
    | dead => simp [hc] at hl
    | var t a => simp only [hc] at this; obtain ⟨_, B', cs, e1, e2, _⟩ := this; rw [hρ] at e1; cases e1; exact e2.lt
    | rows t xs =>
      simp only [hc] at this
      rcases this.2 with ⟨_, e1⟩ | ⟨B', o', cs, e1, e2, _⟩
      · rw [hρ] at e1; cases e1
      · rw [hρ] at e1; cases e1; exact e2.lt
    | deep rs t xs =>
      simp only [hc] at this
      rcases this.2 with ⟨_, e1, _⟩ | ⟨B', o', cs, e1, e2, _⟩
      · rw [hρ] at e1; cases e1
      · rw [hρ] at e1; cases e1; exact e2.lt
  have hk : Keeps m (m.put n b) ρ (ρ.put n (some (w.heap.size, 0))) w (w.alloc (.cells arr e fr)) := by
    refine ⟨fun id b0 hm => ?_, fun id b0 b1 rs t u xs ys h0 h1 hs hc0 hc1 B o hB => hsame B (hlt id b0 B o h0 (by unfold Blk.live; rw [hc0]; trivial) hB)⟩
    by_cases hid : n = id
    · subst hid
      exact ⟨b, by simp [MF.put], .inl (hst b0 hm)⟩
    · refine ⟨b0, by simp [MF.put, hid, hm], .inr ⟨rfl, SameSh.refl _, by simp [Pl.put, hid], fun _ B o hρ cs hc => ⟨cs, hc.of_same (hsame B hc.lt), Nat.le_refl _⟩⟩⟩
  refine ⟨ha, hk, ?_⟩
  refine { blk := ?_, inj := ?_, imm := ?_, imm0 := h.imm0, immN := h.immN, mine := ?_, dp := ?_, frame := ?_, size := ?_, os := h.os, tape := h.tape, output := h.output }
  · intro id b0 hm
    by_cases hid : n = id
    · subst hid
      simp only [MF.put, if_true, Option.some.injEq] at hm
      subst hm
      exact hb hk (Cells.alloc w arr e fr hfr)
    · simp only [MF.put, hid, if_false] at hm
      exact (h.blk id b0 hm).mono ha hk (by simp [Pl.put, hid]) (by simp [Pl.put, hid]) (fun B o hρ hl => ⟨hsame B (hlt id b0 B o hm hl hρ), fun h => h⟩)
        fun hd B hB => ⟨hsame B (h.dlt hm hd hB).1, fun h => h⟩
  · intro id id' b1 b2 B o o' h1 h2 l1 l2 r1 r2
    simp only [MF.put, Pl.put] at h1 h2 r1 r2
    by_cases e1 : n = id
    · by_cases e2 : n = id'
      · omega
      · simp only [e1, e2, if_true, if_false, Option.some.injEq, Prod.mk.injEq] at *
        have := hlt id' b2 B o' (by simpa [e2] using h2) l2 (by simpa [e2] using r2)
        omega
    · by_cases e2 : n = id'
      · simp only [e1, e2, if_true, if_false, Option.some.injEq, Prod.mk.injEq] at *
        have := hlt id b1 B o (by simpa [e1] using h1) l1 (by simpa [e1] using r1)
        omega
      · simp only [e1, e2, if_false] at *
        exact h.inj id id' b1 b2 B o o' h1 h2 l1 l2 r1 r2
  · intro B hB
    have := h.imm B hB
    simp
    omega
  · intro id b0 B o hm hl hρ
    simp only [MF.put, Pl.put] at hm hρ
    by_cases hid : n = id
    · simp only [hid, if_true, Option.some.injEq, Prod.mk.injEq] at hρ
      exact .inl (by have := h.size; omega)
    · simp only [hid, if_false] at hm hρ
      exact h.mine id b0 B o hm hl hρ
  · intro id b0 hm hd
    by_cases hid : n = id
    · subst hid; simp [Pl.put]
    · simp only [MF.put, hid, if_false] at hm
      have he : (ρ.put n (some (w.heap.size, 0))).d id = ρ.d id := by simp [Pl.put, hid]
      rw [he]
      obtain ⟨k1, k2⟩ := h.dp id b0 hm hd
      refine ⟨k1, fun B hB => ?_⟩
      obtain ⟨q1, q2, q3⟩ := k2 B hB
      have hlt' := (h.dlt hm hd hB).1
      refine ⟨q1, fun id' b' o h1 h2 => ?_, fun id' b' h1 h2 h3 => ?_⟩
      · by_cases hid' : n = id'
        · simp only [Pl.put, hid', if_true, ne_eq, Option.some.injEq, Prod.mk.injEq, not_and]
          intro e; omega
        · simp only [MF.put, Pl.put, hid', if_false] at h1 ⊢
          exact q2 id' b' o h1 h2
      · by_cases hid' : n = id'
        · simp [Pl.put, hid'] at h3
        · simp only [MF.put, Pl.put, hid', if_false] at h1 h3
          exact q3 id' b' h1 h2 h3
  · intro B hB hX
    rw [hsame B (by have := h.size; omega)]
    exact h.frame B hB hX
  · have := h.size
    simp
    omega

/-- cells written in one of our blocks -/
theorem Done.write {F : Fix} {m : MF} {w w' : World} {I : Nat → Prop} {ρ : Pl} (h : MemR F m w I ρ) (n : Nat) (b b' : Blk) (B o : Nat) (cs cs' : List Value)
    (hm : m n = some b) (hl : b.live) (hst : b.st < b'.st ∨ (b.st = b'.st ∧ SameSh b.c b'.c)) (hρ : ρ n = some (B, o)) (hI : ¬ I B)
    (hcs : Cells w B cs) (hcs' : Cells w' B cs') (hlen : cs.length ≤ cs'.length)
    (hsame : ∀ k, k ≠ B → w'.heap[k]? = w.heap[k]?) (hsize : w'.heap.size = w.heap.size) (hos : w'.os = w.os) (htape : w'.tape = w.tape) (hout : w'.output = w.output)
    (hb : Agree I I w w' → Keeps m (m.put n b') ρ ρ w w' → BlkR w' I (m.put n b') ρ n b') (hnd : ¬ b'.isDeep := by simp [Blk.isDeep]) :
    Done F m (m.put n b') w w' I I ρ ρ := by
  have ha : Agree I I w w' := ⟨fun _ h => h, fun k hk => hsame k (fun e => hI (e ▸ hk))⟩
  have hk : Keeps m (m.put n b') ρ ρ w w' := by
    refine ⟨fun id b0 hm0 => ?_, fun id b0 b1 rs t u xs ys h0 h1 hs hc0 hc1 B1 o1 hB => ?_⟩
    case refine_2 =>
      by_cases hid : n = id
      · simp only [MF.put, hid, if_true, Option.some.injEq] at h1
        subst h1
        exact absurd (by unfold Blk.isDeep; rw [hc1]; trivial) hnd
      · refine hsame B1 fun e => ?_
        subst e
        exact hid (h.inj n id b b0 B1 o o1 hm h0 hl (by unfold Blk.live; rw [hc0]; trivial) hρ hB)
    by_cases hid : n = id
    · subst hid
      rw [hm] at hm0
      cases hm0
      refine ⟨b', by simp [MF.put], hst.imp id fun hst => ⟨hst.1, hst.2, rfl, fun _ B' o' hρ' ds hd => ?_⟩⟩
      rw [hρ] at hρ'
      cases hρ'
      have := hcs.unique hd
      subst this
      exact ⟨cs', hcs', hlen⟩
    · refine ⟨b0, by simp [MF.put, hid, hm0], .inr ⟨rfl, SameSh.refl _, rfl, fun _ B' o' hρ' ds hd => ?_⟩⟩
      by_cases hB : B' = B
      · subst hB
        have := hcs.unique hd
        subst this
        exact ⟨cs', hcs', hlen⟩
      · exact ⟨ds, hd.of_same (hsame B' hB), Nat.le_refl _⟩
  refine ⟨ha, hk, ?_⟩
  have hmine := h.mine n b B o hm hl hρ
  refine { blk := ?_, inj := ?_, imm := ?_, imm0 := h.imm0, immN := h.immN, mine := ?_, dp := ?_, frame := ?_, size := by have := h.size; omega, os := hos.trans h.os, tape := htape.trans h.tape, output := hout.trans h.output }
  · intro id b0 hm0
    by_cases hid : n = id
    · subst hid
      simp only [MF.put, if_true, Option.some.injEq] at hm0
      subst hm0
      exact hb ha hk
    · simp only [MF.put, hid, if_false] at hm0
      refine (h.blk id b0 hm0).mono ha hk rfl rfl (fun B' o' hρ' hl0 => ⟨hsame B' fun e => ?_, fun h => h⟩) (fun hd B' hB' => ⟨hsame B' fun e => ?_, fun h => h⟩)
      · subst e
        exact hid (h.inj n id b b0 B' o o' hm hm0 hl hl0 hρ hρ')
      · subst e
        exact ((h.dp id b0 hm0 hd).2 B' hB').2.1 n b o hm hl hρ
  · intro id id' b1 b2 C o1 o2 h1 h2 l1 l2 r1 r2
    have fix : ∀ j bj, (m.put n b') j = some bj → bj.live → ∃ bj', m j = some bj' ∧ bj'.live := by
      intro j bj hj hlj
      by_cases hid : n = j
      · subst hid; exact ⟨b, hm, hl⟩
      · simp only [MF.put, hid, if_false] at hj; exact ⟨bj, hj, hlj⟩
    obtain ⟨c1, k1, k2⟩ := fix id b1 h1 l1
    obtain ⟨c2, k3, k4⟩ := fix id' b2 h2 l2
    exact h.inj id id' c1 c2 C o1 o2 k1 k3 k2 k4 r1 r2
  · intro k hk
    rw [hsize]
    exact h.imm k hk
  · intro id b0 C o1 hm0 hl0 hr
    by_cases hid : n = id
    · subst hid; exact h.mine n b C o1 hm hl hr
    · simp only [MF.put, hid, if_false] at hm0; exact h.mine id b0 C o1 hm0 hl0 hr
  · intro id b0 hm0 hd
    have back : ∀ j bj, (m.put n b') j = some bj → bj.isDeep → m j = some bj := by
      intro j bj hj hdj
      by_cases hid : n = j
      · simp only [MF.put, hid, if_true, Option.some.injEq] at hj; subst hj; exact absurd hdj hnd
      · simpa only [MF.put, hid, if_false] using hj
    obtain ⟨k1, k2⟩ := h.dp id b0 (back id b0 hm0 hd) hd
    refine ⟨k1, fun B1 hB1 => ?_⟩
    obtain ⟨q1, q2, q3⟩ := k2 B1 hB1
    refine ⟨q1, fun id' b1 o1 h1 h2 => ?_, fun id' b1 h1 h2 h3 => q3 id' b1 (back id' b1 h1 h2) h2 h3⟩
    by_cases hid : n = id'
    · subst hid; exact q2 n b o1 hm hl
    · simp only [MF.put, hid, if_false] at h1; exact q2 id' b1 o1 h1 h2
  · intro k hk hX
    have : k ≠ B := by
      rintro rfl
      rcases hmine with h | h
      · omega
      · exact hX h
    rw [hsame k this]
    exact h.frame k hk hX

/-- nothing but a draw -/
theorem Done.drew {F : Fix} {m : MF} {w : World} {I : Nat → Prop} {ρ : Pl} (h : MemR F m w I ρ) : Done F m m w w.drew I I ρ ρ := by
  have ha : Agree I I w w.drew := ⟨fun _ h => h, fun _ _ => rfl⟩
  have hk : Keeps m m ρ ρ w w.drew := ⟨fun _ b hb => ⟨b, hb, .inr ⟨rfl, SameSh.refl _, rfl, fun _ _ _ _ cs hc => ⟨cs, hc.of_same rfl, Nat.le_refl _⟩⟩⟩, fun _ _ _ _ _ _ _ _ _ _ _ _ _ _ _ _ => rfl⟩
  exact ⟨ha, hk, ⟨fun id b hm => (h.blk id b hm).mono ha hk rfl rfl (fun _ _ _ _ => ⟨rfl, fun h => h⟩) fun _ _ _ => ⟨rfl, fun h => h⟩, h.inj, h.imm, h.imm0, h.immN, h.mine, h.dp, h.frame, h.size, h.os, h.tape, h.output⟩⟩

/-- an entry that names no memory -/
theorem Done.stale {F : Fix} {m : MF} {w : World} {I : Nat → Prop} {ρ : Pl} (h : MemR F m w I ρ) (n : Nat) (b' : Blk) (hst : ∀ b, m n = some b → b.st < b'.st)
    (hb : ¬ b'.live ∨ ∃ t : Ty, b'.c = .rows t []) : Done F m (m.put n b') w w I I ρ (ρ.put n none) := by
  have hk : Keeps m (m.put n b') ρ (ρ.put n none) w w := by
    refine ⟨fun id b0 hm0 => ?_, fun _ _ _ _ _ _ _ _ _ _ _ _ _ _ _ _ => rfl⟩
    by_cases hid : n = id
    · subst hid
      exact ⟨b', by simp [MF.put], .inl (hst b0 hm0)⟩
    · exact ⟨b0, by simp [MF.put, hid, hm0], .inr ⟨rfl, SameSh.refl _, by simp [Pl.put, hid], fun _ _ _ _ cs hc => ⟨cs, hc, Nat.le_refl _⟩⟩⟩
  have hput : ∀ j bj B o, (m.put n b') j = some bj → bj.live → (ρ.put n none) j = some (B, o) → n ≠ j ∧ m j = some bj ∧ ρ j = some (B, o) := by
    intro j bj B o h1 _ h2
    by_cases hid : n = j
    · simp [Pl.put, hid] at h2
    · simp only [MF.put, Pl.put, hid, if_false] at h1 h2
      exact ⟨hid, h1, h2⟩
  refine ⟨Agree.refl I w, hk, ⟨fun id b0 hm0 => ?_, fun id id' b1 b2 B o o' h1 h2 l1 l2 r1 r2 => ?_, h.imm, h.imm0, h.immN, fun id b0 B o h1 l1 r1 => ?_, ?dp, h.frame, h.size, h.os, h.tape, h.output⟩⟩
  · by_cases hid : n = id
    · subst hid
      simp only [MF.put, if_true, Option.some.injEq] at hm0
      subst hm0
      unfold BlkR
      rcases hb with hb | ⟨t, hb⟩
      · unfold Blk.live at hb
        cases hc : b'.c <;> simp [hc] at hb
        trivial
      · rw [hb]
        exact ⟨trivial, .inl ⟨rfl, by simp [Pl.put]⟩⟩
    · simp only [MF.put, hid, if_false] at hm0
      exact (h.blk id b0 hm0).mono (Agree.refl I w) hk (by simp [Pl.put, hid]) (by simp [Pl.put, hid]) (fun _ _ _ _ => ⟨rfl, fun h => h⟩) fun _ _ _ => ⟨rfl, fun h => h⟩
  · obtain ⟨_, k1, k2⟩ := hput id b1 B o h1 l1 r1
    obtain ⟨_, k3, k4⟩ := hput id' b2 B o' h2 l2 r2
    exact h.inj id id' b1 b2 B o o' k1 k3 l1 l2 k2 k4
  · obtain ⟨_, k1, k2⟩ := hput id b0 B o h1 l1 r1
    exact h.mine id b0 B o k1 l1 k2
  case dp =>
    have hnd : ¬ b'.isDeep := by
      rcases hb with hb | ⟨t, hb⟩
      · exact fun hd => hb (deep_live hd)
      · unfold Blk.isDeep; rw [hb]; exact fun h => h
    have back : ∀ j bj, (m.put n b') j = some bj → bj.isDeep → n ≠ j ∧ m j = some bj := by
      intro j bj hj hdj
      by_cases hid : n = j
      · simp only [MF.put, hid, if_true, Option.some.injEq] at hj; subst hj; exact absurd hdj hnd
      · exact ⟨hid, by simpa only [MF.put, hid, if_false] using hj⟩
    intro id b0 hm0 hd
    obtain ⟨e0, e1⟩ := back id b0 hm0 hd
    have he : (ρ.put n none).d id = ρ.d id := by simp [Pl.put, e0]
    rw [he]
    obtain ⟨k1, k2⟩ := h.dp id b0 e1 hd
    refine ⟨k1, fun B1 hB1 => ?_⟩
    obtain ⟨q1, q2, q3⟩ := k2 B1 hB1
    refine ⟨q1, fun id' b1 o1 h1 h2 h3 => ?_, fun id' b1 h1 h2 h3 => ?_⟩
    · obtain ⟨_, g1, g2⟩ := hput id' b1 B1 o1 h1 h2 h3
      exact q2 id' b1 o1 g1 h2 g2
    · obtain ⟨g0, g1⟩ := back id' b1 h1 h2
      exact q3 id' b1 g1 h2 (by simpa [Pl.put, g0] using h3)

end Go.Ab
namespace Go.Ab

theorem Ty.is_eq {a b : Ty} (h : a.is b = true) : a = b := by
  unfold Ty.is at h
  split at h
  · assumption
  · simp at h

theorem as_some {d : DV} {t : Ty} {x : t.den} (h : d.as t = some x) : d = ⟨t, x⟩ := by
  obtain ⟨u, y⟩ := d
  unfold DV.as at h
  split at h
  · rename_i e
    simp only at e
    subst e
    cases h
    rfl
  · cases h

theorem bif_some {α : Type} {b : Bool} {x : Option α} {y : α} (h : (bif b then x else none) = some y) : b = true ∧ x = some y := by
  cases b <;> simp_all

theorem RefOk.of {m : MF} {id st : Nat} {b : Blk} (h : m id = some b) (hs : b.st = st) : RefOk m id st := ⟨b, h, by omega⟩

theorem isSome?_eq {o : Option Ty} {t : Ty} (h : isSome? o t = true) : o = some t := by
  cases o with
  | none => simp [isSome?] at h
  | some u => simp only [isSome?] at h; rw [Ty.is_eq h]

theorem cur_some {m : MF} {id st : Nat} {b : Blk} (h : cur m id st = some b) : m id = some b ∧ b.st = st := by
  unfold cur at h
  cases hm : m id with
  | none => simp [hm] at h
  | some b0 =>
    simp only [hm] at h
    cases hb : Nat.beq b0.st st with
    | true => simp [hb] at h; subst h; exact ⟨rfl, Nat.eq_of_beq_eq_true hb⟩
    | false => simp [hb] at h

theorem rowsOf_some {m : MF} {id st : Nat} {t : Ty} {fz : Bool} {xs : List t.den} (h : rowsOf m id st t = some (fz, xs)) : m id = some ⟨st, fz, .rows t xs⟩ := by
  unfold rowsOf at h
  split at h
  · rename_i st' fz' u ys hc
    obtain ⟨h1, h2⟩ := cur_some hc
    simp only [Option.map_eq_some_iff] at h
    obtain ⟨zs, hz, he⟩ := h
    obtain ⟨e, he'⟩ := DV.as_some hz
    simp only at e
    cases e
    simp only at he'
    simp only at h2
    simp only [Prod.mk.injEq] at he
    obtain ⟨rfl, rfl⟩ := he
    subst h2
    subst he'
    exact h1
  · simp at h

def MF.upd (m : MF) (l : List (Nat × Blk)) : MF := fun i => match find l i with | some b => some b | none => m i

theorem find_upd (l : List (Nat × Blk)) (mem : Mem) : find (app l mem) = MF.upd (find mem) l := by
  funext i
  rw [find_app]
  unfold MF.upd
  cases find l i <;> rfl

theorem MF.upd_nil (m : MF) : m.upd [] = m := rfl
theorem MF.upd_one (m : MF) (n : Nat) (b : Blk) : m.upd [(n, b)] = m.put n b := by
  funext i
  simp only [MF.upd, MF.put, find_cons]
  by_cases h : n = i <;> simp [h, find]
theorem MF.upd_cons (m : MF) (n : Nat) (b : Blk) (l : List (Nat × Blk)) : m.upd ((n, b) :: l) = (m.upd l).put n b := by
  funext i
  simp only [MF.upd, MF.put, find_cons]
  by_cases h : n = i <;> simp [h]
theorem MF.upd_app (m : MF) (l l' : List (Nat × Blk)) : m.upd (app l l') = (m.upd l').upd l := by
  funext i
  simp only [MF.upd, find_app]
  cases find l i <;> rfl

/-- an operation goes well: its value, and memory behind it -/
def Gives (P : Program) (F : Fix) (o : Oper) (a : Act) (w : World) (m : MF) (I : Nat → Prop) (ρ : Pl) (d : Did) : Prop :=
  ∀ (K : Act → World → Prop) (Q : Exit → Act → World → Prop),
    (∀ v w' I' ρ', Done F m (m.upd d.upd) w w' I I' ρ ρ' → SlotR w' I' (m.upd d.upd) ρ' d.av v → K (a.put o.dst v) w') → o.wp P a w K Q

section
variable {P : Program} {F : Fix} {C : Cx} {o : Oper} {a : Act} {w : World} {m : MF} {I : Nat → Prop} {ρ : Pl} {d : Did}

theorem Gives.value {av : AT} {ok : List Bool} {v : Value} (hm : MemR F m w I ρ) (hr : (execOp a.eval o).run P w = .ok (.value v) w) (hs : SlotR w I m ρ av v) :
    Gives P F o a w m I ρ ⟨av, [], ok⟩ := by
  intro K Q h
  unfold Oper.wp
  rw [hr]
  exact h v w I ρ (Done.refl hm) hs

theorem Gives.world {v : Value} {w' : World} {I' : Nat → Prop} {ρ' : Pl} (hr : (execOp a.eval o).run P w = .ok (.value v) w') (hd : Done F m (m.upd d.upd) w w' I I' ρ ρ')
    (hs : SlotR w' I' (m.upd d.upd) ρ' d.av v) : Gives P F o a w m I ρ d := by
  intro K Q h
  unfold Oper.wp
  rw [hr]
  exact h v w' I' ρ' hd hs

theorem Gives.skip {w' : World} {I' : Nat → Prop} {ρ' : Pl} (hr : (execOp a.eval o).run P w = .ok .skip w') (hd : Done F m (m.upd d.upd) w w' I I' ρ ρ')
    (hs : d.av = .any) : Gives P F o a w m I ρ d := by
  intro K Q h
  unfold Oper.wp
  rw [hr]
  exact h Go.undef w' I' ρ' hd (by rw [hs]; trivial)

/-! ### values of one cell -/
theorem slotR_leaf {t : Ty} {x : t.den} {v : Value} : SlotR w I m ρ (.leaf t x) v ↔ ValR w I m ρ (.leaf t x) v := Iff.rfl

theorem slot_int {k : IntKind} {n : Int} {v : Value} : SlotR w I m ρ (.leaf (.int k) n) v ↔ v = .int k n := by
  rw [slotR_leaf]; unfold ValR; simp [AT.isAgg, Ty.isAgg, ATR, RepC]
theorem slot_bool {b : Bool} {v : Value} : SlotR w I m ρ (.leaf .bool b) v ↔ v = .bool b := by
  rw [slotR_leaf]; unfold ValR; simp [AT.isAgg, Ty.isAgg, ATR, RepC]
theorem slot_str {s : List UInt8} {v : Value} : SlotR w I m ρ (.leaf .str s) v ↔ v = .string ⟨s.toArray⟩ := by
  rw [slotR_leaf]; unfold ValR; simp [AT.isAgg, Ty.isAgg, ATR, RepC]
theorem slot_one {a : AT} {v : Value} (h : a.isAgg = false) (hs : SlotR w I m ρ a v) (hn : ∀ l r, a ≠ .tup l r) (h1 : a ≠ .tend) (h2 : a ≠ .any) (h3 : ∀ g b, a ≠ .when_ g b) : ATR w I m ρ a [v] := by
  unfold SlotR at hs
  split at hs
  · exact absurd rfl (hn _ _)
  · exact absurd rfl h1
  · exact absurd rfl h2
  · exact absurd rfl (h3 _ _)
  · unfold ValR at hs
    simpa [h] using hs

theorem co_ok {T : Nat} {x : AT} {v : Value} (h : SlotR w I m ρ x v) : SlotR w I m ρ (C.co T x) v := by
  unfold Cx.co
  cases x <;> try exact h
  simp only
  split
  · exact h
  · exact h

/-! ### moving -/
theorem gives_move {x : Operand} {av : AT} (ho : o.op = .move x ∨ o.op = .assign x) (hm : MemR F m w I ρ) (hx : SlotR w I m ρ av (a.eval x)) : Gives P F o a w m I ρ ⟨C.co o.type av, [], []⟩ := by
  refine Gives.value hm (v := a.eval x) ?_ (co_ok hx)
  rcases ho with h | h <;> simp [execOp, h]

/-! ### reading -/
theorem cells_mid {B : Nat} {pre mid post : List Value} {k : Nat} (hc : Cells w B (pre ++ mid ++ post)) (hk : pre.length = k) : ∀ j, j < mid.length → w.cell? ⟨B, k + j, none⟩ = mid[j]? := by
  intro j hj
  rw [hc.cell]
  subst hk
  rw [List.append_assoc, List.getElem?_append_right (by omega), List.getElem?_append_left (by omega)]
  congr 1
  omega

/-- a part of a deep list's row, and what stands when it is put anew -/
theorem deep_at {id st rs row : Nat} {fz : Bool} {t u : Ty} {xs : List t.den} {p : Path} (hm : MemR F m w I ρ) (hb : m id = some ⟨st, fz, .deep rs t xs⟩) (hrow : row < xs.length) (hp : p.pairs = true) (hu : t.at p = some u) :
    ∃ (B o : Nat) (cs rcs pre mid post : List Value) (D1 D2 B1 Bm B2 : List Nat) (y : u.den), ρ id = some (B, o) ∧ Cells w B cs ∧ o + xs.length * t.size ≤ cs.length ∧ ¬ I B ∧ fz = false ∧
      ρ.d id = D1 ++ (B1 ++ Bm ++ B2) ++ D2 ∧ rcs.length = t.size ∧ (∀ j, j < t.size → w.cell? ⟨B, o + row * t.size + j, none⟩ = rcs[j]?) ∧ AT.get p (.leaf t (xs.getD row t.dflt)) = some (.leaf u y) ∧
      rcs = pre ++ mid ++ post ∧ pre.length = t.off p ∧ RepD w I u y mid Bm ∧
      ∀ (w' : World) (I' : Nat → Prop) (z : u.den) (mid' : List Value) (Bm' : List Nat), Agree I I' w w' → (∀ b ∈ D1 ++ (B1 ++ B2) ++ D2, w'.heap[b]? = w.heap[b]? ∧ (I' b → I b)) →
        (∀ k, ¬ (o + row * t.size ≤ k ∧ k < o + row * t.size + t.size) → w'.cell? ⟨B, k, none⟩ = w.cell? ⟨B, k, none⟩) → (∀ j, j < t.size → w'.cell? ⟨B, o + row * t.size + j, none⟩ = (pre ++ mid' ++ post)[j]?) → RepD w' I' u z mid' Bm' →
        ∃ x', (AT.set p (.leaf t (xs.getD row t.dflt)) (.leaf u z)).bind AT.pure = some ⟨t, x'⟩ ∧ RowsD w' B t.size (RepD w' I' t) o (xs.set row x') (D1 ++ (B1 ++ Bm' ++ B2) ++ D2) := by
  have hblk := hm.blk id _ hb
  simp only [BlkR] at hblk
  obtain ⟨hfz, hblk⟩ := hblk
  rcases hblk with ⟨hnil, _⟩ | ⟨B, o', cs, e3, e4, e5, e6, e7⟩
  · subst hnil; simp at hrow
  · have hxr : xs[row]? = some (xs.getD row t.dflt) := by
      rw [List.getD_eq_getElem?_getD, List.getElem?_eq_getElem hrow]
      rfl
    obtain ⟨D1, Di, D2, rcs, f1, f2, f3, f4, f5⟩ := RowsD.split hxr e6
    obtain ⟨y, pre, mid, post, B1, Bm, B2, g1, g2, g3, g4, g5, g6⟩ := RepD.part p hp hu f4
    subst g4
    refine ⟨B, o', cs, rcs, pre, mid, post, D1, D2, B1, Bm, B2, y, e3, e4, e5, e7, hfz, f1, f2, f3, g1, g2, g3, g5, fun w' I' z mid' Bm' ha hs hc hc' hz => ?_⟩
    obtain ⟨x', k1, k2⟩ := g6 w' I' z mid' Bm' ha (fun b hb => hs b (by simp only [List.mem_append] at hb ⊢; rcases hb with hb | hb <;> simp [hb])) hz
    refine ⟨x', k1, f5 w' (RepD w' I' t) x' (pre ++ mid' ++ post) (B1 ++ Bm' ++ B2) hc (fun x vs D hD h => RepD.mono ha (fun b hb => hs b (by have := hD b hb; simp only [List.mem_append] at this ⊢; rcases this with h | h <;> simp [h])) h) (by rw [RepD.length k2]) hc' k2⟩

theorem gives_load {T : Nat} {x : Operand} {av : AT} (hC : CxOk P C) (ho : o.op = .load T x) (hm : MemR F m w I ρ) (hx : SlotR w I m ρ av (a.eval x)) (hd : loadD C m T av = some d) : Gives P F o a w m I ρ d := by
  have fin : ∀ {B off : Nat} {u : Ty} {b : AT} {vs : List Value}, a.eval x = .pointer (some ⟨B, off, none⟩) → TyOk P u T → Typed b u → ATR w I m ρ b vs →
      (∀ j, j < vs.length → w.cell? ⟨B, off + j, none⟩ = vs[j]?) → Gives P F o a w m I ρ ⟨b, [], []⟩ := by
    intro B off u b vs he hT ht hr hc
    refine Gives.value hm (v := packV u vs) ?_ ((slotR_val ht).2 (ValR.unpack ht hT hr))
    have := hT.run_loadVar (w := w) (ht.length hr) hc
    simp [execOp, ho, Instr.loadAt, he, Instr.sureAddr, this]
  unfold loadD at hd
  split at hd
  · rename_i t y u hu
    have hT := hC.ty hu
    cases hi : t.is u with
    | false => simp [hi] at hd
    | true =>
      simp [hi] at hd
      subst hd
      have := Ty.is_eq hi
      subst this
      have hx' := slot_one (a := .leaf (.ref t) y) rfl hx (by simp) (by simp) (by simp) (by simp)
      simp only [ATR, RepC] at hx'
      obtain ⟨B, off, e1, e2, e3, cs, e4, e5, e6⟩ := hx'
      exact fin (u := t) (b := .leaf t y) (by simpa using e1) hT rfl e6 (by rw [e4]; exact e5)
  · rename_i id st p u hu
    have hT := hC.ty hu
    split at hd
    · rename_i st' fz t at_ hc
      obtain ⟨hb, hst⟩ := cur_some hc
      cases hi : isSome? (t.at p) u with
      | false => simp [hi] at hd
      | true =>
        simp only [hi, cond_true] at hd
        split at hd
        · rename_i b hg
          cases hd
          have hx' := slot_one (a := .vptr id st p) rfl hx (by simp) (by simp) (by simp) (by simp)
          simp only [ATR] at hx'
          obtain ⟨_, _, h3⟩ := hx'
          obtain ⟨e0, B, e1, e2⟩ := h3 _ hb hst t at_ rfl
          have hblk := hm.blk id _ hb
          simp only [BlkR] at hblk
          obtain ⟨ht, B', cs, e3, e4, e5, _⟩ := hblk
          rw [e1] at e3
          cases e3
          obtain ⟨f0, pre, mid, post, f1, f2, f3, f4⟩ := get_ok p ht e5 e0 hg (isSome?_eq hi)
          subst f1
          exact fin (by simpa using e2) hT f0 f4 (cells_mid e4 f2)
        · simp at hd
    · simp at hd
  · rename_i id st row p u hu
    have hT := hC.ty hu
    split at hd
    · rename_i st' fz t xs hc
      obtain ⟨hb, hst⟩ := cur_some hc
      cases hi : isSome? (t.at p) u with
      | false => simp [hi] at hd
      | true =>
        simp only [hi, cond_true] at hd
        split at hd
        · rename_i b hg
          cases hd
          have hx' := slot_one (a := .ptr id st row p) rfl hx (by simp) (by simp) (by simp) (by simp)
          simp only [ATR] at hx'
          obtain ⟨_, _, h3⟩ := hx'
          obtain ⟨e0, e00, B, o', e1, e2⟩ := h3 _ hb hst t xs.length rfl
          have hblk := hm.blk id _ hb
          simp only [BlkR] at hblk
          obtain ⟨hsz, hblk⟩ := hblk
          rcases hblk with ⟨hnil, _⟩ | ⟨B', o'', cs, e3, e4, e5, e6, _⟩
          · subst hnil; simp at e00
          · rw [e1] at e3
            cases e3
            have hxr : xs[row]? = some (xs.getD row t.dflt) := by
              rw [List.getD_eq_getElem?_getD, List.getElem?_eq_getElem e00]
              rfl
            obtain ⟨rs, g1, g2, g3⟩ := e6 row _ hxr
            obtain ⟨f0, pre, mid, post, f1, f2, f3, f4⟩ := get_ok (w := w) (I := I) (m := m) (ρ := ρ) p (a := .leaf t (xs.getD row t.dflt)) rfl g3 e0 hg (isSome?_eq hi)
            subst f1
            refine fin (by simpa using e2) hT f0 f4 fun j hj => ?_
            have := g2 (t.off p + j) (by simp at g1; omega)
            rw [← Nat.add_assoc] at this
            rw [this, ← f2, List.append_assoc, List.getElem?_append_right (by omega), List.getElem?_append_left (by omega)]
            congr 1
            omega
        · simp at hd
    · rename_i st' fz rs t xs hc
      obtain ⟨hb, hst⟩ := cur_some hc
      simp only at hst
      obtain ⟨hi, hd⟩ := bif_some hd
      simp only [Bool.and_eq_true] at hi
      obtain ⟨hi1, hi2⟩ := hi
      have hat := isSome?_eq hi1
      have hx' := slot_one (a := .ptr id st row p) rfl hx (by simp) (by simp) (by simp) (by simp)
      simp only [ATR] at hx'
      obtain ⟨_, _, h3⟩ := hx'
      obtain ⟨e0, hrow, B, o', e1, e2⟩ := h3 _ hb hst t xs.length rfl
      obtain ⟨B', o'', cs, rcs, pre, mid, post, D1, D2, B1, Bm, B2, y, f1, f2, f3, f4, f5, f6, f7, f8, f9, f10, f11, f12, _⟩ := deep_at hm hb hrow hi2 hat
      rw [e1] at f1
      cases f1
      have hml := RepD.length f12
      have hcells : ∀ j, j < u.size → w.cell? ⟨B, o' + row * t.size + t.off p + j, none⟩ = mid[j]? := by
        intro j hj
        have hl : rcs.length = t.off p + u.size + post.length := by rw [f10, List.length_append, List.length_append, f11, hml]
        have := f8 (t.off p + j) (by omega)
        rw [← Nat.add_assoc] at this
        rw [this, f10, List.append_assoc, List.getElem?_append_right (by omega), List.getElem?_append_left (by omega)]
        congr 1
        omega
      cases hl : u.hasLst with
      | true =>
        rw [hl] at hd
        cases hd
        refine fin (by simpa using e2) hT (b := .nest id st rs row p u) (vs := mid) rfl ?_ (by rw [hml]; exact hcells)
        simp only [ATR]
        refine ⟨hml, RepD.oneCell f12, RefOk.of hb hst, fun b hb' hst' r t' xs' hc' => ?_⟩
        rw [hb] at hb'
        cases hb'
        cases hc'
        exact ⟨Nat.le_refl _, fun _ => ⟨hat, hi2, hrow, B, o', e1, hcells⟩⟩
      | false =>
        rw [hl] at hd
        simp only [cond_false, f9, Option.some.injEq] at hd
        cases hd
        exact fin (by simpa using e2) hT (b := .leaf u y) (vs := mid) rfl (RepD.rep hl f12).1 (by rw [hml]; exact hcells)
    · simp at hd
  · simp at hd

end
end Go.Ab
namespace Go.Ab
section
variable {P : Program} {F : Fix} {C : Cx} {o : Oper} {a : Act} {w : World} {m : MF} {I : Nat → Prop} {ρ : Pl} {d : Did}

theorem kindIs_eq {k k' : IntKind} (h : kindIs k k' = true) : k = k' := by
  cases k <;> cases k' <;> first | rfl | simp [kindIs] at h

theorem byteArray_toList (s : List UInt8) : (⟨s.toArray⟩ : ByteArray).toList = s := ByteArray.toList_mk s

theorem intOp_ok {op : BinOp} {k : IntKind} {x y : Int} {T : Nat} (hd : intOp op k x y = some d) (hok : ∀ b ∈ d.ok, b = true) (hsh : op ≠ .shl ∧ op ≠ .shr) :
    ∃ t r, d = ⟨.leaf t r, [], d.ok⟩ ∧ ∃ v, SlotR w I m ρ (.leaf t r) v ∧ (binOp op T (.int k x) (.int k y)).run P w = .ok v w := by
  cases op <;> simp only [intOp, Option.some.injEq, reduceCtorEq] at hd <;> subst hd
  case quo =>
    have hy : y ≠ 0 := by simpa using hok
    exact ⟨_, _, rfl, _, slot_int.2 rfl, by simp [binOp, Op.intDiv, hy]⟩
  case rem =>
    have hy : y ≠ 0 := by simpa using hok
    exact ⟨_, _, rfl, _, slot_int.2 rfl, by simp [binOp, Op.intDiv, hy]⟩
  all_goals first
    | exact ⟨_, _, rfl, _, slot_int.2 rfl, by simp [binOp, Op.intArith, Op.intBits, bitsOp]⟩
    | exact ⟨_, _, rfl, _, slot_bool.2 rfl, by simp [binOp, Op.intCmp]⟩

theorem strOp_ok {op : BinOp} {x y : List UInt8} {T : Nat} (hd : strOp op x y = some d) (hok : ∀ b ∈ d.ok, b = true) :
    ∃ t r, d = ⟨.leaf t r, [], d.ok⟩ ∧ ∃ v, SlotR w I m ρ (.leaf t r) v ∧ (binOp op T (.string ⟨x.toArray⟩) (.string ⟨y.toArray⟩)).run P w = .ok v w := by
  have e1 := byteArray_toList x
  have e2 := byteArray_toList y
  cases op <;> simp only [strOp, Option.some.injEq, reduceCtorEq] at hd <;> subst hd
  case add =>
    have hy : x.length + y.length ≤ maxRows := by simpa using hok
    have hmax : IntKind.i64.max = 9223372036854775807 := by decide
    refine ⟨_, _, rfl, _, slot_str.2 rfl, ?_⟩
    have : ¬ (((x.length + y.length : Nat) : Int) > IntKind.i64.max) := by rw [hmax]; unfold maxRows at hy; omega
    simp only [binOp, Op.stringOp]
    have hs : ((ByteArray.size ⟨x.toArray⟩ + ByteArray.size ⟨y.toArray⟩ : Nat) : Int) = ((x.length + y.length : Nat) : Int) := by simp [ByteArray.size]
    rw [hs, if_neg this]
    simp only [Sem.run_pure]
    congr 2
  all_goals exact ⟨_, _, rfl, _, slot_bool.2 rfl, by simp [binOp, Op.stringOp, e1, e2]⟩

theorem eqGuard_int {op : BinOp} {T : Nat} {x y : Operand} {k k' : IntKind} {u v : Int} : (eqGuard op T x y (.int k u) (.int k' v)).run P w = .ok () w := by
  cases op <;> rfl

theorem eqGuard_str {op : BinOp} {T : Nat} {x y : Operand} {u v : ByteArray} : (eqGuard op T x y (.string u) (.string v)).run P w = .ok () w := by
  cases op <;> rfl

theorem eqGuard_bool {op : BinOp} {T : Nat} {x y : Operand} {u v : Bool} : (eqGuard op T x y (.bool u) (.bool v)).run P w = .ok () w := by
  cases op <;> rfl

theorem gives_unOp {op : UnOp} {T : Nat} {x : Operand} {av : AT} (ho : o.op = .unOp op T x) (hm : MemR F m w I ρ) (hx : SlotR w I m ρ av (a.eval x)) (hd : unD op av = some d) :
    Gives P F o a w m I ρ d := by
  unfold unD at hd
  split at hd <;> simp only [Option.some.injEq, reduceCtorEq] at hd <;> subst hd
  · have := slot_int.1 hx
    exact Gives.value hm (by simp [execOp, ho, this, Op.unary, Op.intArith]) (slot_int.2 rfl)
  · have := slot_int.1 hx
    exact Gives.value hm (by simp [execOp, ho, this, Op.unary, Op.intBits]; rfl) (slot_int.2 (by simp [bitsOp]))
  · have := slot_bool.1 hx
    exact Gives.value hm (by simp [execOp, ho, this, Op.unary]) (slot_bool.2 rfl)

/-! ### places -/
theorem Ty.at_app : ∀ (p q : Path) (t : Ty), t.at (app p q) = (t.at p).bind (Ty.at q)
  | [], _, _ => rfl
  | .fst :: p, q, t => by cases t <;> simp only [app, Ty.at, Option.bind_none] <;> exact Ty.at_app p q _
  | .snd :: p, q, t => by cases t <;> simp only [app, Ty.at, Option.bind_none] <;> exact Ty.at_app p q _
  | .idx i :: p, q, t => by cases t <;> simp only [app, Ty.at, Option.bind_none] <;> exact Ty.at_app p q _

theorem Ty.off_app : ∀ (p q : Path) {t u : Ty}, t.at p = some u → t.off (app p q) = t.off p + u.off q
  | [], q, t, u, h => by simp only [Ty.at, Option.some.injEq] at h; subst h; simp [app, Ty.off]
  | .fst :: p, q, t, u, h => by
    cases t <;> simp only [Ty.at, reduceCtorEq] at h
    simp only [app, Ty.off]; exact Ty.off_app p q h
  | .snd :: p, q, t, u, h => by
    cases t <;> simp only [Ty.at, reduceCtorEq] at h
    simp only [app, Ty.off]; rw [Ty.off_app p q h]; omega
  | .idx i :: p, q, t, u, h => by
    cases t <;> simp only [Ty.at, reduceCtorEq] at h
    simp only [app, Ty.off]; rw [Ty.off_app p q h]; omega

theorem PathOk.app : ∀ (p q : Path) {t u : Ty}, t.at p = some u → PathOk p t → PathOk q u → PathOk (app p q) t
  | [], q, t, u, h, _, hq => by simp only [Ty.at, Option.some.injEq] at h; subst h; exact hq
  | .fst :: p, q, t, u, h, hp, hq => by
    cases t <;> simp only [Ty.at, reduceCtorEq] at h
    exact PathOk.app p q h hp hq
  | .snd :: p, q, t, u, h, hp, hq => by
    cases t <;> simp only [Ty.at, reduceCtorEq] at h
    exact PathOk.app p q h hp hq
  | .idx i :: p, q, t, u, h, hp, hq => by
    cases t <;> simp only [Ty.at, reduceCtorEq] at h
    exact ⟨hp.1, PathOk.app p q h hp.2 hq⟩

theorem pathOk_fpath : ∀ (n : Nat) {t u : Ty}, t.at (fpath n) = some u → PathOk (fpath n) t
  | 0, t, u, h => by cases t <;> simp only [fpath, Ty.at, reduceCtorEq] at h <;> exact trivial
  | n + 1, t, u, h => by
    cases t <;> simp only [fpath, Ty.at, reduceCtorEq] at h
    exact pathOk_fpath n h

theorem Addr.add_at (B k n : Nat) : (⟨B, k, none⟩ : Addr).add n = ⟨B, k + n, none⟩ := by
  unfold Addr.add
  split <;> simp_all

theorem run_fieldAt {t u : Ty} {T n : Nat} {v : Value} {B k : Nat} (hT : TyOk P t T) (hu : t.at (fpath n) = some u) (hsz : u.size ≠ 0) (hv : v = .pointer (some ⟨B, k, none⟩)) :
    (Instr.fieldAt T v n).run P w = .ok (.pointer (some ⟨B, k + t.off (fpath n), none⟩)) w := by
  obtain ⟨fs, f, h1, h2, h3, h4⟩ := hT.field hu
  subst hv
  simp [Instr.fieldAt, run_underlying h1, h2, Instr.sureAddr, fieldPlace, h4.info.run_sizeOf, hsz, Addr.add_at, h3]

theorem OneR.pointer (x : Option Addr) : OneR [Value.pointer x] := ⟨_, rfl, rfl⟩


end
end Go.Ab
namespace Go.Ab
section
variable {P : Program} {F : Fix} {C : Cx} {o : Oper} {a : Act} {w : World} {m : MF} {I : Nat → Prop} {ρ : Pl} {d : Did}

theorem gives_binOp {op : BinOp} {T T2 : Nat} {x y : Operand} {ax ay : AT} (hC : CxOk P C) (ho : o.op = .binOp op T x y T2) (hm : MemR F m w I ρ) (hx : SlotR w I m ρ ax (a.eval x)) (hy : SlotR w I m ρ ay (a.eval y))
    (hd : binD C T op ax ay = some d) (hok : ∀ b ∈ d.ok, b = true) : Gives P F o a w m I ρ d := by
  unfold binD at hd
  split at hd
  · rename_i k p k' q
    simp only [Option.some.injEq] at hd
    subst hd
    have e1 := slot_int.1 hx
    have e2 := slot_int.1 hy
    have h0 : (0 : Int) ≤ q := by simpa using hok
    have : ¬ (q : Int) < 0 := Int.not_lt.mpr h0
    exact Gives.value hm (by simp [execOp, ho, e1, e2, eqGuard_int, binOp, Op.shift, this]) (slot_int.2 rfl)
  · rename_i k p k' q
    simp only [Option.some.injEq] at hd
    subst hd
    have e1 := slot_int.1 hx
    have e2 := slot_int.1 hy
    have h0 : (0 : Int) ≤ q := by simpa using hok
    have : ¬ (q : Int) < 0 := Int.not_lt.mpr h0
    exact Gives.value hm (by simp [execOp, ho, e1, e2, eqGuard_int, binOp, Op.shift, this]) (slot_int.2 rfl)
  · rename_i k p k' q hn1 hn2
    cases hk : kindIs k k' with
    | false => simp [hk] at hd
    | true =>
      simp only [hk, cond_true] at hd
      have := kindIs_eq hk
      subst this
      have e1 := slot_int.1 hx
      have e2 := slot_int.1 hy
      obtain ⟨t, r, hdd, v, hv, hr⟩ := intOp_ok (m := m) (I := I) (ρ := ρ) (w := w) (P := P) (T := T) hd hok ⟨by rintro rfl; simp [intOp] at hd, by rintro rfl; simp [intOp] at hd⟩
      rw [hdd]
      exact Gives.value hm (by simp [execOp, ho, e1, e2, eqGuard_int, hr]) hv
  · have e1 := slot_str.1 hx
    have e2 := slot_str.1 hy
    obtain ⟨t, r, hdd, v, hv, hr⟩ := strOp_ok (m := m) (I := I) (ρ := ρ) (w := w) (P := P) (T := T) hd hok
    rw [hdd]
    exact Gives.value hm (by simp [execOp, ho, e1, e2, eqGuard_str, hr]) hv
  · rename_i p q
    cases hi : isSome? (C.ty T) .bool with
    | false => simp [hi] at hd
    | true =>
      simp only [hi, cond_true, Option.some.injEq] at hd
      subst hd
      have hT := hC.ty (isSome?_eq hi)
      unfold TyOk at hT
      simp only [TO] at hT
      have e1 := slot_bool.1 hx
      have e2 := slot_bool.1 hy
      exact Gives.value hm (by simp [execOp, ho, e1, e2, eqGuard_bool, run_eql_bool _ _ _ _ hT.2]) (slot_bool.2 rfl)
  · rename_i p q
    cases hi : isSome? (C.ty T) .bool with
    | false => simp [hi] at hd
    | true =>
      simp only [hi, cond_true, Option.some.injEq] at hd
      subst hd
      have hT := hC.ty (isSome?_eq hi)
      unfold TyOk at hT
      simp only [TO] at hT
      have e1 := slot_bool.1 hx
      have e2 := slot_bool.1 hy
      exact Gives.value hm (by simp [execOp, ho, e1, e2, eqGuard_bool, run_neq_bool _ _ _ _ hT.2]) (slot_bool.2 rfl)
  · simp at hd

theorem gives_fieldAddr {T n : Nat} {x : Operand} {ax : AT} (hC : CxOk P C) (ho : o.op = .fieldAddr T x n) (hm : MemR F m w I ρ) (hx : SlotR w I m ρ ax (a.eval x))
    (hd : fieldAddrD C m T ax n = some d) : Gives P F o a w m I ρ d := by
  unfold fieldAddrD at hd
  split at hd
  · rename_i t y u hu
    have hT := hC.ty hu
    cases hi : t.is u with
    | false => simp [hi] at hd
    | true =>
      simp only [hi, cond_true] at hd
      have := Ty.is_eq hi
      subst this
      split at hd
      · rename_i v' s z hv' hg
        cases hs : Nat.ble 1 v'.size with
        | false => simp [hs] at hd
        | true =>
          simp only [hs, cond_true, Option.some.injEq] at hd
          subst hd
          have hsz := Nat.le_of_ble_eq_true hs
          have hx' := slot_one (a := .leaf (.ref t) y) rfl hx (by simp) (by simp) (by simp) (by simp)
          simp only [ATR, RepC, List.cons.injEq, and_true] at hx'
          obtain ⟨B, off, e1, e2, e3, cs, e4, e5, e6⟩ := hx'
          obtain ⟨f0, pre, mid, post, f1, f2, f3, f4⟩ := get_ok (w := w) (I := I) (m := m) (ρ := ρ) (fpath n) (a := .leaf t y) rfl e6 (pathOk_fpath n hv') hg hv'
          simp only [Typed] at f0
          subst f0
          refine Gives.value hm (v := .pointer (some ⟨B, off + t.off (fpath n), none⟩)) ?_ ?_
          · have := run_fieldAt (w := w) hT hv' (by omega) e1
            simp [execOp, ho, this]
          · rw [slotR_leaf]
            unfold ValR
            simp only [AT.isAgg, Ty.isAgg, Bool.false_eq_true, if_false, ATR, RepC]
            refine ⟨B, _, rfl, e2, by omega, mid, f3, fun j hj => ?_, f4⟩
            have := e5 (t.off (fpath n) + j) (by rw [← e4, f1]; simp; omega)
            rw [← Nat.add_assoc] at this
            rw [this, f1, List.append_assoc, List.getElem?_append_right (by omega), List.getElem?_append_left (by omega)]
            congr 1
            omega
      · simp at hd
  · rename_i id st p u hu
    have hT := hC.ty hu
    split at hd
    · rename_i st' fz t at_ hc
      obtain ⟨hb, hst⟩ := cur_some hc
      cases hi : isSome? (t.at p) u && nonzero (u.at (fpath n)) with
      | false => simp [hi] at hd
      | true =>
        simp only [hi, cond_true, Option.some.injEq] at hd
        subst hd
        simp only [Bool.and_eq_true] at hi
        have hat := isSome?_eq hi.1
        cases hv' : u.at (fpath n) with
        | none => simp [hv', nonzero] at hi
        | some v' =>
          have hsz : 1 ≤ v'.size := Nat.le_of_ble_eq_true (by simpa [hv', nonzero] using hi.2)
          have hx' := slot_one (a := .vptr id st p) rfl hx (by simp) (by simp) (by simp) (by simp)
          simp only [ATR] at hx'
          obtain ⟨_, _, h3⟩ := hx'
          obtain ⟨e0, B, e1, e2⟩ := h3 _ hb hst t at_ rfl
          refine Gives.value hm (v := .pointer (some ⟨B, t.off (app p (fpath n)), none⟩)) ?_ ?_
          · have := run_fieldAt (w := w) hT hv' (by omega) (by simpa using e2)
            simp [execOp, ho, this, Ty.off_app p (fpath n) hat]
          · show ValR _ _ _ _ _ _
            unfold ValR
            simp only [AT.isAgg, Bool.false_eq_true, if_false, ATR]
            refine ⟨OneR.pointer _, RefOk.of hb hst, fun b hb' hs t' a' hc' => ?_⟩
            rw [hb] at hb'
            cases hb'
            cases hc'
            exact ⟨PathOk.app p (fpath n) hat e0 (pathOk_fpath n hv'), B, e1, rfl⟩
    · simp at hd
  · rename_i id st row p u hu
    have hT := hC.ty hu
    have key : ∀ {st' : Nat} {fz : Bool} {c : BC} {t : Ty} {k : Nat}, cur m id st = some ⟨st', fz, c⟩ → c.arr = some (t, k) → (bif isSome? (t.at p) u && nonzero (u.at (fpath n)) then some (⟨.ptr id st row (app p (fpath n)), [], []⟩ : Did) else none) = some d → Gives P F o a w m I ρ d := by
      intro st' fz c t k hc harr hd
      obtain ⟨hb, hst⟩ := cur_some hc
      cases hi : isSome? (t.at p) u && nonzero (u.at (fpath n)) with
      | false => simp [hi] at hd
      | true =>
        simp only [hi, cond_true, Option.some.injEq] at hd
        subst hd
        simp only [Bool.and_eq_true] at hi
        have hat := isSome?_eq hi.1
        cases hv' : u.at (fpath n) with
        | none => simp [hv', nonzero] at hi
        | some v' =>
          have hsz : 1 ≤ v'.size := Nat.le_of_ble_eq_true (by simpa [hv', nonzero] using hi.2)
          have hx' := slot_one (a := .ptr id st row p) rfl hx (by simp) (by simp) (by simp) (by simp)
          simp only [ATR] at hx'
          obtain ⟨_, _, h3⟩ := hx'
          obtain ⟨e0, e00, B, o', e1, e2⟩ := h3 _ hb hst t k harr
          refine Gives.value hm (v := .pointer (some ⟨B, o' + row * t.size + t.off (app p (fpath n)), none⟩)) ?_ ?_
          · have := run_fieldAt (w := w) hT hv' (by omega) (by simpa using e2)
            simp [execOp, ho, this, Ty.off_app p (fpath n) hat, Nat.add_assoc]
          · show ValR _ _ _ _ _ _
            unfold ValR
            simp only [AT.isAgg, Bool.false_eq_true, if_false, ATR]
            refine ⟨OneR.pointer _, RefOk.of hb hst, fun b hb' hs t' a' hc' => ?_⟩
            rw [hb] at hb'
            cases hb'
            rw [harr] at hc'
            cases hc'
            exact ⟨PathOk.app p (fpath n) hat e0 (pathOk_fpath n hv'), e00, B, o', e1, rfl⟩
    split at hd
    · rename_i st' fz t xs hc
      exact key hc rfl hd
    · rename_i st' fz rs t xs hc
      exact key hc rfl hd
    · simp at hd
  · simp at hd

theorem fits_typed : ∀ {x : AT} {t : Ty}, x.fits t = true → Typed x t := by
  intro x
  induction x with
  | leaf u y => intro t h; simp only [AT.fits] at h; exact (Ty.is_eq h).symm ▸ rfl
  | whole id st u => intro t h; cases t <;> simp only [AT.fits, reduceCtorEq] at h <;> simp only [Typed]; rw [Ty.is_eq h]
  | piece id st off len u => intro t h; cases t <;> simp only [AT.fits, reduceCtorEq] at h <;> simp only [Typed]; rw [Ty.is_eq h]
  | nil u => intro t h; cases t <;> simp only [AT.fits, reduceCtorEq] at h <;> simp only [Typed]; rw [Ty.is_eq h]
  | pair l r ihl ihr =>
    intro t h
    cases t <;> simp only [AT.fits, reduceCtorEq] at h
    simp only [Bool.and_eq_true] at h
    exact ⟨_, _, rfl, ihl h.1, ihr h.2⟩
  | _ => intro t h; cases t <;> simp [AT.fits] at h

theorem gives_field {T n : Nat} {x : Operand} {ax : AT} (hC : CxOk P C) (ho : o.op = .field T x n) (hm : MemR F m w I ρ) (hx : SlotR w I m ρ ax (a.eval x))
    (hd : fieldD C T ax n = some d) : Gives P F o a w m I ρ d := by
  unfold fieldD at hd
  split at hd
  · rename_i t ht
    have hT := hC.ty ht
    cases hf : ax.fits t with
    | false => simp [hf] at hd
    | true =>
      simp only [hf, cond_true] at hd
      have hty := fits_typed hf
      split at hd
      · rename_i u b hu hg
        cases hd
        obtain ⟨vs, hv, hvs⟩ := ValR.pack hty ((slotR_val hty).1 hx)
        obtain ⟨fs, f, h1, h2, h3, h4⟩ := hT.field hu
        obtain ⟨f0, pre, mid, post, f1, f2, f3, f4⟩ := get_ok (fpath n) hty hvs (pathOk_fpath n hu) hg hu
        have hagg : t.isAgg = true := by
          cases t <;> first | rfl | (cases n <;> simp [fpath, Ty.at] at hu)
        refine Gives.value hm (v := packV u mid) ?_ ((slotR_val f0).2 (ValR.unpack f0 h4 f4))
        have hpart : (part f.type vs.toArray f.offset).run P w = .ok (packV u mid) w := by
          unfold part
          rw [Sem.run_bind, h4.run_isAgg]
          simp only [Result.andThen_ok]
          cases ha : u.isAgg with
          | true =>
            have : vs.toArray.extract f.offset (f.offset + u.size) = mid.toArray := by
              rw [f1, h3, ← f2, ← f3]
              apply Array.ext'
              simp [List.extract_eq_take_drop]
            simp only [if_true, Sem.run_bind, h4.info.run_sizeOf, Result.andThen_ok, Sem.run_pure, packV, ha, this]
          | false =>
            have hs := Ty.size_of_not_agg h4 ha
            obtain ⟨v, rfl⟩ : ∃ v, mid = [v] := by
              match mid, f3 with
              | [v], _ => exact ⟨v, rfl⟩
              | [], hl => simp [hs] at hl
              | _ :: _ :: _, hl => simp [hs] at hl
            have : vs.toArray[f.offset]? = some v := by
              rw [f1, h3, ← f2]
              simp
            simp [packV, ha, this]
        simp [execOp, ho, hv, packV, hagg, Instr.field, run_underlying h1, h2, asAgg]
        rw [hpart]
        simp [packV]
      · simp at hd
  · simp at hd

end
end Go.Ab
namespace Go.Ab
section
variable {P : Program} {F : Fix} {C : Cx} {o : Oper} {a : Act} {w : World} {m : MF} {I : Nat → Prop} {ρ : Pl} {d : Did}

theorem intAt_some {x : AT} {n : Int} {v : Value} (h : intAt x = some n) (hs : SlotR w I m ρ x v) : ∃ k, v = .int k n := by
  unfold intAt at h
  split at h
  · cases h
    exact ⟨_, slot_int.1 hs⟩
  · simp at h

theorem getD_get {α : Type} {xs : List α} {i : Nat} {z : α} (h : i < xs.length) : xs[i]? = some (xs.getD i z) := by
  rw [List.getD_eq_getElem?_getD, List.getElem?_eq_getElem h]
  rfl

theorem run_indexAt_slice {T E : Nat} {t : Ty} {B off len cap : Nat} {k : IntKind} {i : Int} (hu : P.underlying T = some (.slice E)) (hE : TyOk P t E) (h0 : 0 ≤ i) (h1 : i < len) :
    (Instr.indexAt T (.slice (some ⟨B, off, none⟩) len cap) (.int k i)).run P w = .ok (.pointer (some ⟨B, off + i.toNat * t.size, none⟩)) w := by
  simp [Instr.indexAt, asIntOf, run_underlying hu, h0, h1, hE.info.run_sizeOf, Addr.add_at]

theorem run_indexAt_arr {T E n : Nat} {t : Ty} {B off : Nat} {k : IntKind} {i : Int} (hu : P.underlying T = some (.array n E)) (hE : TyOk P t E) (h0 : 0 ≤ i) (h1 : i < n) :
    (Instr.indexAt T (.pointer (some ⟨B, off, none⟩)) (.int k i)).run P w = .ok (.pointer (some ⟨B, off + i.toNat * t.size, none⟩)) w := by
  simp [Instr.indexAt, asIntOf, run_underlying hu, Instr.sureAddr, h0, h1, hE.info.run_sizeOf, Addr.add_at]

theorem tyOk_lst {t : Ty} {T : Nat} (h : TyOk P (.lst t) T) : ∃ E, P.underlying T = some (.slice E) ∧ 0 < t.size ∧ TyOk P t E := by
  unfold TyOk at h
  simp only [TO] at h
  exact h.2

theorem tyOk_arr {t : Ty} {n T : Nat} (h : TyOk P (.arr n t) T) : ∃ E, P.underlying T = some (.array n E) ∧ 1 < n ∧ (∃ k, t = .int k) ∧ TyOk P t E := by
  unfold TyOk at h
  simp only [TO] at h
  exact h.2

/-- the header of a whole list -/
theorem hdr_whole {id st : Nat} {t : Ty} {fz : Bool} {xs : List t.den} {v : Value} (hx : SlotR w I m ρ (.whole id st t) v) (hr : rowsOf m id st t = some (fz, xs)) :
    ∃ ad cap, v = .slice ad xs.length cap ∧ xs.length ≤ cap ∧ HdrAt w ρ id t.size 0 ad cap := by
  have hb := rowsOf_some hr
  have hx' := slot_one (a := .whole id st t) rfl hx (by simp) (by simp) (by simp) (by simp)
  simp only [ATR] at hx'
  obtain ⟨_, _, h3⟩ := hx'
  obtain ⟨ad, cap, e1, e2, e3⟩ := h3 _ hb rfl t xs.length rfl
  exact ⟨ad, cap, by simpa using e1, e2, e3.weak⟩

theorem hdr_whole' {id st : Nat} {t : Ty} {fz : Bool} {xs : List t.den} {v : Value} (hx : SlotR w I m ρ (.whole id st t) v) (hr : rowsOf m id st t = some (fz, xs)) :
    ∃ ad cap, v = .slice ad xs.length cap ∧ xs.length ≤ cap ∧ HdrW w ρ id t.size ad cap := by
  have hb := rowsOf_some hr
  have hx' := slot_one (a := .whole id st t) rfl hx (by simp) (by simp) (by simp) (by simp)
  simp only [ATR] at hx'
  obtain ⟨_, _, h3⟩ := hx'
  obtain ⟨ad, cap, e1, e2, e3⟩ := h3 _ hb rfl t xs.length rfl
  exact ⟨ad, cap, by simpa using e1, e2, e3⟩

theorem hdr_piece {id st off len : Nat} {t : Ty} {fz : Bool} {xs : List t.den} {v : Value} (hx : SlotR w I m ρ (.piece id st off len t) v) (hr : rowsOf m id st t = some (fz, xs)) :
    ∃ ad cap, v = .slice ad len cap ∧ len ≤ cap ∧ off + len ≤ xs.length ∧ HdrAt w ρ id t.size off ad cap := by
  have hb := rowsOf_some hr
  have hx' := slot_one (a := .piece id st off len t) rfl hx (by simp) (by simp) (by simp) (by simp)
  simp only [ATR] at hx'
  obtain ⟨_, _, h3⟩ := hx'
  obtain ⟨ad, cap, e1, e2, e3, e4⟩ := h3 _ hb rfl t xs.length rfl
  exact ⟨ad, cap, by simpa using e1, e2, e3, e4⟩

theorem lend_cases {id st : Nat} {t : Ty} {xs : List t.den} (h : lendOf m id st t = some xs) : (∃ fz, m id = some ⟨st, fz, .rows t xs⟩) ∨ ∃ fz rs, m id = some ⟨st, fz, .deep rs t xs⟩ := by
  unfold lendOf at h
  split at h
  · rename_i st' fz u ys hc
    obtain ⟨hb, hst⟩ := cur_some hc
    obtain ⟨e, he⟩ := DV.as_some h
    simp only [Ty.lst.injEq] at e
    subst e
    simp only at he hst
    subst he hst
    exact .inl ⟨fz, hb⟩
  · rename_i st' fz rs u ys hc
    obtain ⟨hb, hst⟩ := cur_some hc
    obtain ⟨e, he⟩ := DV.as_some h
    simp only [Ty.lst.injEq] at e
    subst e
    simp only at he hst
    subst he hst
    exact .inr ⟨fz, rs, hb⟩
  · simp at h

theorem lend_arr {id st : Nat} {t : Ty} {xs : List t.den} (h : lendOf m id st t = some xs) : ∃ b, m id = some b ∧ b.st = st ∧ b.c.arr = some (t, xs.length) := by
  rcases lend_cases h with ⟨fz, h⟩ | ⟨fz, rs, h⟩
  · exact ⟨_, h, rfl, rfl⟩
  · exact ⟨_, h, rfl, rfl⟩

theorem hdr_wholeA {id st n : Nat} {t u : Ty} {b : Blk} {v : Value} (hx : SlotR w I m ρ (.whole id st u) v) (hb : m id = some b) (hst : b.st = st) (ha : b.c.arr = some (t, n)) :
    ∃ ad cap, v = .slice ad n cap ∧ n ≤ cap ∧ HdrW w ρ id t.size ad cap := by
  have hx' := slot_one (a := .whole id st u) rfl hx (by simp) (by simp) (by simp) (by simp)
  simp only [ATR] at hx'
  obtain ⟨_, _, h3⟩ := hx'
  obtain ⟨ad, cap, e1, e2, e3⟩ := h3 _ hb hst t n ha
  exact ⟨ad, cap, by simpa using e1, e2, e3⟩

theorem slot_ptrA {id st row n : Nat} {t : Ty} {b : Blk} {B o' : Nat} (hb : m id = some b) (hst : b.st = st) (ha : b.c.arr = some (t, n)) (hρ : ρ id = some (B, o')) (hr : row < n) :
    SlotR w I m ρ (.ptr id st row []) (.pointer (some ⟨B, o' + row * t.size, none⟩)) := by
  show ValR _ _ _ _ _ _
  unfold ValR
  simp only [AT.isAgg, Bool.false_eq_true, if_false, ATR]
  refine ⟨OneR.pointer _, RefOk.of hb hst, fun b' hb' hs t' a' hc' => ?_⟩
  rw [hb] at hb'
  cases hb'
  rw [ha] at hc'
  cases hc'
  exact ⟨trivial, hr, B, o', hρ, by simp [Ty.off]⟩

theorem slot_ptr {id st row : Nat} {t : Ty} {fz : Bool} {xs : List t.den} {B o' : Nat} (hb : m id = some ⟨st, fz, .rows t xs⟩) (hρ : ρ id = some (B, o')) (hr : row < xs.length) :
    SlotR w I m ρ (.ptr id st row []) (.pointer (some ⟨B, o' + row * t.size, none⟩)) := slot_ptrA hb rfl rfl hρ hr

theorem gives_indexAddr {T : Nat} {x ix : Operand} {ax ai : AT} {i : Int} (hC : CxOk P C) (ho : o.op = .indexAddr T x ix) (hm : MemR F m w I ρ) (hx : SlotR w I m ρ ax (a.eval x)) (hi : SlotR w I m ρ ai (a.eval ix))
    (hin : intAt ai = some i) (hd : indexAddrD C m T ax i = some d) (hok : ∀ b ∈ d.ok, b = true) : Gives P F o a w m I ρ d := by
  obtain ⟨k, hik⟩ := intAt_some hin hi
  unfold indexAddrD at hd
  split at hd
  · rename_i t xs u hu
    have hT := hC.ty hu
    cases hii : t.is u with
    | false => simp [hii] at hd
    | true =>
      simp only [hii, cond_true, Option.some.injEq] at hd
      subst hd
      have := Ty.is_eq hii
      subst this
      simp only [List.mem_cons, List.not_mem_nil, or_false, forall_eq_or_imp, forall_eq, decide_eq_true_eq] at hok
      obtain ⟨E, h1, h2, h3⟩ := tyOk_lst hT
      have hx' := slot_one (a := .leaf (.lst t) xs) rfl hx (by simp) (by simp) (by simp) (by simp)
      simp only [ATR, RepC, List.cons.injEq, and_true] at hx'
      obtain ⟨ad, cap, e1, e2, e3⟩ := hx'
      have hlt : i.toNat < xs.length := by omega
      rcases e3 with e3 | ⟨B, off, e3, e4, e5⟩
      · subst e3; simp at hlt
      · subst e3
        refine Gives.value hm (v := .pointer (some ⟨B, off + i.toNat * t.size, none⟩)) (by simp [execOp, ho, e1, hik, run_indexAt_slice h1 h3 hok.1 hok.2]) ?_
        rw [slotR_leaf]
        unfold ValR
        simp only [AT.isAgg, Ty.isAgg, Bool.false_eq_true, if_false, ATR, RepC]
        obtain ⟨cs, f1, f2, f3⟩ := e5 i.toNat _ (getD_get (z := t.dflt) hlt)
        exact ⟨B, _, rfl, e4, h2, cs, f1, f2, f3⟩
  · rename_i id st t u hu
    have hT := hC.ty hu
    cases hii : t.is u with
    | false => simp [hii] at hd
    | true =>
      simp only [hii, cond_true] at hd
      have := Ty.is_eq hii
      subst this
      split at hd
      · rename_i xs hr
        cases hd
        simp only [List.mem_cons, List.not_mem_nil, or_false, forall_eq_or_imp, forall_eq, decide_eq_true_eq] at hok
        obtain ⟨E, h1, h2, h3⟩ := tyOk_lst hT
        obtain ⟨b, hb, hst, harr⟩ := lend_arr hr
        obtain ⟨ad, cap, e1, e2, e3⟩ := hdr_wholeA hx hb hst harr
        rcases e3 with e3 | ⟨B, o', cs, e3, e4, e5, e6⟩
        · omega
        · subst e4
          refine Gives.value hm (v := .pointer (some ⟨B, o' + i.toNat * t.size, none⟩)) (by simp [execOp, ho, e1, hik, run_indexAt_slice h1 h3 hok.1 hok.2]) ?_
          exact slot_ptrA hb hst harr e3 (by omega)
      · simp at hd
  · rename_i id st off len t u hu
    have hT := hC.ty hu
    cases hii : t.is u with
    | false => simp [hii] at hd
    | true =>
      simp only [hii, cond_true] at hd
      have := Ty.is_eq hii
      subst this
      split at hd
      · rename_i r hr
        obtain ⟨fz, xs⟩ := r
        cases hd
        simp only [List.mem_cons, List.not_mem_nil, or_false, forall_eq_or_imp, forall_eq, decide_eq_true_eq] at hok
        obtain ⟨E, h1, h2, h3⟩ := tyOk_lst hT
        obtain ⟨ad, cap, e1, e2, e20, e3⟩ := hdr_piece hx hr
        rcases e3 with e3 | ⟨B, o', cs, e3, e4, e5, e6⟩
        · omega
        · subst e4
          refine Gives.value hm (v := .pointer (some ⟨B, o' + (off + i.toNat) * t.size, none⟩)) (by simp [execOp, ho, e1, hik, run_indexAt_slice h1 h3 hok.1 hok.2, Nat.add_mul, Nat.add_assoc]) ?_
          exact slot_ptr (rowsOf_some hr) e3 (by omega)
      · simp at hd
  · rename_i n t xs n' u hu
    have hT := hC.ty hu
    cases hii : Nat.beq n n' && t.is u with
    | false => simp [hii] at hd
    | true =>
      simp only [hii, cond_true, Option.some.injEq] at hd
      subst hd
      simp only [Bool.and_eq_true] at hii
      have := Nat.eq_of_beq_eq_true hii.1
      subst this
      have := Ty.is_eq hii.2
      subst this
      simp only [List.mem_cons, List.not_mem_nil, or_false, forall_eq_or_imp, forall_eq, decide_eq_true_eq] at hok
      obtain ⟨E, h1, h2, ⟨k', h20⟩, h3⟩ := tyOk_arr hT
      have hx' := slot_one (a := .leaf (.ref (.arr n t)) xs) rfl hx (by simp) (by simp) (by simp) (by simp)
      simp only [ATR, RepC, List.cons.injEq, and_true] at hx'
      obtain ⟨B, off, e1, e2, e3, cs, e4, e5, e6, e7⟩ := hx'
      have hlt : i.toNat < xs.length := by omega
      refine Gives.value hm (v := .pointer (some ⟨B, off + i.toNat * t.size, none⟩)) (by simp [execOp, ho, e1, hik, run_indexAt_arr h1 h3 hok.1 hok.2]) ?_
      rw [slotR_leaf]
      unfold ValR
      simp only [AT.isAgg, Ty.isAgg, Bool.false_eq_true, if_false, ATR, RepC]
      obtain ⟨pre, mid, post, f1, f2, f3, _⟩ := ArrR.split (fun x vs h => RepC.length h) e7 (getD_get (z := t.dflt) hlt)
      have hml := RepC.length f3
      refine ⟨B, _, rfl, e2, by subst h20; simp [Ty.size], mid, hml, fun j hj => ?_, f3⟩
      have := e5 (i.toNat * t.size + j) (by rw [← e4, f1]; simp; omega)
      rw [← Nat.add_assoc] at this
      rw [this, f1, List.append_assoc, List.getElem?_append_right (by omega), List.getElem?_append_left (by omega)]
      congr 1
      omega
  · rename_i id st p n u hu
    have hT := hC.ty hu
    split at hd
    · rename_i st' fz t at_ hc
      obtain ⟨hb, hst⟩ := cur_some hc
      cases hii : isSome? (t.at p) (.arr n u) with
      | false => simp [hii] at hd
      | true =>
        simp only [hii, cond_true, Option.some.injEq] at hd
        subst hd
        have hat := isSome?_eq hii
        simp only [List.mem_cons, List.not_mem_nil, or_false, forall_eq_or_imp, forall_eq, decide_eq_true_eq] at hok
        obtain ⟨E, h1, h2, _, h3⟩ := tyOk_arr hT
        have hx' := slot_one (a := .vptr id st p) rfl hx (by simp) (by simp) (by simp) (by simp)
        simp only [ATR] at hx'
        obtain ⟨_, _, h3'⟩ := hx'
        obtain ⟨e0, B, e1, e2⟩ := h3' _ hb hst t at_ rfl
        simp only [List.cons.injEq, and_true] at e2
        refine Gives.value hm (v := .pointer (some ⟨B, t.off p + i.toNat * u.size, none⟩)) (by simp [execOp, ho, e2, hik, run_indexAt_arr h1 h3 hok.1 hok.2]) ?_
        show ValR _ _ _ _ _ _
        unfold ValR
        simp only [AT.isAgg, Bool.false_eq_true, if_false, ATR]
        refine ⟨OneR.pointer _, RefOk.of hb hst, fun b hb' hs t' a' hc' => ?_⟩
        rw [hb] at hb'
        cases hb'
        cases hc'
        exact ⟨PathOk.app p [.idx i.toNat] hat e0 ⟨by omega, trivial⟩, B, e1, by rw [Ty.off_app p _ hat]; simp [Ty.off]⟩
    · simp at hd
  · simp at hd

theorem gives_index {T : Nat} {x ix : Operand} {ax ai : AT} {i : Int} (hC : CxOk P C) (ho : o.op = .index T x ix) (hm : MemR F m w I ρ) (hx : SlotR w I m ρ ax (a.eval x)) (hi : SlotR w I m ρ ai (a.eval ix))
    (hin : intAt ai = some i) (hd : indexD C T ax i = some d) (hok : ∀ b ∈ d.ok, b = true) : Gives P F o a w m I ρ d := by
  obtain ⟨k, hik⟩ := intAt_some hin hi
  unfold indexD at hd
  split at hd
  · rename_i s hu
    have hT := hC.ty hu
    unfold TyOk at hT
    simp only [TO] at hT
    cases hd
    simp only [List.mem_cons, List.not_mem_nil, or_false, forall_eq_or_imp, forall_eq, decide_eq_true_eq] at hok
    have e1 := slot_str.1 hx
    have hlt : i.toNat < s.length := by omega
    have hget : (⟨s.toArray⟩ : ByteArray)[i.toNat]? = some (s.getD i.toNat 0) := by
      have : i.toNat < (⟨s.toArray⟩ : ByteArray).size := by simpa [ByteArray.size] using hlt
      rw [getElem?_pos (⟨s.toArray⟩ : ByteArray) i.toNat this]
      congr 1
      show s.toArray[i.toNat] = _
      simp [List.getD_eq_getElem?_getD, hlt]
    refine Gives.value hm (v := .int .u8 (s.getD i.toNat 0).toNat) ?_ (slot_int.2 rfl)
    simp [execOp, ho, e1, hik, Instr.index, asIntOf, run_underlying hT.2, hok.1, hget]
  · rename_i n k1 xs n' k2 hu
    have hT := hC.ty hu
    cases hii : Nat.beq n n' && kindIs k1 k2 with
    | false => simp [hii] at hd
    | true =>
      simp only [hii, cond_true, Option.some.injEq] at hd
      subst hd
      simp only [Bool.and_eq_true] at hii
      have := Nat.eq_of_beq_eq_true hii.1
      subst this
      have := kindIs_eq hii.2
      subst this
      simp only [List.mem_cons, List.not_mem_nil, or_false, forall_eq_or_imp, forall_eq, decide_eq_true_eq] at hok
      obtain ⟨E, h1, h2, _, h3⟩ := tyOk_arr hT
      have hx' : ValR w I m ρ (.leaf (.arr n (.int k1)) xs) (a.eval x) := hx
      unfold ValR at hx'
      simp only [AT.isAgg, Ty.isAgg, if_true, ATR, RepC] at hx'
      obtain ⟨arr, e1, e2, e3⟩ := hx'
      have hlt : i.toNat < xs.length := by omega
      obtain ⟨pre, mid, post, f1, f2, f3, _⟩ := ArrR.split (n := 1) (fun x vs h => by rw [h]; rfl) e3 (getD_get (z := (0 : Int)) hlt)
      subst f3
      have hpart : (part E arr (i.toNat * (Ty.int k1).size)).run P w = .ok (.int k1 (xs.getD i.toNat 0)) w := by
        unfold part
        rw [Sem.run_bind, h3.run_isAgg]
        have : arr[i.toNat]? = some (.int k1 (xs.getD i.toNat 0)) := by
          have : arr = (pre ++ [Value.int k1 (xs.getD i.toNat 0)] ++ post).toArray := by apply Array.ext'; simpa using f1
          rw [this]
          simp only [List.getElem?_toArray]
          rw [List.append_assoc, List.getElem?_append_right (by omega)]
          simp [f2]
        simp [Ty.isAgg, Ty.size, this]
      refine Gives.value hm (v := .int k1 (xs.getD i.toNat 0)) ?_ (slot_int.2 rfl)
      have h0' : 0 ≤ i ∧ i < (n : Int) := hok
      simp [execOp, ho, e1, hik, Instr.index, asIntOf, run_underlying h1, h0', h3.info.run_sizeOf]
      rw [hpart]
      rfl
  · simp at hd

end
end Go.Ab
namespace Go.Ab
section
variable {P : Program} {F : Fix} {C : Cx} {o : Oper} {a : Act} {w : World} {m : MF} {I : Nat → Prop} {ρ : Pl} {d : Did}

/-! ### pieces -/
theorem run_bounds {isSlice : Bool} {len cap : Nat} {lo hi : Option Operand} {ρf : Operand → AT} {l h : Int}
    (hlo : ∀ x, lo = some x → SlotR w I m ρ (ρf x) (a.eval x)) (hhi : ∀ x, hi = some x → SlotR w I m ρ (ρf x) (a.eval x))
    (hl : boundAt 0 (lo.map ρf) = some l) (hh : boundAt len (hi.map ρf) = some h) (h0 : 0 ≤ l) (h1 : l ≤ h) (h2 : h ≤ len) (hc : len ≤ cap) :
    (Instr.sliceBounds isSlice len cap (lo.map a.eval) (hi.map a.eval) none).run P w = .ok (l.toNat, h.toNat, cap) w := by
  unfold Instr.sliceBounds
  cases lo with
  | none =>
    simp only [Option.map_none, boundAt, Option.some.injEq] at hl
    subst hl
    cases hi with
    | none =>
      simp only [Option.map_none, boundAt, Option.some.injEq] at hh
      subst hh
      simp
    | some y =>
      simp only [Option.map_some, boundAt] at hh
      obtain ⟨k, hk⟩ := intAt_some hh (hhi y rfl)
      have : h ≤ (cap : Int) := by omega
      have hb := run_sliceBound (P := P) w k h cap (if isSlice then BoundsCode.sliceAcap else BoundsCode.sliceAlen) (by omega) this
      simp [hk, hb]
  | some x =>
    simp only [Option.map_some, boundAt] at hl
    obtain ⟨k, hk⟩ := intAt_some hl (hlo x rfl)
    cases hi with
    | none =>
      simp only [Option.map_none, boundAt, Option.some.injEq] at hh
      subst hh
      have hb := run_sliceBound (P := P) w k l len BoundsCode.sliceB h0 (by omega)
      simp [hk, hb]
    | some y =>
      simp only [Option.map_some, boundAt] at hh
      obtain ⟨k', hk'⟩ := intAt_some hh (hhi y rfl)
      have : h ≤ (cap : Int) := by omega
      have hb' := run_sliceBound (P := P) w k' h cap (if isSlice then BoundsCode.sliceAcap else BoundsCode.sliceAlen) (by omega) this
      have hb := run_sliceBound (P := P) w k l h.toNat BoundsCode.sliceB h0 (by omega)
      simp [hk, hk', hb', hb]

theorem gives_slice {T : Nat} {x : Operand} {lo hi : Option Operand} {ρf : Operand → AT} (hC : CxOk P C) (ho : o.op = .slice T x lo hi none) (hm : MemR F m w I ρ)
    (hx : SlotR w I m ρ (ρf x) (a.eval x)) (hlo : ∀ x, lo = some x → SlotR w I m ρ (ρf x) (a.eval x)) (hhi : ∀ x, hi = some x → SlotR w I m ρ (ρf x) (a.eval x))
    (hd : sliceD C m T (ρf x) (lo.map ρf) (hi.map ρf) = some d) (hok : ∀ b ∈ d.ok, b = true) : Gives P F o a w m I ρ d := by
  unfold sliceD at hd
  split at hd
  · simp at hd
  · rename_i n hn
    split at hd
    · rename_i l h hl hh
      generalize ρf x = ax at *
      split at hd
      · rename_i s hu
        have hT := hC.ty hu
        unfold TyOk at hT
        simp only [TO] at hT
        cases hd
        simp only [List.mem_cons, List.not_mem_nil, or_false, forall_eq_or_imp, forall_eq, decide_eq_true_eq] at hok
        simp only [lenD, Option.some.injEq] at hn
        subst hn
        have e1 := slot_str.1 hx
        have hb := run_bounds (P := P) (isSlice := false) (len := s.length) (cap := s.length) hlo hhi hl hh hok.1 hok.2.1 hok.2.2 (Nat.le_refl _)
        have hsz : (⟨s.toArray⟩ : ByteArray).size = s.length := by simp [ByteArray.size]
        refine Gives.value hm (v := .string ⟨((s.drop l.toNat).take (h - l).toNat).toArray⟩) ?_ (slot_str.2 rfl)
        have hex : (⟨s.toArray⟩ : ByteArray).extract l.toNat h.toNat = ⟨((s.drop l.toNat).take (h - l).toNat).toArray⟩ := by
          rw [ByteArray.ext_iff, ByteArray.data_extract]
          apply Array.ext'
          simp [List.extract_eq_take_drop]
          congr 1
          omega
        simp [execOp, ho, e1, Instr.sliceAt, run_underlying hT.2, Instr.slice, hsz, hb, hex]
      · rename_i t xs u hu
        have hT := hC.ty hu
        cases hii : t.is u with
        | false => simp [hii] at hd
        | true =>
          simp only [hii, cond_true, Option.some.injEq] at hd
          subst hd
          have := Ty.is_eq hii
          subst this
          simp only [List.mem_cons, List.not_mem_nil, or_false, forall_eq_or_imp, forall_eq, decide_eq_true_eq] at hok
          simp only [lenD, Option.some.injEq] at hn
          subst hn
          obtain ⟨E, h1, h2, h3⟩ := tyOk_lst hT
          have hx' := slot_one (a := .leaf (.lst t) xs) rfl hx (by simp) (by simp) (by simp) (by simp)
          simp only [ATR, RepC, List.cons.injEq, and_true] at hx'
          obtain ⟨ad, cap, e1, e2, e3⟩ := hx'
          have hb := run_bounds (P := P) (isSlice := true) (len := xs.length) (cap := cap) hlo hhi hl hh hok.1 hok.2.1 hok.2.2 e2
          refine Gives.value hm (v := .slice (if cap = l.toNat then ad else ad.map (·.add (l.toNat * t.size))) (h.toNat - l.toNat) (cap - l.toNat)) ?_ ?_
          · simp [execOp, ho, e1, Instr.sliceAt, run_underlying h1, Instr.slice, hb, h3.info.run_sizeOf]
          · rw [slotR_leaf]
            unfold ValR
            simp only [AT.isAgg, Ty.isAgg, Bool.false_eq_true, if_false, ATR, RepC]
            have hlen : ((xs.drop l.toNat).take (h - l).toNat).length = h.toNat - l.toNat := by
              simp only [List.length_take, List.length_drop]
              omega
            refine ⟨_, cap - l.toNat, by rw [hlen], by rw [hlen]; omega, ?_⟩
            by_cases hz : h.toNat - l.toNat = 0
            · left
              rw [← List.length_eq_zero_iff, hlen, hz]
            · right
              rcases e3 with e3 | ⟨B, off, e3, e4, e5⟩
              · subst e3; simp at hok; omega
              · have hne : ¬ cap = l.toNat := by omega
                refine ⟨B, off + l.toNat * t.size, by simp [hne, e3, Addr.add_at], e4, fun i y hy => ?_⟩
                rw [List.getElem?_take] at hy
                split at hy
                · rw [List.getElem?_drop] at hy
                  obtain ⟨cs, f1, f2, f3⟩ := e5 _ _ hy
                  refine ⟨cs, f1, fun j hj => ?_, f3⟩
                  rw [← f2 j hj]
                  congr 2
                  rw [Nat.add_mul]
                  omega
                · simp at hy
      · rename_i id st t u hu
        have hT := hC.ty hu
        cases hii : t.is u with
        | false => simp [hii] at hd
        | true =>
          simp only [hii, cond_true, Option.some.injEq] at hd
          subst hd
          have := Ty.is_eq hii
          subst this
          simp only [List.mem_cons, List.not_mem_nil, or_false, forall_eq_or_imp, forall_eq, decide_eq_true_eq] at hok
          simp only [lenD] at hn
          split at hn
          · rename_i xs hr
            simp only [Option.some.injEq] at hn
            subst hn
            obtain ⟨E, h1, h2, h3⟩ := tyOk_lst hT
            obtain ⟨b0, hb', hst', harr⟩ := lend_arr hr
            obtain ⟨ad, cap, e1, e2, e3w⟩ := hdr_wholeA hx hb' hst' harr
            have e3 := e3w.weak
            have hb := run_bounds (P := P) (isSlice := true) (len := xs.length) (cap := cap) hlo hhi hl hh hok.1 hok.2.1 hok.2.2 e2
            refine Gives.value hm (v := .slice (if cap = l.toNat then ad else ad.map (·.add (l.toNat * t.size))) (h.toNat - l.toNat) (cap - l.toNat)) ?_ ?_
            · simp [execOp, ho, e1, Instr.sliceAt, run_underlying h1, Instr.slice, hb, h3.info.run_sizeOf]
            · show ValR _ _ _ _ _ _
              unfold ValR
              simp only [AT.isAgg, Bool.false_eq_true, if_false, ATR]
              refine ⟨⟨_, rfl, rfl⟩, RefOk.of hb' hst', fun b hbb hs u ys hc => ?_⟩
              rw [hb'] at hbb
              cases hbb
              rw [harr] at hc
              cases hc
              refine ⟨_, _, by rw [show (h - l).toNat = h.toNat - l.toNat by omega], by omega, by omega, ?_⟩
              by_cases hne : cap = l.toNat
              · exact .inl (by omega)
              · rcases e3 with e3 | ⟨B, o', cs, e3, e4, e5, e6⟩
                · exact .inl (by omega)
                · refine .inr ⟨B, o', cs, e3, by simp [hne, e4, Addr.add_at], e5, ?_⟩
                  have : l.toNat * t.size + (cap - l.toNat) * t.size = cap * t.size := by rw [← Nat.add_mul]; congr 1; omega
                  omega
          · simp at hn
      · rename_i id st off len t u hu
        have hT := hC.ty hu
        cases hii : t.is u with
        | false => simp [hii] at hd
        | true =>
          simp only [hii, cond_true] at hd
          have := Ty.is_eq hii
          subst this
          split at hd
          · rename_i r hr
            obtain ⟨fz, xs⟩ := r
            cases hd
            simp only [List.mem_cons, List.not_mem_nil, or_false, forall_eq_or_imp, forall_eq, decide_eq_true_eq] at hok
            simp only [lenD, hr, Option.some.injEq] at hn
            subst hn
            obtain ⟨E, h1, h2, h3⟩ := tyOk_lst hT
            obtain ⟨ad, cap, e1, e2, e20, e3⟩ := hdr_piece hx hr
            have hb := run_bounds (P := P) (isSlice := true) (len := len) (cap := cap) hlo hhi hl hh hok.1 hok.2.1 hok.2.2 e2
            refine Gives.value hm (v := .slice (if cap = l.toNat then ad else ad.map (·.add (l.toNat * t.size))) (h.toNat - l.toNat) (cap - l.toNat)) ?_ ?_
            · simp [execOp, ho, e1, Instr.sliceAt, run_underlying h1, Instr.slice, hb, h3.info.run_sizeOf]
            · show ValR _ _ _ _ _ _
              unfold ValR
              simp only [AT.isAgg, Bool.false_eq_true, if_false, ATR]
              have hb' := rowsOf_some hr
              refine ⟨⟨_, rfl, rfl⟩, RefOk.of hb' rfl, fun b hbb hs u ys hc => ?_⟩
              rw [hb'] at hbb
              cases hbb
              cases hc
              refine ⟨_, _, by rw [show (h - l).toNat = h.toNat - l.toNat by omega], by omega, by omega, ?_⟩
              by_cases hne : cap = l.toNat
              · exact .inl (by omega)
              · rcases e3 with e3 | ⟨B, o', cs, e3, e4, e5, e6⟩
                · exact .inl (by omega)
                · refine .inr ⟨B, o', cs, e3, by simp [hne, e4, Addr.add_at, Nat.add_mul, Nat.add_assoc], e5, ?_⟩
                  have : l.toNat * t.size + (cap - l.toNat) * t.size = cap * t.size := by rw [← Nat.add_mul]; congr 1; omega
                  rw [Nat.add_mul]
                  omega
          · simp at hd
      · simp at hd
    · simp at hd

end
end Go.Ab
