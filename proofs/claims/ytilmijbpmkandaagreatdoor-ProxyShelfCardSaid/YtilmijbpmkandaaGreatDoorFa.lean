/-
  A part of the proof's own groundwork: a small machine beside the model, and that what it computes the model computes. No condition.
-/
import Derived.Calls
import Derived.Tactics
import GoSem.Dispatch
import Derived.Below
import Derived.Deep.LoopGhost
import Derived.WalkKit
import Derived.Laws.Concat
import Derived.Laws.StructEq
import Derived.ChangeKeysEq
import Derived.Laws.Cells
import Derived.Deep.OwnRows
import Derived.LaidEql
import Derived.Great.BuildSlice
import Derived.Laws.Tables
import Derived.Laws.IdiomCopy
/- The typed values of the small machine. -/
set_option autoImplicit false
namespace Go.Dp

/-- A value's kind. Chains (`snil`, `scons`) are the parts of a struct, of a closure's captured values, of several results. -/
inductive Ty where
  | unk
  | int (k : IntKind)
  | bool
  | str
  | list (e : Ty)
  | xls (e : Ty)
  | hl (r : Ty)
  | arr (n : Nat) (e : Ty)
  | snil
  | scons (a r : Ty)
  | tup (r : Ty)
  | ref (t : Ty)
  | fn (f : Nat) (caps : Ty)
  | bm (f : Nat) (first : Ty)
  | fnu (fs : List Nat)
  | sint (k : IntKind)
  | nilf
  | nils
  | nilp
  | nili
  | nilm
  | iface (t : Nat) (v : Ty)
  | loc (id : Nat) (ix : Bool) (post : List Nat)
  | selfp (id T : Nat)
  | slw (id : Nat)
  | slv (id : Nat)
  | row (e : Ty)
  | iter
  | mapp (id : Nat)
  | mobj (k v : Ty)
  deriving DecidableEq

@[reducible] def Ty.den : Ty → Type
  | .unk => Unit
  | .int _ => Int
  | .bool => Bool
  | .str => List UInt8
  | .list e => List e.den
  | .xls e => List e.den
  | .hl r => r.den
  | .arr _ e => List e.den
  | .snil => Unit
  | .scons a r => a.den × r.den
  | .tup r => r.den
  | .ref t => t.den
  | .fn _ c => c.den
  | .bm _ c => c.den
  | .fnu _ => Nat
  | .sint _ => Unit
  | .nilf => Unit
  | .nils => Unit
  | .nilp => Unit
  | .nili => Unit
  | .nilm => Unit
  | .iface _ v => v.den
  | .loc .. => Nat
  | .selfp .. => Unit
  | .slw _ => Unit
  | .slv _ => Nat × Nat
  | .row e => List e.den
  | .iter => List UInt8 × Nat
  | .mapp _ => Unit
  | .mobj k v => List (k.den × v.den)

def Ty.dflt : (t : Ty) → t.den
  | .unk => ()
  | .int _ => (0 : Int)
  | .bool => false
  | .str => ([] : List UInt8)
  | .list _ => []
  | .xls _ => []
  | .hl r => r.dflt
  | .arr n e => List.replicate n e.dflt
  | .snil => ()
  | .scons a r => (a.dflt, r.dflt)
  | .tup r => r.dflt
  | .ref t => t.dflt
  | .fn _ c => c.dflt
  | .bm _ c => c.dflt
  | .fnu _ => (0 : Nat)
  | .sint _ => ()
  | .nilf => ()
  | .nils => ()
  | .nilp => ()
  | .nili => ()
  | .nilm => ()
  | .iface _ v => v.dflt
  | .loc .. => (0 : Nat)
  | .selfp .. => ()
  | .slw _ => ()
  | .slv _ => ((0 : Nat), (0 : Nat))
  | .row _ => []
  | .iter => (([] : List UInt8), (0 : Nat))
  | .mapp _ => ()
  | .mobj _ _ => []

structure TV where
  t : Ty
  v : t.den

@[reducible] def TV.unk : TV := ⟨.unk, ()⟩
@[reducible] def tvI (k : IntKind) (n : Int) : TV := ⟨.int k, n⟩
@[reducible] def tvB (b : Bool) : TV := ⟨.bool, b⟩
@[reducible] def tvS (s : List UInt8) : TV := ⟨.str, s⟩

/-- How many cells of memory a value takes. -/
def Ty.csize : Ty → Nat
  | .snil => 0
  | .scons a r => a.csize + r.csize
  | .arr n e => n * e.csize
  | _ => 1

/-- Is the value one of several cells (a struct, an array)? -/
def Ty.isAgg : Ty → Bool
  | .snil => true
  | .scons _ _ => true
  | .arr _ _ => true
  | _ => false

def Ty.isUnk : Ty → Bool
  | .unk => true
  | _ => false

/-- A value that needs no memory of the machine that may change. -/
def Ty.pure : Ty → Bool
  | .int _ => true
  | .bool => true
  | .str => true
  | .list e => e.pure
  | .xls e => e.pure
  | .hl r => r.pure
  | .arr _ e => e.pure
  | .snil => true
  | .scons a r => a.pure && r.pure
  | .tup r => r.pure
  | .ref t => t.pure
  | .fn _ c => c.pure
  | .bm _ c => c.pure
  | .fnu _ => true
  | .sint _ => true
  | .nilf => true
  | .nils => true
  | .nilp => true
  | .nili => true
  | .nilm => true
  | .iface _ v => v.pure
  | _ => false

/-- No list of results among the cells. -/
def Ty.noTup : Ty → Bool
  | .tup _ => false
  | .scons a r => a.noTup && r.noTup
  | .arr _ e => e.noTup
  | _ => true

/-- What a row of the caller's own may hold. -/
def Ty.elem (t : Ty) : Bool := t.pure && t.noTup

/-- Whole numbers, bools, strings, nothing, and structs and tuples of these: a value that names no memory. -/
def Ty.noMem : Ty → Bool
  | .int _ => true
  | .bool => true
  | .str => true
  | .snil => true
  | .scons a r => a.noMem && r.noMem
  | .tup r => r.noMem
  | .nilf => true
  | .nils => true
  | .nilp => true
  | .nili => true
  | .nilm => true
  | _ => false

def Ty.isObj : Ty → Bool
  | .row _ => true
  | .iter => true
  | .mobj _ _ => true
  | _ => false

/-- Kinds whose default value is a type's zero value. -/
def Ty.zOK : Ty → Bool
  | .int _ => true
  | .bool => true
  | .str => true
  | .list e => e.pure
  | .nilf => true
  | .nilp => true
  | .nili => true
  | .nilm => true
  | .snil => true
  | .scons a r => a.zOK && r.zOK
  | .arr _ e => e.zOK
  | _ => false

def cast (t : Ty) (x : TV) : Option t.den := if h : x.t = t then some (h ▸ x.v) else none

def chGet : (r : Ty) → r.den → Nat → TV
  | .scons a _, v, 0 => ⟨a, v.1⟩
  | .scons _ r, v, n + 1 => chGet r v.2 n
  | _, _, _ => .unk

def chOff : Ty → Nat → Nat
  | .scons _ _, 0 => 0
  | .scons a r, n + 1 => a.csize + chOff r n
  | _, _ => 0

def chLen : Ty → Nat
  | .scons _ r => chLen r + 1
  | _ => 0

def tyGet : Ty → Nat → Ty
  | .scons a _, 0 => a
  | .scons _ r, n + 1 => tyGet r n
  | _, _ => .unk

/-- How a value's cells are grouped. -/
def Ty.shape : Ty → Ty
  | .scons a r => .scons a.shape r.shape
  | .snil => .snil
  | .arr n e => .arr n e.shape
  | .mobj _ _ => .mobj .unk .unk
  | _ => .unk

def pathTy : List Nat → Ty → Ty
  | [], t => t
  | f :: p, t => pathTy p (tyGet t f)

def pathOff : List Nat → Ty → Nat
  | [], _ => 0
  | f :: p, t => chOff t f + pathOff p (tyGet t f)

def pathOK : List Nat → Ty → Bool
  | [], _ => true
  | f :: p, t => Nat.blt f (chLen t) && pathOK p (tyGet t f)

def chSet : (r : Ty) → r.den → Nat → TV → TV
  | .scons _ r, v, 0, x => ⟨.scons x.t r, (x.v, v.2)⟩
  | .scons a r, v, n + 1, x => let z := chSet r v.2 n x; ⟨.scons a z.t, (v.1, z.v)⟩
  | r, v, _, _ => ⟨r, v⟩

def chMk : List TV → TV
  | [] => ⟨.snil, ()⟩
  | x :: l => let z := chMk l; ⟨.scons x.t z.t, (x.v, z.v)⟩

def chList : (r : Ty) → r.den → List TV
  | .scons a r, v => ⟨a, v.1⟩ :: chList r v.2
  | _, _ => []

/-! What is known of a type of Go's. -/
inductive TD where
  | int (k : IntKind) | bool | str | slice (e : Nat) | arr (n e : Nat) | struct (fs : List (Nat × Nat)) | ptr (e : Nat) | map (k e : Nat) | fn | iface (methods : Bool) | other
  deriving DecidableEq

structure TI where
  td : TD
  size : Nat
  bytes : Nat
  ty : Ty

def look {β : Type} : List (Nat × β) → Nat → Option β
  | [], _ => none
  | (j, v) :: r, i => bif Nat.beq j i then some v else look r i

def lookTV : List (Nat × TV) → Nat → TV
  | [], _ => .unk
  | (j, v) :: r, i => bif Nat.beq j i then v else lookTV r i

def memN : List Nat → Nat → Bool
  | [], _ => false
  | j :: r, i => bif Nat.beq j i then true else memN r i

abbrev Heap := List TV

structure St where
  regs : List (Nat × TV)
  heap : Heap
  app : List Nat := []

def St.get (s : St) (i : Nat) : TV := lookTV s.regs i
def St.set (s : St) (i : Nat) (x : TV) : St := ⟨(i, x) :: s.regs, s.heap, s.app⟩
def hget : Heap → Nat → TV
  | [], _ => .unk
  | x :: _, 0 => x
  | _ :: l, n + 1 => hget l n
def hset : Heap → Nat → TV → Heap
  | [], _, _ => []
  | _ :: l, 0, y => y :: l
  | x :: l, n + 1, y => x :: hset l n y

end Go.Dp
/- The small machine: what one operation does, what code does (in continuation-passing style: the kernel's reduction turns each test into a branch). -/
set_option autoImplicit false
namespace Go.Dp

inductive XEx where
  | normal
  | exit (id : Nat)
  | ret

def xeq : XEx → XEx → Bool
  | .normal, .normal => true
  | .exit i, .exit j => Nat.beq i j
  | .ret, .ret => true
  | _, _ => false

/-- What is live at a place: registers, objects, and which rows may have grown. -/
structure Seg where
  regs : List (Nat × Ty)
  heap : List Ty := []
  app : List Nat := []

abbrev Outs := List (XEx × Seg)

structure Hint where
  n : Nat
  conds : List (Nat × Outs) := []
  blocks : List (Nat × Outs) := []
  loops : List (Nat × Seg × Outs) := []
  regions : List (Nat × Outs) := []
  own : List Nat := []
  imm : List Nat := []
  frz : List Nat := []
  dfr : List Nat := []

structure Spec where
  args : Ty
  res : Ty
  own : Bool
  F : Nat → args.den → Option res.den

/-- A function that turns a row in place. -/
structure MSpec where
  e : Ty
  F : Nat → List e.den → Option (List e.den)

/-- A function whose answer is a row of its own. -/
structure OSpec where
  args : Ty
  e : Ty
  F : Nat → args.den → Option (List e.den)

structure Env where
  ti : List (Nat × TI)
  gl : List (Nat × TV)
  muts : List (Nat × MSpec) := []
  owns : List (Nat × OSpec) := []
  fns : List (Nat × Func × Hint)
  specs : List (Nat × Spec)
  K : Nat
  U : Nat := 40

def maxRoom : Nat := 140737488355328

def tiOf (E : Env) (t : Nat) : TI := (look E.ti t).getD ⟨.other, 0, 0, .unk⟩

/-- A constant's cells as a value of a kind. -/
def dec : (t : Ty) → List Value → Option (t.den × List Value)
  | .int k, .int k' n :: l => if k = k' then some (n, l) else none
  | .bool, .bool b :: l => some (b, l)
  | .str, .string b :: l => some (b.data.toList, l)
  | .list _, .slice none 0 0 :: l => some ([], l)
  | .nilp, .pointer none :: l => some ((), l)
  | .nilf, .nilFunc :: l => some ((), l)
  | .nili, .nilIface :: l => some ((), l)
  | .nilm, .map none :: l => some ((), l)
  | .snil, l => some ((), l)
  | .scons a r, l => match dec a l with
    | some (x, l) => match dec r l with
      | some (y, l) => some ((x, y), l)
      | none => none
    | none => none
  | _, _ => none

def constT (T : Ty) : Value → TV
  | .bool b => ⟨.bool, b⟩
  | .int k n => ⟨.int k, n⟩
  | .string b => ⟨.str, b.data.toList⟩
  | .slice none 0 0 => match T with
    | .list e => ⟨.list e, []⟩
    | _ => ⟨.nils, ()⟩
  | .pointer none => ⟨.nilp, ()⟩
  | .nilFunc => ⟨.nilf, ()⟩
  | .nilIface => ⟨.nili, ()⟩
  | .map none => ⟨.nilm, ()⟩
  | .agg cs => bif T.isAgg then (match dec T cs.toList with
    | some (x, []) => ⟨T, x⟩
    | _ => .unk) else .unk
  | _ => .unk

def ev (E : Env) (s : St) (t : Nat) : Operand → TV
  | .tmp i => s.get i
  | .const v => constT (tiOf E t).ty v
  | .global g => lookTV E.gl g
  | .func f => ⟨.fn f .snil, ()⟩

section
variable {α : Type}

def putC (h : Hint) (s : St) (d : Option Nat) (v : TV) (k : St → Option α) : Option α :=
  match d with
  | some d => bif Nat.blt d h.n then k (s.set d v) else none
  | none => k s

def asB (x : TV) (k : Bool → Option α) : Option α :=
  match x with
  | ⟨.bool, b⟩ => k b
  | _ => none

def asI (x : TV) (k : IntKind → Int → Option α) : Option α :=
  match x with
  | ⟨.int kd, n⟩ => k kd n
  | _ => none

def ibits (op : BinOp) (k : IntKind) (x y : Int) : Int :=
  k.wrap (match op with
    | .and => BitVec.ofInt k.bits x &&& BitVec.ofInt k.bits y
    | .or => BitVec.ofInt k.bits x ||| BitVec.ofInt k.bits y
    | .xor => BitVec.ofInt k.bits x ^^^ BitVec.ofInt k.bits y
    | _ => BitVec.ofInt k.bits x &&& ~~~ BitVec.ofInt k.bits y).toNat

def eqv : (t : Ty) → t.den → t.den → Bool
  | .int _, x, y => decide ((x : Int) = y)
  | .bool, x, y => (x : Bool) == y
  | .str, x, y => (x : List UInt8) == y
  | .snil, _, _ => true
  | .scons a r, x, y => eqv a x.1 y.1 && eqv r x.2 y.2
  | _, _, _ => false

/-- Whole numbers, bools, strings, and structs of these. -/
def flat : Ty → Bool
  | .int _ => true
  | .bool => true
  | .str => true
  | .snil => true
  | .scons a r => flat a && flat r
  | _ => false

def binC (td : TD) (op : BinOp) (x y : TV) (k : TV → Option α) : Option α :=
  match x, y with
  | ⟨.int a, x⟩, ⟨.int b, y⟩ =>
    match op with
    | .shl => bif decide (y < 0) then none else k ⟨.int a, a.wrap (x * 2 ^ (min y.toNat a.bits))⟩
    | .shr => bif decide (y < 0) then none else k ⟨.int a, x.fdiv (2 ^ (min y.toNat a.bits))⟩
    | op => bif decide (a = b) then (match op with
      | .add => k ⟨.int a, a.wrap (x + y)⟩
      | .sub => k ⟨.int a, a.wrap (x - y)⟩
      | .mul => k ⟨.int a, a.wrap (x * y)⟩
      | .quo => bif decide (y = 0) then none else k ⟨.int a, a.wrap (x.tdiv y)⟩
      | .rem => bif decide (y = 0) then none else k ⟨.int a, x.tmod y⟩
      | .and => k ⟨.int a, ibits .and a x y⟩
      | .or => k ⟨.int a, ibits .or a x y⟩
      | .xor => k ⟨.int a, ibits .xor a x y⟩
      | .andNot => k ⟨.int a, ibits .andNot a x y⟩
      | .eql => k ⟨.bool, decide (x = y)⟩
      | .neq => k ⟨.bool, !decide (x = y)⟩
      | .lss => k ⟨.bool, decide (x < y)⟩
      | .leq => k ⟨.bool, decide (x ≤ y)⟩
      | .gtr => k ⟨.bool, decide (x > y)⟩
      | .geq => k ⟨.bool, decide (x ≥ y)⟩
      | _ => none) else none
  | ⟨.str, x⟩, ⟨.str, y⟩ =>
    match op with
    | .add => bif decide (x.length + y.length ≤ maxRoom) then k ⟨.str, x ++ y⟩ else none
    | .eql => k ⟨.bool, x == y⟩
    | .neq => k ⟨.bool, !(x == y)⟩
    | .lss => k ⟨.bool, Op.bytesLess x y⟩
    | .leq => k ⟨.bool, Op.bytesLess x y || x == y⟩
    | .gtr => k ⟨.bool, !(Op.bytesLess x y || x == y)⟩
    | .geq => k ⟨.bool, !Op.bytesLess x y⟩
    | _ => none
  | ⟨.bool, x⟩, ⟨.bool, y⟩ =>
    match td with
    | .bool => match op with
      | .eql => k ⟨.bool, x == y⟩
      | .neq => k ⟨.bool, !(x == y)⟩
      | _ => none
    | _ => none
  | _, _ => none

def unC (op : UnOp) (x : TV) (k : TV → Option α) : Option α :=
  match op, x with
  | .not, ⟨.bool, b⟩ => k ⟨.bool, !b⟩
  | .neg, ⟨.int kd, n⟩ => k ⟨.int kd, kd.wrap (0 - n)⟩
  | _, _ => none

def indexC (td : TD) (sz : Nat) (agg : Bool) (x i : TV) (k : TV → Option α) : Option α :=
  match x, i with
  | ⟨.str, s⟩, ⟨.int _, i⟩ => match td with
    | .str => bif decide (0 ≤ i) && decide (i < (s.length : Int)) then k ⟨.int .u8, ((s.getD i.toNat 0).toNat : Int)⟩ else none
    | _ => none
  | ⟨.arr n e, xs⟩, ⟨.int _, i⟩ => match td with
    | .arr m _ => bif Nat.beq m n && Nat.beq e.csize sz && e.isAgg == agg then
        (bif decide (0 ≤ i) && decide (i < (n : Int)) then k ⟨e, xs.getD i.toNat e.dflt⟩ else none) else none
    | _ => none
  | _, _ => none

/-- An address of an element of a slice. -/
def indexAddrC (s : St) (sz : Nat) (x i : TV) (k : TV → Option α) : Option α :=
  match x, i with
  | ⟨.list e, xs⟩, ⟨.int _, i⟩ => bif Nat.beq e.csize sz then (bif decide (0 ≤ i) && decide (i < (xs.length : Int)) then k ⟨.ref e, xs.getD i.toNat e.dflt⟩ else none) else none
  | ⟨.hl r, v⟩, ⟨.int _, i⟩ => bif Nat.beq 1 sz then (bif decide (0 ≤ i) && decide (i < (chLen r : Int)) then (let z := chGet r v i.toNat; bif z.t.isUnk then none else k ⟨.ref z.t, z.v⟩) else none) else none
  | ⟨.slw id, _⟩, ⟨.int _, i⟩ => match hget s.heap id with
    | ⟨.row e, xs⟩ => bif Nat.beq e.csize sz then (bif decide (0 ≤ i) && decide (i < (xs.length : Int)) then k ⟨.loc id true [], i.toNat⟩ else none) else none
    | _ => none
  | ⟨.slv id, v⟩, ⟨.int _, i⟩ => match hget s.heap id with
    | ⟨.row e, _⟩ => bif Nat.beq e.csize sz then (bif decide (0 ≤ i) && decide (i < (v.2 : Int)) then k ⟨.loc id true [], v.1 + i.toNat⟩ else none) else none
    | _ => none
  | _, _ => none

/-- An address of an element of an array. -/
def indexArrC (n sz : Nat) (x i : TV) (k : TV → Option α) : Option α :=
  match x, i with
  | ⟨.ref (.arr m e), xs⟩, ⟨.int _, i⟩ => bif Nat.beq m n && Nat.beq e.csize sz then (bif decide (0 ≤ i) && decide (i < (n : Int)) then k ⟨.ref e, xs.getD i.toNat e.dflt⟩ else none) else none
  | _, _ => none

/-- Bounds of a slice expression over something of a length. -/
def boundsC (n : Nat) (lo hi : Option TV) (k : Nat → Nat → Option α) : Option α :=
  match lo, hi with
  | none, none => k 0 n
  | some ⟨.int _, l⟩, none => bif decide (0 ≤ l) && decide (l ≤ (n : Int)) then k l.toNat n else none
  | none, some ⟨.int _, h⟩ => bif decide (0 ≤ h) && decide (h ≤ (n : Int)) then k 0 h.toNat else none
  | some ⟨.int _, l⟩, some ⟨.int _, h⟩ =>
    bif decide (0 ≤ h) && decide (h ≤ (n : Int)) then (bif decide (0 ≤ l) && decide (l ≤ h) then k l.toNat h.toNat else none) else none
  | _, _ => none

def cut {β : Type} (xs : List β) (l h : Nat) : List β := (xs.drop l).take (h - l)

def sliceC (s : St) (sz : Nat) (x : TV) (lo hi : Option TV) (k : TV → Option α) : Option α :=
  match x with
  | ⟨.list e, xs⟩ => bif Nat.beq e.csize sz then boundsC xs.length lo hi fun l h => k ⟨.list e, cut xs l h⟩ else none
  | ⟨.slw id, _⟩ => match hget s.heap id with
    | ⟨.row e, xs⟩ => bif Nat.beq e.csize sz then boundsC xs.length lo hi fun l h => k ⟨.slv id, (l, h - l)⟩ else none
    | _ => none
  | ⟨.slv id, v⟩ => match hget s.heap id with
    | ⟨.row e, _⟩ => bif Nat.beq e.csize sz then boundsC v.2 lo hi fun l h => k ⟨.slv id, (v.1 + l, h - l)⟩ else none
    | _ => none
  | _ => none

/-- The part of a value at a path. -/
def partAt : (t : Ty) → t.den → List Nat → TV
  | t, v, [] => ⟨t, v⟩
  | t, v, f :: p => let z := chGet t v f; partAt z.t z.v p

/-- The value with another part at a path. -/
def setAt : List Nat → (t : Ty) → t.den → TV → TV
  | [], _, _, x => x
  | f :: p, t, v, x => let z := chGet t v f; chSet t v f (setAt p z.t z.v x)

def bytesOf (xs : List Int) : List UInt8 := xs.map fun n => UInt8.ofNat n.toNat
def intsOf (s : List UInt8) : List Int := s.map fun b => (b.toNat : Int)

/-- The elements of a slice or a string, as values that need no memory that may change. -/
def elemsC (s : St) (e : Ty) (x : TV) (k : List e.den → Option α) : Option α :=
  match x with
  | ⟨.nils, _⟩ => k []
  | ⟨.list e', xs⟩ => match cast (.list e) ⟨.list e', xs⟩ with
    | some ys => k ys
    | none => none
  | ⟨.str, b⟩ => match cast (.list e) ⟨.list (.int .u8), intsOf b⟩ with
    | some ys => k ys
    | none => none
  | ⟨.slw id, _⟩ => match hget s.heap id with
    | ⟨.row e', xs⟩ => match cast (.list e) ⟨.list e', xs⟩ with
      | some ys => k ys
      | none => none
    | _ => none
  | ⟨.slv id, v⟩ => match hget s.heap id with
    | ⟨.row e', xs⟩ => match cast (.list e) ⟨.list e', cut xs v.1 (v.1 + v.2)⟩ with
      | some ys => k ys
      | none => none
    | _ => none
  | _ => none

/-- Everything that names an object's row is forgotten. -/
def killV (p : Nat → Bool) : (t : Ty) → t.den → TV
  | .scons a r, v => let x := killV p a v.1; let y := killV p r v.2; ⟨.scons x.t y.t, (x.v, y.v)⟩
  | .tup r, v => let y := killV p r v; ⟨.tup y.t, y.v⟩
  | .hl r, v => bif r.pure then ⟨.hl r, v⟩ else .unk
  | .list e, v => bif e.pure then ⟨.list e, v⟩ else .unk
  | .xls e, v => bif e.pure then ⟨.xls e, v⟩ else .unk
  | .ref t, v => bif t.pure then ⟨.ref t, v⟩ else .unk
  | .iface t a, v => bif a.pure then ⟨.iface t a, v⟩ else .unk
  | .fn f c, v => let y := killV p c v; ⟨.fn f y.t, y.v⟩
  | .bm f c, v => let y := killV p c v; ⟨.bm f y.t, y.v⟩
  | .slw j, v => bif p j then .unk else ⟨.slw j, v⟩
  | .slv j, v => bif p j then .unk else ⟨.slv j, v⟩
  | .loc j i q, v => bif p j && i then .unk else ⟨.loc j i q, v⟩
  | t, v => ⟨t, v⟩
def killT (p : Nat → Bool) (x : TV) : TV := killV p x.t x.v
def killR (p : Nat → Bool) : List (Nat × TV) → List (Nat × TV)
  | [] => []
  | (i, x) :: l => (i, killT p x) :: killR p l
def killH (p : Nat → Bool) : Heap → Heap
  | [] => []
  | x :: l => killT p x :: killH p l

/-- A value that no longer changes: rows as lists, the machine's variables (`r`) as they are now. -/
def deepV (H : Heap) (r : Nat → TV) : (t : Ty) → t.den → TV
  | .scons a b, v => let x := deepV H r a v.1; let y := deepV H r b v.2; ⟨.scons x.t y.t, (x.v, y.v)⟩
  | .tup b, v => let y := deepV H r b v; ⟨.tup y.t, y.v⟩
  | .hl b, v => let y := deepV H r b v; ⟨.hl y.t, y.v⟩
  | .fn f c, v => let y := deepV H r c v; ⟨.fn f y.t, y.v⟩
  | .bm f c, v => let y := deepV H r c v; ⟨.bm f y.t, y.v⟩
  | .iface t x, v => let y := deepV H r x v; ⟨.iface t y.t, y.v⟩
  | .slw id, _ => match hget H id with
    | ⟨.row e, xs⟩ => ⟨.list e, xs⟩
    | _ => .unk
  | .slv id, v => match hget H id with
    | ⟨.row e, xs⟩ => ⟨.list e, cut xs v.1 (v.1 + v.2)⟩
    | _ => .unk
  | .loc id false [], _ => let y := r id; bif y.t.isUnk || y.t.isObj then .unk else ⟨.ref y.t, y.v⟩
  | t, v => ⟨t, v⟩
def deepF (H : Heap) : Nat → TV → TV
  | 0, x => deepV H (fun _ => .unk) x.t x.v
  | n + 1, x => deepV H (fun id => deepF H n (hget H id)) x.t x.v


/-! Maps: a key's value; a store. -/
def mfind {κ ν : Type} (eq : κ → κ → Bool) : List (κ × ν) → κ → Option ν
  | [], _ => none
  | (a, b) :: l, k => bif eq k a then some b else mfind eq l k
def mput {κ ν : Type} (eq : κ → κ → Bool) : List (κ × ν) → κ → ν → List (κ × ν)
  | [], k, v => [(k, v)]
  | (a, b) :: l, k, v => bif eq k a then (k, v) :: l else (a, b) :: mput eq l k v
def mdrop {κ ν : Type} (eq : κ → κ → Bool) : List (κ × ν) → κ → List (κ × ν)
  | [], _ => []
  | (a, b) :: l, k => bif eq k a then l else (a, b) :: mdrop eq l k
def keyK : TD → Ty → Bool
  | .str, .str => true
  | .int k, .int k' => decide (k = k')
  | _, _ => false

/-- One of several functions. -/
def fnuC : List Nat → Nat → Nat → (Nat → Option α) → Option α
  | [], _, _, _ => none
  | f :: fs, i, n, k => bif Nat.beq n i then k f else fnuC fs (i + 1) n k
def fnuT : Ty → Ty
  | .fn f .snil => .fnu [f]
  | .scons a r => .scons (fnuT a) (fnuT r)
  | t => t
def uniT : Ty → Ty → Option Ty
  | .fnu fs, .fn g .snil => some (.fnu (fs ++ [g]))
  | .scons a r, .scons b s => match uniT a b, uniT r s with
    | some x, some y => some (.scons x y)
    | _, _ => none
  | t, u => bif decide (t = u) then some t else none
def uniL : Ty → List TV → Option Ty
  | t, [] => some t
  | t, x :: l => match uniT t x.t with
    | some u => uniL u l
    | none => none
def idxN : List Nat → Nat → Nat → Option Nat
  | [], _, _ => none
  | g :: fs, i, f => bif Nat.beq g f then some i else idxN fs (i + 1) f
/-- A value as one of a union's. -/
def coeU : (T : Ty) → (u : Ty) → u.den → Option T.den
  | .fnu fs, .fn g .snil, _ => idxN fs 0 g
  | .scons a r, .scons b s, v => match coeU a b v.1, coeU r s v.2 with
    | some x, some y => some (x, y)
    | _, _ => none
  | T, u, v => cast T ⟨u, v⟩
def coeL (T : Ty) : List TV → Option (List T.den)
  | [] => some []
  | x :: l => match coeU T x.t x.v, coeL T l with
    | some y, some ys => some (y :: ys)
    | _, _ => none
/-- A list of values of kinds that differ in their functions alone. -/
def uniRow : List TV → Option ((T : Ty) × List T.den)
  | [] => none
  | x :: l => match uniL (fnuT x.t) l with
    | some T => match coeL T (x :: l) with
      | some ys => some ⟨T, ys⟩
      | none => none
    | none => none

end
end Go.Dp
/- The small machine: operations, regions, code, calls. -/
set_option autoImplicit false
set_option linter.unusedVariables false
namespace Go.Dp
def Hint.isOwn (h : Hint) (d : Option Nat) : Bool :=
  match d with
  | some d => memN h.own d
  | none => false
def Hint.isImm (h : Hint) (d : Option Nat) : Bool :=
  match d with
  | some d => memN h.imm d
  | none => false
def Hint.isFrz (h : Hint) (d : Option Nat) : Bool :=
  match d with
  | some d => memN h.frz d
  | none => false
def isNilS : Operand → Bool
  | .const (.slice none 0 0) => true
  | _ => false

mutual
/-- A type whose values are compared part by part: whole numbers, bools, strings, structs of these. -/
def eqE (E : Env) : Nat → Nat → Ty → Bool
  | 0, _, _ => false
  | d + 1, t, T => match (tiOf E t).td, T with
    | .int _, .int _ => true
    | .bool, .bool => true
    | .str, .str => true
    | .struct fs, .scons a r => flat (tiOf E t).ty && eqEs E d fs 0 (.scons a r)
    | _, _ => false
def eqEs (E : Env) : Nat → List (Nat × Nat) → Nat → Ty → Bool
  | _, [], _, .snil => true
  | 0, _ :: _, _, _ => false
  | d + 1, (ft, o) :: fs, off, .scons a r => Nat.beq o off && Nat.beq a.csize (tiOf E ft).size && a.isAgg == (tiOf E ft).ty.isAgg && eqE E d ft a && eqEs E d fs (off + a.csize) r
  | _, _, _, _ => false
end

section
variable {α : Type}

def eqC (E : Env) (op : BinOp) (xt : Nat) (X Y : TV) (k : TV → Option α) : Option α :=
  bif eqE E 100 xt X.t then (match cast X.t Y with
    | some y => (match op with
      | .eql => k ⟨.bool, eqv X.t X.v y⟩
      | .neq => k ⟨.bool, !eqv X.t X.v y⟩
      | _ => none)
    | none => none) else none

/-- Are two pointers the same? -/
def ptrEq (x y : TV) : Option Bool :=
  match x, y with
  | ⟨.nilp, _⟩, ⟨.nilp, _⟩ => some true
  | ⟨.nilp, _⟩, ⟨.loc .., _⟩ => some false
  | ⟨.loc .., _⟩, ⟨.nilp, _⟩ => some false
  | ⟨.ref _, _⟩, ⟨.nilp, _⟩ => some false
  | ⟨.loc id ix p, i⟩, ⟨.loc id' ix' p', i'⟩ => bif Nat.beq id id' && (ix == ix') && decide (p = p') && Nat.beq i i' then some true else none
  | _, _ => none
def ptrEqC (E : Env) (e : Nat) (op : BinOp) (x y : TV) (k : TV → Option α) : Option α :=
  match ptrEq x y with
  | some b => bif Nat.blt 0 (tiOf E e).size then (match op with
    | .eql => k ⟨.bool, b⟩
    | .neq => k ⟨.bool, !b⟩
    | _ => none) else none
  | none => none
/-- Whole numbers, texts, bools; pointers. -/
def binAny (E : Env) (td : TD) (op : BinOp) (x y : TV) (k : TV → Option α) : Option α :=
  match td with
  | .ptr e => ptrEqC E e op x y k
  | td => binC td op x y k

/-- Load: the address's kind says what is there. -/
def loadC (E : Env) (s : St) (t : Nat) (x : TV) (k : TV → Option α) : Option α :=
  match x with
  | ⟨.ref a, v⟩ => bif Nat.beq a.csize (tiOf E t).size && a.isAgg == (tiOf E t).ty.isAgg then k ⟨a, v⟩ else none
  | ⟨.loc id false post, _⟩ => let z := hget s.heap id; let y := partAt z.t z.v post
    bif Nat.beq y.t.csize (tiOf E t).size && y.t.isAgg == (tiOf E t).ty.isAgg && !y.t.isObj then k y else none
  | ⟨.loc id true post, i⟩ => match hget s.heap id with
    | ⟨.row e, xs⟩ => let y := partAt e (xs.getD i e.dflt) post
      bif Nat.beq y.t.csize (tiOf E t).size && y.t.isAgg == (tiOf E t).ty.isAgg then k y else none
    | _ => none
  | _ => none

def storeC (E : Env) (s : St) (t : Nat) (x y : TV) (k : St → Option α) : Option α :=
  bif Nat.beq y.t.csize (tiOf E t).size && y.t.isAgg == (tiOf E t).ty.isAgg && !y.t.isUnk && y.t.noTup then
    match x with
    | ⟨.loc id false post, _⟩ => let z := hget s.heap id
      bif decide ((partAt z.t z.v post).t.shape = y.t.shape) && !(partAt z.t z.v post).t.isObj && !y.t.isObj then k ⟨s.regs, hset s.heap id (setAt post z.t z.v y), s.app⟩ else none
    | ⟨.loc id true post, i⟩ => match hget s.heap id with
      | ⟨.row e, xs⟩ => match cast e (setAt post e (xs.getD i e.dflt) y) with
        | some z => k ⟨s.regs, hset s.heap id ⟨.row e, xs.set i z⟩, s.app⟩
        | none => none
      | _ => none
    | _ => none
  else none

def tmpOf : Operand → Nat
  | .tmp i => i
  | _ => 0

def two (i j k : Nat) : Bool := Nat.beq i k || Nat.beq j k
/-- A row's elements take another row's place. -/
def moveS (s : St) (i j : Nat) (e : Ty) (xs : List e.den) : St :=
  ⟨killR (two i j) s.regs, killH (two i j) (hset (hset s.heap i ⟨.row e, xs⟩) j ⟨.row e, []⟩), i :: j :: s.app⟩
def moveAt (s : St) (x y : TV) : Option (Nat × Nat) :=
  match x, y with
  | ⟨.loc id false post, _⟩, ⟨.slw j, _⟩ => match partAt (hget s.heap id).t (hget s.heap id).v post with
    | ⟨.slw i, _⟩ => bif Nat.beq i j || !Nat.blt i s.heap.length || !Nat.blt j s.heap.length then none else some (i, j)
    | _ => none
  | _, _ => none
/-- A list of one's own is stored over another: it takes the other's number. -/
def storeMoveC (E : Env) (s : St) (t : Nat) (x y : TV) (k : St → Option α) : Option α :=
  match moveAt s x y with
  | some (i, j) => match hget s.heap i, hget s.heap j with
    | ⟨.row e, _⟩, ⟨.row e', ys⟩ => match cast (.list e) ⟨.list e', ys⟩ with
      | some xs => storeC E (moveS s i j e xs) t x ⟨.slw i, ()⟩ k
      | none => none
    | _, _ => none
  | none => storeC E s t x y k

/-- The address of a field; the value's field. -/
def objTy (s : St) (id : Nat) (ix : Bool) : Ty :=
  bif ix then (match (hget s.heap id).t with | .row e => e | _ => .unk) else (hget s.heap id).t

/-- The address of an element of an array behind a pointer. -/
def elemAddrC (s : St) (n sz : Nat) (x i : TV) (k : TV → Option α) : Option α :=
  match x, i with
  | ⟨.loc id ix post, j⟩, ⟨.int _, y⟩ => let T := pathTy post (objTy s id ix)
    bif decide (0 ≤ y) && decide (y < (n : Int)) && Nat.beq (chOff T y.toNat) (y.toNat * sz) && Nat.blt y.toNat (chLen T) then k ⟨.loc id ix (post ++ [y.toNat]), j⟩ else none
  | x, i => indexArrC n sz x i k

def fieldAddrC (E : Env) (s : St) (t : Nat) (x : TV) (f : Nat) (k : TV → Option α) : Option α :=
  match (tiOf E t).td with
  | .struct fs => match fs[f]? with
    | some (ft, off) => match x with
      | ⟨.ref a, v⟩ => bif Nat.beq (chOff a f) off && Nat.blt f (chLen a) && !Nat.beq (tiOf E ft).size 0 then (let z := chGet a v f; k ⟨.ref z.t, z.v⟩) else none
      | ⟨.loc id ix post, i⟩ => let T := pathTy post (objTy s id ix)
        bif Nat.beq (chOff T f) off && Nat.blt f (chLen T) && !Nat.beq (tiOf E ft).size 0 then k ⟨.loc id ix (post ++ [f]), i⟩ else none
      | _ => none
    | none => none
  | _ => none

def fieldC (E : Env) (t : Nat) (x : TV) (f : Nat) (k : TV → Option α) : Option α :=
  match (tiOf E t).td with
  | .struct fs => match fs[f]? with
    | some (ft, off) => let z := chGet x.t x.v f
      bif Nat.beq (chOff x.t f) off && Nat.blt f (chLen x.t) && Nat.beq z.t.csize (tiOf E ft).size && z.t.isAgg == (tiOf E ft).ty.isAgg then k z else none
    | none => none
  | _ => none

def convC (E : Env) (h : Hint) (s : St) (d : Option Nat) (src dst : Nat) (x : TV) (k : St → Option α) : Option α :=
  match (tiOf E dst).td, x with
  | .int kd, ⟨.int _, n⟩ => match (tiOf E src).td with
    | .int _ => putC h s d ⟨.int kd, kd.wrap n⟩ k
    | _ => none
  | .str, ⟨.str, b⟩ => match (tiOf E src).td with
    | .str => putC h s d ⟨.str, b⟩ k
    | _ => none
  | .slice e, ⟨.str, b⟩ => match (tiOf E e).td, (tiOf E src).td with
    | .int .u8, .str => bif (h.isOwn d) then
        putC h ⟨s.regs, s.heap ++ [⟨.row (.int .u8), intsOf b⟩], s.app⟩ d ⟨.slw s.heap.length, ()⟩ k
      else putC h s d ⟨.list (.int .u8), intsOf b⟩ k
    | _, _ => none
  | .str, x => match (tiOf E src).td with
    | .slice e => match (tiOf E e).td with
      | .int .u8 => elemsC s (.int .u8) x fun xs => putC h s d ⟨.str, bytesOf xs⟩ k
      | _ => none
    | _ => none
  | _, _ => none

/-- The places of an array's elements. -/
def arrFs (n e sz : Nat) : List (Nat × Nat) := (List.range n).map fun i => (e, i * sz)
/-- Parts of a struct or an array by value. -/
def buildC (E : Env) (s : St) (t : Nat) (init : TV) (parts : List (Nat × Operand)) (k : TV → Option α) : Option α :=
  match (tiOf E t).td with
  | .struct fs => bif (tiOf E t).ty.zOK && fs.all (fun f => (look E.ti f.1).isSome) then go fs init.t init.v parts else none
  | .arr n e => bif (tiOf E t).ty.zOK && (look E.ti e).isSome then go (arrFs n e (tiOf E e).size) init.t init.v parts else none
  | _ => none
  where
  go (fs : List (Nat × Nat)) (T : Ty) (v : T.den) : List (Nat × Operand) → Option α
    | [] => k ⟨T, v⟩
    | (f, x) :: r => match fs[f]? with
      | some (ft, off) => let y := ev E s ft x
        bif Nat.beq (chOff T f) off && Nat.blt f (chLen T) && Nat.beq y.t.csize (tiOf E ft).size && Nat.beq (tyGet T f).csize (tiOf E ft).size && y.t.isAgg == (tiOf E ft).ty.isAgg && !y.t.isUnk then
          (let z := chSet T v f y; go fs z.t z.v r) else none
      | none => none

/-- Where the first list lies among a value's parts. -/
def ownQ : Ty → Nat → Option (List Nat)
  | .list _, _ => some []
  | .scons a r, i => match ownQ a 0 with
    | some p => some (i :: p)
    | none => ownQ r (i + 1)
  | _, _ => none
/-- Where the first list lies that no part is for. -/
def ownP (ps : List (Nat × Operand)) : Nat → Ty → List Nat
  | i, .scons a r => bif ps.any (fun p => Nat.beq p.1 i) then ownP ps (i + 1) r else (match ownQ a 0 with
    | some p => i :: p
    | none => ownP ps (i + 1) r)
  | _, _ => []
/-- A struct of which an omitted list is a row of one's own. -/
def buildOwnC (E : Env) (h : Hint) (s : St) (d : Option Nat) (t : Nat) (parts : List (Nat × Operand)) (k : St → Option α) : Option α :=
  match pathTy (ownP parts 0 (tiOf E t).ty) (tiOf E t).ty with
  | .list e => bif !(e.elem && pathOK (ownP parts 0 (tiOf E t).ty) (tiOf E t).ty && !(ownP parts 0 (tiOf E t).ty).isEmpty) then none else
      buildC E ⟨s.regs, s.heap ++ [⟨.row e, []⟩], s.app⟩ t (setAt (ownP parts 0 (tiOf E t).ty) (tiOf E t).ty (tiOf E t).ty.dflt ⟨.slw s.heap.length, ()⟩) parts fun v => putC h ⟨s.regs, s.heap ++ [⟨.row e, []⟩], s.app⟩ d v k
  | _ => none

def rowOf (e : Ty) : List TV → Option (List e.den)
  | [] => some []
  | x :: l => match cast e x, rowOf e l with
    | some y, some ys => some (y :: ys)
    | _, _ => none

def partsInOrder : Nat → List (Nat × Operand) → Bool
  | _, [] => true
  | n, (i, _) :: l => Nat.beq i n && partsInOrder (n + 1) l

def buildSliceC (E : Env) (h : Hint) (s : St) (d : Option Nat) (t len : Nat) (parts : List (Nat × Operand)) (k : St → Option α) : Option α :=
  match (tiOf E t).td with
  | .slice et => bif Nat.beq parts.length len && partsInOrder 0 parts && (tiOf E et).ty.zOK && Nat.beq (tiOf E et).ty.csize (tiOf E et).size && Nat.blt 0 (tiOf E et).size && Nat.ble (len * (tiOf E et).size) 16777216 then
      (let l := parts.map fun (_, x) => ev E s et x
       match rowOf (tiOf E et).ty l with
       | some ys => bif !(tiOf E et).ty.elem then none else bif (h.isOwn d) then
           putC h ⟨s.regs, s.heap ++ [⟨.row (tiOf E et).ty, ys⟩], s.app⟩ d ⟨.slw s.heap.length, ()⟩ k
         else bif (h.isFrz d) then putC h s d ⟨.xls (tiOf E et).ty, ys⟩ k
         else putC h s d ⟨.list (tiOf E et).ty, ys⟩ k
       | none => match (bif Nat.blt 1 (tiOf E et).size then uniRow l else none) with
         | some ⟨T, ys⟩ => bif T.elem && l.all (fun x => !x.t.isUnk) && Nat.beq T.csize (tiOf E et).size && T.isAgg == (tiOf E et).ty.isAgg && !h.isOwn d then putC h s d ⟨.list T, ys⟩ k else none
         | none => bif l.all (fun x => Nat.beq x.t.csize 1 && !x.t.isAgg && !x.t.isUnk) && Nat.beq (tiOf E et).size 1 then (let c := chMk l; putC h s d ⟨.hl c.t, c.v⟩ k) else none)
    else none
  | _ => none

/-- A row of zeros of one's own, each of one cell. -/
def makeSliceC (E : Env) (h : Hint) (s : St) (d : Option Nat) (t : Nat) (x y : TV) (k : St → Option α) : Option α :=
  match (tiOf E t).td, x, y with
  | .slice et, ⟨.int _, n⟩, ⟨.int _, c⟩ => bif h.isOwn d && decide (n = c) && decide (0 ≤ n) && decide (n.toNat * (tiOf E et).bytes ≤ maxRoom) && (tiOf E et).ty.zOK && (tiOf E et).ty.elem && Nat.beq (tiOf E et).ty.csize 1 && Nat.beq (tiOf E et).size 1 && Nat.blt 0 (tiOf E et).bytes then
      putC h ⟨s.regs, s.heap ++ [⟨.row (tiOf E et).ty, List.replicate n.toNat (tiOf E et).ty.dflt⟩], s.app⟩ d ⟨.slw s.heap.length, ()⟩ k else none
  | _, _, _ => none

def lenC (td : TD) (s : St) (x : TV) (k : TV → Option α) : Option α :=
  match td with
  | .str => match x with
    | ⟨.str, b⟩ => k ⟨.int .i64, (b.length : Int)⟩
    | _ => none
  | .slice _ => lenSl s x k
  | .arr n _ => k ⟨.int .i64, (n : Int)⟩
  | _ => none
  where lenSl (s : St) (x : TV) (k : TV → Option α) : Option α :=
  match x with
  | ⟨.list _, xs⟩ => k ⟨.int .i64, (xs.length : Int)⟩
  | ⟨.hl r, _⟩ => k ⟨.int .i64, (chLen r : Int)⟩
  | ⟨.slw id, _⟩ => match hget s.heap id with
    | ⟨.row _, xs⟩ => k ⟨.int .i64, (xs.length : Int)⟩
    | _ => none
  | ⟨.slv _, v⟩ => k ⟨.int .i64, (v.2 : Int)⟩
  | ⟨.nils, _⟩ => k ⟨.int .i64, 0⟩
  | _ => none

def isSeq : TD → Bool
  | .slice _ => true
  | .str => true
  | _ => false

def appendC (E : Env) (h : Hint) (s : St) (d : Option Nat) (t u : Nat) (x y : TV) (k : St → Option α) : Option α :=
  match (tiOf E t).td with
  | .slice et => match x with
    | ⟨.slw id, _⟩ => match hget s.heap id with
      | ⟨.row e, xs⟩ => bif isSeq (tiOf E u).td && Nat.beq e.csize (tiOf E et).size && Nat.beq (tiOf E et).ty.csize (tiOf E et).size && (tiOf E et).ty.zOK && Nat.blt 0 (tiOf E et).bytes then
        elemsC s e y fun ys =>
          bif decide ((xs.length + ys.length) * (tiOf E et).bytes ≤ maxRoom) then
            putC h ⟨killR (Nat.beq id) s.regs, killH (Nat.beq id) (hset s.heap id ⟨.row e, xs ++ ys⟩), id :: s.app⟩ d ⟨.slw id, ()⟩ k else none
        else none
      | _ => none
    | ⟨.xls e, xs⟩ => bif e.elem && isSeq (tiOf E u).td && Nat.beq e.csize (tiOf E et).size && Nat.beq (tiOf E et).ty.csize (tiOf E et).size && (tiOf E et).ty.zOK && Nat.blt 0 (tiOf E et).bytes then
        elemsC s e y fun ys =>
          bif decide ((xs.length + ys.length) * (tiOf E et).bytes ≤ maxRoom) then putC h s d ⟨.list e, xs ++ ys⟩ k else none
        else none
    | _ => none
  | _ => none

def appendXC (E : Env) (h : Hint) (s : St) (d : Option Nat) (t u : Nat) (x y : TV) (k : St → Option α) : Option α :=
  match (tiOf E t).td with
  | .slice et => match x with
    | ⟨.xls e, xs⟩ => bif e.elem && isSeq (tiOf E u).td && Nat.beq e.csize (tiOf E et).size && Nat.beq (tiOf E et).ty.csize (tiOf E et).size && (tiOf E et).ty.zOK && Nat.blt 0 (tiOf E et).bytes then
        elemsC s e y fun ys =>
          bif decide ((xs.length + ys.length) * (tiOf E et).bytes ≤ maxRoom) then putC h s d ⟨.list e, xs ++ ys⟩ k else none
        else none
    | _ => none
  | _ => none

def minMaxC (mx : Bool) : TV → List TV → (TV → Option α) → Option α
  | x, [], k => k x
  | ⟨.int a, x⟩, ⟨.int b, y⟩ :: l, k => bif decide (a = b) then
      minMaxC mx ⟨.int a, bif mx then (if y > x then y else x) else (if y < x then y else x)⟩ l k else none
  | _, _, _ => none

abbrev CallT (α : Type) := Nat → List TV → Heap → List Nat → (TV → Heap → List Nat → Option α) → Option α

def noCall : CallT α := fun _ _ _ _ _ => none

/-- The specification of a function at arguments of these kinds. -/
def lookS : List (Nat × Spec) → Nat → Ty → Option Spec
  | [], _, _ => none
  | (g, S) :: r, f, t => bif Nat.beq g f && decide (S.args = t) then some S else lookS r f t

def freezeL (H : Heap) : List TV → List TV
  | [] => []
  | x :: l => deepF H 3 x :: freezeL H l

def callFnC (E : Env) (h : Hint) (call : CallT α) (s : St) (d : Option Nat) (f : Nat) (args : List TV) (k : St → Option α) : Option α :=
  match lookS E.specs f (chMk (freezeL s.heap args)).t with
  | some S => bif S.res.noMem || args.all (fun x => x.t.pure) then
      (match cast S.args (chMk (freezeL s.heap args)) with
       | some x => (S.F E.K x).bind fun r => putC h s d ⟨S.res, r⟩ k
       | none => none)
    else none
  | none => call f args s.heap [] fun r H app => putC h ⟨killR (memN app) s.regs, H, app ++ s.app⟩ d r k

/-- A row that is given away: from here on nobody writes it. -/
def frzS (s : St) (id : Nat) (e : Ty) : St := ⟨killR (Nat.beq id) s.regs, killH (Nat.beq id) (hset s.heap id ⟨.row e, []⟩), id :: s.app⟩
def frzT (id : Nat) (e : Ty) (xs : List e.den) (x : TV) : TV :=
  match x with
  | ⟨.slw j, _⟩ => bif Nat.beq id j then ⟨.list e, xs⟩ else ⟨.slw j, ()⟩
  | x => killT (Nat.beq id) x
def frzL (id : Nat) (e : Ty) (xs : List e.den) : List TV → List TV
  | [] => []
  | x :: l => frzT id e xs x :: frzL id e xs l
def frzId : List TV → Option Nat
  | [] => none
  | ⟨.slw j, _⟩ :: _ => some j
  | _ :: l => frzId l

def lookM : List (Nat × MSpec) → Nat → Option MSpec
  | [], _ => none
  | (g, M) :: r, f => bif Nat.beq g f then some M else lookM r f
/-- A row is turned in place. -/
def mutC (E : Env) (h : Hint) (s : St) (d : Option Nat) (M : MSpec) (args : List TV) (k : St → Option α) : Option α :=
  match args with
  | [⟨.slw id, _⟩] => match hget s.heap id with
    | ⟨.row e, xs⟩ => match cast (.list M.e) ⟨.list e, xs⟩ with
      | some ys => (M.F E.K ys).bind fun zs => putC h ⟨s.regs, hset s.heap id ⟨.row M.e, zs⟩, s.app⟩ d .unk k
      | none => none
    | _ => none
  | _ => none

def lookO : List (Nat × OSpec) → Nat → Ty → Option OSpec
  | [], _, _ => none
  | (g, O) :: r, f, t => bif Nat.beq g f && decide (O.args = t) then some O else lookO r f t
/-- The answer is a row of the caller's own. -/
def ownC (E : Env) (h : Hint) (s : St) (d : Option Nat) (O : OSpec) (args : List TV) (k : St → Option α) : Option α :=
  match cast O.args (chMk (freezeL s.heap args)) with
  | some x => (O.F E.K x).bind fun zs => putC h ⟨s.regs, s.heap ++ [⟨.row O.e, zs⟩], s.app⟩ d ⟨.slw s.heap.length, ()⟩ k
  | none => none
def callO (E : Env) (h : Hint) (call : CallT α) (s : St) (d : Option Nat) (f : Nat) (args : List TV) (k : St → Option α) : Option α :=
  bif h.isOwn d then (match lookO E.owns f (chMk (freezeL s.heap args)).t with
    | some O => ownC E h s d O args k
    | none => callFnC E h call s d f args k)
  else callFnC E h call s d f args k

def callC (E : Env) (h : Hint) (call : CallT α) (s : St) (d : Option Nat) (f : TV) (args : List TV) (k : St → Option α) : Option α :=
  match f with
  | ⟨.bm f fst, c⟩ => bif h.isFrz d then none else callFnC E h call s d f (chList fst c ++ args) k
  | ⟨.fnu fs, n⟩ => bif h.isFrz d then none else fnuC fs 0 n fun f => callFnC E h call s d f args k
  | ⟨.fn f caps, c⟩ => bif h.isFrz d then (match lookM E.muts f with
     | some M => mutC E h s d M (args ++ chList caps c) k
     | none => match frzId (args ++ chList caps c) with
      | some id => match hget s.heap id with
        | ⟨.row e, xs⟩ => callFnC E h call (frzS s id e) d f (frzL id e xs (args ++ chList caps c)) k
        | _ => none
      | none => none)
    else callO E h call s d f (args ++ chList caps c) k
  | _ => none

def evL (E : Env) (s : St) : List Operand → List Nat → List TV
  | x :: l, t :: ts => ev E s t x :: evL E s l ts
  | _, _ => []

def evL0 (E : Env) (s : St) : List Operand → List TV
  | x :: l => ev E s 0 x :: evL0 E s l
  | _ => []

def nextC (s : St) (x : TV) (k : St → TV → Option α) : Option α :=
  match x with
  | ⟨.loc id false [], _⟩ => match hget s.heap id with
    | ⟨.iter, v⟩ => bif decide (v.2 < v.1.length) then
        (let z := Utf8.decode ⟨v.1.toArray⟩ v.2
         k ⟨s.regs, hset s.heap id ⟨.iter, (v.1, v.2 + z.2)⟩, s.app⟩ ⟨.tup (.scons .bool (.scons (.int .i64) (.scons (.int .i32) .snil))), (true, (v.2 : Int), (z.1 : Int), ())⟩)
      else k s ⟨.tup (.scons .bool .snil), (false, ())⟩
    | _ => none
  | _ => none

def pickC (h : Hint) (s : St) (d : Option Nat) (x y : TV) (k : St → Option α) (c : Bool) : Option α :=
  match x, y with
  | ⟨.bool, x⟩, ⟨.bool, y⟩ => putC h s d ⟨.bool, bif c then x else y⟩ k
  | x, y => bif c then putC h s d x k else putC h s d y k

def nilC (h : Hint) (s : St) (d : Option Nat) (v : TV) (k : St → Option α) : Option α :=
  match v.t with
  | .ref _ => putC h s d v k
  | .loc .. => putC h s d v k
  | .fn _ _ => putC h s d v k
  | .bm _ _ => putC h s d v k
  | .fnu _ => putC h s d v k
  | _ => none

def extractC (h : Hint) (s : St) (d : Option Nat) (x : TV) (i : Nat) (k : St → Option α) : Option α :=
  match x with
  | ⟨.tup r, v⟩ => bif Nat.blt i (chLen r) then putC h s d (chGet r v i) k else none
  | _ => none

/-- A new map. -/
def makeMapC (E : Env) (h : Hint) (s : St) (d : Option Nat) (t : Nat) (k : St → Option α) : Option α :=
  match (tiOf E t).td with
  | .map kt et => bif keyK (tiOf E kt).td (tiOf E kt).ty && (tiOf E et).ty.elem && (tiOf E et).ty.zOK && Nat.beq (tiOf E et).ty.csize (tiOf E et).size then
      putC h ⟨s.regs, s.heap ++ [⟨.mobj (tiOf E kt).ty (tiOf E et).ty, []⟩], s.app⟩ d ⟨.mapp s.heap.length, ()⟩ k else none
  | _ => none
def lookupC (E : Env) (s : St) (t : Nat) (x : TV) (key : Nat → TV) (ok : Bool) (k : TV → Option α) : Option α :=
  match (tiOf E t).td, x with
  | .map kt et, ⟨.mapp id, _⟩ => match hget s.heap id with
    | ⟨.mobj K V, xs⟩ => bif keyK (tiOf E kt).td K && decide (V = (tiOf E et).ty) && V.zOK then
        (match cast K (key kt) with
         | some y => bif ok then k ⟨.tup (.scons V (.scons .bool .snil)), ((mfind (eqv K) xs y).getD V.dflt, (mfind (eqv K) xs y).isSome, ())⟩
           else k ⟨V, (mfind (eqv K) xs y).getD V.dflt⟩
         | none => none) else none
    | _ => none
  | _, _ => none
def mapUpdateC (E : Env) (s : St) (t : Nat) (x : TV) (key val : Nat → TV) (k : St → Option α) : Option α :=
  match (tiOf E t).td, x with
  | .map kt et, ⟨.mapp id, _⟩ => match hget s.heap id with
    | ⟨.mobj K V, xs⟩ => bif keyK (tiOf E kt).td K then
        (match cast K (key kt), cast V (val et) with
         | some y, some z => k ⟨s.regs, hset s.heap id ⟨.mobj K V, mput (eqv K) xs y z⟩, s.app⟩
         | _, _ => none) else none
    | _ => none
  | _, _ => none

def deleteC (E : Env) (s : St) (t : Nat) (x : TV) (key : Nat → TV) (k : St → Option α) : Option α :=
  match (tiOf E t).td, x with
  | .map kt _, ⟨.mapp id, _⟩ => match hget s.heap id with
    | ⟨.mobj K V, xs⟩ => bif keyK (tiOf E kt).td K then
        (match cast K (key kt) with
         | some y => k ⟨s.regs, hset s.heap id ⟨.mobj K V, mdrop (eqv K) xs y⟩, s.app⟩
         | none => none) else none
    | _ => none
  | _, _ => none

def opC (E : Env) (h : Hint) (call : CallT α) (o : Oper) (s : St) (k : St → Option α) : Option α :=
  match o.op with
  | .move x => putC h s o.dst (ev E s o.type x) k
  | .assign x => bif h.isOwn o.dst && isNilS x then
      (match (tiOf E o.type).ty with
       | .list e => bif !e.elem then none else putC h ⟨s.regs, s.heap ++ [⟨.row e, []⟩], s.app⟩ o.dst ⟨.slw s.heap.length, ()⟩ k
       | _ => none)
    else putC h s o.dst (ev E s o.type x) k
  | .pick c a b => asB (ev E s 0 c) fun c => pickC h s o.dst (ev E s o.type a) (ev E s o.type b) k c
  | .alloc e => let T := (tiOf E e).ty
      bif (h.isOwn o.dst) then
        (match T with
         | .list a => bif !(a.elem && Nat.beq (tiOf E e).size 1 && !(tiOf E e).ty.isAgg) then none else
           putC h ⟨s.regs, (s.heap ++ [⟨.row a, []⟩]) ++ [⟨.slw s.heap.length, ()⟩], s.app⟩ o.dst ⟨.loc (s.heap.length + 1) false [], (0 : Nat)⟩ k
         | _ => none)
      else bif Nat.beq T.csize (tiOf E e).size && T.zOK then putC h ⟨s.regs, s.heap ++ [⟨T, T.dflt⟩], s.app⟩ o.dst ⟨.loc s.heap.length false [], (0 : Nat)⟩ k else none
  | .box e x => let v := ev E s e x
      bif (h.isImm o.dst) then
        (bif v.t.pure && !v.t.isUnk then putC h s o.dst ⟨.ref v.t, v.v⟩ k else none)
      else bif v.t.isUnk then none else putC h ⟨s.regs, s.heap ++ [v], s.app⟩ o.dst ⟨.loc s.heap.length false [], (0 : Nat)⟩ k
  | .build t parts => bif h.isOwn o.dst then buildOwnC E h s o.dst t parts.toList k else buildC E s t ⟨(tiOf E t).ty, (tiOf E t).ty.dflt⟩ parts.toList fun v => putC h s o.dst v k
  | .buildSlice t len parts => buildSliceC E h s o.dst t len parts.toList k
  | .makeSlice t x y => makeSliceC E h s o.dst t (ev E s 0 x) (ev E s 0 y) k
  | .load t a => loadC E s t (ev E s 0 a) fun v => putC h s o.dst v k
  | .store t a x => bif memN h.frz (tmpOf a) then storeMoveC E s t (ev E s 0 a) (ev E s t x) (fun s => putC h s o.dst .unk k) else storeC E s t (ev E s 0 a) (ev E s t x) fun s => putC h s o.dst .unk k
  | .nilCheck x => nilC h s o.dst (ev E s o.type x) k
  | .binOp op xt x y yt => bif Nat.blt 0 (tiOf E xt).size then (bif (ev E s xt x).t.isAgg then eqC E op xt (ev E s xt x) (ev E s yt y) (fun v => putC h s o.dst v k)
    else binAny E (tiOf E xt).td op (ev E s xt x) (ev E s yt y) fun v => putC h s o.dst v k) else none
  | .unOp op xt x => unC op (ev E s xt x) fun v => putC h s o.dst v k
  | .convert src dst x => convC E h s o.dst src dst (ev E s src x) k
  | .makeFunc (.func f) first caps => bif first.isEmpty then (let c := chMk (evL0 E s caps.toList); putC h s o.dst ⟨.fn f c.t, c.v⟩ k) else bif caps.isEmpty then (let c := chMk (evL0 E s first.toList); putC h s o.dst ⟨.bm f c.t, c.v⟩ k) else none
  | .slice t x lo hi none => match (tiOf E t).td with
    | .str => match ev E s t x with
      | ⟨.str, b⟩ => boundsC b.length (lo.map (ev E s 0)) (hi.map (ev E s 0)) fun l u => putC h s o.dst ⟨.str, cut b l u⟩ k
      | _ => none
    | .slice e => bif Nat.blt 0 (tiOf E e).size then sliceC s (tiOf E e).size (ev E s t x) (lo.map (ev E s 0)) (hi.map (ev E s 0)) (fun v => putC h s o.dst v k) else none
    | _ => none
  | .fieldAddr t x f => fieldAddrC E s t (ev E s 0 x) f fun v => putC h s o.dst v k
  | .field t x f => fieldC E t (ev E s t x) f fun v => putC h s o.dst v k
  | .indexAddr t x i => match (tiOf E t).td with
    | .slice e => bif Nat.blt 0 (tiOf E e).size then indexAddrC s (tiOf E e).size (ev E s t x) (ev E s 0 i) (fun v => putC h s o.dst v k) else none
    | .arr n e => bif Nat.blt 0 (tiOf E e).size then elemAddrC s n (tiOf E e).size (ev E s t x) (ev E s 0 i) (fun v => putC h s o.dst v k) else none
    | _ => none
  | .index t x i => (let e := (match (tiOf E t).td with | .arr _ e => e | _ => 0)
    indexC (tiOf E t).td (tiOf E e).size (tiOf E e).ty.isAgg (ev E s t x) (ev E s 0 i) fun v => putC h s o.dst v k)
  | .extract x i => extractC h s o.dst (ev E s 0 x) i k
  | .range t x => match (tiOf E t).td, ev E s t x with
    | .str, ⟨.str, b⟩ => putC h ⟨s.regs, s.heap ++ [⟨.iter, (b, 0)⟩], s.app⟩ o.dst ⟨.loc s.heap.length false [], (0 : Nat)⟩ k
    | _, _ => none
  | .makeMap t none => makeMapC E h s o.dst t k
  | .lookup t x i ok => lookupC E s t (ev E s t x) (fun kt => ev E s kt i) ok fun v => putC h s o.dst v k
  | .mapUpdate t m i x => mapUpdateC E s t (ev E s t m) (fun kt => ev E s kt i) (fun et => ev E s et x) fun s => putC h s o.dst .unk k
  | .next it true => nextC s (ev E s 0 it) fun s v => putC h s o.dst v k
  | .call c => match c.callee with
    | .builtin .len => match c.args.toList, c.argTypes.toList with
      | [x], [t] => lenC (tiOf E t).td s (ev E s t x) fun v => putC h s o.dst v k
      | _, _ => none
    | .builtin .append => match c.args.toList, c.argTypes.toList with
      | [x, y], [t, u] => bif h.isFrz o.dst then appendXC E h s o.dst t u (ev E s t x) (ev E s u y) k else appendC E h s o.dst t u (ev E s t x) (ev E s u y) k
      | _, _ => none
    | .builtin .min => bif Nat.beq c.args.toList.length c.argTypes.toList.length then (match evL E s c.args.toList c.argTypes.toList with
      | x :: l => minMaxC false x l fun v => putC h s o.dst v k
      | _ => none) else none
    | .builtin .max => bif Nat.beq c.args.toList.length c.argTypes.toList.length then (match evL E s c.args.toList c.argTypes.toList with
      | x :: l => minMaxC true x l fun v => putC h s o.dst v k
      | _ => none) else none
    | .builtin .delete => match c.args.toList, c.argTypes.toList with
      | [x, y], [t, _] => deleteC E s t (ev E s t x) (fun kt => ev E s kt y) fun s => putC h s o.dst .unk k
      | _, _ => none
    | .value f => bif Nat.beq c.args.toList.length c.argTypes.toList.length then callC E h call s o.dst (ev E s 0 f) (evL E s c.args.toList c.argTypes.toList) k else none
    | _ => none
  | _ => none

def dstOf (all : List Oper) (j : Nat) : Option Nat := (all[j]?).bind (·.dst)

/-- What an operation that is passed over leaves. -/
@[reducible] def TV.undef : TV := ⟨.tup .snil, ()⟩

/-- A guard: it holds, or not; or its own operation has been passed over. -/
def guardC (x : TV) (kb : Bool → Option α) (ku : Option α) : Option α :=
  match x with
  | ⟨.bool, b⟩ => kb b
  | ⟨.tup .snil, _⟩ => ku
  | _ => none

/-! What is forgotten where ways meet. -/
def refsBelow (n : Nat) : Ty → Bool
  | .list e => refsBelow n e
  | .xls e => refsBelow n e
  | .arr _ e => refsBelow n e
  | .ref t => refsBelow n t
  | .row e => refsBelow n e
  | .scons a r => refsBelow n a && refsBelow n r
  | .tup r => refsBelow n r
  | .hl r => refsBelow n r
  | .fn _ c => refsBelow n c
  | .iface _ v => refsBelow n v
  | .slw j => Nat.blt j n
  | .slv j => Nat.blt j n
  | .loc j _ _ => Nat.blt j n
  | .selfp j _ => Nat.blt j n
  | .bm _ c => refsBelow n c
  | .mapp j => Nat.blt j n
  | _ => true

def gcOK (n : Nat) (l : List TV) : Bool := l.all fun x => refsBelow n x.t

/-- A new variable that is stored once, at once. -/
def pairOf (h : Hint) (o : Oper) (r : List Oper) : Option (Nat × Nat × Nat × Operand) :=
  match r with
  | o2 :: _ => match o.op, o.dst, o2.op, o2.guard, o2.dst with
    | .alloc e, some d, .store t (.tmp d') y, none, none => bif memN h.imm d && Nat.beq d d' && !Nat.beq d (match y with | .tmp i => i | _ => d + 1) && !memN h.own d then some (e, t, d, y) else none
    | _, _, _, _, _ => none
  | [] => none
def pairC (E : Env) (h : Hint) (s : St) (e t d : Nat) (y : TV) (k : St → Option α) : Option α :=
  bif gcOK s.heap.length s.heap && Nat.blt d h.n && Nat.beq (tiOf E e).ty.csize (tiOf E e).size && (tiOf E e).ty.zOK &&
      (Nat.beq y.t.csize (tiOf E t).size && y.t.isAgg == (tiOf E t).ty.isAgg && !y.t.isUnk && y.t.noTup) && y.t.pure && decide ((tiOf E e).ty.shape = y.t.shape) then k (s.set d ⟨.ref y.t, y.v⟩) else none

def opsC (E : Env) (h : Hint) (call : CallT α) (all : List Oper) : List Oper → St → (St → Option α) → Option α
  | [], s, k => k s
  | o :: r, s, k => match o.guard with
    | none => match pairOf h o r, r with
      | some (e, t, d, y), _ :: r2 => pairC E h s e t d (ev E s t y) fun s => opsC E h call all r2 s k
      | _, r => opC E h call o s fun s => opsC E h call all r s k
    | some (j, want) => match dstOf all j with
      | some g => guardC (s.get g) (fun b => bif (bif want then b else !b) then
          opC E h call o (s.set g ⟨.bool, want⟩) fun s => opsC E h call all r s k
        else putC h (s.set g ⟨.bool, !want⟩) o.dst .undef fun s => opsC E h call all r s k)
        (putC h s o.dst .undef fun s => opsC E h call all r s k)
      | none => none

/-! Regions whose order is drawn. -/
def rdO : Operand → List Nat → List Nat
  | .tmp i, l => i :: l
  | _, l => l
def rdM : Option Operand → List Nat → List Nat
  | some x, l => rdO x l
  | none, l => l
def rdL : List Operand → List Nat → List Nat
  | [], l => l
  | x :: r, l => rdO x (rdL r l)
def rdP : List (Nat × Operand) → List Nat → List Nat
  | [], l => l
  | (_, x) :: r, l => rdO x (rdP r l)

/-- The registers that an operation is given. -/
def opLooks : Op → List Nat
  | .move x => rdO x []
  | .assign x => rdO x []
  | .pick c a b => rdO c (rdO a (rdO b []))
  | .box _ x => rdO x []
  | .build _ ps => rdP ps.toList []
  | .buildSlice _ _ ps => rdP ps.toList []
  | .load _ a => rdO a []
  | .nilCheck x => rdO x []
  | .binOp _ _ x y _ => rdO x (rdO y [])
  | .unOp _ _ x => rdO x []
  | .convert _ _ x => rdO x []
  | .makeFunc _ fs cs => rdL fs.toList (rdL cs.toList [])
  | .slice _ x lo hi _ => rdO x (rdM lo (rdM hi []))
  | .fieldAddr _ x _ => rdO x []
  | .field _ x _ => rdO x []
  | .indexAddr _ x i => rdO x (rdO i [])
  | .index _ x i => rdO x (rdO i [])
  | .lookup _ x i _ => rdO x (rdO i [])
  | .extract x _ => rdO x []
  | .store _ a x => rdO a (rdO x [])
  | .call c => rdL c.args.toList []
  | _ => []

/-- Operations that only give a value. -/
def quietB (E : Env) (h : Hint) (o : Oper) : Bool :=
  match o.op with
  | .move _ => true
  | .assign _ => !h.isOwn o.dst
  | .pick .. => true
  | .box .. => h.isImm o.dst
  | .build .. => !h.isOwn o.dst
  | .buildSlice .. => !h.isOwn o.dst
  | .load .. => true
  | .nilCheck _ => true
  | .binOp .. => true
  | .unOp .. => true
  | .convert .. => !h.isOwn o.dst
  | .makeFunc .. => true
  | .slice .. => true
  | .fieldAddr .. => true
  | .field .. => true
  | .indexAddr .. => true
  | .index .. => true
  | .lookup .. => true
  | .extract .. => true
  | .call c => match c.callee with
    | .builtin .len => true
    | .builtin .min => true
    | .builtin .max => true
    | .builtin .append => h.isFrz o.dst
    | .value _ => !h.isFrz o.dst && !h.isOwn o.dst
    | _ => false
  | _ => false

/-- Operations that make an object: it is counted when the operations before the chain are done. -/
def madeB (h : Hint) (o : Oper) : Bool :=
  o.guard.isNone && (match o.op with
  | .alloc _ => !h.isOwn o.dst
  | .buildSlice .. => h.isOwn o.dst
  | _ => false)
def objP : Ty → Bool
  | .row e => e.elem
  | t => t.pure && !t.isObj
def yOf (b : Bool) (n : Nat) : TV := bif b then ⟨.slw n, ()⟩ else ⟨.loc n false [], (0 : Nat)⟩
def bOf (x : TV) : Bool :=
  match x.t with
  | .row _ => true
  | _ => false
def madeK {α : Type} (n : Nat) (s1 : St) (d : Nat) (k : TV → Option α) : Option α :=
  match s1.heap.drop n with
  | [x] => bif objP x.t then (match s1.get d with
    | ⟨.slw i, _⟩ => bif Nat.beq i n && bOf x then k x else none
    | ⟨.loc i false [], j⟩ => bif Nat.beq i n && Nat.beq j 0 && !bOf x then k x else none
    | _ => none) else none
  | _ => none
def pushM (s : St) (d : Nat) (x : TV) : St := St.set ⟨s.regs, s.heap ++ [x], s.app⟩ d (yOf (bOf x) s.heap.length)
/-- A store into an object that is not counted yet. -/
def putB (o : Oper) : Bool :=
  o.guard.isNone && o.dst.isNone && (match o.op with
  | .store _ (.tmp _) (.tmp _) => true
  | _ => false)
def putAt (o : Oper) : Nat × Nat :=
  match o.op with
  | .store _ (.tmp d) (.tmp v) => (d, v)
  | _ => (0, 0)
def findM : List (Nat × TV) → Nat → Option TV
  | [], _ => none
  | (d, x) :: r, e => bif Nat.beq d e then some x else findM r e
def setM (d : Nat) (y : TV) : List (Nat × TV) → List (Nat × TV)
  | [] => []
  | (e, x) :: r => (e, bif Nat.beq e d then y else x) :: setM d y r
def pushPD : List (Nat × TV) → St → St
  | [], s => s
  | (d, x) :: r, s => pushPD r (pushM s d x)
def putK {α : Type} (s1 : St) (k : TV → Option α) : Option α :=
  match s1.heap, s1.app with
  | [y], [] => bif objP y.t && !bOf y then k y else none
  | _, _ => none

def edgeTo (o : Oper) (j : Nat) : Bool := o.after.toList.any fun e => Region.binds .any e && Nat.beq e.on j
def edgesBelow (o : Oper) (i : Nat) : Bool := o.after.toList.all fun e => !Region.binds .any e || Nat.blt e.on i
def readsOf (all : List Oper) (o : Oper) : List Nat :=
  match o.guard with
  | none => opLooks o.op
  | some (j, _) => match dstOf all j with
    | some g => g :: opLooks o.op
    | none => opLooks o.op
def isDst (d : Nat) : Option Nat → Bool
  | some e => Nat.beq e d
  | none => false

/-- What number `j` leaves is read by number `i` only in a fixed order. -/
def pairOK (all : List Oper) (i : Nat) (oi : Oper) (j : Nat) (oj : Oper) : Bool :=
  match oj.dst with
  | none => true
  | some d => !isDst d oi.dst && (bif memN (readsOf all oi) d then edgeTo oi j || edgeTo oj i else true)
/-- Two stores into one object have an order. -/
def putPair (i : Nat) (oi : Oper) (j : Nat) (oj : Oper) : Bool :=
  bif putB oi && putB oj && Nat.beq (putAt oi).1 (putAt oj).1 then edgeTo oi j || edgeTo oj i else true
def drawChk (all : List Oper) (i : Nat) (oi : Oper) : Nat → List Oper → Bool
  | _, [] => true
  | j, oj :: r => (bif Nat.beq j i then true else pairOK all i oi j oj && putPair i oi j oj) && drawChk all i oi (j + 1) r
def drawAll (E : Env) (h : Hint) (all : List Oper) : Nat → List Oper → Bool
  | _, [] => true
  | i, o :: r => (quietB E h o || madeB h o || putB o) && edgesBelow o i && drawChk all i o 0 all && drawAll E h all (i + 1) r

def maskF (l : List Nat) (f : Nat → TV) : List (Nat × TV) := l.map fun t => (t, f t)
def graft (d : Option Nat) (s1 s : St) : St :=
  match d with
  | some d => s.set d (s1.get d)
  | none => s

def opsD (E : Env) (h : Hint) (all : List Oper) : List Oper → St → List (Nat × TV) → (St → Option α) → Option α
  | [], s, pd, k => k (pushPD pd s)
  | o :: r, s, pd, k => bif madeB h o then (match o.dst with
    | some d => bif Nat.blt d h.n && gcOK s.heap.length s.heap && (findM pd d).isNone then opC E h noCall o ⟨maskF (opLooks o.op) s.get, s.heap, []⟩ fun s1 => madeK s.heap.length s1 d fun x => opsD E h all r (s.set d .unk) ((d, x) :: pd) k else none
    | none => none) else bif putB o then (match findM pd (putAt o).1 with
    | some x => bif (s.get (putAt o).2).t.pure && !(s.get (putAt o).2).t.isUnk && !bOf x && !Nat.beq (putAt o).2 (putAt o).1 then
        opC E h noCall o ⟨[((putAt o).1, yOf false 0), ((putAt o).2, s.get (putAt o).2)], [x], []⟩ fun s1 => putK s1 fun y => opsD E h all r s (setM (putAt o).1 y pd) k else none
    | none => none) else match o.guard with
    | none => opC E h noCall o ⟨maskF (opLooks o.op) s.get, s.heap, []⟩ fun s1 => opsD E h all r (graft o.dst s1 s) pd k
    | some (j, want) => match dstOf all j with
      | some g => guardC (s.get g) (fun b => bif (bif want then b else !b) then
          opC E h noCall o ⟨maskF (opLooks o.op) s.get, s.heap, []⟩ fun s1 => opsD E h all r (graft o.dst s1 (s.set g ⟨.bool, want⟩)) pd k
        else putC h (s.set g ⟨.bool, !want⟩) o.dst .undef fun s => opsD E h all r s pd k)
        (putC h s o.dst .undef fun s => opsD E h all r s pd k)
      | none => none

/-! A drawn region whose last operations wait for all before them. -/
def bindsL (o : Oper) : List Nat := (o.after.toList.filter fun e => Region.binds .any e).map (·.on)
def edgesAt (all : List Oper) (i : Nat) : List Nat :=
  match all[i]? with
  | some o => bindsL o
  | none => []
def ancL (all : List Oper) : Nat → List Nat → List Nat
  | 0, S => S
  | i + 1, S => ancL all i (bif memN S i then edgesAt all i ++ S else S)
def allIn (S : List Nat) : Nat → Bool
  | 0 => true
  | i + 1 => memN S i && allIn S i
def chainAt (all : List Oper) (i : Nat) : Bool := allIn (ancL all i (edgesAt all i)) i
/-- From where on each operation waits for all before it. -/
def chainCut (all : List Oper) : Nat → Nat
  | 0 => 0
  | i + 1 => bif chainAt all i then chainCut all i else i + 1
def belowAll (all : List Oper) : Nat → List Oper → Bool
  | _, [] => true
  | i, o :: r => edgesBelow o i && belowAll all (i + 1) r

/-! A drawn region in which one operation does more than give a value. -/
def stab : Ty → Bool
  | .scons a r => stab a && stab r
  | .tup r => stab r
  | .fn _ c => stab c
  | .bm _ c => stab c
  | .loc _ ix _ => !ix
  | .slw _ => false
  | .slv _ => false
  | .hl r => r.pure
  | .list e => e.pure
  | .xls e => e.pure
  | .ref t => t.pure
  | .iface _ a => a.pure
  | _ => true
def moveOf : Op → Option Nat
  | .move (.tmp t) => some t
  | _ => none
def resP (d : Option Nat) (s1 : St) : Bool :=
  match d with
  | some d => (s1.get d).t.pure
  | none => true
def opsN (E : Env) (h : Hint) (all : List Oper) (anc : List Nat) (p : Nat) : Nat → List Oper → St → (St → Option α) → Option α
  | _, [], s, k => k s
  | i, o :: r, s, k => bif Nat.beq i p then opsN E h all anc p (i + 1) r s k
    else bif memN anc i then opC E h noCall o ⟨maskF (opLooks o.op) s.get, s.heap, []⟩ fun s1 => opsN E h all anc p (i + 1) r (graft o.dst s1 s) k
    else match moveOf o.op with
      | some t => bif stab (s.get t).t then putC h s o.dst (s.get t) fun s => opsN E h all anc p (i + 1) r s k else none
      | none => bif (opLooks o.op).all (fun t => (s.get t).t.pure) then opC E h noCall o ⟨maskF (opLooks o.op) s.get, [], []⟩ fun s1 => bif resP o.dst s1 then opsN E h all anc p (i + 1) r (graft o.dst s1 s) k else none else none
def loudIx (E : Env) (h : Hint) : Nat → List Oper → Nat
  | i, [] => i
  | i, o :: r => bif quietB E h o then loudIx E h (i + 1) r else i
def drawN (E : Env) (h : Hint) (all : List Oper) (p : Nat) : Nat → List Oper → Bool
  | _, [] => true
  | i, o :: r => o.guard.isNone && (Nat.beq i p || quietB E h o) && edgesBelow o i && drawChk all i o 0 all && !edgeTo o p && drawN E h all p (i + 1) r
def joinN (d : Option Nat) (s1 s : St) : St := graft d s1 ⟨killR (memN s1.app) s.regs, s1.heap, s1.app ++ s.app⟩
def regionN (E : Env) (h : Hint) (call : CallT α) (ops pre rest : List Oper) (p : Nat) (s : St) (k : St → Option α) : Option α :=
  match ops[p]? with
  | some o => bif belowAll ops 0 ops && Nat.blt p pre.length && drawN E h ops p 0 pre then
      opsN E h ops (ancL ops p (edgesAt ops p)) p 0 pre s fun s2 => opC E h call o ⟨maskF (opLooks o.op) s2.get, s2.heap, []⟩ fun s1 => opsC E h call ops rest (joinN o.dst s1 s2) k else none
  | none => none

def maskT (l : List (Nat × Ty)) (f : Nat → TV) : List TV := l.map fun p => f p.1

def tysDen : List Ty → Type
  | [] => Unit
  | t :: ts => t.den × tysDen ts

def castL : (ts : List Ty) → List TV → Option (tysDen ts)
  | [], [] => some ()
  | t :: ts, x :: xs => match cast t x with
    | some a => match castL ts xs with
      | some b => some (a, b)
      | none => none
    | none => none
  | _, _ => none

def unL : (ts : List Ty) → tysDen ts → List TV
  | [], _ => []
  | t :: ts, y => ⟨t, y.1⟩ :: unL ts y.2

def regTys : List (Nat × Ty) → List Ty
  | [] => []
  | p :: l => p.2 :: regTys l

def Seg.den (g : Seg) : Type := tysDen (regTys g.regs) × tysDen g.heap

def Seg.ok (g : Seg) : Bool := g.regs.all (fun p => refsBelow g.heap.length p.2) && g.heap.all (refsBelow g.heap.length)

def pack (g : Seg) (s : St) : Option g.den :=
  bif s.app.all (fun i => memN g.app i || !Nat.blt i g.heap.length) then
    (match castL (regTys g.regs) (maskT g.regs s.get) with
     | some a => match castL g.heap (s.heap.take g.heap.length) with
       | some b => some (a, b)
       | none => none
     | none => none)
  else none

def zipR : List (Nat × Ty) → List TV → List (Nat × TV)
  | p :: l, x :: xs => (p.1, x) :: zipR l xs
  | _, _ => []

def unpack (g : Seg) (y : g.den) : St := ⟨zipR g.regs (unL _ y.1), unL _ y.2, g.app⟩

def outDen : Outs → Type
  | [] => Empty
  | [(_, g)] => g.den
  | (_, g) :: p :: l => g.den ⊕ outDen (p :: l)

def packO : (l : Outs) → XEx → St → Option (outDen l)
  | [], _, _ => none
  | [(t, g)], e, s => bif xeq t e then pack g s else none
  | (t, g) :: p :: l, e, s => bif xeq t e then (match pack g s with | some y => some (.inl y) | none => none)
    else (match packO (p :: l) e s with | some y => some (.inr y) | none => none)

def unpackO (k : XEx → St → Option α) : (l : Outs) → outDen l → Option α
  | [], _ => none
  | [(t, g)], y => k t (unpack g y)
  | (t, g) :: p :: l, y => match y with
    | .inl y => k t (unpack g y)
    | .inr y => unpackO k (p :: l) y

def Outs.ok (n : Nat) (l : Outs) : Bool := l.all fun p => p.2.ok && Nat.ble n p.2.heap.length

def loopC (step : St → (XEx → St → Option α) → Option α) : Nat → St → (XEx → St → Option α) → Option α
  | 0, _, _ => none
  | n + 1, s, k => step s fun e s' => match e with
    | .normal => loopC step n s' k
    | .exit id => k (.exit id) s'
    | .ret => k .ret s'

/-- A loop as a function of what is live at its head. -/
def loopV (outs : Outs) (g : Seg) (step : St → (XEx → St → Option (outDen outs)) → Option (outDen outs)) : Nat → g.den → Option (outDen outs)
  | 0, _ => none
  | n + 1, x => step (unpack g x) fun e s' => match e with
    | .normal => (pack g s').bind (loopV outs g step n)
    | .exit id => packO outs (.exit id) s'
    | .ret => packO outs .ret s'

def firstRegion : Code → Nat
  | .region id _ _ => id
  | .seq a _ => firstRegion a
  | .block _ b => firstRegion b
  | .loop b => firstRegion b
  | .scope b => firstRegion b
  | .cond _ a _ => firstRegion a
  | _ => 0

def kSeq (nxt : St → Option α) (k : XEx → St → Option α) (e : XEx) (s : St) : Option α :=
  match e with
  | .normal => nxt s
  | .exit id => k (.exit id) s
  | .ret => k .ret s

def kBlock (id : Nat) (k : XEx → St → Option α) (e : XEx) (s : St) : Option α :=
  match e with
  | .normal => k .normal s
  | .exit j => bif Nat.beq j id then k .normal s else k (.exit j) s
  | .ret => k .ret s

def regionC (E : Env) (h : Hint) (call : CallT α) (ops : List Oper) (dr : Bool) (s : St) (k : XEx → St → Option α) : Option α :=
  bif dr then (bif belowAll ops 0 ops && drawAll E h ops 0 (ops.take (chainCut ops ops.length)) then opsD E h ops (ops.take (chainCut ops ops.length)) s [] (fun s => opsC E h call ops (ops.drop (chainCut ops ops.length)) s fun s => k .normal s) else regionN E h call ops (ops.take (chainCut ops ops.length)) (ops.drop (chainCut ops ops.length)) (loudIx E h 0 ops) s fun s => k .normal s) else opsC E h call ops ops s fun s => k .normal s

abbrev AnyCall := (α : Type) → CallT α

def interp (E : Env) (h : Hint) (call : AnyCall) : Code → (α : Type) → St → (XEx → St → Option α) → Option α
  | .skip, _, s, k => k .normal s
  | .region id ops dr, α, s, k => match look h.regions id with
    | some outs => bif outs.ok s.heap.length then (regionC E h (call _) ops.toList dr s (packO outs)).bind (unpackO k outs) else none
    | none => regionC E h (call α) ops.toList dr s k
  | .seq a b, α, s, k => interp E h call a α s (kSeq (fun s => interp E h call b α s k) k)
  | .cond c a b, α, s, k => asB (ev E s 0 c) fun v => match look h.conds (tmpOf c) with
    | some outs => bif outs.ok s.heap.length then (bif v then interp E h call a (outDen outs) s (packO outs) else interp E h call b (outDen outs) s (packO outs)).bind (unpackO k outs) else none
    | none => bif v then interp E h call a α s k else interp E h call b α s k
  | .block id b, α, s, k => match look h.blocks id with
    | some outs => bif outs.ok s.heap.length then (interp E h call b (outDen outs) s (kBlock id (packO outs))).bind (unpackO k outs) else none
    | none => interp E h call b α s (kBlock id k)
  | .loop b, α, s, k => match look h.loops (firstRegion b) with
    | some (g, outs) => bif outs.ok s.heap.length && g.ok && Nat.ble s.heap.length g.heap.length then
        (pack g s).bind fun x => (loopV outs g (interp E h call b (outDen outs)) E.K x).bind (unpackO k outs) else none
    | none => loopC (interp E h call b α) E.U s k
  | .exit id, _, s, k => k (.exit id) s
  | .ret, _, s, k => k .ret s
  | .scope b, α, s, k => interp E h call b α s k
  | .label _, _, s, k => k .normal s
  | _, _, _, _ => none

def resC (E : Env) (s : St) : List ResultVar → (List TV → Option α) → Option α
  | [], k => k []
  | .tmp t :: l, k => resC E s l fun r => k (s.get t :: r)
  | .cell a t :: l, k => loadC E s t (s.get a) fun v => resC E s l fun r => k (v :: r)

def oneOrTup : List TV → TV
  | [x] => x
  | l => let c := chMk l; ⟨.tup c.t, c.v⟩

def regsOf : Nat → List TV → List (Nat × TV)
  | _, [] => []
  | i, x :: l => (i, x) :: regsOf (i + 1) l

def leaveC (m : Nat) (s : St) (k : TV → Heap → List Nat → Option α) (x : TV) : Option α :=
  bif gcOK m (x :: s.heap.take m) then k x (s.heap.take m) s.app else k x s.heap s.app

def retC (E : Env) (rs : List ResultVar) (m : Nat) (k : TV → Heap → List Nat → Option α) (e : XEx) (s : St) : Option α :=
  match e with
  | .exit _ => none
  | .normal => resC E s rs fun r => leaveC m s k (oneOrTup r)
  | .ret => resC E s rs fun r => leaveC m s k (oneOrTup r)

/-- Two operations of which the second defers a call. -/
def defReg : Code → Option (Oper × Oper)
  | .region _ ops false => match ops.toList with
    | [o1, o2] => bif o1.guard.isNone && o2.guard.isNone && o2.dst.isNone && (match o2.op with | .defer _ => true | _ => false) then some (o1, o2) else none
    | _ => none
  | _ => none
def deferC (E : Env) (h : Hint) (s : St) (o : Oper) (k : St → Option α) : Option α :=
  match o.op with
  | .defer c => match c.callee, c.args.toList with
    | .value f, [] => match ev E s 0 f with
      | ⟨.fn g _, _⟩ => bif memN h.dfr g then k s else none
      | _ => none
    | _, _ => none
  | _ => none
/-- Code in which one call may be deferred, at the top. -/
def interpD (E : Env) (h : Hint) (call : AnyCall) : Code → (α : Type) → St → (XEx → St → Option α) → Option α
  | .seq a b, α, s, k => match defReg a with
    | some (o1, o2) => opC E h (call α) o1 s fun s => deferC E h s o2 fun s => interp E h call b α s k
    | none => interp E h call a α s (kSeq (fun s => interpD E h call b α s k) k)
  | c, α, s, k => interp E h call c α s k

def callF (E : Env) : Nat → AnyCall
  | 0, _, _, _, _, _, _ => none
  | d + 1, α, f, args, H, app, k => match look E.fns f with
    | some (fb, h) => match fb.body with
      | some c => bif Nat.beq h.n fb.ntmps && Nat.ble args.length h.n then (bif h.dfr.isEmpty then interp E h (callF E d) c α ⟨regsOf 0 args, H, app⟩ (retC E fb.results.toList H.length k) else interpD E h (callF E d) c α ⟨regsOf 0 args, H, app⟩ (retC E fb.results.toList H.length k)) else none
      | none => none
    | none => none

/-- A function's own answer: what the call comes to, as a value of the kind that its specification says. -/
def fin (res : Ty) (x : TV) (H : Heap) (_ : List Nat) : Option res.den := cast res (deepF H 3 x)

def body (E : Env) (d f : Nat) (S : Spec) (x : S.args.den) : Option S.res.den :=
  callF E d S.res.den f (chList S.args x) [] [] (fin S.res)

end
end Go.Dp
/- How the small machine's values stand to the model's. -/
set_option autoImplicit false
set_option linter.unusedVariables false
namespace Go.Dp
open Go.RowKit

/-- Where an object lies: its block; of a row the capacity. -/
structure Blk where
  blk : Option Nat
  cap : Nat

def cellsAt (w : World) (b off : Nat) (cs : List Value) : Prop := ∀ j (h : j < cs.length), w.cell? ⟨b, off + j, none⟩ = some cs[j]

def aggV : Value → Bool
  | .agg _ => true
  | _ => false

/-- Where an address into an object points. -/
def LocAt (β : Nat → Blk) (H : Heap) (id : Nat) (ix : Bool) (post : List Nat) (i b off : Nat) : Prop :=
  id < H.length ∧ (β id).blk = some b ∧
  match ix with
  | false => (∀ e xs, hget H id ≠ ⟨.row e, xs⟩) ∧ pathOK post (hget H id).t = true ∧ off = pathOff post (hget H id).t
  | true => ∃ e xs, hget H id = ⟨.row e, xs⟩ ∧ i < xs.length ∧ pathOK post e = true ∧ off = i * e.csize + pathOff post e

section
variable (w : World) (U : Nat → Prop) (β : Nat → Blk) (H : Heap)

/-- `m = false`: the cells of a value. `m = true`: a chain's values one by one. -/
def EncM : Bool → (t : Ty) → t.den → List Value → Prop
  | false, .unk, _, l => ∃ v, l = [v] ∧ v.oneCell' = true
  | false, .int k, n, l => l = [.int k n]
  | false, .bool, b, l => l = [.bool b]
  | false, .str, s, l => l = [.string ⟨s.toArray⟩]
  | false, .list e, xs, l => ∃ A c, l = [.slice A xs.length c] ∧ xs.length ≤ c ∧ (0 < xs.length → ∃ b off, A = some ⟨b, off, none⟩ ∧ U b ∧
      ∀ i (h : i < xs.length), ∃ cs, EncM false e xs[i] cs ∧ cellsAt w b (off + i * e.csize) cs)
  | false, .xls e, xs, l => ∃ A c, l = [.slice A xs.length c] ∧ c = xs.length ∧ (0 < xs.length → ∃ b off, A = some ⟨b, off, none⟩ ∧ U b ∧
      ∀ i (h : i < xs.length), ∃ cs, EncM false e xs[i] cs ∧ cellsAt w b (off + i * e.csize) cs)
  | false, .hl r, x, l => ∃ b off c vs, l = [.slice (some ⟨b, off, none⟩) (chLen r) c] ∧ chLen r ≤ c ∧ U b ∧ EncM true r x vs ∧ (∀ v ∈ vs, aggV v = false) ∧ cellsAt w b off vs
  | false, .arr n e, xs, l => e.pure = true ∧ l.length = n * e.csize ∧ xs.length = n ∧ ∀ i (h : i < xs.length), EncM false e xs[i] ((l.drop (i * e.csize)).take e.csize)
  | false, .snil, _, l => l = []
  | false, .scons a r, x, l => ∃ l1 l2, l = l1 ++ l2 ∧ EncM false a x.1 l1 ∧ EncM false r x.2 l2
  | true, .snil, _, l => l = []
  | true, .scons a r, x, l => ∃ v l2, l = v :: l2 ∧ (a.isUnk = true ∨ (aggV v = a.isAgg ∧ EncM false a x.1 v.cells.toList)) ∧ EncM true r x.2 l2
  | false, .tup r, x, l => ∃ vs, l = [.tuple vs] ∧ EncM true r x vs.toList
  | false, .ref t, x, l => ∃ b off cs, l = [.pointer (some ⟨b, off, none⟩)] ∧ U b ∧ EncM false t x cs ∧ cellsAt w b off cs
  | false, .fn f c, x, l => ∃ vs, l = [.func (.func f) #[] vs] ∧ EncM true c x vs.toList
  | false, .bm f c, x, l => ∃ vs, l = [.func (.func f) vs #[]] ∧ EncM true c x vs.toList
  | false, .fnu fs, i, l => ∃ f, fs[i]? = some f ∧ l = [.func (.func f) #[] #[]]
  | false, .sint k, _, l => ∃ n, l = [.int k n]
  | false, .nilf, _, l => l = [.nilFunc]
  | false, .nils, _, l => ∃ c, l = [.slice none 0 c]
  | false, .nilp, _, l => l = [.pointer none]
  | false, .nili, _, l => l = [.nilIface]
  | false, .nilm, _, l => l = [.map none]
  | false, .iface t a, x, l => ∃ v, l = [.iface t v] ∧ aggV v = a.isAgg ∧ EncM false a x v.cells.toList
  | false, .loc id ix post, i, l => ∃ b off, l = [.pointer (some ⟨b, off, none⟩)] ∧ LocAt β H id ix post i b off
  | false, .selfp id T, _, l => id < H.length ∧ (∀ e xs, hget H id ≠ ⟨.row e, xs⟩) ∧ (β id).cap = T ∧ (l = [.pointer none] ∨ ∃ b, (β id).blk = some b ∧ l = [.pointer (some ⟨b, 0, none⟩)])
  | false, .mapp id, _, l => id < H.length ∧ (hget H id).t.shape = .mobj .unk .unk ∧ ∃ b, (β id).blk = some b ∧ l = [.map (some b)]
  | false, .slw id, _, l => ∃ e xs, id < H.length ∧ hget H id = ⟨.row e, xs⟩ ∧ l = [.slice ((β id).blk.map fun b => ⟨b, 0, none⟩) xs.length (β id).cap]
  | false, .slv id, v, l => ∃ e xs A c, id < H.length ∧ hget H id = ⟨.row e, xs⟩ ∧ l = [.slice A v.2 c] ∧ v.2 ≤ c ∧ v.1 + v.2 ≤ xs.length ∧
      (0 < v.2 → ∃ b, (β id).blk = some b ∧ A = some ⟨b, v.1 * e.csize, none⟩)
  | _, _, _, _ => False

/-- A value. -/
def EncV (x : TV) (v : Value) : Prop := x.t.isUnk = true ∨ (aggV v = x.t.isAgg ∧ EncM w U β H false x.t x.v v.cells.toList)

end
end Go.Dp
/- Laws of the relation: cells, growth, forgetting. -/
set_option autoImplicit false
set_option linter.unusedVariables false
set_option linter.unusedSimpArgs false
namespace Go.Dp
open Go.RowKit

section
variable {w : World} {U : Nat → Prop} {β : Nat → Blk} {H : Heap}

theorem EncM.len : ∀ (t : Ty) (x : t.den) (l : List Value), EncM w U β H false t x l → l.length = t.csize := by
  intro t
  induction t with
  | snil => intro x l h; simp only [EncM] at h; simp [h, Ty.csize]
  | scons a r iha ihr =>
    intro x l h
    simp only [EncM] at h
    obtain ⟨l1, l2, rfl, h1, h2⟩ := h
    simp [Ty.csize, iha _ _ h1, ihr _ _ h2]
  | arr n e ih => intro x l h; simp only [EncM] at h; simp [Ty.csize, h.2.1]
  | unk => intro x l h; simp only [EncM] at h; obtain ⟨v, rfl, _⟩ := h; rfl
  | list e ih => intro x l h; simp only [EncM] at h; obtain ⟨A, c, rfl, _⟩ := h; rfl
  | xls e ih => intro x l h; simp only [EncM] at h; obtain ⟨A, c, rfl, _⟩ := h; rfl
  | hl r ih => intro x l h; simp only [EncM] at h; obtain ⟨b, off, c, vs, rfl, _⟩ := h; rfl
  | tup r ih => intro x l h; simp only [EncM] at h; obtain ⟨vs, rfl, _⟩ := h; rfl
  | ref r ih => intro x l h; simp only [EncM] at h; obtain ⟨b, off, cs, rfl, _⟩ := h; rfl
  | fn f c ih => intro x l h; simp only [EncM] at h; obtain ⟨vs, rfl, _⟩ := h; rfl
  | nils => intro x l h; simp only [EncM] at h; obtain ⟨c, rfl⟩ := h; rfl
  | bm f c ih => intro x l h; simp only [EncM] at h; obtain ⟨vs, rfl, _⟩ := h; rfl
  | sint k => intro x l h; simp only [EncM] at h; obtain ⟨n, rfl⟩ := h; rfl
  | fnu fs => intro x l h; simp only [EncM] at h; obtain ⟨f, _, rfl⟩ := h; rfl
  | mapp id => intro x l h; simp only [EncM] at h; obtain ⟨_, _, b, _, rfl⟩ := h; rfl
  | mobj k v ihk ihv => intro x l h; simp [EncM] at h
  | iface t v ih => intro x l h; simp only [EncM] at h; obtain ⟨v, rfl, _⟩ := h; rfl
  | loc id ix p => intro x l h; simp only [EncM] at h; obtain ⟨b, off, rfl, _⟩ := h; rfl
  | selfp id T => intro x l h; simp only [EncM] at h; obtain ⟨_, _, _, rfl | ⟨b, _, rfl⟩⟩ := h <;> rfl
  | slw id => intro x l h; simp only [EncM] at h; obtain ⟨e, xs, _, _, rfl⟩ := h; rfl
  | slv id => intro x l h; simp only [EncM] at h; obtain ⟨e, xs, A, c, _, _, rfl, _⟩ := h; rfl
  | row e ih => intro x l h; simp [EncM] at h
  | iter => intro x l h; simp [EncM] at h
  | _ => intro x l h; simp only [EncM] at h; simp [h, Ty.csize]

end

/-- Names no row of a list of objects. -/
def avoids (app : List Nat) : Ty → Prop
  | .list e => avoids app e
  | .xls e => avoids app e
  | .hl r => avoids app r
  | .arr _ e => avoids app e
  | .scons a r => avoids app a ∧ avoids app r
  | .tup r => avoids app r
  | .ref t => avoids app t
  | .fn _ c => avoids app c
  | .bm _ c => avoids app c
  | .iface _ v => avoids app v
  | .loc id ix _ => ix = true → id ∉ app
  | .slw id => id ∉ app
  | .slv id => id ∉ app
  | _ => True

theorem avoids_nil : ∀ t : Ty, avoids [] t := by
  intro t
  induction t <;> simp_all [avoids]

theorem avoids_of_pure (app : List Nat) : ∀ t : Ty, t.pure = true → avoids app t := by
  intro t
  induction t <;> simp_all [avoids, Ty.pure]

/-- What holds of the world, and of the objects, from one moment to a later one. -/
structure AdvC (w : World) (U : Nat → Prop) (β : Nat → Blk) (H : Heap) (w' : World) (U' : Nat → Prop) (β' : Nat → Blk) (H' : Heap) (app : List Nat) : Prop where
  use : ∀ b, U b → U' b
  same : ∀ b, U b → w'.heap[b]? = w.heap[b]?
  len : H.length ≤ H'.length
  row : ∀ id e xs, id < H.length → hget H id = ⟨.row e, xs⟩ → ∃ xs', hget H' id = ⟨.row e, xs'⟩ ∧ (id ∉ app → xs'.length = xs.length ∧ β' id = β id)
  box : ∀ id, id < H.length → (∀ e xs, hget H id ≠ ⟨.row e, xs⟩) → β' id = β id ∧ (hget H' id).t.shape = (hget H id).t.shape ∧ (∀ e xs, hget H' id ≠ ⟨.row e, xs⟩)

structure Adv (w : World) (U : Nat → Prop) (β : Nat → Blk) (H : Heap) (w' : World) (U' : Nat → Prop) (β' : Nat → Blk) (H' : Heap) (app : List Nat) : Prop extends AdvC w U β H w' U' β' H' app where
  keep : ∀ b, b < w.heap.size → ¬ U b → (∀ id, id < H.length → (β id).blk ≠ some b) → w'.heap[b]? = w.heap[b]? ∧ ¬ U' b ∧ ∀ id, id < H'.length → (β' id).blk ≠ some b

theorem cellsAt_same {w w' : World} {b off : Nat} {cs : List Value} (h : w'.heap[b]? = w.heap[b]?) (hc : cellsAt w b off cs) : cellsAt w' b off cs := by
  intro j hj
  have := hc j hj
  unfold World.cell? at *
  simp only at *
  rw [h]; exact this

theorem chLen_shape : ∀ t : Ty, chLen t.shape = chLen t := by
  intro t; induction t <;> simp_all [Ty.shape, chLen]
theorem csize_shape : ∀ t : Ty, t.shape.csize = t.csize := by
  intro t; induction t <;> simp_all [Ty.shape, Ty.csize]
theorem chOff_shape : ∀ (t : Ty) (n : Nat), chOff t.shape n = chOff t n := by
  intro t
  induction t with
  | scons a r iha ihr => intro n; cases n <;> simp [Ty.shape, chOff, csize_shape, ihr]
  | _ => intro n; simp [Ty.shape, chOff]
theorem tyGet_shape : ∀ (t : Ty) (n : Nat), (tyGet t n).shape = tyGet t.shape n := by
  intro t
  induction t with
  | scons a r iha ihr => intro n; cases n <;> simp [Ty.shape, tyGet, ihr]
  | _ => intro n; simp [Ty.shape, tyGet]
theorem pathOff_shape : ∀ (p : List Nat) (t u : Ty), t.shape = u.shape → pathOff p t = pathOff p u := by
  intro p
  induction p with
  | nil => intro t u _; rfl
  | cons f p ih =>
    intro t u h
    simp only [pathOff]
    rw [ih (tyGet t f) (tyGet u f) (by rw [tyGet_shape, tyGet_shape, h]), ← chOff_shape t, ← chOff_shape u, h]
theorem pathOK_shape : ∀ (p : List Nat) (t u : Ty), t.shape = u.shape → pathOK p t = pathOK p u := by
  intro p
  induction p with
  | nil => intro t u _; rfl
  | cons f p ih =>
    intro t u h
    simp only [pathOK]
    rw [ih (tyGet t f) (tyGet u f) (by rw [tyGet_shape, tyGet_shape, h]), ← chLen_shape t, ← chLen_shape u, h]

section
variable {w w' : World} {U U' : Nat → Prop} {β β' : Nat → Blk} {H H' : Heap} {app : List Nat}

theorem TV.row_or (x : TV) : (∃ e xs, x = ⟨.row e, xs⟩) ∨ ∀ e xs, x ≠ ⟨.row e, xs⟩ := by
  by_cases h : ∃ e xs, x = ⟨.row e, xs⟩
  · exact .inl h
  · exact .inr fun e xs he => h ⟨e, xs, he⟩

theorem LocAt.advC (hA : AdvC w U β H w' U' β' H' app) {id : Nat} {ix : Bool} {post : List Nat} {i b off : Nat} (ha : ix = true → id ∉ app) (h : LocAt β H id ix post i b off) : LocAt β' H' id ix post i b off := by
  obtain ⟨h0, h1, h2⟩ := h
  refine ⟨Nat.lt_of_lt_of_le h0 hA.len, ?_⟩
  cases ix with
  | true =>
    obtain ⟨e, xs, he, hi, hp, ho⟩ := h2
    obtain ⟨xs', he', hk⟩ := hA.row id e xs h0 he
    obtain ⟨hl, hb⟩ := hk (ha rfl)
    exact ⟨by rw [hb]; exact h1, e, xs', he', by omega, hp, ho⟩
  | false =>
    obtain ⟨hn, h3, h4⟩ := h2
    obtain ⟨hb, hs, hr⟩ := hA.box id h0 hn
    exact ⟨by rw [hb]; exact h1, hr, by rw [pathOK_shape post _ _ hs]; exact h3, by rw [pathOff_shape post _ _ hs]; exact h4⟩

theorem EncM.advC (hA : AdvC w U β H w' U' β' H' app) : ∀ (t : Ty) (m : Bool) (x : t.den) (l : List Value), avoids app t → EncM w U β H m t x l → EncM w' U' β' H' m t x l := by
  intro t
  induction t with
  | unk => intro m x l _ h; cases m <;> simp only [EncM] at h ⊢ <;> exact h
  | int k => intro m x l _ h; cases m <;> simp only [EncM] at h ⊢ <;> exact h
  | bool => intro m x l _ h; cases m <;> simp only [EncM] at h ⊢ <;> exact h
  | str => intro m x l _ h; cases m <;> simp only [EncM] at h ⊢ <;> exact h
  | nilf => intro m x l _ h; cases m <;> simp only [EncM] at h ⊢ <;> exact h
  | nils => intro m x l _ h; cases m <;> simp only [EncM] at h ⊢ <;> exact h
  | nilp => intro m x l _ h; cases m <;> simp only [EncM] at h ⊢ <;> exact h
  | nili => intro m x l _ h; cases m <;> simp only [EncM] at h ⊢ <;> exact h
  | nilm => intro m x l _ h; cases m <;> simp only [EncM] at h ⊢ <;> exact h
  | snil => intro m x l _ h; cases m <;> simp only [EncM] at h ⊢ <;> exact h
  | iter => intro m x l _ h; cases m <;> simp [EncM] at h
  | row e ih => intro m x l _ h; cases m <;> simp [EncM] at h
  | mobj k v ihk ihv => intro m x l _ h; cases m <;> simp [EncM] at h
  | fnu fs => intro m x l _ h; cases m <;> simp only [EncM] at h ⊢ <;> exact h
  | sint k => intro m x l _ h; cases m <;> simp only [EncM] at h ⊢ <;> exact h
  | bm f c ih =>
    intro m x l ha h
    cases m <;> simp only [EncM] at h ⊢
    obtain ⟨vs, rfl, h⟩ := h
    exact ⟨vs, rfl, ih true _ _ ha h⟩
  | mapp id =>
    intro m x l ha h
    cases m <;> simp only [EncM] at h ⊢
    obtain ⟨h0, h1, b, h2, h3⟩ := h
    obtain ⟨g1, g2, _⟩ := hA.box id h0 (fun e xs he => by rw [he] at h1; cases h1)
    exact ⟨Nat.lt_of_lt_of_le h0 hA.len, g2.trans h1, b, by rw [g1]; exact h2, h3⟩
  | list e ih =>
    intro m x l ha h
    cases m <;> simp only [EncM] at h ⊢
    obtain ⟨A, c, rfl, h0, h1⟩ := h
    refine ⟨A, c, rfl, h0, fun hp => ?_⟩
    obtain ⟨b, off, rfl, hU, h2⟩ := h1 hp
    refine ⟨b, off, rfl, hA.use _ hU, fun i hi => ?_⟩
    obtain ⟨cs, h3, h4⟩ := h2 i hi
    exact ⟨cs, ih false _ _ ha h3, cellsAt_same (hA.same _ hU) h4⟩
  | xls e ih =>
    intro m x l ha h
    cases m <;> simp only [EncM] at h ⊢
    obtain ⟨A, c, rfl, h0, h1⟩ := h
    refine ⟨A, c, rfl, h0, fun hp => ?_⟩
    obtain ⟨b, off, rfl, hU, h2⟩ := h1 hp
    refine ⟨b, off, rfl, hA.use _ hU, fun i hi => ?_⟩
    obtain ⟨cs, h3, h4⟩ := h2 i hi
    exact ⟨cs, ih false _ _ ha h3, cellsAt_same (hA.same _ hU) h4⟩
  | hl r ih =>
    intro m x l ha h
    cases m <;> simp only [EncM] at h ⊢
    obtain ⟨b, off, c, vs, rfl, h0, hU, h1, h2, h3⟩ := h
    exact ⟨b, off, c, vs, rfl, h0, hA.use _ hU, ih true _ _ ha h1, h2, cellsAt_same (hA.same _ hU) h3⟩
  | arr n e ih =>
    intro m x l ha h
    cases m <;> simp only [EncM] at h ⊢
    exact ⟨h.1, h.2.1, h.2.2.1, fun i hi => ih false _ _ ha (h.2.2.2 i hi)⟩
  | scons a r iha ihr =>
    intro m x l ha h
    cases m <;> simp only [EncM] at h ⊢
    · obtain ⟨l1, l2, rfl, h1, h2⟩ := h
      exact ⟨l1, l2, rfl, iha false _ _ ha.1 h1, ihr false _ _ ha.2 h2⟩
    · obtain ⟨v, l2, rfl, h1, h2⟩ := h
      exact ⟨v, l2, rfl, h1.imp id fun h => ⟨h.1, iha false _ _ ha.1 h.2⟩, ihr true _ _ ha.2 h2⟩
  | tup r ih =>
    intro m x l ha h
    cases m <;> simp only [EncM] at h ⊢
    obtain ⟨vs, rfl, h⟩ := h
    exact ⟨vs, rfl, ih true _ _ ha h⟩
  | ref t ih =>
    intro m x l ha h
    cases m <;> simp only [EncM] at h ⊢
    obtain ⟨b, off, cs, rfl, hU, h1, h2⟩ := h
    exact ⟨b, off, cs, rfl, hA.use _ hU, ih false _ _ ha h1, cellsAt_same (hA.same _ hU) h2⟩
  | fn f c ih =>
    intro m x l ha h
    cases m <;> simp only [EncM] at h ⊢
    obtain ⟨vs, rfl, h⟩ := h
    exact ⟨vs, rfl, ih true _ _ ha h⟩
  | iface t v ih =>
    intro m x l ha h
    cases m <;> simp only [EncM] at h ⊢
    obtain ⟨y, rfl, h1, h2⟩ := h
    exact ⟨y, rfl, h1, ih false _ _ ha h2⟩
  | loc id ix post =>
    intro m x l ha h
    cases m <;> simp only [EncM] at h ⊢
    obtain ⟨b, off, rfl, h⟩ := h
    exact ⟨b, off, rfl, h.advC hA ha⟩
  | selfp id T =>
    intro m x l ha h
    cases m <;> simp only [EncM] at h ⊢
    obtain ⟨h0, h1, h2, h3⟩ := h
    obtain ⟨g1, _, g3⟩ := hA.box id h0 h1
    exact ⟨Nat.lt_of_lt_of_le h0 hA.len, g3, by rw [g1]; exact h2, by rw [g1]; exact h3⟩
  | slw id =>
    intro m x l ha h
    cases m <;> simp only [EncM] at h ⊢
    obtain ⟨e, xs, h0, h1, rfl⟩ := h
    obtain ⟨xs', h2, h3⟩ := hA.row id e xs h0 h1
    obtain ⟨h4, h5⟩ := h3 ha
    exact ⟨e, xs', Nat.lt_of_lt_of_le h0 hA.len, h2, by rw [h4, h5]⟩
  | slv id =>
    intro m x l ha h
    cases m <;> simp only [EncM] at h ⊢
    obtain ⟨e, xs, A, c, h0, h1, rfl, hc, h6, h7⟩ := h
    obtain ⟨xs', h2, h3⟩ := hA.row id e xs h0 h1
    obtain ⟨h4, h5⟩ := h3 ha
    exact ⟨e, xs', A, c, Nat.lt_of_lt_of_le h0 hA.len, h2, rfl, hc, by omega, by rw [h5]; exact h7⟩

theorem EncM.adv (hA : Adv w U β H w' U' β' H' app) (t : Ty) (m : Bool) (x : t.den) (l : List Value) (ha : avoids app t) (h : EncM w U β H m t x l) : EncM w' U' β' H' m t x l :=
  EncM.advC hA.toAdvC t m x l ha h

theorem LocAt.adv (hA : Adv w U β H w' U' β' H' app) {id : Nat} {ix : Bool} {post : List Nat} {i b off : Nat} (ha : ix = true → id ∉ app) (h : LocAt β H id ix post i b off) : LocAt β' H' id ix post i b off := h.advC hA.toAdvC ha

theorem EncV.advC (hA : AdvC w U β H w' U' β' H' app) {x : TV} {v : Value} (ha : avoids app x.t) (h : EncV w U β H x v) : EncV w' U' β' H' x v :=
  h.imp id fun h => ⟨h.1, h.2.advC hA _ _ _ _ ha⟩

theorem EncV.adv (hA : Adv w U β H w' U' β' H' app) {x : TV} {v : Value} (ha : avoids app x.t) (h : EncV w U β H x v) : EncV w' U' β' H' x v :=
  h.imp id fun h => ⟨h.1, h.2.adv hA _ _ _ _ ha⟩

/-- A value that needs no object reads the same whatever the objects are. -/
theorem EncM.pure_any {β2 : Nat → Blk} {H2 : Heap} : ∀ (t : Ty) (m : Bool) (x : t.den) (l : List Value), t.pure = true → EncM w U β H m t x l → EncM w U β2 H2 m t x l := by
  intro t
  induction t with
  | int k => intro m x l _ h; cases m <;> simp only [EncM] at h ⊢ <;> exact h
  | bool => intro m x l _ h; cases m <;> simp only [EncM] at h ⊢ <;> exact h
  | str => intro m x l _ h; cases m <;> simp only [EncM] at h ⊢ <;> exact h
  | nilf => intro m x l _ h; cases m <;> simp only [EncM] at h ⊢ <;> exact h
  | nils => intro m x l _ h; cases m <;> simp only [EncM] at h ⊢ <;> exact h
  | nilp => intro m x l _ h; cases m <;> simp only [EncM] at h ⊢ <;> exact h
  | nili => intro m x l _ h; cases m <;> simp only [EncM] at h ⊢ <;> exact h
  | nilm => intro m x l _ h; cases m <;> simp only [EncM] at h ⊢ <;> exact h
  | snil => intro m x l _ h; cases m <;> simp only [EncM] at h ⊢ <;> exact h
  | list e ih =>
    intro m x l ha h
    cases m <;> simp only [EncM] at h ⊢
    obtain ⟨A, c, rfl, h0, h1⟩ := h
    refine ⟨A, c, rfl, h0, fun hp => ?_⟩
    obtain ⟨b, off, rfl, hU, h2⟩ := h1 hp
    refine ⟨b, off, rfl, hU, fun i hi => ?_⟩
    obtain ⟨cs, h3, h4⟩ := h2 i hi
    exact ⟨cs, ih false _ _ ha h3, h4⟩
  | xls e ih =>
    intro m x l ha h
    cases m <;> simp only [EncM] at h ⊢
    obtain ⟨A, c, rfl, h0, h1⟩ := h
    refine ⟨A, c, rfl, h0, fun hp => ?_⟩
    obtain ⟨b, off, rfl, hU, h2⟩ := h1 hp
    refine ⟨b, off, rfl, hU, fun i hi => ?_⟩
    obtain ⟨cs, h3, h4⟩ := h2 i hi
    exact ⟨cs, ih false _ _ ha h3, h4⟩
  | hl r ih =>
    intro m x l ha h
    cases m <;> simp only [EncM] at h ⊢
    obtain ⟨b, off, c, vs, rfl, h0, hU, h1, h2, h3⟩ := h
    exact ⟨b, off, c, vs, rfl, h0, hU, ih true _ _ ha h1, h2, h3⟩
  | arr n e ih =>
    intro m x l ha h
    cases m <;> simp only [EncM] at h ⊢
    exact ⟨h.1, h.2.1, h.2.2.1, fun i hi => ih false _ _ ha (h.2.2.2 i hi)⟩
  | scons a r iha ihr =>
    intro m x l ha h
    simp only [Ty.pure, Bool.and_eq_true] at ha
    cases m <;> simp only [EncM] at h ⊢
    · obtain ⟨l1, l2, rfl, h1, h2⟩ := h
      exact ⟨l1, l2, rfl, iha false _ _ ha.1 h1, ihr false _ _ ha.2 h2⟩
    · obtain ⟨v, l2, rfl, h1, h2⟩ := h
      exact ⟨v, l2, rfl, h1.imp id fun h => ⟨h.1, iha false _ _ ha.1 h.2⟩, ihr true _ _ ha.2 h2⟩
  | tup r ih =>
    intro m x l ha h
    cases m <;> simp only [EncM] at h ⊢
    obtain ⟨vs, rfl, h⟩ := h
    exact ⟨vs, rfl, ih true _ _ ha h⟩
  | ref t ih =>
    intro m x l ha h
    cases m <;> simp only [EncM] at h ⊢
    obtain ⟨b, off, cs, rfl, hU, h1, h2⟩ := h
    exact ⟨b, off, cs, rfl, hU, ih false _ _ ha h1, h2⟩
  | fn f c ih =>
    intro m x l ha h
    cases m <;> simp only [EncM] at h ⊢
    obtain ⟨vs, rfl, h⟩ := h
    exact ⟨vs, rfl, ih true _ _ ha h⟩
  | iface t v ih =>
    intro m x l ha h
    cases m <;> simp only [EncM] at h ⊢
    obtain ⟨y, rfl, h1, h2⟩ := h
    exact ⟨y, rfl, h1, ih false _ _ ha h2⟩
  | fnu fs => intro m x l _ h; cases m <;> simp only [EncM] at h ⊢ <;> exact h
  | sint k => intro m x l _ h; cases m <;> simp only [EncM] at h ⊢ <;> exact h
  | bm f c ih =>
    intro m x l ha h
    cases m <;> simp only [EncM] at h ⊢
    obtain ⟨vs, rfl, h⟩ := h
    exact ⟨vs, rfl, ih true _ _ ha h⟩
  | mapp id => intro m x l ha; simp [Ty.pure] at ha
  | mobj k v ihk ihv => intro m x l ha; simp [Ty.pure] at ha
  | unk => intro m x l ha; simp [Ty.pure] at ha
  | iter => intro m x l ha; simp [Ty.pure] at ha
  | row e ih => intro m x l ha; simp [Ty.pure] at ha
  | loc id ix post => intro m x l ha; simp [Ty.pure] at ha
  | selfp id T => intro m x l ha; simp [Ty.pure] at ha
  | slw id => intro m x l ha; simp [Ty.pure] at ha
  | slv id => intro m x l ha; simp [Ty.pure] at ha

/-- A pure value reads the same in a world that has the same usable blocks. -/
theorem EncM.pure_same {β2 : Nat → Blk} {H2 : Heap} (hU : ∀ b, U b → U' b) (hs : ∀ b, U b → w'.heap[b]? = w.heap[b]?) (t : Ty) (m : Bool) (x : t.den) (l : List Value) (hp : t.pure = true) (h : EncM w U β H m t x l) :
    EncM w' U' β2 H2 m t x l := by
  have h1 := h.pure_any (β2 := fun _ => ⟨none, 0⟩) (H2 := []) _ _ _ _ hp
  have hA : AdvC w U (fun _ => ⟨none, 0⟩) [] w' U' (fun _ => ⟨none, 0⟩) [] [] := ⟨hU, hs, Nat.le_refl _, fun _ _ _ h => by simp at h, fun _ h => by simp at h⟩
  exact (h1.advC hA _ _ _ _ (avoids_nil t)).pure_any _ _ _ _ hp

theorem Adv.refl (w : World) (U : Nat → Prop) (β : Nat → Blk) (H : Heap) (app : List Nat) : Adv w U β H w U β H app :=
  ⟨⟨fun _ h => h, fun _ _ => rfl, Nat.le_refl _, fun _ _ xs _ h => ⟨xs, h, fun _ => ⟨rfl, rfl⟩⟩, fun _ _ h => ⟨rfl, rfl, h⟩⟩, fun _ _ h1 h2 => ⟨rfl, h1, h2⟩⟩

theorem Adv.trans {w'' : World} {U'' : Nat → Prop} {β'' : Nat → Blk} {H'' : Heap} {app' : List Nat} (h1 : Adv w U β H w' U' β' H' app) (h2 : Adv w' U' β' H' w'' U'' β'' H'' app')
    (hm : ∀ id, id < H.length → id ∈ app → id ∈ app') : Adv w U β H w'' U'' β'' H'' app' where
  use b h := h2.use b (h1.use b h)
  same b h := (h2.same b (h1.use b h)).trans (h1.same b h)
  len := Nat.le_trans h1.len h2.len
  row id e xs hl he := by
    obtain ⟨xs1, he1, hk1⟩ := h1.row id e xs hl he
    obtain ⟨xs2, he2, hk2⟩ := h2.row id e xs1 (Nat.lt_of_lt_of_le hl h1.len) he1
    refine ⟨xs2, he2, fun hn => ?_⟩
    obtain ⟨a, b⟩ := hk2 hn
    obtain ⟨c, d⟩ := hk1 fun hm' => hn (hm id hl hm')
    exact ⟨a.trans c, b.trans d⟩
  box id hl hn := by
    obtain ⟨a, b, c⟩ := h1.box id hl hn
    obtain ⟨a', b', c'⟩ := h2.box id (Nat.lt_of_lt_of_le hl h1.len) c
    exact ⟨a'.trans a, b'.trans b, c'⟩
  keep b hb hu hn := by
    obtain ⟨g1, g2, g3⟩ := h1.keep b hb hu hn
    have hb' : b < w'.heap.size := by
      rw [Array.getElem?_eq_getElem hb] at g1
      exact (Array.getElem?_eq_some_iff.1 g1).1
    obtain ⟨g4, g5, g6⟩ := h2.keep b hb' g2 g3
    exact ⟨g4.trans g1, g5, g6⟩
end
end Go.Dp
/- What holds of a frame and of the world while the small machine runs beside the model. -/
set_option autoImplicit false
set_option linter.unusedVariables false
set_option linter.unusedSimpArgs false
namespace Go.Dp
open Go.RowKit

def tdOf : TypeDesc → TD
  | .int k => .int k
  | .bool => .bool
  | .string => .str
  | .slice e => .slice e
  | .array n e => .arr n e
  | .struct fs => .struct (fs.toList.map fun f => (f.type, f.offset))
  | .pointer e => .ptr e
  | .map k e => .map k e
  | .func _ _ _ => .fn
  | .interface ms => .iface (!ms.isEmpty)
  | _ => .other

def aggD : TypeDesc → Bool
  | .struct _ => true
  | .array _ _ => true
  | _ => false

/-- A kind's zero value as the model has it: its cells. -/
def zcells : Ty → List Value
  | .int k => [.int k 0]
  | .bool => [.bool false]
  | .str => [.string ⟨#[]⟩]
  | .list _ => [.slice none 0 0]
  | .nilf => [.nilFunc]
  | .nilp => [.pointer none]
  | .nili => [.nilIface]
  | .nilm => [.map none]
  | .snil => []
  | .scons a r => zcells a ++ zcells r
  | .arr n e => (List.replicate n (zcells e)).flatten
  | _ => []

def zval (t : Ty) : Value := bif t.isAgg then .agg (zcells t).toArray else (zcells t).headD undef

/-- A struct type of which `==` compares every part, and of no part that may be an interface. -/
def eqP (P : Program) (t : Nat) : Bool :=
  match P.underlying t with
  | some (.struct fs) => !P.stoodInHeld t && !P.eqGuardType P.depth t && fs.toList.all (fun f => f.name != "_")
  | _ => false
def isStructTD : TD → Bool
  | .struct _ => true
  | _ => false

structure TIok (P : Program) (E : Env) : Prop where
  eqs : ∀ t i, look E.ti t = some i → isStructTD i.td = true → flat i.ty = true → eqP P t = true
  ok : ∀ t i, look E.ti t = some i → ∃ info d, P.info? t = some info ∧ P.underlying t = some d ∧ tdOf d = i.td ∧ info.size = i.size ∧ info.bytes = i.bytes ∧ aggD d = i.ty.isAgg ∧ (i.ty.zOK = true → info.zero = some (zval i.ty))

/-- An object lies where it is said to lie. -/
def ObjAt (w : World) (U : Nat → Prop) (β : Nat → Blk) (H : Heap) (B id : Nat) : Prop :=
  match hget H id with
  | ⟨.row e, xs⟩ => e.elem = true ∧ (((β id).blk = none ∧ (β id).cap = 0 ∧ xs = []) ∨ ∃ b arr el fr, (β id).blk = some b ∧ B ≤ b ∧ ¬ U b ∧ w.heap[b]? = some (.cells arr el fr) ∧ arr.size = (β id).cap * e.csize ∧
      xs.length ≤ (β id).cap ∧ (∀ j, j < arr.size → ¬ (fr.1 ≤ j ∧ j < fr.2)) ∧
      ∀ i (h : i < xs.length), ∃ cs, EncM w U β H false e xs[i] cs ∧ ∀ j (h : j < cs.length), arr[i * e.csize + j]? = some cs[j])
  | ⟨.iter, v⟩ => ∃ b, (β id).blk = some b ∧ B ≤ b ∧ ¬ U b ∧ w.heap[b]? = some (.stringIter ⟨v.1.toArray⟩ v.2)
  | ⟨.mobj K V, xs⟩ => K.elem = true ∧ V.elem = true ∧ ∃ b es clock, (β id).blk = some b ∧ B ≤ b ∧ ¬ U b ∧ w.heap[b]? = some (.map es clock) ∧ es.size = xs.length ∧
      ∀ i (h : i < xs.length), ∃ en : MapEntry, es[i]? = some en ∧ EncV w U β H ⟨K, xs[i].1⟩ en.key ∧ EncV w U β H ⟨V, xs[i].2⟩ en.val
  | ⟨t, v⟩ => ∃ b cs el fr, (β id).blk = some b ∧ B ≤ b ∧ ¬ U b ∧ w.heap[b]? = some (.cells cs el fr) ∧ (∀ j, j < cs.size → ¬ (fr.1 ≤ j ∧ j < fr.2)) ∧ EncM w U β H false t v cs.toList ∧ (β id).cap = el

structure HRel (w : World) (U : Nat → Prop) (β : Nat → Blk) (H : Heap) (B : Nat) : Prop where
  obj : ∀ id, id < H.length → ObjAt w U β H B id
  inj : ∀ id id' b, id < H.length → id' < H.length → (β id).blk = some b → (β id').blk = some b → id = id'

/-- The set-up in which a call runs: the world at its beginning, the blocks that may be read. -/
structure Base where
  P : Program
  E : Env
  w0 : World
  U0 : Nat → Prop
  D : List Deferred

/-- What lies behind a package-level variable's address is all of its block. -/
def Whole (w : World) (g : Nat) : Ty → Prop
  | .ref T => ∃ cs el fr, w.heap[g]? = some (.cells cs el fr) ∧ cs.size = T.csize
  | _ => True
structure GlobAt (w : World) (U : Nat → Prop) (β : Nat → Blk) (H : Heap) (g : Nat) (x : TV) : Prop where
  enc : EncM w U β H false x.t x.v [.pointer (some ⟨g, 0, none⟩)]
  whole : Whole w g x.t
theorem GlobAt.advC {w w' : World} {U U' : Nat → Prop} {β β' : Nat → Blk} {H H' : Heap} {app : List Nat} {g : Nat} {x : TV} (h : GlobAt w U β H g x) (hA : AdvC w U β H w' U' β' H' app) (ha : avoids app x.t) : GlobAt w' U' β' H' g x := by
  refine ⟨h.enc.advC hA _ _ _ _ ha, ?_⟩
  have h1 := h.enc
  have h2 := h.whole
  obtain ⟨t, v⟩ := x
  cases t <;> try trivial
  simp only [EncM] at h1
  obtain ⟨b, off, cs, e, hb, _⟩ := h1
  cases e
  simp only [Whole] at h2 ⊢
  rw [hA.same _ hb]
  exact h2

theorem GlobAt.adv {w w' : World} {U U' : Nat → Prop} {β β' : Nat → Blk} {H H' : Heap} {app : List Nat} {g : Nat} {x : TV} (h : GlobAt w U β H g x) (hA : Adv w U β H w' U' β' H' app) (ha : avoids app x.t) : GlobAt w' U' β' H' g x := by
  refine ⟨h.enc.adv hA _ _ _ _ ha, ?_⟩
  have h1 := h.enc
  have h2 := h.whole
  obtain ⟨t, v⟩ := x
  cases t <;> try trivial
  simp only [EncM] at h1
  obtain ⟨b, off, cs, e, hb, _⟩ := h1
  cases e
  simp only [Whole] at h2 ⊢
  rw [hA.same _ hb]
  exact h2

structure WRel (S : Base) (U : Nat → Prop) (β : Nat → Blk) (H : Heap) (w : World) : Prop where
  heap : HRel w U β H S.w0.heap.size
  below : Below S.w0.heap.size S.w0 w
  uin : ∀ b, U b → b < w.heap.size
  uold : ∀ b, b < S.w0.heap.size → (U b ↔ S.U0 b)
  globs : ∀ g x, lookTV S.E.gl g = x → x.t.isUnk = true ∨ (x.t.pure = true ∧ x.t.isAgg = false ∧ GlobAt w U β H g x)

structure FRel (S : Base) (n : Nat) (U : Nat → Prop) (β : Nat → Blk) (s : St) (a : Act) (w : World) : Prop where
  defers : a.defers = S.D
  size : a.tmps.size = n
  regs : ∀ i, EncV w U β s.heap (s.get i) (a.tmps.getD i undef)
  wrel : WRel S U β s.heap w

theorem FRel.set {S : Base} {n : Nat} {U : Nat → Prop} {β : Nat → Blk} {s : St} {a : Act} {w : World} (h : FRel S n U β s a w) {d : Nat} {x : TV} {v : Value} (hd : d < n) (hx : EncV w U β s.heap x v) :
    FRel S n U β (s.set d x) (a.put (some d) v) w where
  defers := h.defers
  size := by simp [Act.put, h.size]
  wrel := h.wrel
  regs i := by
    simp only [St.get, St.set, lookTV, Act.put]
    by_cases e : d = i
    · subst e
      simp only [Nat.beq_refl, cond_true]
      simp [Array.getD_eq_getD_getElem?, Array.getElem?_setIfInBounds, h.size, hd]
      exact hx
    · have : Nat.beq d i = false := by
        cases hb : Nat.beq d i with
        | true => exact absurd (Nat.eq_of_beq_eq_true hb) e
        | false => rfl
      rw [this]
      simp only [cond_false]
      have hr := h.regs i
      simp only [St.get] at hr
      simpa [Array.getD_eq_getD_getElem?, Array.getElem?_setIfInBounds_ne e] using hr

theorem EncV.unk {w : World} {U : Nat → Prop} {β : Nat → Blk} {H : Heap} (v : Value) : EncV w U β H .unk v := .inl rfl

theorem dec_ok {w : World} {U : Nat → Prop} {β : Nat → Blk} {H : Heap} : ∀ (t : Ty) (l : List Value) (x : t.den) (r : List Value), dec t l = some (x, r) → ∃ l1, l = l1 ++ r ∧ EncM w U β H false t x l1 := by
  intro t
  induction t with
  | int k =>
    intro l x r h
    rcases l with _ | ⟨v, l⟩
    · simp [dec] at h
    · cases v <;> simp [dec] at h
      obtain ⟨rfl, rfl, rfl⟩ := h
      exact ⟨[_], rfl, by simp [EncM]⟩
  | bool =>
    intro l x r h
    rcases l with _ | ⟨v, l⟩
    · simp [dec] at h
    · cases v <;> simp [dec] at h
      obtain ⟨rfl, rfl⟩ := h
      exact ⟨[_], rfl, by simp [EncM]⟩
  | str =>
    intro l x r h
    rcases l with _ | ⟨v, l⟩
    · simp [dec] at h
    · cases v <;> simp [dec] at h
      obtain ⟨rfl, rfl⟩ := h
      exact ⟨[_], rfl, by simp [EncM]⟩
  | list e ih =>
    intro l x r h
    rcases l with _ | ⟨v, l⟩
    · simp [dec] at h
    · cases v <;> first | (simp [dec] at h; done) | skip
      rename_i A n c
      rcases A with _ | A <;> rcases n with _ | n <;> rcases c with _ | c <;> simp [dec] at h
      obtain ⟨rfl, rfl⟩ := h
      exact ⟨[_], rfl, by simp [EncM]⟩
  | nilp =>
    intro l x r h
    rcases l with _ | ⟨v, l⟩
    · simp [dec] at h
    · cases v <;> first | (simp [dec] at h; done) | skip
      rename_i A
      rcases A with _ | A <;> simp [dec] at h
      subst h
      exact ⟨[_], rfl, by simp [EncM]⟩
  | nilf =>
    intro l x r h
    rcases l with _ | ⟨v, l⟩
    · simp [dec] at h
    · cases v <;> simp [dec] at h
      subst h
      exact ⟨[_], rfl, by simp [EncM]⟩
  | nili =>
    intro l x r h
    rcases l with _ | ⟨v, l⟩
    · simp [dec] at h
    · cases v <;> simp [dec] at h
      subst h
      exact ⟨[_], rfl, by simp [EncM]⟩
  | nilm =>
    intro l x r h
    rcases l with _ | ⟨v, l⟩
    · simp [dec] at h
    · cases v with
      | map A =>
        rcases A with _ | A
        · simp [dec] at h
          subst h
          exact ⟨[_], rfl, by simp [EncM]⟩
        · simp [dec] at h
      | _ => simp [dec] at h
  | snil => intro l x r h; simp [dec] at h; obtain ⟨_, rfl⟩ := h; exact ⟨[], rfl, by simp [EncM]⟩
  | scons a b iha ihb =>
    intro l x r h
    simp only [dec] at h
    split at h
    · rename_i y l1 h1
      split at h
      · rename_i z l2 h2
        obtain ⟨rfl, rfl⟩ := (by simpa using h : (y, z) = x ∧ l2 = r)
        obtain ⟨c1, rfl, e1⟩ := iha _ _ _ h1
        obtain ⟨c2, rfl, e2⟩ := ihb _ _ _ h2
        exact ⟨c1 ++ c2, by simp, by simp only [EncM]; exact ⟨c1, c2, rfl, e1, e2⟩⟩
      · simp at h
    · simp at h
  | _ => intro l x r h; rcases l with _ | ⟨v, l⟩ <;> simp [dec] at h

theorem constT_ok {w : World} {U : Nat → Prop} {β : Nat → Blk} {H : Heap} (T : Ty) (v : Value) : EncV w U β H (constT T v) v := by
  cases v with
  | bool b => exact .inr ⟨rfl, by simp [constT, EncM, Value.cells]⟩
  | int k n => exact .inr ⟨rfl, by simp [constT, EncM, Value.cells]⟩
  | string s => exact .inr ⟨rfl, by simp [constT, EncM, Value.cells]⟩
  | nilFunc => exact .inr ⟨rfl, by simp [constT, EncM, Value.cells]⟩
  | nilIface => exact .inr ⟨rfl, by simp [constT, EncM, Value.cells]⟩
  | pointer A =>
    rcases A with _ | A
    · exact .inr ⟨rfl, by simp [constT, EncM, Value.cells]⟩
    · exact .inl rfl
  | map A =>
    rcases A with _ | A
    · exact .inr ⟨rfl, by simp [constT, EncM, Value.cells]⟩
    · exact .inl rfl
  | slice A n c =>
    rcases A with _ | A
    · rcases n with _ | n
      · rcases c with _ | c
        · cases T with
          | list e => exact .inr ⟨rfl, (show EncM w U β H false (.list e) [] [.slice none 0 0] from by simp [EncM])⟩
          | _ => exact .inr ⟨rfl, (show EncM w U β H false .nils () [.slice none 0 0] from by simp [EncM])⟩
        · exact .inl rfl
      · exact .inl rfl
    · exact .inl rfl
  | agg cs =>
    unfold constT
    cases hT : T.isAgg with
    | false => exact .inl rfl
    | true =>
      simp only [cond_true]
      cases hd : dec T cs.toList with
      | none => exact .inl rfl
      | some p =>
        obtain ⟨x, r⟩ := p
        cases r with
        | nil =>
          obtain ⟨l1, h1, h2⟩ := dec_ok (w := w) (U := U) (β := β) (H := H) T _ _ _ hd
          exact .inr ⟨by simp [aggV, hT], by simp only [Value.cells]; rw [h1, List.append_nil]; exact h2⟩
        | cons y r => exact .inl rfl
  | _ => exact .inl rfl

theorem FRel.ev {S : Base} {n : Nat} {U : Nat → Prop} {β : Nat → Blk} {s : St} {a : Act} {w : World} (h : FRel S n U β s a w) (t : Nat) (x : Operand) :
    EncV w U β s.heap (ev S.E s t x) (a.eval x) := by
  cases x with
  | tmp i => exact h.regs i
  | const v => exact constT_ok _ _
  | func f => exact .inr ⟨rfl, by simp [Dp.ev, EncM, Value.cells, Act.eval]⟩
  | global g =>
    rcases h.wrel.globs g _ rfl with e | ⟨_, e, e'⟩
    · exact .inl e
    · exact .inr ⟨by simp [Dp.ev, e, Act.eval, aggV], by simpa [Dp.ev, Act.eval, Value.cells] using e'.enc⟩

/-- What a step hands on. -/
structure Handed (S : Base) (n : Nat) (U : Nat → Prop) (β : Nat → Blk) (s : St) (w : World) {α : Type} (k : St → Option α) (r : α) (a' : Act) (w' : World) : Prop where
  out : ∃ s' U' β', k s' = some r ∧ FRel S n U' β' s' a' w' ∧ Adv w U β s.heap w' U' β' s'.heap s'.app ∧ (∀ id, id < s.heap.length → id ∈ s.app → id ∈ s'.app)

section
variable {S : Base} {n : Nat} {U : Nat → Prop} {β : Nat → Blk} {s : St} {a : Act} {w : World} {α : Type} {k : St → Option α} {r : α} {h : Hint}

theorem putC_ok (hn : h.n = n) {d : Option Nat} {x : TV} {v : Value} {s1 : St} {U1 : Nat → Prop} {β1 : Nat → Blk} {w1 : World} (hR : FRel S n U1 β1 s1 a w1) (hx : EncV w1 U1 β1 s1.heap x v)
    (hA : Adv w U β s.heap w1 U1 β1 s1.heap s1.app) (hm : ∀ id, id < s.heap.length → id ∈ s.app → id ∈ s1.app)
    (hk : putC h s1 d x k = some r) : Handed S n U β s w k r (a.put d v) w1 := by
  cases d with
  | none => exact ⟨s1, U1, β1, hk, hR, hA, hm⟩
  | some d =>
    simp only [putC] at hk
    cases hb : Nat.blt d h.n with
    | false => rw [hb] at hk; simp at hk
    | true =>
      rw [hb] at hk
      simp only [cond_true] at hk
      have hd : d < n := by rw [← hn]; exact Nat.blt_eq.mp hb
      exact ⟨s1.set d x, U1, β1, hk, hR.set hd hx, hA, hm⟩

/-- An operation that only computes. -/
theorem value_ok {o : Oper} {v : Value} {x : TV} {Q : Exit → Act → World → Prop} (hn : h.n = n) (hR : FRel S n U β s a w) (hrun : (execOp a.eval o).run S.P w = .ok (.value v) w)
    (hx : EncV w U β s.heap x v) (hk : putC h s o.dst x k = some r) : o.wp S.P a w (Handed S n U β s w k r) Q := by
  unfold Oper.wp
  rw [hrun]
  exact putC_ok hn hR hx (Adv.refl _ _ _ _ _) (fun _ _ h => h) hk
end
end Go.Dp
/- The operations that only compute. -/
set_option autoImplicit false
set_option linter.unusedVariables false
set_option linter.unusedSimpArgs false
namespace Go.Dp
open Go.RowKit

section
variable {P : Program} {w : World} {U : Nat → Prop} {β : Nat → Blk} {H : Heap} {α : Type} {r : α}

theorem EncV.int {k : IntKind} {n : Int} {v : Value} (h : EncV w U β H ⟨.int k, n⟩ v) : v = .int k n := by
  rcases h with h | ⟨h1, h2⟩
  · cases h
  · cases v <;> simp_all [EncM, Value.cells, aggV, Ty.isAgg]
theorem EncV.bool {b : Bool} {v : Value} (h : EncV w U β H ⟨.bool, b⟩ v) : v = .bool b := by
  rcases h with h | ⟨h1, h2⟩
  · cases h
  · cases v <;> simp_all [EncM, Value.cells, aggV, Ty.isAgg]
theorem EncV.str {s : List UInt8} {v : Value} (h : EncV w U β H ⟨.str, s⟩ v) : v = .string ⟨s.toArray⟩ := by
  rcases h with h | ⟨h1, h2⟩
  · cases h
  · cases v <;> simp_all [EncM, Value.cells, aggV, Ty.isAgg]
/-- The one cell of a value that is none of several. -/
theorem EncV.one {x : TV} {v : Value} (h : EncV w U β H x v) (hu : x.t.isUnk = false) (ha : x.t.isAgg = false) : EncM w U β H false x.t x.v [v] := by
  rcases h with h | ⟨h1, h2⟩
  · rw [hu] at h; cases h
  · cases v <;> simp_all [Value.cells, aggV]
theorem EncV.mk_int (k : IntKind) (n : Int) : EncV w U β H ⟨.int k, n⟩ (.int k n) := .inr ⟨rfl, by simp [EncM, Value.cells]⟩
theorem EncV.mk_bool (b : Bool) : EncV w U β H ⟨.bool, b⟩ (.bool b) := .inr ⟨rfl, by simp [EncM, Value.cells]⟩
theorem EncV.mk_str (s : List UInt8) : EncV w U β H ⟨.str, s⟩ (.string ⟨s.toArray⟩) := .inr ⟨rfl, by simp [EncM, Value.cells]⟩

theorem bif_some {b : Bool} {x : Option α} (h : (bif b then x else none) = some r) : b = true ∧ x = some r := by
  cases b <;> simp_all
theorem bif_none {b : Bool} {x : Option α} (h : (bif b then none else x) = some r) : b = false ∧ x = some r := by
  cases b <;> simp_all

def binRun (P : Program) (w : World) (td : TD) (op : BinOp) (vx vy v : Value) : Prop := ∀ (xt : TypeId) (xo yo : Operand) (d : TypeDesc), P.underlying xt = some d → tdOf d = td → (do eqGuard op xt xo yo vx vy; binOp op xt vx vy : Sem Value).run P w = .ok v w

theorem beq_int (x y : Int) : (x == y) = decide (x = y) := by
  by_cases h : x = y <;> simp [h]

theorem binC_int {td : TD} {op : BinOp} {a b : IntKind} {x y : Int} {k : TV → Option α} (h : binC td op ⟨.int a, x⟩ ⟨.int b, y⟩ k = some r) :
    ∃ z v, k z = some r ∧ EncV w U β H z v ∧ binRun P w td op (.int a x) (.int b y) v := by
  simp only [binC] at h
  cases op with
  | shl =>
    obtain ⟨h1, hk⟩ := bif_none h
    have h1 : ¬ y < 0 := by simpa using h1
    exact ⟨_, _, hk, .mk_int _ _, fun xt xo yo d hd htd => by simp [eqGuard, binOp, Op.shift, h1]⟩
  | shr =>
    obtain ⟨h1, hk⟩ := bif_none h
    have h1 : ¬ y < 0 := by simpa using h1
    exact ⟨_, _, hk, .mk_int _ _, fun xt xo yo d hd htd => by simp [eqGuard, binOp, Op.shift, h1]⟩
  | quo =>
    obtain ⟨h1, hk⟩ := bif_some h
    clear h
    obtain rfl : a = b := by simpa using h1
    dsimp only at hk
    obtain ⟨h2, hk⟩ := bif_none hk
    have h2 : ¬ y = 0 := by simpa using h2
    exact ⟨_, _, hk, .mk_int _ _, fun xt xo yo d hd htd => by simp [eqGuard, binOp, Op.intDiv, h2]⟩
  | rem =>
    obtain ⟨h1, hk⟩ := bif_some h
    clear h
    obtain rfl : a = b := by simpa using h1
    dsimp only at hk
    obtain ⟨h2, hk⟩ := bif_none hk
    have h2 : ¬ y = 0 := by simpa using h2
    exact ⟨_, _, hk, .mk_int _ _, fun xt xo yo d hd htd => by simp [eqGuard, binOp, Op.intDiv, h2]⟩
  | eql =>
    obtain ⟨h1, hk⟩ := bif_some h
    clear h
    dsimp only at hk
    obtain rfl : a = b := by simpa using h1
    exact ⟨_, _, hk, .mk_bool _, fun xt xo yo d hd htd => by simp [eqGuard, binOp, Op.intCmp, beq_int]⟩
  | neq =>
    obtain ⟨h1, hk⟩ := bif_some h
    clear h
    dsimp only at hk
    obtain rfl : a = b := by simpa using h1
    exact ⟨_, _, hk, .mk_bool _, fun xt xo yo d hd htd => by simp [eqGuard, binOp, Op.intCmp, bne, beq_int]⟩
  | add | sub | mul | and | or | xor | andNot =>
    obtain ⟨h1, hk⟩ := bif_some h
    clear h
    dsimp only at hk
    obtain rfl : a = b := by simpa using h1
    exact ⟨_, _, hk, .mk_int _ _, fun xt xo yo d hd htd => by simp [eqGuard, binOp, Op.intArith, Op.intBits, ibits]⟩
  | lss | leq | gtr | geq =>
    obtain ⟨h1, hk⟩ := bif_some h
    clear h
    dsimp only at hk
    obtain rfl : a = b := by simpa using h1
    exact ⟨_, _, hk, .mk_bool _, fun xt xo yo d hd htd => by simp [eqGuard, binOp, Op.intCmp]⟩

theorem binC_str {td : TD} {op : BinOp} {x y : List UInt8} {k : TV → Option α} (h : binC td op ⟨.str, x⟩ ⟨.str, y⟩ k = some r) :
    ∃ z v, k z = some r ∧ EncV w U β H z v ∧ binRun P w td op (.string ⟨x.toArray⟩) (.string ⟨y.toArray⟩) v := by
  simp only [binC] at h
  cases op with
  | add =>
    obtain ⟨h1, h⟩ := bif_some h
    have h1 : x.length + y.length ≤ maxRoom := by simpa using h1
    refine ⟨_, _, h, .mk_str _, fun xt xo yo d hd htd => ?_⟩
    have e := run_string_add_sum (P := P) w ⟨x.toArray⟩ ⟨y.toArray⟩ (by simp [ByteArray.size]; unfold maxRoom at h1; omega)
    rw [ByteArray.mk_append_mk] at e
    simp [eqGuard, binOp, e]
  | eql | neq | lss | leq | gtr | geq => exact ⟨_, _, h, .mk_bool _, fun xt xo yo d hd htd => by simp [eqGuard, binOp, Op.stringOp]⟩
  | _ => simp at h

theorem binC_ok {td : TD} {op : BinOp} {X Y : TV} {vx vy : Value} {k : TV → Option α} (hx : EncV w U β H X vx) (hy : EncV w U β H Y vy) (h : binC td op X Y k = some r) :
    ∃ z v, k z = some r ∧ EncV w U β H z v ∧ binRun P w td op vx vy v := by
  obtain ⟨t, x⟩ := X
  obtain ⟨u, y⟩ := Y
  cases t with
  | int a =>
    cases u with
    | int b =>
      obtain rfl := hx.int
      obtain rfl := hy.int
      exact binC_int h
    | _ => simp [binC] at h
  | str =>
    cases u with
    | str =>
      obtain rfl := hx.str
      obtain rfl := hy.str
      exact binC_str h
    | _ => simp [binC] at h
  | bool =>
    cases u with
    | bool =>
      obtain rfl := hx.bool
      obtain rfl := hy.bool
      simp only [binC] at h
      cases td with
      | bool =>
        have hb : ∀ (d : TypeDesc), tdOf d = .bool → d = .bool := fun d => by cases d <;> simp [tdOf]
        cases op with
        | eql => exact ⟨_, _, h, .mk_bool _, fun xt xo yo d hd htd => by obtain rfl := hb d htd; simp [eqGuard, run_eql_bool, hd]⟩
        | neq => exact ⟨_, _, h, .mk_bool _, fun xt xo yo d hd htd => by obtain rfl := hb d htd; simp [eqGuard, run_neq_bool, hd]⟩
        | _ => simp at h
      | _ => simp at h
    | _ => simp [binC] at h
  | _ => simp [binC] at h
end
end Go.Dp
/- Types, loads, fields, elements. -/
set_option autoImplicit false
set_option linter.unusedVariables false
set_option linter.unusedSimpArgs false
namespace Go.Dp
open Go.RowKit

section
variable {P : Program} {E : Env} {w : World} {U : Nat → Prop} {β : Nat → Blk} {H : Heap} {α : Type} {r : α}

/-- A type that the table tells of. -/
structure Known (P : Program) (E : Env) (t : Nat) (info : TypeInfo) (d : TypeDesc) : Prop where
  inf : P.info? t = some info
  und : P.underlying t = some d
  td : tdOf d = (tiOf E t).td
  size : info.size = (tiOf E t).size
  bytes : info.bytes = (tiOf E t).bytes
  agg : aggD d = (tiOf E t).ty.isAgg
  zero : (tiOf E t).ty.zOK = true → info.zero = some (zval (tiOf E t).ty)

theorem TIok.known (hT : TIok P E) (t : Nat) : (∃ info d, Known P E t info d) ∨ tiOf E t = ⟨.other, 0, 0, .unk⟩ := by
  unfold tiOf
  cases h : look E.ti t with
  | none => exact .inr rfl
  | some i =>
    obtain ⟨info, d, h1, h2, h3, h4, h5, h6, h7⟩ := hT.ok t i h
    exact .inl ⟨info, d, h1, h2, by simp [tiOf, h, h3], by simp [tiOf, h, h4], by simp [tiOf, h, h5], by simp [tiOf, h, h6], by simp only [tiOf, h, Option.getD_some]; exact h7⟩

theorem TIok.known_td (hT : TIok P E) {t : Nat} (h : (tiOf E t).td ≠ .other) : ∃ info d, Known P E t info d :=
  (hT.known t).resolve_right fun e => h (by rw [e])
theorem TIok.known_size (hT : TIok P E) {t : Nat} (h : (tiOf E t).size ≠ 0) : ∃ info d, Known P E t info d :=
  (hT.known t).resolve_right fun e => h (by rw [e])
theorem TIok.known_agg (hT : TIok P E) {t : Nat} (h : (tiOf E t).ty.isAgg = true) : ∃ info d, Known P E t info d :=
  (hT.known t).resolve_right fun e => by rw [e] at h; cases h
/-- A value's size and form fit a type's only if the type is known. -/
theorem TIok.known_fit (hT : TIok P E) {t : Nat} {a : Ty} (hs : a.csize = (tiOf E t).size) (ha : a.isAgg = (tiOf E t).ty.isAgg) : ∃ info d, Known P E t info d := by
  refine (hT.known t).resolve_right fun e => ?_
  rw [e] at hs ha
  cases a <;> simp [Ty.csize, Ty.isAgg] at hs ha

variable {t : Nat} {info : TypeInfo} {d : TypeDesc}
theorem Known.runU (h : Known P E t info d) : (underlying t).run P w = .ok d w := run_underlying h.und w
theorem Known.cellsOf (h : Known P E t info d) : P.cellsOf t = (tiOf E t).size := by
  unfold Program.cellsOf
  rw [h.inf]
  exact h.size
theorem Known.runS (h : Known P E t info d) : (sizeOf t).run P w = .ok (tiOf E t).size w := by
  rw [run_sizeOf w h.inf, h.cellsOf]
theorem Known.runT (h : Known P E t info d) : (typeInfo t).run P w = .ok info w := run_typeInfo w h.inf
theorem Known.runA (h : Known P E t info d) : (isAgg t).run P w = .ok (tiOf E t).ty.isAgg w := by
  rw [← h.agg]
  simp only [isAgg, Sem.run_bind, h.runU, Result.andThen_ok]
  cases d <;> rfl

theorem addr_add (b off j : Nat) : (⟨b, off, none⟩ : Addr).add j = ⟨b, off + j, none⟩ := by
  unfold Addr.add
  split
  · rename_i h; subst h; rfl
  · rfl

theorem EncM.leaf {t : Ty} {x : t.den} {v : Value} (hu : t.isUnk = false) (ha : t.isAgg = false) (h : EncM w U β H false t x [v]) : aggV v = false := by
  cases t with
  | unk => cases hu
  | snil => cases ha
  | scons a b => cases ha
  | arr n e => cases ha
  | int k => simp only [EncM] at h; cases h; rfl
  | bool => simp only [EncM] at h; cases h; rfl
  | str => simp only [EncM] at h; cases h; rfl
  | nilf => simp only [EncM] at h; cases h; rfl
  | nilp => simp only [EncM] at h; cases h; rfl
  | nili => simp only [EncM] at h; cases h; rfl
  | nilm => simp only [EncM] at h; cases h; rfl
  | nils => simp only [EncM] at h; obtain ⟨c, h⟩ := h; cases h; rfl
  | list e => simp only [EncM] at h; obtain ⟨A, c, h, _⟩ := h; cases h; rfl
  | xls e => simp only [EncM] at h; obtain ⟨A, c, h, _⟩ := h; cases h; rfl
  | hl r => simp only [EncM] at h; obtain ⟨b, off, c, vs, h, _⟩ := h; cases h; rfl
  | tup r => simp only [EncM] at h; obtain ⟨vs, h, _⟩ := h; cases h; rfl
  | ref t => simp only [EncM] at h; obtain ⟨b, off, cs, h, _⟩ := h; cases h; rfl
  | fn f c => simp only [EncM] at h; obtain ⟨vs, h, _⟩ := h; cases h; rfl
  | iface t a => simp only [EncM] at h; obtain ⟨y, h, _⟩ := h; cases h; rfl
  | loc id ix p => simp only [EncM] at h; obtain ⟨b, off, h, _⟩ := h; cases h; rfl
  | selfp id T => simp only [EncM] at h; obtain ⟨_, _, _, h | ⟨b, _, h⟩⟩ := h <;> cases h <;> rfl
  | slw id => simp only [EncM] at h; obtain ⟨e, xs, _, _, h⟩ := h; cases h; rfl
  | slv id => simp only [EncM] at h; obtain ⟨e, xs, A, c, _, _, h, _⟩ := h; cases h; rfl
  | row e => simp [EncM] at h
  | iter => simp [EncM] at h
  | mobj k v => simp [EncM] at h
  | sint k => simp only [EncM] at h; obtain ⟨n, h⟩ := h; cases h; rfl
  | fnu fs => simp only [EncM] at h; obtain ⟨f, _, h⟩ := h; cases h; rfl
  | bm f c => simp only [EncM] at h; obtain ⟨vs, h, _⟩ := h; cases h; rfl
  | mapp id => simp only [EncM] at h; obtain ⟨_, _, b, _, h⟩ := h; cases h; rfl

/-- Cells of memory as a value. -/
theorem loadVar_ok (hK : Known P E t info d) {T : Ty} {x : T.den} {b off : Nat} {cs : List Value} (hs : T.csize = (tiOf E t).size) (ha : T.isAgg = (tiOf E t).ty.isAgg)
    (hx : EncM w U β H false T x cs) (hc : cellsAt w b off cs) : ∃ v, (loadVar t ⟨b, off, none⟩).run P w = .ok v w ∧ EncV w U β H ⟨T, x⟩ v := by
  have hl := hx.len
  have hcs : ∀ j v, cs[j]? = some v → w.cell? ((⟨b, off, none⟩ : Addr).add j) = some v := by
    intro j v hj
    obtain ⟨hj', rfl⟩ := List.getElem?_eq_some_iff.1 hj
    rw [addr_add]
    exact hc j hj'
  simp only [loadVar, Sem.run_bind, hK.runA, Result.andThen_ok]
  cases hg : (tiOf E t).ty.isAgg with
  | true =>
    refine ⟨.agg cs.toArray, ?_, .inr ⟨by simp [aggV, ha, hg], by simpa [Value.cells] using hx⟩⟩
    simp only [if_true, Sem.run_bind, hK.runS, Result.andThen_ok]
    rw [← hs, ← hl, run_loadCells_list w _ _ hcs]
    rfl
  | false =>
    have h1 : T.csize = 1 := by
      cases T <;> simp_all [Ty.isAgg, Ty.csize]
    obtain ⟨v, rfl⟩ : ∃ v, cs = [v] := List.length_eq_one_iff.1 (hl.trans h1)
    refine ⟨v, ?_, ?_⟩
    · have := hcs 0 v rfl
      rw [addr_add] at this
      simp only [Bool.false_eq_true, if_false]
      simp [run_load]
      simp at this
      rw [this]
    · cases hu : T.isUnk with
      | true => exact .inl hu
      | false =>
        have hv := hx.leaf hu (ha.trans hg)
        refine .inr ⟨by rw [hv]; exact (ha.trans hg).symm, ?_⟩
        cases v <;> simp_all [Value.cells, aggV]
end
end Go.Dp
/- Parts of values. -/
set_option autoImplicit false
set_option linter.unusedVariables false
set_option linter.unusedSimpArgs false
namespace Go.Dp
open Go.RowKit

section
variable {w : World} {U : Nat → Prop} {β : Nat → Blk} {H : Heap}

theorem chGet_ty : ∀ (T : Ty) (v : T.den) (f : Nat), (chGet T v f).t = tyGet T f := by
  intro T
  induction T with
  | scons a r iha ihr => intro v f; cases f <;> simp [chGet, tyGet, ihr]
  | _ => intro v f; simp [chGet, tyGet]

theorem partAt_ty : ∀ (p : List Nat) (T : Ty) (v : T.den), (partAt T v p).t = pathTy p T := by
  intro p
  induction p with
  | nil => intro T v; rfl
  | cons f p ih => intro T v; simp only [partAt, pathTy]; rw [ih, chGet_ty]

theorem chGet_split : ∀ (T : Ty) (v : T.den) (f : Nat) (l : List Value), f < chLen T → EncM w U β H false T v l →
    ∃ l1 m l2, l = l1 ++ m ++ l2 ∧ l1.length = chOff T f ∧ EncM w U β H false (chGet T v f).t (chGet T v f).v m ∧
      ∀ (y : TV) (m' : List Value), EncM w U β H false y.t y.v m' → EncM w U β H false (chSet T v f y).t (chSet T v f y).v (l1 ++ m' ++ l2) := by
  intro T
  induction T with
  | scons a r iha ihr =>
    intro v f l hf h
    simp only [EncM] at h
    obtain ⟨l1, l2, rfl, h1, h2⟩ := h
    cases f with
    | zero =>
      refine ⟨[], l1, l2, by simp, rfl, h1, fun y m' hy => ?_⟩
      simp only [chSet, EncM]
      exact ⟨m', l2, by simp, hy, h2⟩
    | succ f =>
      obtain ⟨a1, m, a2, rfl, h3, h4, h5⟩ := ihr v.2 f l2 (by simpa [chLen] using hf) h2
      refine ⟨l1 ++ a1, m, a2, by simp, ?_, h4, fun y m' hy => ?_⟩
      · simp [chOff, h1.len, h3]
      · simp only [chSet, EncM]
        exact ⟨l1, a1 ++ m' ++ a2, by simp, h1, h5 y m' hy⟩
  | _ => intro v f l hf; simp [chLen] at hf

theorem partAt_split : ∀ (p : List Nat) (T : Ty) (v : T.den) (l : List Value), pathOK p T = true → EncM w U β H false T v l →
    ∃ l1 m l2, l = l1 ++ m ++ l2 ∧ l1.length = pathOff p T ∧ EncM w U β H false (partAt T v p).t (partAt T v p).v m ∧
      ∀ (y : TV) (m' : List Value), EncM w U β H false y.t y.v m' → EncM w U β H false (setAt p T v y).t (setAt p T v y).v (l1 ++ m' ++ l2) := by
  intro p
  induction p with
  | nil => intro T v l _ h; exact ⟨[], l, [], by simp, rfl, h, fun y m' hy => by simpa [setAt] using hy⟩
  | cons f p ih =>
    intro T v l hp h
    simp only [pathOK, Bool.and_eq_true] at hp
    obtain ⟨a1, m, a2, rfl, h1, h2, h3⟩ := chGet_split T v f l (by simpa using hp.1) h
    obtain ⟨b1, m2, b2, rfl, h4, h5, h6⟩ := ih (chGet T v f).t (chGet T v f).v m (by rw [chGet_ty]; exact hp.2) h2
    refine ⟨a1 ++ b1, m2, b2 ++ a2, by simp, ?_, h5, fun y m' hy => ?_⟩
    · simp [pathOff, h1, h4, chGet_ty]
    · have := h3 _ _ (h6 y m' hy)
      simpa [setAt] using this

theorem chSet_shape : ∀ (T : Ty) (v : T.den) (f : Nat) (y : TV), y.t.shape = (tyGet T f).shape → f < chLen T → (chSet T v f y).t.shape = T.shape := by
  intro T
  induction T with
  | scons a r iha ihr =>
    intro v f y hs hf
    cases f with
    | zero => simpa [chSet, Ty.shape, tyGet] using hs
    | succ f => simp only [chSet, Ty.shape]; rw [ihr v.2 f y (by simpa [tyGet] using hs) (by simpa [chLen] using hf)]
  | _ => intro v f y _ hf; simp [chLen] at hf

theorem setAt_shape : ∀ (p : List Nat) (T : Ty) (v : T.den) (y : TV), pathOK p T = true → y.t.shape = (pathTy p T).shape → (setAt p T v y).t.shape = T.shape := by
  intro p
  induction p with
  | nil => intro T v y _ h; exact h
  | cons f p ih =>
    intro T v y hp hs
    simp only [pathOK, Bool.and_eq_true] at hp
    refine chSet_shape T v f _ ?_ (by simpa using hp.1)
    rw [← chGet_ty T v f]
    exact ih _ _ y (by rw [chGet_ty]; exact hp.2) (by rw [chGet_ty]; exact hs)

theorem cellsAt_mid {b off : Nat} {l1 m l2 : List Value} (h : cellsAt w b off (l1 ++ m ++ l2)) : cellsAt w b (off + l1.length) m := by
  intro j hj
  have := h (l1.length + j) (by simp; omega)
  rw [Nat.add_assoc, this]
  simp [List.getElem_append, hj]

theorem notRow_iter (T : Ty) : (∃ e, T = .row e) ∨ (T = .iter ∨ ∃ k v, T = .mobj k v) ∨ T.isObj = false := by
  cases T <;> simp [Ty.isObj]

/-- What a variable of the machine's own holds lies in its block. -/
theorem ObjAt.box {B id : Nat} (h : ObjAt w U β H B id) (hn : (hget H id).t.isObj = false) :
    ∃ b cs el fr, (β id).blk = some b ∧ B ≤ b ∧ ¬ U b ∧ w.heap[b]? = some (.cells cs el fr) ∧ (∀ j, j < cs.size → ¬ (fr.1 ≤ j ∧ j < fr.2)) ∧ EncM w U β H false (hget H id).t (hget H id).v cs.toList ∧ (β id).cap = el := by
  unfold ObjAt at h
  generalize hget H id = z at *
  obtain ⟨t, v⟩ := z
  cases t <;> first | (simp [Ty.isObj] at hn; done) | exact h

theorem cellsAt_block {b : Nat} {cs : Array Value} {el : TypeId} {fr : Nat × Nat} (h : w.heap[b]? = some (.cells cs el fr)) : cellsAt w b 0 cs.toList := by
  intro j hj
  simp [World.cell?, h]
end
end Go.Dp
/- Reading memory. -/
set_option autoImplicit false
set_option linter.unusedVariables false
set_option linter.unusedSimpArgs false
namespace Go.Dp
open Go.RowKit

section
variable {P : Program} {E : Env} {w : World} {U : Nat → Prop} {β : Nat → Blk} {s : St} {B : Nat} {α : Type} {r : α} {k : TV → Option α}

theorem and3 {a b c : Bool} (h : (a && b && c) = true) : a = true ∧ b = true ∧ c = true := by
  cases a <;> cases b <;> cases c <;> simp_all
theorem and2 {a b : Bool} (h : (a && b) = true) : a = true ∧ b = true := by
  cases a <;> cases b <;> simp_all
theorem beqB {a b : Bool} (h : (a == b) = true) : a = b := by simpa using h
theorem beqN {a b : Nat} (h : Nat.beq a b = true) : a = b := Nat.eq_of_beq_eq_true h
theorem bltN {a b : Nat} (h : Nat.blt a b = true) : a < b := by simpa using h
theorem decT {p : Prop} [Decidable p] (h : decide p = true) : p := of_decide_eq_true h

/-- What an address of the machine's own points at. -/
theorem LocAt.read (hH : HRel w U β s.heap B) {id : Nat} {post : List Nat} {i b off : Nat} (h : LocAt β s.heap id false post i b off) (ho : (partAt (hget s.heap id).t (hget s.heap id).v post).t.isObj = false) :
    ∃ cs, EncM w U β s.heap false (partAt (hget s.heap id).t (hget s.heap id).v post).t (partAt (hget s.heap id).t (hget s.heap id).v post).v cs ∧ cellsAt w b off cs := by
  obtain ⟨h0, h1, hn, h2, h3⟩ := h
  have hobj : (hget s.heap id).t.isObj = false := by
    rcases notRow_iter (hget s.heap id).t with ⟨e, he⟩ | (he | ⟨K, V, he⟩) | he
    · exact absurd rfl (fun hh : (1 : Nat) = 1 => by
        generalize hz : hget s.heap id = z at *
        obtain ⟨t, v⟩ := z
        simp only at he
        subst he
        exact hn e v rfl)
    · cases post with
      | nil => simp only [partAt] at ho; exact ho
      | cons f p => rw [he] at h2; simp [pathOK, chLen] at h2
    · cases post with
      | nil => simp only [partAt] at ho; exact ho
      | cons f p => rw [he] at h2; simp [pathOK, chLen] at h2
    · exact he
  obtain ⟨b', cs, el, fr, h4, _, _, h5, _, h6, _⟩ := (hH.obj id h0).box hobj
  obtain rfl : b' = b := by rw [h4] at h1; exact Option.some.inj h1
  obtain ⟨l1, m, l2, h7, h8, h9, _⟩ := partAt_split post _ _ _ h2 h6
  refine ⟨m, h9, ?_⟩
  have := cellsAt_block h5
  rw [h7] at this
  have := cellsAt_mid this
  rw [h8, Nat.zero_add, ← h3] at this
  exact this

theorem ObjAt.row {id : Nat} {e : Ty} {xs : List e.den} {H : Heap} (h : ObjAt w U β H B id) (he : hget H id = ⟨.row e, xs⟩) :
    e.elem = true ∧ (((β id).blk = none ∧ (β id).cap = 0 ∧ xs = []) ∨ ∃ b arr el fr, (β id).blk = some b ∧ B ≤ b ∧ ¬ U b ∧ w.heap[b]? = some (.cells arr el fr) ∧ arr.size = (β id).cap * e.csize ∧
      xs.length ≤ (β id).cap ∧ (∀ j, j < arr.size → ¬ (fr.1 ≤ j ∧ j < fr.2)) ∧
      ∀ i (h : i < xs.length), ∃ cs, EncM w U β H false e xs[i] cs ∧ ∀ j (h : j < cs.length), arr[i * e.csize + j]? = some cs[j]) := by
  unfold ObjAt at h
  rw [he] at h
  exact h

theorem LocAt.readRow (hH : HRel w U β s.heap B) {id : Nat} {post : List Nat} {i b off : Nat} {e : Ty} {xs : List e.den} (h : LocAt β s.heap id true post i b off) (he : hget s.heap id = ⟨.row e, xs⟩) :
    i < xs.length ∧ pathOK post e = true ∧ off = i * e.csize + pathOff post e ∧ ∃ cs, EncM w U β s.heap false (partAt e (xs.getD i e.dflt) post).t (partAt e (xs.getD i e.dflt) post).v cs ∧ cellsAt w b off cs := by
  obtain ⟨h0, h1, e', xs', he', hi, hp, ho⟩ := h
  rw [he] at he'
  cases he'
  refine ⟨hi, hp, ho, ?_⟩
  obtain ⟨hpure, hrow⟩ := (hH.obj id h0).row he
  rcases hrow with ⟨hb, _, _⟩ | ⟨b', arr, el, fr, hb, _, _, hw, hsz, hcap, _, hel⟩
  · rw [hb] at h1; cases h1
  · obtain rfl : b' = b := by rw [hb] at h1; exact Option.some.inj h1
    obtain ⟨cs, hcs, hat⟩ := hel i hi
    have hget : xs.getD i e.dflt = xs[i] := by simp [List.getD_eq_getElem?_getD, hi]
    rw [hget]
    obtain ⟨l1, m, l2, h7, h8, h9, _⟩ := partAt_split post _ _ _ hp hcs
    refine ⟨m, h9, ?_⟩
    have : cellsAt w b' (i * e.csize) cs := by
      intro j hj
      simp only [World.cell?, hw]
      simpa using hat j hj
    rw [h7] at this
    have := cellsAt_mid this
    rw [h8, ← ho] at this
    exact this

theorem loadC_ok (hT : TIok P E) (hH : HRel w U β s.heap B) {t : Nat} {X : TV} {vx : Value} (hx : EncV w U β s.heap X vx) (h : loadC E s t X k = some r) :
    ∃ z v, k z = some r ∧ EncV w U β s.heap z v ∧ (Instr.loadAt t vx).run P w = .ok v w := by
  obtain ⟨T, x⟩ := X
  cases T with
  | ref a =>
    simp only [loadC] at h
    obtain ⟨h1, h2⟩ := bif_some h
    obtain ⟨h3, h4⟩ := and2 h1
    have hs := beqN h3
    have ha := beqB h4
    obtain ⟨info, d, hK⟩ := hT.known_fit hs ha
    have hm := hx.one rfl rfl
    simp only [EncM] at hm
    obtain ⟨b, off, cs, hv, hU, h5, h6⟩ := hm
    obtain rfl := List.cons.inj hv |>.1
    obtain ⟨v, hr, he⟩ := loadVar_ok hK hs ha h5 h6
    exact ⟨_, v, h2, he, by simp [Instr.loadAt, Instr.sureAddr, hr]⟩
  | loc id ix post =>
    have hm := hx.one rfl rfl
    simp only [EncM] at hm
    obtain ⟨b, off, hv, hl⟩ := hm
    obtain rfl := List.cons.inj hv |>.1
    cases ix with
    | false =>
      simp only [loadC] at h
      obtain ⟨h1, h2⟩ := bif_some h
      obtain ⟨h3, h4, h5⟩ := and3 h1
      have hs := beqN h3
      have ha := beqB h4
      obtain ⟨info, d, hK⟩ := hT.known_fit hs ha
      obtain ⟨cs, h6, h7⟩ := hl.read hH (by simpa using h5)
      obtain ⟨v, hr, he⟩ := loadVar_ok hK hs ha h6 h7
      exact ⟨_, v, h2, he, by simp [Instr.loadAt, Instr.sureAddr, hr]⟩
    | true =>
      simp only [loadC] at h
      split at h
      · rename_i e xs he
        obtain ⟨h1, h2⟩ := bif_some h
        obtain ⟨h3, h4⟩ := and2 h1
        have hs := beqN h3
        have ha := beqB h4
        obtain ⟨info, d, hK⟩ := hT.known_fit hs ha
        obtain ⟨_, _, _, cs, h6, h7⟩ := hl.readRow hH he
        obtain ⟨v, hr, he⟩ := loadVar_ok hK hs ha h6 h7
        exact ⟨_, v, h2, he, by simp [Instr.loadAt, Instr.sureAddr, hr]⟩
      · cases h
  | _ => simp [loadC] at h
end
end Go.Dp
/- Fields, elements, cuts, lengths. -/
set_option autoImplicit false
set_option linter.unusedVariables false
set_option linter.unusedSimpArgs false
namespace Go.Dp
open Go.RowKit

section
variable {P : Program} {E : Env} {w : World} {U : Nat → Prop} {β : Nat → Blk} {s : St} {B : Nat} {α : Type} {r : α} {k : TV → Option α}

theorem td_struct {d : TypeDesc} {fs : List (Nat × Nat)} (h : tdOf d = .struct fs) : ∃ F, d = .struct F ∧ F.toList.map (fun f => (f.type, f.offset)) = fs := by
  cases d <;> simp [tdOf] at h
  exact ⟨_, rfl, h⟩
theorem td_slice {d : TypeDesc} {e : Nat} (h : tdOf d = .slice e) : d = .slice e := by
  cases d <;> simp [tdOf] at h; rw [h]
theorem td_arr {d : TypeDesc} {n e : Nat} (h : tdOf d = .arr n e) : d = .array n e := by
  cases d <;> simp [tdOf] at h; rw [h.1, h.2]
theorem td_str {d : TypeDesc} (h : tdOf d = .str) : d = .string := by
  cases d <;> simp [tdOf] at h; rfl
theorem td_int {d : TypeDesc} {kd : IntKind} (h : tdOf d = .int kd) : d = .int kd := by
  cases d <;> simp [tdOf] at h; rw [h]

/-- A struct's field by its number. -/
theorem field_at {F : Array Field} {fs : List (Nat × Nat)} {f ft off : Nat} (hf : F.toList.map (fun f => (f.type, f.offset)) = fs) (h : fs[f]? = some (ft, off)) :
    ∃ fl, F[f]? = some fl ∧ fl.type = ft ∧ fl.offset = off := by
  subst hf
  simp only [List.getElem?_map] at h
  cases he : F.toList[f]? with
  | none => rw [he] at h; simp at h
  | some fl =>
    rw [he] at h
    simp at h
    exact ⟨fl, by simpa using he, h.1, h.2⟩

theorem asAddr_ptr (b off : Nat) : (Instr.sureAddr (.pointer (some ⟨b, off, none⟩))).run P w = .ok ⟨b, off, none⟩ w := rfl

theorem fieldPlace_ok {fl : Field} {info : TypeInfo} {d : TypeDesc} (hK : Known P E fl.type info d) (hz : (tiOf E fl.type).size ≠ 0) (b off : Nat) :
    (fieldPlace ⟨b, off, none⟩ fl).run P w = .ok ⟨b, off + fl.offset, none⟩ w := by
  simp only [fieldPlace, Sem.run_bind, hK.runS, Result.andThen_ok, Sem.run_ite, if_neg hz, Sem.run_pure, addr_add]

theorem pathOK_append (p : List Nat) (f : Nat) : ∀ T : Ty, pathOK (p ++ [f]) T = (pathOK p T && Nat.blt f (chLen (pathTy p T))) := by
  induction p with
  | nil => intro T; simp [pathOK, pathTy]
  | cons g p ih => intro T; simp only [List.cons_append, pathOK, pathTy, ih, Bool.and_assoc]
theorem pathOff_append (p : List Nat) (f : Nat) : ∀ T : Ty, pathOff (p ++ [f]) T = pathOff p T + chOff (pathTy p T) f := by
  induction p with
  | nil => intro T; simp [pathOff, pathTy]
  | cons g p ih => intro T; simp only [List.cons_append, pathOff, pathTy, ih, Nat.add_assoc]

theorem fieldAddrC_ok (hT : TIok P E) {t f : Nat} {X : TV} {vx : Value} (hx : EncV w U β s.heap X vx) (h : fieldAddrC E s t X f k = some r) :
    ∃ z v, k z = some r ∧ EncV w U β s.heap z v ∧ (Instr.fieldAt t vx f).run P w = .ok v w := by
  obtain ⟨T, x⟩ := X
  unfold fieldAddrC at h
  split at h
  · rename_i fs htd
    obtain ⟨info, d, hK⟩ := hT.known_td (t := t) (by rw [htd]; simp)
    obtain ⟨F, rfl, hF⟩ := td_struct (hK.td.trans htd)
    split at h
    · rename_i ft off hf
      obtain ⟨fl, hfl, rfl, rfl⟩ := field_at hF hf
      cases T with
      | ref a =>
        simp only at h
        obtain ⟨h1, h2⟩ := bif_some h
        obtain ⟨h3, h4, h5⟩ := and3 h1
        have hz : (tiOf E fl.type).size ≠ 0 := by
          intro e; rw [e] at h5; simp at h5
        obtain ⟨info', d', hK'⟩ := hT.known_size hz
        have hm := hx.one rfl rfl
        simp only [EncM] at hm
        obtain ⟨b, o, cs, hv, hU, h6, h7⟩ := hm
        obtain rfl := List.cons.inj hv |>.1
        obtain ⟨l1, m, l2, rfl, h8, h9, _⟩ := chGet_split a x f cs (bltN h4) h6
        refine ⟨_, .pointer (some ⟨b, o + fl.offset, none⟩), h2, .inr ⟨rfl, ?_⟩, ?_⟩
        · simp only [EncM]
          exact ⟨b, o + fl.offset, m, rfl, hU, h9, by have := cellsAt_mid h7; rw [h8, beqN h3] at this; exact this⟩
        · simp only [Instr.fieldAt, Sem.run_bind, hK.runU, Result.andThen_ok, hfl, asAddr_ptr, fieldPlace_ok hK' hz, Sem.run_pure]
      | loc id ix post =>
        simp only at h
        obtain ⟨h1, h2⟩ := bif_some h
        obtain ⟨h3, h4, h5⟩ := and3 h1
        have hz : (tiOf E fl.type).size ≠ 0 := by
          intro e; rw [e] at h5; simp at h5
        obtain ⟨info', d', hK'⟩ := hT.known_size hz
        have hm := hx.one rfl rfl
        simp only [EncM] at hm
        obtain ⟨b, o, hv, hl⟩ := hm
        obtain rfl := List.cons.inj hv |>.1
        refine ⟨_, .pointer (some ⟨b, o + fl.offset, none⟩), h2, .inr ⟨rfl, ?_⟩, ?_⟩
        · simp only [EncM]
          refine ⟨b, o + fl.offset, rfl, ?_⟩
          obtain ⟨h0, h6, h7⟩ := hl
          refine ⟨h0, h6, ?_⟩
          cases ix with
          | false =>
            obtain ⟨hn, hp, ho⟩ := h7
            simp only [objTy, cond_false] at h3 h4
            exact ⟨hn, by rw [pathOK_append, hp, h4]; rfl, by rw [pathOff_append, ho, beqN h3]⟩
          | true =>
            obtain ⟨e, xs, he, hi, hp, ho⟩ := h7
            simp only [objTy, cond_true, he] at h3 h4
            exact ⟨e, xs, he, hi, by rw [pathOK_append, hp, h4]; rfl, by rw [pathOff_append, ho, beqN h3, Nat.add_assoc]⟩
        · simp only [Instr.fieldAt, Sem.run_bind, hK.runU, Result.andThen_ok, hfl, asAddr_ptr, fieldPlace_ok hK' hz, Sem.run_pure]
      | _ => simp at h
    · cases h
  · cases h

/-- A part of an aggregate. -/
theorem part_ok {w' : World} {H : Heap} {t : Nat} {info : TypeInfo} {d : TypeDesc} (hK : Known P E t info d) {T : Ty} {x : T.den} {l1 m l2 : List Value} {cs : Array Value} (hs : T.csize = (tiOf E t).size) (ha : T.isAgg = (tiOf E t).ty.isAgg)
    (hx : EncM w U β H false T x m) (hc : cs.toList = l1 ++ m ++ l2) : ∃ v, (part t cs l1.length).run P w' = .ok v w' ∧ EncV w U β H ⟨T, x⟩ v := by
  have hl := hx.len
  simp only [part, Sem.run_bind, hK.runA, Result.andThen_ok]
  cases hg : (tiOf E t).ty.isAgg with
  | true =>
    refine ⟨.agg m.toArray, ?_, .inr ⟨by simp [aggV, ha, hg], by simpa [Value.cells] using hx⟩⟩
    simp only [if_true, Sem.run_bind, hK.runS, Result.andThen_ok, Sem.run_pure, ← hs, ← hl]
    congr 2
    apply Array.ext'
    rw [Array.toList_extract, hc]
    simp [List.extract_eq_drop_take']
  | false =>
    have h1 : T.csize = 1 := by
      cases T <;> simp_all [Ty.isAgg, Ty.csize]
    obtain ⟨v, rfl⟩ : ∃ v, m = [v] := List.length_eq_one_iff.1 (hl.trans h1)
    refine ⟨v, ?_, ?_⟩
    · have : cs[l1.length]? = some v := by
        rw [← Array.getElem?_toList, hc]; simp
      simp only [Bool.false_eq_true, if_false, this, Sem.run_pure]
    · cases hu : T.isUnk with
      | true => exact .inl hu
      | false =>
        have hv := hx.leaf hu (ha.trans hg)
        refine .inr ⟨by rw [hv]; exact (ha.trans hg).symm, ?_⟩
        cases v <;> simp_all [Value.cells, aggV]

theorem EncV.agg {H : Heap} {X : TV} {v : Value} (h : EncV w U β H X v) (ha : X.t.isAgg = true) : ∃ cs, v = .agg cs ∧ EncM w U β H false X.t X.v cs.toList := by
  rcases h with h | ⟨h1, h2⟩
  · obtain ⟨T, x⟩ := X
    cases T <;> simp [Ty.isUnk, Ty.isAgg] at h ha
  · rw [ha] at h1
    cases v <;> simp [aggV] at h1
    exact ⟨_, rfl, h2⟩

theorem chLen_agg {T : Ty} {f : Nat} (h : f < chLen T) : T.isAgg = true := by
  cases T <;> simp [chLen] at h ⊢ <;> rfl

theorem fieldC_ok (hT : TIok P E) {t f : Nat} {X : TV} {vx : Value} (hx : EncV w U β s.heap X vx) (h : fieldC E t X f k = some r) :
    ∃ z v, k z = some r ∧ EncV w U β s.heap z v ∧ (Instr.field t vx f).run P w = .ok v w := by
  obtain ⟨T, x⟩ := X
  unfold fieldC at h
  split at h
  · rename_i fs htd
    obtain ⟨info, d, hK⟩ := hT.known_td (t := t) (by rw [htd]; simp)
    obtain ⟨F, rfl, hF⟩ := td_struct (hK.td.trans htd)
    split at h
    · rename_i ft off hf
      obtain ⟨fl, hfl, rfl, rfl⟩ := field_at hF hf
      simp only at h
      obtain ⟨h1, h2⟩ := bif_some h
      obtain ⟨h1, h5⟩ := and2 h1
      obtain ⟨h3, h4, h6⟩ := and3 h1
      obtain ⟨cs, rfl, hcs⟩ := hx.agg (chLen_agg (bltN h4))
      obtain ⟨l1, m, l2, h7, h8, h9, _⟩ := chGet_split T x f _ (bltN h4) hcs
      obtain ⟨info', d', hK'⟩ := hT.known_fit (beqN h6) (beqB h5)
      obtain ⟨v, hr, he⟩ := part_ok hK' (beqN h6) (beqB h5) h9 h7 (w' := w)
      refine ⟨_, v, h2, he, ?_⟩
      rw [h8, beqN h3] at hr
      simp only [Instr.field, Sem.run_bind, hK.runU, Result.andThen_ok, hfl, asAgg, Sem.run_pure, hr]
    · cases h
  · cases h

theorem bounds_ok {lo hi : Option TV} {vlo vhi : Option Value} {n : Nat} {k : Nat → Nat → Option α} {isSlice : Bool} {cap : Nat} {H : Heap} (hcap : n ≤ cap)
    (hlo : ∀ x, lo = some x → ∃ v, vlo = some v ∧ EncV w U β H x v) (hlo' : lo = none → vlo = none)
    (hhi : ∀ x, hi = some x → ∃ v, vhi = some v ∧ EncV w U β H x v) (hhi' : hi = none → vhi = none) (h : boundsC n lo hi k = some r) :
    ∃ l u, l ≤ u ∧ u ≤ n ∧ k l u = some r ∧ (Instr.sliceBounds isSlice n cap vlo vhi none).run P w = .ok (l, u, cap) w := by
  cases lo with
  | none =>
    rw [hlo' rfl]
    cases hi with
    | none =>
      rw [hhi' rfl]
      exact ⟨0, n, by omega, by omega, h, by simp [Instr.sliceBounds]⟩
    | some y =>
      obtain ⟨v, rfl, hv⟩ := hhi y rfl
      obtain ⟨Y, y⟩ := y
      cases Y with
      | int kd =>
        change Int at y
        simp only [boundsC] at h
        obtain ⟨h1, h2⟩ := bif_some h
        obtain ⟨h3, h4⟩ := and2 h1
        have h3 : (0 : Int) ≤ y := decT h3
        have h4 : y ≤ (n : Int) := decT h4
        obtain rfl := hv.int
        refine ⟨0, y.toNat, by omega, by omega, h2, ?_⟩
        simp [Instr.sliceBounds, Instr.sliceBound, asIntOf, show 0 ≤ y ∧ y ≤ (cap : Int) from ⟨h3, by omega⟩]
      | _ => simp [boundsC] at h
  | some x =>
    obtain ⟨v, rfl, hv⟩ := hlo x rfl
    obtain ⟨X, x⟩ := x
    cases X with
    | int kd =>
      change Int at x
      obtain rfl := hv.int
      cases hi with
      | none =>
        rw [hhi' rfl]
        simp only [boundsC] at h
        obtain ⟨h1, h2⟩ := bif_some h
        obtain ⟨h3, h4⟩ := and2 h1
        have h3 : (0 : Int) ≤ x := decT h3
        have h4 : x ≤ (n : Int) := decT h4
        refine ⟨x.toNat, n, by omega, by omega, h2, ?_⟩
        simp [Instr.sliceBounds, Instr.sliceBound, asIntOf, show 0 ≤ x ∧ x ≤ (n : Int) from ⟨h3, h4⟩]
      | some y =>
        obtain ⟨v, rfl, hv'⟩ := hhi y rfl
        obtain ⟨Y, y⟩ := y
        cases Y with
        | int kd =>
          change Int at y
          simp only [boundsC] at h
          obtain ⟨h1, h2⟩ := bif_some h
          obtain ⟨h3, h4⟩ := and2 h1
          obtain ⟨h1', h2⟩ := bif_some h2
          obtain ⟨h5, h6⟩ := and2 h1'
          have h3 : (0 : Int) ≤ y := decT h3
          have h4 : y ≤ (n : Int) := decT h4
          have h5 : (0 : Int) ≤ x := decT h5
          have h6 : x ≤ y := decT h6
          obtain rfl := hv'.int
          refine ⟨x.toNat, y.toNat, by omega, by omega, h2, ?_⟩
          simp [Instr.sliceBounds, Instr.sliceBound, asIntOf, show 0 ≤ y ∧ y ≤ (cap : Int) from ⟨h3, by omega⟩]
          intro h7
          have := h7 h5
          omega
        | _ => simp [boundsC] at h
    | _ => cases hi <;> simp [boundsC] at h

theorem cut_getElem {β : Type} (xs : List β) (l u i : Nat) (h : i < (cut xs l u).length) : ∃ h', (cut xs l u)[i] = xs[l + i]'h' := by
  unfold cut at *
  simp at h
  exact ⟨by omega, by simp⟩
theorem cut_length {β : Type} (xs : List β) (l u : Nat) (h : u ≤ xs.length) : (cut xs l u).length = u - l := by
  unfold cut; simp; omega

theorem extract_cut (b : List UInt8) (l u : Nat) : (⟨b.toArray⟩ : ByteArray).extract l u = ⟨(cut b l u).toArray⟩ := by
  apply ByteArray.ext
  rw [ByteArray.data_extract]
  apply Array.ext'
  simp [cut, List.extract_eq_drop_take']

theorem indexC_ok (hT : TIok P E) {t e : Nat} {X I : TV} {vx vi : Value} (he : ∀ n e', (tiOf E t).td = .arr n e' → e = e') (hx : EncV w U β s.heap X vx) (hi : EncV w U β s.heap I vi) (h : indexC (tiOf E t).td (tiOf E e).size (tiOf E e).ty.isAgg X I k = some r) :
    ∃ z v, k z = some r ∧ EncV w U β s.heap z v ∧ (Instr.index t vx vi).run P w = .ok v w := by
  obtain ⟨T, x⟩ := X
  obtain ⟨Y, y⟩ := I
  cases T with
  | str =>
    cases Y with
    | int kd =>
      change Int at y
      change List UInt8 at x
      obtain rfl := hi.int
      obtain rfl := hx.str
      simp only [indexC] at h
      split at h
      · rename_i htd
        obtain ⟨info, d, hK⟩ := hT.known_td (t := t) (by rw [htd]; simp)
        obtain rfl := td_str (hK.td.trans htd)
        obtain ⟨h1, h2⟩ := bif_some h
        obtain ⟨h3, h4⟩ := and2 h1
        have h3 : (0 : Int) ≤ y := decT h3
        have h4 : y < (x.length : Int) := decT h4
        have hlt : y.toNat < x.length := by omega
        refine ⟨_, _, h2, .mk_int _ _, ?_⟩
        simp only [Instr.index, Sem.run_bind, asIntOf, Sem.run_pure, Result.andThen_ok, hK.runU, if_pos h3]
        have : (⟨x.toArray⟩ : ByteArray)[y.toNat]? = some x[y.toNat] := by
          rw [getElem?_pos (⟨x.toArray⟩ : ByteArray) y.toNat (by simpa [ByteArray.size] using hlt)]
          rfl
        rw [this]
        simp [List.getD_eq_getElem?_getD, hlt]
      · cases h
    | _ => simp [indexC] at h
  | arr n a =>
    cases Y with
    | int kd =>
      change Int at y
      obtain rfl := hi.int
      simp only [indexC] at h
      split at h
      · rename_i m e' htd
        obtain rfl := he m e' htd
        obtain ⟨info, d, hK⟩ := hT.known_td (t := t) (by rw [htd]; simp)
        obtain rfl := td_arr (hK.td.trans htd)
        obtain ⟨h1, h2⟩ := bif_some h
        obtain ⟨h3, h4, h5⟩ := and3 h1
        obtain ⟨h1, h2⟩ := bif_some h2
        obtain ⟨h6, h7⟩ := and2 h1
        have h6 : (0 : Int) ≤ y := decT h6
        have h7 : y < (n : Int) := decT h7
        obtain rfl := beqN h3
        obtain ⟨cs, rfl, hcs⟩ := hx.agg rfl
        simp only [EncM] at hcs
        obtain ⟨_, h8, h9, h10⟩ := hcs
        have hlt : y.toNat < List.length x := by omega
        have hel := h10 y.toNat hlt
        obtain ⟨info', d', hK'⟩ := hT.known_fit (beqN h4) (beqB h5)
        have hle : y.toNat * a.csize + a.csize ≤ cs.toList.length := by
          rw [h8, ← Nat.succ_mul]
          exact Nat.mul_le_mul_right _ (by omega)
        obtain ⟨v, hr, hv⟩ := part_ok (w' := w) hK' (beqN h4) (beqB h5) hel (l1 := cs.toList.take (y.toNat * a.csize)) (l2 := (cs.toList.drop (y.toNat * a.csize)).drop a.csize) (cs := cs)
          (by rw [List.append_assoc, List.take_append_drop, List.take_append_drop])
        refine ⟨_, v, h2, ?_, ?_⟩
        · have : x.getD y.toNat a.dflt = x[y.toNat] := by simp [List.getD_eq_getElem?_getD, hlt]
          rw [this]; exact hv
        · rw [List.length_take, Nat.min_eq_left (by omega)] at hr
          simp only [Instr.index, Sem.run_bind, asIntOf, Sem.run_pure, Result.andThen_ok, hK.runU, Sem.run_ite, if_pos (show 0 ≤ y ∧ y < (m : Int) from ⟨h6, h7⟩), hK'.runS]
          rw [← beqN h4]
          exact hr
      · cases h
    | _ => simp [indexC] at h
  | _ => simp [indexC] at h

theorem getD_at {β : Type} (xs : List β) (i : Nat) (d : β) (h : i < xs.length) : xs.getD i d = xs[i] := by
  simp [List.getD_eq_getElem?_getD, h]

theorem chain_at : ∀ (R : Ty) (x : R.den) (vs : List Value) (i : Nat), i < chLen R → EncM w U β s.heap true R x vs → ∃ h : i < vs.length, (chGet R x i).t.isUnk = true ∨ (aggV (vs[i]) = (chGet R x i).t.isAgg ∧ EncM w U β s.heap false (chGet R x i).t (chGet R x i).v (vs[i]).cells.toList) := by
  intro R
  induction R with
  | scons a b iha ihb =>
    intro x vs i hi h
    simp only [EncM] at h
    obtain ⟨v, l2, rfl, h1, h2⟩ := h
    cases i with
    | zero => exact ⟨by simp, h1⟩
    | succ i =>
      obtain ⟨h3, h4⟩ := ihb x.2 l2 i (by simpa [chLen] using hi) h2
      exact ⟨by simpa using h3, by simpa [chGet] using h4⟩
  | _ => intro x vs i hi; simp [chLen] at hi

theorem chLen_len : ∀ (R : Ty) (x : R.den) (vs : List Value), EncM w U β s.heap true R x vs → vs.length = chLen R := by
  intro R
  induction R with
  | scons a b iha ihb =>
    intro x vs h
    simp only [EncM] at h
    obtain ⟨v, l2, rfl, h1, h2⟩ := h
    simp [chLen, ihb _ _ h2]
  | snil => intro x vs h; simp only [EncM] at h; simp [h, chLen]
  | _ => intro x vs h; simp [EncM] at h

theorem indexAddrC_ok (hT : TIok P E) (hH : HRel w U β s.heap B) {t e : Nat} {X I : TV} {vx vi : Value} (htd : (tiOf E t).td = .slice e) (hx : EncV w U β s.heap X vx) (hi : EncV w U β s.heap I vi) (h : indexAddrC s (tiOf E e).size X I k = some r)
    (hkn : ∃ info d, Known P E e info d) :
    ∃ z v, k z = some r ∧ EncV w U β s.heap z v ∧ (Instr.indexAt t vx vi).run P w = .ok v w := by
  obtain ⟨info, d, hK⟩ := hT.known_td (t := t) (by rw [htd]; simp)
  obtain rfl := td_slice (hK.td.trans htd)
  obtain ⟨info', d', hK'⟩ := hkn
  have hrun : ∀ (kd : IntKind) (y : Int) (b off n c : Nat), 0 ≤ y → y < n → (Instr.indexAt t (.slice (some ⟨b, off, none⟩) n c) (.int kd y)).run P w = .ok (.pointer (some ⟨b, off + y.toNat * (tiOf E e).size, none⟩)) w := by
    intro kd y b off n c h1 h2
    simp only [Instr.indexAt, Sem.run_bind, asIntOf, Sem.run_pure, Result.andThen_ok, hK.runU, Sem.run_ite, if_pos (show 0 ≤ y ∧ y < (n : Int) from ⟨h1, h2⟩), hK'.runS, addr_add]
  obtain ⟨T, x⟩ := X
  obtain ⟨Y, y⟩ := I
  cases Y with
  | int kd =>
    change Int at y
    obtain rfl := hi.int
    cases T with
    | list a =>
      simp only [indexAddrC] at h
      obtain ⟨h1, h2⟩ := bif_some h
      obtain ⟨h3, h4⟩ := bif_some h2
      obtain ⟨h5, h6⟩ := and2 h3
      have h5 : (0 : Int) ≤ y := decT h5
      have h6 : y < (List.length x : Int) := decT h6
      have hm := hx.one rfl rfl
      simp only [EncM] at hm
      obtain ⟨A, c, hv, hc, hcells⟩ := hm
      obtain rfl := List.cons.inj hv |>.1
      obtain ⟨b, off, rfl, hU, hel⟩ := hcells (by omega)
      obtain ⟨cs, h7, h8⟩ := hel y.toNat (by omega)
      refine ⟨_, _, h4, .inr ⟨rfl, ?_⟩, hrun kd y b off _ c h5 h6⟩
      simp only [EncM, Value.cells]
      exact ⟨b, off + y.toNat * (tiOf E e).size, cs, rfl, hU, by rw [getD_at x _ _ (by omega)]; exact h7, by rw [← beqN h1]; exact h8⟩
    | hl R =>
      simp only [indexAddrC] at h
      obtain ⟨h1, h2⟩ := bif_some h
      obtain ⟨h3, h4⟩ := bif_some h2
      obtain ⟨h5, h6⟩ := and2 h3
      obtain ⟨hun, h4⟩ := bif_none h4
      have h5 : (0 : Int) ≤ y := decT h5
      have h6 : y < (chLen R : Int) := decT h6
      have hm := hx.one rfl rfl
      simp only [EncM] at hm
      obtain ⟨b, off, c, vs, hv, hc, hU, h7, h8, h9⟩ := hm
      obtain rfl := List.cons.inj hv |>.1
      obtain ⟨h10, h11⟩ := chain_at R x vs y.toNat (by omega) h7
      refine ⟨_, _, h4, .inr ⟨rfl, ?_⟩, hrun kd y b off _ c h5 h6⟩
      simp only [EncM, Value.cells]
      refine ⟨b, off + y.toNat * (tiOf E e).size, [vs[y.toNat]], rfl, hU, ?_, ?_⟩
      · rcases h11 with h11 | ⟨h11, h12⟩
        · rw [hun] at h11; cases h11
        · have h13 := h8 vs[y.toNat] (List.getElem_mem h10)
          have : (vs[y.toNat]).cells.toList = [vs[y.toNat]] := by
            generalize vs[y.toNat] = v at *
            cases v <;> simp_all [Value.cells, aggV]
          rw [this] at h12
          exact h12
      · intro j hj
        obtain rfl : j = 0 := by simp at hj; omega
        have := h9 y.toNat h10
        rw [← beqN h1]
        simpa using this
    | slw id =>
      simp only [indexAddrC] at h
      split at h
      · rename_i a xs he
        obtain ⟨h1, h2⟩ := bif_some h
        obtain ⟨h3, h4⟩ := bif_some h2
        obtain ⟨h5, h6⟩ := and2 h3
        have h5 : (0 : Int) ≤ y := decT h5
        have h6 : y < (List.length xs : Int) := decT h6
        have hm := hx.one rfl rfl
        simp only [EncM] at hm
        obtain ⟨e', xs', h0, he', hv⟩ := hm
        obtain rfl := List.cons.inj hv |>.1
        rw [he] at he'
        cases he'
        obtain ⟨_, hrow⟩ := (hH.obj id h0).row he
        rcases hrow with ⟨_, _, rfl⟩ | ⟨b, arr, el, fr, hb, _⟩
        · simp at h6; omega
        · refine ⟨_, .pointer (some ⟨b, 0 + y.toNat * (tiOf E e).size, none⟩), h4, .inr ⟨rfl, ?_⟩, ?_⟩
          · simp only [EncM, Value.cells]
            exact ⟨b, 0 + y.toNat * (tiOf E e).size, rfl, h0, hb, a, xs, he, by omega, rfl, by rw [← beqN h1]; simp [pathOff]⟩
          · rw [hb]
            exact hrun kd y b 0 _ _ h5 h6
      · cases h
    | slv id =>
      simp only [indexAddrC] at h
      split at h
      · rename_i a xs he
        obtain ⟨h1, h2⟩ := bif_some h
        obtain ⟨h3, h4⟩ := bif_some h2
        obtain ⟨h5, h6⟩ := and2 h3
        have h5 : (0 : Int) ≤ y := decT h5
        have h6 : y < (x.2 : Int) := decT h6
        have hm := hx.one rfl rfl
        simp only [EncM] at hm
        obtain ⟨e', xs', A, c, h0, he', hv, hc, hle, hA⟩ := hm
        obtain rfl := List.cons.inj hv |>.1
        rw [he] at he'
        cases he'
        obtain ⟨b, hb, rfl⟩ := hA (by omega)
        refine ⟨_, _, h4, .inr ⟨rfl, ?_⟩, hrun kd y b _ _ c h5 h6⟩
        simp only [EncM, Value.cells]
        refine ⟨b, x.1 * a.csize + y.toNat * (tiOf E e).size, rfl, h0, hb, a, xs, he, by omega, rfl, ?_⟩
        rw [← beqN h1]
        simp [pathOff, Nat.add_mul]
      · cases h
    | _ => simp [indexAddrC] at h
  | _ => cases T <;> simp [indexAddrC] at h
end
end Go.Dp
/- Arrays behind a pointer, slice expressions, lengths, structs by parts. -/
set_option autoImplicit false
set_option linter.unusedVariables false
set_option linter.unusedSimpArgs false
namespace Go.Dp
open Go.RowKit

section
variable {P : Program} {E : Env} {w : World} {U : Nat → Prop} {β : Nat → Blk} {s : St} {B : Nat} {α : Type} {r : α} {k : TV → Option α}

theorem indexArrC_ok (hT : TIok P E) {t n e : Nat} {X I : TV} {vx vi : Value} (htd : (tiOf E t).td = .arr n e) (hx : EncV w U β s.heap X vx) (hi : EncV w U β s.heap I vi) (h : indexArrC n (tiOf E e).size X I k = some r)
    (hkn : ∃ info d, Known P E e info d) :
    ∃ z v, k z = some r ∧ EncV w U β s.heap z v ∧ (Instr.indexAt t vx vi).run P w = .ok v w := by
  obtain ⟨info, d, hK⟩ := hT.known_td (t := t) (by rw [htd]; simp)
  obtain rfl := td_arr (hK.td.trans htd)
  obtain ⟨info', d', hK'⟩ := hkn
  obtain ⟨T, x⟩ := X
  obtain ⟨Y, y⟩ := I
  cases Y with
  | int kd =>
    change Int at y
    obtain rfl := hi.int
    cases T with
    | ref a =>
      cases a with
      | arr m a =>
        simp only [indexArrC] at h
        obtain ⟨h1, h2⟩ := bif_some h
        obtain ⟨h3, h4⟩ := bif_some h2
        obtain ⟨h5, h6⟩ := and2 h3
        obtain ⟨h7, h8⟩ := and2 h1
        obtain rfl := beqN h7
        have h5 : (0 : Int) ≤ y := decT h5
        have h6 : y < (m : Int) := decT h6
        have hm := hx.one rfl rfl
        simp only [EncM] at hm
        obtain ⟨b, off, cs, hv, hU, ⟨_, hl, hn, hel⟩, hat⟩ := hm
        obtain rfl := List.cons.inj hv |>.1
        have hlt : y.toNat < List.length x := by omega
        have hle : y.toNat * a.csize + a.csize ≤ cs.length := by
          rw [hl, ← Nat.succ_mul]
          exact Nat.mul_le_mul_right _ (by omega)
        refine ⟨_, .pointer (some ⟨b, off + y.toNat * (tiOf E e).size, none⟩), h4, .inr ⟨rfl, ?_⟩, ?_⟩
        · simp only [EncM, Value.cells]
          refine ⟨b, _, _, rfl, hU, by rw [getD_at x _ _ hlt]; exact hel y.toNat hlt, ?_⟩
          rw [← beqN h8]
          have := cellsAt_mid (l1 := cs.take (y.toNat * a.csize)) (m := (cs.drop (y.toNat * a.csize)).take a.csize) (l2 := (cs.drop (y.toNat * a.csize)).drop a.csize)
            (by rw [List.append_assoc, List.take_append_drop, List.take_append_drop]; exact hat)
          rw [List.length_take, Nat.min_eq_left (by omega)] at this
          exact this
        · simp only [Instr.indexAt, Sem.run_bind, asIntOf, Sem.run_pure, Result.andThen_ok, hK.runU, asAddr_ptr, Sem.run_ite, if_pos (show 0 ≤ y ∧ y < (m : Int) from ⟨h5, h6⟩), hK'.runS, addr_add]
      | _ => simp [indexArrC] at h
    | _ => simp [indexArrC] at h
  | _ => cases T <;> simp [indexArrC] at h
  
theorem elemAddrC_ok (hT : TIok P E) {t n e : Nat} {X I : TV} {vx vi : Value} (htd : (tiOf E t).td = .arr n e) (hx : EncV w U β s.heap X vx) (hi : EncV w U β s.heap I vi) (h : elemAddrC s n (tiOf E e).size X I k = some r)
    (hkn : ∃ info d, Known P E e info d) :
    ∃ z v, k z = some r ∧ EncV w U β s.heap z v ∧ (Instr.indexAt t vx vi).run P w = .ok v w := by
  unfold elemAddrC at h
  split at h
  · rename_i id ix post j kd y
    obtain ⟨info, d, hK⟩ := hT.known_td (t := t) (by rw [htd]; simp)
    obtain rfl := td_arr (hK.td.trans htd)
    obtain ⟨info', d', hK'⟩ := hkn
    change Int at y
    obtain rfl := hi.int
    simp only at h
    obtain ⟨h1, h2⟩ := bif_some h
    obtain ⟨h1, h4⟩ := and2 h1
    obtain ⟨h1, h3⟩ := and2 h1
    obtain ⟨h5, h6⟩ := and2 h1
    have h5 : (0 : Int) ≤ y := decT h5
    have h6 : y < (n : Int) := decT h6
    have hm := hx.one rfl rfl
    simp only [EncM] at hm
    obtain ⟨b, o, hv, hl⟩ := hm
    obtain rfl := List.cons.inj hv |>.1
    refine ⟨_, .pointer (some ⟨b, o + y.toNat * (tiOf E e).size, none⟩), h2, .inr ⟨rfl, ?_⟩, ?_⟩
    · simp only [EncM]
      refine ⟨b, o + y.toNat * (tiOf E e).size, rfl, ?_⟩
      obtain ⟨h0, h6, h7⟩ := hl
      refine ⟨h0, h6, ?_⟩
      cases ix with
      | false =>
        obtain ⟨hn, hp, ho⟩ := h7
        simp only [objTy, cond_false] at h3 h4
        exact ⟨hn, by rw [pathOK_append, hp, h4]; rfl, by rw [pathOff_append, ho, beqN h3]⟩
      | true =>
        obtain ⟨e', xs, he, hi, hp, ho⟩ := h7
        simp only [objTy, cond_true, he] at h3 h4
        exact ⟨e', xs, he, hi, by rw [pathOK_append, hp, h4]; rfl, by rw [pathOff_append, ho, beqN h3, Nat.add_assoc]⟩
    · simp only [Instr.indexAt, Sem.run_bind, asIntOf, Sem.run_pure, Result.andThen_ok, hK.runU, asAddr_ptr, Sem.run_ite, if_pos (show 0 ≤ y ∧ y < (n : Int) from ⟨h5, h6⟩), hK'.runS, addr_add]
  · exact indexArrC_ok hT htd hx hi h hkn

/-- The operands of a slice expression's bounds. -/
structure OptV (w : World) (U : Nat → Prop) (β : Nat → Blk) (H : Heap) (o : Option TV) (v : Option Value) : Prop where
  some : ∀ x, o = .some x → ∃ y, v = .some y ∧ EncV w U β H x y
  none : o = .none → v = .none

theorem sliceStr_ok (hT : TIok P E) {t : Nat} {b : List UInt8} {vx : Value} {lo hi : Option TV} {vlo vhi : Option Value} {k : Nat → Nat → Option α} (htd : (tiOf E t).td = .str) (hx : EncV w U β s.heap ⟨.str, b⟩ vx)
    (hlo : OptV w U β s.heap lo vlo) (hhi : OptV w U β s.heap hi vhi) (h : boundsC b.length lo hi k = some r) :
    ∃ l u v, k l u = some r ∧ EncV w U β s.heap ⟨.str, cut b l u⟩ v ∧ (Instr.sliceAt t vx vlo vhi none).run P w = .ok v w := by
  obtain ⟨info, d, hK⟩ := hT.known_td (t := t) (by rw [htd]; simp)
  obtain rfl := td_str (hK.td.trans htd)
  obtain rfl := hx.str
  obtain ⟨l, u, h1, h2, h3, h4⟩ := bounds_ok (P := P) (w := w) (isSlice := false) (cap := b.length) (Nat.le_refl _) hlo.some hlo.none hhi.some hhi.none h
  refine ⟨l, u, _, h3, .mk_str _, ?_⟩
  have hsz : (⟨b.toArray⟩ : ByteArray).size = b.length := by simp [ByteArray.size]
  simp only [Instr.sliceAt, Sem.run_bind, hK.runU, Result.andThen_ok, Instr.slice, Option.isSome_none, Bool.false_eq_true, if_false, Sem.run_pure, Sem.run_ite, hsz, h4, extract_cut]

theorem runSlice (hT : TIok P E) {t e : Nat} (htd : (tiOf E t).td = .slice e) (hkn : ∃ info d, Known P E e info d) {A : Option Addr} {n c l u : Nat} {vlo vhi : Option Value} (hlu : l ≤ u) (hu : u ≤ n) (hnc : n ≤ c)
    (h : (Instr.sliceBounds true n c vlo vhi none).run P w = .ok (l, u, c) w) :
    (Instr.sliceAt t (.slice A n c) vlo vhi none).run P w = .ok (.slice (if c = l then A else A.map (·.add (l * (tiOf E e).size))) (u - l) (c - l)) w := by
  obtain ⟨info, d, hK⟩ := hT.known_td (t := t) (by rw [htd]; simp)
  obtain rfl := td_slice (hK.td.trans htd)
  obtain ⟨info', d', hK'⟩ := hkn
  simp only [Instr.sliceAt, Sem.run_bind, hK.runU, Result.andThen_ok, Instr.slice, h, hK'.runS, Sem.run_pure]

theorem sliceC_ok (hT : TIok P E) (hH : HRel w U β s.heap B) {t e : Nat} {X : TV} {vx : Value} {lo hi : Option TV} {vlo vhi : Option Value} (htd : (tiOf E t).td = .slice e) (hkn : ∃ info d, Known P E e info d) (hx : EncV w U β s.heap X vx)
    (hlo : OptV w U β s.heap lo vlo) (hhi : OptV w U β s.heap hi vhi) (h : sliceC s (tiOf E e).size X lo hi k = some r) :
    ∃ z v, k z = some r ∧ EncV w U β s.heap z v ∧ (Instr.sliceAt t vx vlo vhi none).run P w = .ok v w := by
  obtain ⟨T, x⟩ := X
  cases T with
  | list a =>
    simp only [sliceC] at h
    obtain ⟨h1, h⟩ := bif_some h
    have hm := hx.one rfl rfl
    simp only [EncM] at hm
    obtain ⟨A, c, hv, hc, hel⟩ := hm
    obtain rfl := List.cons.inj hv |>.1
    obtain ⟨l, u, h2, h3, h4, h5⟩ := bounds_ok (P := P) (w := w) (isSlice := true) (cap := c) hc hlo.some hlo.none hhi.some hhi.none h
    refine ⟨_, _, h4, .inr ⟨rfl, ?_⟩, runSlice hT htd hkn h2 h3 hc h5⟩
    simp only [EncM, Value.cells]
    have hlen := cut_length x l u h3
    refine ⟨_, _, by rw [hlen], by omega, fun hp => ?_⟩
    obtain ⟨b, off, rfl, hU, hel⟩ := hel (by omega)
    refine ⟨b, off + l * (tiOf E e).size, ?_, hU, fun i hi => ?_⟩
    · rw [if_neg (by omega)]
      simp [addr_add]
    · obtain ⟨hi', hc'⟩ := cut_getElem x l u i hi
      obtain ⟨cs, h6, h7⟩ := hel (l + i) hi'
      refine ⟨cs, by rw [hc']; exact h6, ?_⟩
      rw [← beqN h1, Nat.add_assoc, ← Nat.add_mul]
      exact h7
  | slw id =>
    simp only [sliceC] at h
    split at h
    · rename_i a xs he
      obtain ⟨h1, h⟩ := bif_some h
      have hm := hx.one rfl rfl
      simp only [EncM] at hm
      obtain ⟨a', xs', h0, he', hv⟩ := hm
      obtain rfl := List.cons.inj hv |>.1
      rw [he] at he'
      cases he'
      have hc : xs.length ≤ (β id).cap := by
        obtain ⟨_, hrow⟩ := (hH.obj id h0).row he
        rcases hrow with ⟨_, h6, rfl⟩ | ⟨b, arr, el, fr, hb, _, _, _, _, h6, _⟩
        · simp
        · exact h6
      obtain ⟨l, u, h2, h3, h4, h5⟩ := bounds_ok (P := P) (w := w) (isSlice := true) (cap := (β id).cap) hc hlo.some hlo.none hhi.some hhi.none h
      refine ⟨_, _, h4, .inr ⟨rfl, ?_⟩, runSlice hT htd hkn h2 h3 hc h5⟩
      simp only [EncM, Value.cells]
      refine ⟨a, xs, _, _, h0, he, rfl, by omega, by omega, fun hp => ?_⟩
      obtain ⟨_, hrow⟩ := (hH.obj id h0).row he
      rcases hrow with ⟨_, h6, rfl⟩ | ⟨b, arr, el, fr, hb, _⟩
      · simp at h3; omega
      · refine ⟨b, hb, ?_⟩
        rw [if_neg (by omega), hb]
        simp [addr_add, beqN h1]
    · cases h
  | slv id =>
    simp only [sliceC] at h
    split at h
    · rename_i a xs he
      obtain ⟨h1, h⟩ := bif_some h
      have hm := hx.one rfl rfl
      simp only [EncM] at hm
      obtain ⟨a', xs', A, c, h0, he', hv, hc, hle, hA⟩ := hm
      obtain rfl := List.cons.inj hv |>.1
      rw [he] at he'
      cases he'
      obtain ⟨l, u, h2, h3, h4, h5⟩ := bounds_ok (P := P) (w := w) (isSlice := true) (cap := c) hc hlo.some hlo.none hhi.some hhi.none h
      refine ⟨_, _, h4, .inr ⟨rfl, ?_⟩, runSlice hT htd hkn h2 h3 hc h5⟩
      simp only [EncM, Value.cells]
      refine ⟨a, xs, _, _, h0, he, rfl, by omega, by omega, fun hp => ?_⟩
      obtain ⟨b, hb, rfl⟩ := hA (by omega)
      refine ⟨b, hb, ?_⟩
      rw [if_neg (by omega)]
      simp [addr_add, ← beqN h1, Nat.add_mul]
    · cases h
  | _ => simp [sliceC] at h

theorem lenC_ok (hT : TIok P E) {t : Nat} {X : TV} {vx : Value} (hx : EncV w U β s.heap X vx) (h : lenC (tiOf E t).td s X k = some r) :
    ∃ z v, k z = some r ∧ EncV w U β s.heap z v ∧ ∀ ty, (Builtin.len_ #[t] ty #[vx]).run P w = .ok v w := by
  unfold lenC at h
  split at h
  · rename_i htd
    obtain ⟨info, d, hK⟩ := hT.known_td (t := t) (by rw [htd]; simp)
    obtain rfl := td_str (hK.td.trans htd)
    obtain ⟨T, x⟩ := X
    cases T <;> first | (simp at h; done) | skip
    obtain rfl := hx.str
    refine ⟨_, _, h, .mk_int _ _, fun ty => ?_⟩
    have : (⟨List.toArray x⟩ : ByteArray).size = List.length x := by simp [ByteArray.size]
    simp [Builtin.len_, hK.runU, goInt, this]
  · rename_i e htd
    obtain ⟨info, d, hK⟩ := hT.known_td (t := t) (by rw [htd]; simp)
    obtain rfl := td_slice (hK.td.trans htd)
    have key : ∀ A n c, (∀ ty, (Builtin.len_ #[t] ty #[.slice A n c]).run P w = .ok (.int .i64 n) w) := fun A n c ty => by
      simp [Builtin.len_, hK.runU, goInt]
    obtain ⟨T, x⟩ := X
    unfold lenC.lenSl at h
    cases T with
    | list a =>
      have hm := hx.one rfl rfl
      simp only [EncM] at hm
      obtain ⟨A, c, hv, _⟩ := hm
      obtain rfl := List.cons.inj hv |>.1
      exact ⟨_, _, h, .mk_int _ _, key _ _ _⟩
    | hl R =>
      have hm := hx.one rfl rfl
      simp only [EncM] at hm
      obtain ⟨b, off, c, vs, hv, _⟩ := hm
      obtain rfl := List.cons.inj hv |>.1
      exact ⟨_, _, h, .mk_int _ _, key _ _ _⟩
    | nils =>
      have hm := hx.one rfl rfl
      simp only [EncM] at hm
      obtain ⟨c, hv⟩ := hm
      obtain rfl := List.cons.inj hv |>.1
      exact ⟨_, _, h, .mk_int _ _, key _ _ _⟩
    | slw id =>
      have hm := hx.one rfl rfl
      simp only [EncM] at hm
      obtain ⟨a', xs', h0, he', hv⟩ := hm
      obtain rfl := List.cons.inj hv |>.1
      simp only [he'] at h
      exact ⟨_, _, h, .mk_int _ _, key _ _ _⟩
    | slv id =>
      have hm := hx.one rfl rfl
      simp only [EncM] at hm
      obtain ⟨a', xs', A, c, h0, he', hv, _⟩ := hm
      obtain rfl := List.cons.inj hv |>.1
      exact ⟨_, _, h, .mk_int _ _, key _ _ _⟩
    | _ => simp at h
  · rename_i n e htd
    obtain ⟨info, d, hK⟩ := hT.known_td (t := t) (by rw [htd]; simp)
    obtain rfl := td_arr (hK.td.trans htd)
    exact ⟨_, _, h, .mk_int _ _, fun ty => by simp [Builtin.len_, hK.runU, goInt]⟩
  · cases h

theorem unC_ok {op : UnOp} {X : TV} {vx : Value} (hx : EncV w U β s.heap X vx) (h : unC op X k = some r) :
    ∃ z v, k z = some r ∧ EncV w U β s.heap z v ∧ (Op.unary op vx).run P w = .ok v w := by
  obtain ⟨T, x⟩ := X
  cases op <;> cases T <;> first | (simp [unC] at h; done) | skip
  all_goals first
    | (obtain rfl := hx.bool; exact ⟨_, _, h, .mk_bool _, by simp [Op.unary]⟩)
    | (obtain rfl := hx.int; exact ⟨_, _, h, .mk_int _ _, by simp [Op.unary, Op.intArith]⟩)

theorem minMaxC_ok (mx : Bool) : ∀ (l : List TV) (vs : List Value) (X : TV) (vx : Value), l.length = vs.length → (∀ i (h : i < l.length) (h' : i < vs.length), EncV w U β s.heap l[i] vs[i]) → EncV w U β s.heap X vx → minMaxC mx X l k = some r →
    ∃ z v, k z = some r ∧ EncV w U β s.heap z v ∧ (vs.foldlM (bif mx then Builtin.max2 else Builtin.min2) vx).run P w = .ok v w := by
  intro l
  induction l with
  | nil =>
    intro vs X vx hl _ hX h
    cases vs with
    | nil => exact ⟨X, vx, h, hX, by simp⟩
    | cons v vs => simp at hl
  | cons y l ih =>
    intro vs X vx hl hy hX h
    cases vs with
    | nil => simp at hl
    | cons v vs =>
      obtain ⟨T, x⟩ := X
      obtain ⟨Y, y⟩ := y
      have hv := hy 0 (by simp) (by simp)
      cases T <;> first | (simp [minMaxC] at h; done) | skip
      cases Y <;> first | (simp [minMaxC] at h; done) | skip
      obtain rfl := hX.int
      obtain rfl := EncV.int hv
      simp only [minMaxC] at h
      obtain ⟨h1, h2⟩ := bif_some h
      obtain rfl := decT h1
      obtain ⟨z, v, h3, h4, h5⟩ := ih vs _ _ (by simpa using hl) (fun i h h' => hy (i + 1) (by simpa using h) (by simpa using h')) (.mk_int _ _) h2
      refine ⟨z, v, h3, h4, ?_⟩
      cases mx
      · simp only [cond_false, List.foldlM_cons, Builtin.min2] at h5 ⊢
        simpa using h5
      · simp only [cond_true, List.foldlM_cons, Builtin.max2] at h5 ⊢
        simpa using h5

theorem td_ptr {d : TypeDesc} {e : Nat} (h : tdOf d = .ptr e) : d = .pointer e := by cases d <;> simp_all [tdOf]
theorem LocAt.fun {id : Nat} {ix : Bool} {p : List Nat} {i b off b' off' : Nat} {H : Heap} (h : LocAt β H id ix p i b off) (h' : LocAt β H id ix p i b' off') : b = b' ∧ off = off' := by
  obtain ⟨_, h1, h2⟩ := h
  obtain ⟨_, g1, g2⟩ := h'
  rw [h1] at g1
  cases g1
  refine ⟨rfl, ?_⟩
  cases ix with
  | false => rw [h2.2.2, g2.2.2]
  | true =>
    obtain ⟨e, xs, q1, _, _, q2⟩ := h2
    obtain ⟨e', xs', q1', _, _, q2'⟩ := g2
    rw [q1] at q1'
    cases q1'
    rw [q2, q2']

/-- What two pointers come to under '=='. -/
theorem ptrEq_ok {H : Heap} {X Y : TV} {vx vy : Value} {b : Bool} (hx : EncV w U β H X vx) (hy : EncV w U β H Y vy) (h : ptrEq X Y = some b) :
    ∃ p q, vx = .pointer p ∧ vy = .pointer q ∧ ((b = true ∧ p = q) ∨ (b = false ∧ (p.isSome && q.isNone || p.isNone && q.isSome) = true)) := by
  have hnil : ∀ {v : Value} {u : Ty.nilp.den}, EncV w U β H ⟨.nilp, u⟩ v → v = .pointer none := fun h => by
    have := h.one rfl rfl
    simp only [EncM] at this
    exact (List.cons.inj this).1
  have hloc : ∀ {v : Value} {id : Nat} {ix : Bool} {p : List Nat} {i : Nat}, EncV w U β H ⟨.loc id ix p, i⟩ v → ∃ b off, v = .pointer (some ⟨b, off, none⟩) ∧ LocAt β H id ix p i b off := fun h => by
    have := h.one rfl rfl
    simp only [EncM] at this
    obtain ⟨b, off, e, hl⟩ := this
    exact ⟨b, off, (List.cons.inj e).1, hl⟩
  unfold ptrEq at h
  split at h
  · cases h; exact ⟨none, none, hnil hx, hnil hy, .inl ⟨rfl, rfl⟩⟩
  · cases h
    obtain ⟨b, off, e, _⟩ := hloc hy
    exact ⟨none, _, hnil hx, e, .inr ⟨rfl, rfl⟩⟩
  · cases h
    obtain ⟨b, off, e, _⟩ := hloc hx
    exact ⟨_, none, e, hnil hy, .inr ⟨rfl, rfl⟩⟩
  · cases h
    have := hx.one rfl rfl
    simp only [EncM] at this
    obtain ⟨b, off, cs, e, _⟩ := this
    exact ⟨_, none, (List.cons.inj e).1, hnil hy, .inr ⟨rfl, rfl⟩⟩
  · rename_i id ix p i id' ix' p' i'
    obtain ⟨h1, h⟩ := bif_some h
    cases h
    obtain ⟨h1, h4⟩ := and2 h1
    obtain ⟨h1, h3⟩ := and2 h1
    obtain ⟨h1, h2⟩ := and2 h1
    obtain rfl := beqN h1
    obtain rfl : ix = ix' := by simpa using h2
    obtain rfl := decT h3
    have h4 : i = i' := beqN h4
    subst h4
    obtain ⟨b, off, e, hl⟩ := hloc hx
    obtain ⟨b', off', e', hl'⟩ := hloc hy
    obtain ⟨rfl, rfl⟩ := hl.fun hl'
    exact ⟨_, _, e, e', .inl ⟨rfl, rfl⟩⟩
  · cases h

theorem binAny_ok (hT : TIok P E) {td : TD} {op : BinOp} {X Y : TV} {vx vy : Value} (hx : EncV w U β s.heap X vx) (hy : EncV w U β s.heap Y vy) (h : binAny E td op X Y k = some r) :
    ∃ z v, k z = some r ∧ EncV w U β s.heap z v ∧ binRun P w td op vx vy v := by
  unfold binAny at h
  split at h
  · rename_i e
    unfold ptrEqC at h
    split at h
    · rename_i b hb
      obtain ⟨h1, h⟩ := bif_some h
      obtain ⟨info, d, hK⟩ := hT.known_size (t := e) (by have := bltN h1; omega)
      obtain ⟨p, q, rfl, rfl, hpq⟩ := ptrEq_ok hx hy hb
      have hj : info.size ≠ 0 := by rw [hK.size]; have := bltN h1; omega
      have hrun : ∀ (xt : TypeId) (d : TypeDesc), P.underlying xt = some d → tdOf d = .ptr e → ∀ n : Nat, (Op.equalIn (n + 1) xt (.pointer p) (.pointer q)).run P w = .ok b w := by
        intro xt d hu htd n
        obtain rfl := td_ptr htd
        rcases hpq with ⟨rfl, rfl⟩ | ⟨rfl, hpq⟩
        · cases p with
          | none => simp [Op.equalIn, run_underlying hu]
          | some a => simp [Op.equalIn, run_underlying hu, sizeOf, typeInfo, hK.inf, hj, run_sameAddr_same]
        · cases p <;> cases q <;> simp at hpq <;> simp [Op.equalIn, run_underlying hu]
      cases op <;> simp only at h <;> try (cases h; done)
      · refine ⟨_, .bool b, h, .mk_bool _, fun xt xo yo d hu htd => ?_⟩
        have := hrun xt d hu htd 9999
        simp only [eqGuard_at_pointer, binOp]
        simp [Op.equal, Op.maxDepth, this]
      · refine ⟨_, .bool (!b), h, .mk_bool _, fun xt xo yo d hu htd => ?_⟩
        have := hrun xt d hu htd 9999
        simp only [eqGuard_at_pointer, binOp]
        simp [Op.equal, Op.maxDepth, this]
    · cases h
  · exact binC_ok hx hy h
end
end Go.Dp
/- Structs compared part by part. -/
set_option autoImplicit false
set_option linter.unusedVariables false
set_option linter.unusedSimpArgs false
namespace Go.Dp
open Go.RowKit

section
variable {P : Program} {E : Env} {w : World} {U : Nat → Prop} {β : Nat → Blk} {H : Heap} {α : Type} {r : α}

theorem cast_some' {t : Ty} {x : TV} {y : t.den} (h : cast t x = some y) : x = ⟨t, y⟩ := by
  unfold cast at h
  split at h
  · rename_i e
    obtain ⟨u, v⟩ := x
    simp only at e
    subst e
    cases h
    rfl
  · cases h

theorem tdOf_int {d : TypeDesc} {k : IntKind} (h : tdOf d = .int k) : d = .int k := by cases d <;> simp [tdOf] at h; rw [h]
theorem tdOf_bool {d : TypeDesc} (h : tdOf d = .bool) : d = .bool := by cases d <;> simp [tdOf] at h; rfl
theorem tdOf_str {d : TypeDesc} (h : tdOf d = .str) : d = .string := by cases d <;> simp [tdOf] at h; rfl
theorem tdOf_struct {d : TypeDesc} {l : List (Nat × Nat)} (h : tdOf d = .struct l) : ∃ fs, d = .struct fs ∧ l = fs.toList.map fun f => (f.type, f.offset) := by
  cases d <;> simp [tdOf] at h
  exact ⟨_, rfl, h.symm⟩

theorem TIok.eqs' (hT : TIok P E) {t : Nat} {l : List (Nat × Nat)} (h : (tiOf E t).td = .struct l) (hf : flat (tiOf E t).ty = true) : eqP P t = true := by
  unfold tiOf at h hf
  cases hl : look E.ti t with
  | none => rw [hl] at h; cases h
  | some i =>
    rw [hl] at h hf
    simp only [Option.getD_some] at h hf
    exact hT.eqs t i hl (by rw [h]; rfl) hf

theorem equalIn_ok (hT : TIok P E) : ∀ d : Nat,
    (∀ (t : Nat) (T : Ty) (x y : T.den) (vx vy : Value) (D : Nat), eqE E d t T = true → d ≤ D → EncV w U β H ⟨T, x⟩ vx → EncV w U β H ⟨T, y⟩ vy → (Op.equalIn D t vx vy).run P w = .ok (eqv T x y) w) ∧
    (∀ (fs : List Field) (off : Nat) (T : Ty) (x y : T.den) (xs ys : Array Value) (l1 m1 l2 m2 : List Value) (D : Nat), eqEs E d (fs.map fun f => (f.type, f.offset)) off T = true → d ≤ D → (fs.all fun f => f.name != "_") = true →
      xs.toList = l1 ++ m1 → l1.length = off → EncM w U β H false T x m1 → ys.toList = l2 ++ m2 → l2.length = off → EncM w U β H false T y m2 → (Op.eqFields D xs ys fs).run P w = .ok (eqv T x y) w) := by
  intro d
  induction d with
  | zero =>
    refine ⟨fun t T x y vx vy D h => by simp [eqE] at h, fun fs off T x y xs ys l1 m1 l2 m2 D h => ?_⟩
    cases fs with
    | nil => cases T <;> simp [eqEs] at h; intros; simp [Op.eqFields, eqv]
    | cons f fs => simp [eqEs] at h
  | succ d ih =>
    obtain ⟨ih1, ih2⟩ := ih
    refine ⟨fun t T x y vx vy D h hD hx hy => ?_, fun fs off T x y xs ys l1 m1 l2 m2 D h hD hn hxs hl1 hx hys hl2 hy => ?_⟩
    · obtain ⟨D, rfl⟩ : ∃ D', D = D' + 1 := ⟨D - 1, by omega⟩
      simp only [eqE] at h
      split at h
      · rename_i k k' htd
        obtain ⟨info, dd, hK⟩ := hT.known_td (t := t) (by rw [htd]; simp)
        have hd := tdOf_int (hK.td.trans htd)
        obtain rfl := hx.int
        obtain rfl := hy.int
        rw [run_equalIn_int w D t _ k _ _ (by rw [hK.und, hd]), beq_int]
        rfl
      · rename_i htd
        obtain ⟨info, dd, hK⟩ := hT.known_td (t := t) (by rw [htd]; simp)
        have hd := tdOf_bool (hK.td.trans htd)
        obtain rfl := hx.bool
        obtain rfl := hy.bool
        rw [run_equalIn_bool' w D t _ _ (by rw [hK.und, hd])]
        rfl
      · rename_i htd
        obtain ⟨info, dd, hK⟩ := hT.known_td (t := t) (by rw [htd]; simp)
        have hd := tdOf_str (hK.td.trans htd)
        obtain rfl := hx.str
        obtain rfl := hy.str
        rw [run_equalIn_string w D t _ _ (by rw [hK.und, hd])]
        simp [ByteArray.toList_eq, eqv]
      · rename_i l a r' htd
        obtain ⟨h1, h2⟩ := Bool.and_eq_true_iff.1 h
        obtain ⟨info, dd, hK⟩ := hT.known_td (t := t) (by rw [htd]; simp)
        obtain ⟨fs, hd, hl⟩ := tdOf_struct (hK.td.trans htd)
        have he := hT.eqs' htd h1
        have hu : P.underlying t = some (.struct fs) := by rw [hK.und, hd]
        have hfs : P.fieldsOf t = fs := by simp [Program.fieldsOf, hu]
        unfold eqP at he
        rw [hu] at he
        simp only [Bool.and_eq_true, Bool.not_eq_true'] at he
        obtain ⟨xs, rfl, hxs⟩ := hx.agg rfl
        obtain ⟨ys, rfl, hys⟩ := hy.agg rfl
        rw [run_equalIn_struct w D t xs ys (by rw [hfs]; exact hu) he.1.1, hfs]
        subst hl
        exact ih2 fs.toList 0 (.scons a r') x y xs ys [] xs.toList [] ys.toList D h2 (by omega) he.2 rfl rfl hxs rfl rfl hys
      · cases h
    · cases fs with
      | nil => cases T <;> simp [eqEs] at h; simp [Op.eqFields, eqv]
      | cons f fs =>
        cases T with
        | scons a r' =>
          simp only [List.map_cons, eqEs, Bool.and_eq_true] at h
          obtain ⟨⟨⟨⟨h1, h2⟩, h3⟩, h4⟩, h5⟩ := h
          simp only [EncM] at hx hy
          obtain ⟨p1, p2, rfl, hxa, hxr⟩ := hx
          obtain ⟨q1, q2, rfl, hya, hyr⟩ := hy
          have hn' := List.all_eq_true.1 hn f List.mem_cons_self
          have hne : f.name ≠ "_" := by simpa using hn'
          have ho : f.offset = off := beqN h1
          have hs : a.csize = (tiOf E f.type).size := beqN h2
          have hagg : a.isAgg = (tiOf E f.type).ty.isAgg := eq_of_beq h3
          obtain ⟨info, dd, hK⟩ := hT.known_fit (t := f.type) hs hagg
          obtain ⟨va, ra, ea⟩ := part_ok (w' := w) hK hs hagg hxa (by rw [hxs, List.append_assoc])
          obtain ⟨vb, rb, eb⟩ := part_ok (w' := w) hK hs hagg hya (by rw [hys, List.append_assoc])
          have hc := ih1 f.type a x.1 y.1 va vb D h4 (by omega) ea eb
          have hr := ih2 fs (off + a.csize) r' x.2 y.2 xs ys (l1 ++ p1) p2 (l2 ++ q1) q2 D h5 (by omega) (by simp only [List.all_cons, Bool.and_eq_true] at hn; exact hn.2)
            (by rw [hxs, List.append_assoc]) (by simp [hl1, hxa.len]) hxr (by rw [hys, List.append_assoc]) (by simp [hl2, hya.len]) hyr
          simp only [Op.eqFields, hne, ne_eq, not_false_eq_true, if_true, Sem.run_bind, ho, ← hl1, ra, Result.andThen_ok]
          rw [hl1, ← hl2, rb]
          simp only [Result.andThen_ok, hc, Sem.run_ite, eqv]
          cases eqv a x.1 y.1 with
          | true => simpa using hr
          | false => simp
        | _ => simp [eqEs] at h

theorem eqC_ok (hT : TIok P E) {op : BinOp} {xt : Nat} {X Y : TV} {vx vy : Value} {k : TV → Option α} (ha : X.t.isAgg = true) (hx : EncV w U β H X vx) (hy : EncV w U β H Y vy) (h : eqC E op xt X Y k = some r) :
    ∃ z v, k z = some r ∧ EncV w U β H z v ∧ ∀ (xo yo : Operand), (do eqGuard op xt xo yo vx vy; binOp op xt vx vy : Sem Value).run P w = .ok v w := by
  unfold eqC at h
  obtain ⟨g1, h2⟩ := bif_some h
  clear h
  cases hc : cast X.t Y with
  | none => rw [hc] at h2; cases h2
  | some y =>
    rw [hc] at h2
    obtain rfl := cast_some' hc
    have hq := (equalIn_ok (w := w) (U := U) (β := β) (H := H) hT 100).1 xt X.t X.v y vx vy 10000 g1 (by omega) hx hy
    obtain ⟨xs, rfl, _⟩ := hx.agg ha
    obtain ⟨ys, rfl, _⟩ := EncV.agg hy ha
    have hg : P.eqGuardType P.depth xt = false := by
      simp only [eqE] at g1
      split at g1
      · rename_i e; rw [e] at ha; cases ha
      · rename_i e; rw [e] at ha; cases ha
      · rename_i e; rw [e] at ha; cases ha
      · rename_i l a r' htd e
        obtain ⟨h1, _⟩ := Bool.and_eq_true_iff.1 g1
        have he := hT.eqs' htd h1
        unfold eqP at he
        split at he
        · simp only [Bool.and_eq_true, Bool.not_eq_true'] at he
          exact he.1.2
        · cases he
      · cases g1
    cases op
    case eql => exact ⟨_, _, h2, .mk_bool _, fun xo yo => by simp only [Sem.run_bind, run_eqGuard_agg w _ xt xo yo xs ys hg, Result.andThen_ok, run_eql_struct, hq]⟩
    case neq => exact ⟨_, _, h2, .mk_bool _, fun xo yo => by simp only [Sem.run_bind, run_eqGuard_agg w _ xt xo yo xs ys hg, Result.andThen_ok, run_neq_struct, hq]⟩
    all_goals cases h2
end
end Go.Dp
/- How the world may change under the small machine. -/
set_option autoImplicit false
set_option linter.unusedVariables false
set_option linter.unusedSimpArgs false
namespace Go.Dp
open Go.RowKit

section
variable {S : Base} {n : Nat} {U U' : Nat → Prop} {β β' : Nat → Blk} {H H' : Heap} {w w' : World} {app : List Nat}

theorem WRel.blk_lt (h : WRel S U β H w) {id b : Nat} (hi : id < H.length) (hb : (β id).blk = some b) : b < w.heap.size ∧ S.w0.heap.size ≤ b ∧ ¬ U b := by
  have ho := h.heap.obj id hi
  have key : ∀ {o : Obj}, w.heap[b]? = some o → b < w.heap.size := fun {o} e => (Array.getElem?_eq_some_iff.1 e).1
  unfold ObjAt at ho
  split at ho
  · obtain ⟨_, ho⟩ := ho
    rcases ho with ⟨e, _⟩ | ⟨b', arr, el, fr, e, h1, h2, h3, _⟩
    · rw [hb] at e; cases e
    · obtain rfl : b' = b := by rw [hb] at e; exact (Option.some.inj e).symm
      exact ⟨key h3, h1, h2⟩
  · obtain ⟨b', e, h1, h2, h3⟩ := ho
    obtain rfl : b' = b := by rw [hb] at e; exact (Option.some.inj e).symm
    exact ⟨key h3, h1, h2⟩
  · obtain ⟨_, _, b', es, clock, e, h1, h2, h3, _⟩ := ho
    obtain rfl : b' = b := by rw [hb] at e; exact (Option.some.inj e).symm
    exact ⟨key h3, h1, h2⟩
  · obtain ⟨b', cs, el, fr, e, h1, h2, h3, _⟩ := ho
    obtain rfl : b' = b := by rw [hb] at e; exact (Option.some.inj e).symm
    exact ⟨key h3, h1, h2⟩

/-- Names no row of a list of objects: an object's content. -/
def avoidsO (app : List Nat) : Ty → Prop
  | .row _ => True
  | .iter => True
  | .mobj _ _ => True
  | t => avoids app t

theorem elem_pure {t : Ty} (h : t.elem = true) : t.pure = true := by
  unfold Ty.elem at h
  cases hp : t.pure <;> simp_all
theorem elem_noTup {t : Ty} (h : t.elem = true) : t.noTup = true := by
  unfold Ty.elem at h
  cases hp : t.noTup <;> simp_all

/-- An object that nothing happened to. -/
theorem ObjAt.advC {B id : Nat} (hA : AdvC w U β H w' U' β' H' app) (h : ObjAt w U β H B id) (hg : hget H' id = hget H id) (hb : β' id = β id) (hs : ∀ b, (β id).blk = some b → w'.heap[b]? = w.heap[b]? ∧ ¬ U' b)
    (ha : avoidsO app (hget H id).t) : ObjAt w' U' β' H' B id := by
  unfold ObjAt at h ⊢
  rw [hg]
  generalize hget H id = z at *
  obtain ⟨t, v⟩ := z
  cases t with
  | row e =>
    obtain ⟨hp, h⟩ := h
    refine ⟨hp, ?_⟩
    rw [hb]
    rcases h with h | ⟨b, arr, el, fr, h1, h2, h3, h4, h5, h6, h7, h8⟩
    · exact .inl h
    · refine .inr ⟨b, arr, el, fr, h1, h2, (hs b h1).2, (hs b h1).1.trans h4, h5, h6, h7, fun i hi => ?_⟩
      obtain ⟨cs, h9, h10⟩ := h8 i hi
      exact ⟨cs, h9.advC hA _ _ _ _ (avoids_of_pure _ _ (elem_pure hp)), h10⟩
  | iter =>
    obtain ⟨b, h1, h2, h3, h4⟩ := h
    exact ⟨b, by rw [hb]; exact h1, h2, (hs b h1).2, (hs b h1).1.trans h4⟩
  | mobj K V =>
    obtain ⟨hk, hv, b, es, clock, h1, h2, h3, h4, h5, h6⟩ := h
    refine ⟨hk, hv, b, es, clock, by rw [hb]; exact h1, h2, (hs b h1).2, (hs b h1).1.trans h4, h5, fun i hi => ?_⟩
    obtain ⟨en, e1, e2, e3⟩ := h6 i hi
    exact ⟨en, e1, e2.advC hA (avoids_of_pure _ _ (elem_pure hk)), e3.advC hA (avoids_of_pure _ _ (elem_pure hv))⟩
  | _ =>
    obtain ⟨b, cs, el, fr, h1, h2, h3, h4, h5, h6, h7⟩ := h
    exact ⟨b, cs, el, fr, by rw [hb]; exact h1, h2, (hs b h1).2, (hs b h1).1.trans h4, h5, h6.advC hA _ _ _ _ ha, by rw [hb]; exact h7⟩

theorem ObjAt.adv {B id : Nat} (hA : Adv w U β H w' U' β' H' app) (h : ObjAt w U β H B id) (hg : hget H' id = hget H id) (hb : β' id = β id) (hs : ∀ b, (β id).blk = some b → w'.heap[b]? = w.heap[b]? ∧ ¬ U' b)
    (ha : avoidsO app (hget H id).t) : ObjAt w' U' β' H' B id := h.advC hA.toAdvC hg hb hs ha

theorem avoidsO_nil (t : Ty) : avoidsO [] t := by
  cases t <;> first | trivial | exact avoids_nil _

theorem Adv.grow (hs : ∀ b, b < w.heap.size → w'.heap[b]? = w.heap[b]?) (hU : ∀ b, U b → b < w.heap.size) (hU' : ∀ b, U b → U' b) (hUn : ∀ b, b < w.heap.size → U' b → U b) : Adv w U β H w' U' β H app :=
  ⟨⟨hU', fun b h => hs b (hU b h), Nat.le_refl _, fun _ _ xs _ h => ⟨xs, h, fun _ => ⟨rfl, rfl⟩⟩, fun _ _ h => ⟨rfl, rfl, h⟩⟩, fun b hb hu hn => ⟨hs b hb, fun h => hu (hUn b hb h), hn⟩⟩

theorem un_of (hU : ∀ b, U' b ↔ U b ∨ (w.heap.size ≤ b ∧ b < w'.heap.size ∧ U' b)) : ∀ b, b < w.heap.size → U' b → U b :=
  fun b hb h => ((hU b).1 h).elim id fun h => absurd h.1 (by omega)

/-- The world has grown; some of what is new may be read. -/
theorem WRel.grow (h : WRel S U β H w) (hb : Below w.heap.size w w') (hU : ∀ b, U' b ↔ U b ∨ (w.heap.size ≤ b ∧ b < w'.heap.size ∧ U' b)) : WRel S U' β H w' := by
  have hA : Adv w U β H w' U' β H [] := Adv.grow hb.block h.uin (fun b hb' => (hU b).2 (.inl hb')) (un_of hU)
  have hsz : S.w0.heap.size ≤ w.heap.size := h.below.size
  refine ⟨⟨fun id hi => ?_, h.heap.inj⟩, h.below.trans (hb.mono hsz), fun b hb' => ?_, fun b hb' => ?_, fun g x hx => ?_⟩
  · refine (h.heap.obj id hi).adv hA rfl rfl (fun b hbl => ?_) (avoidsO_nil _)
    obtain ⟨h1, h2, h3⟩ := h.blk_lt hi hbl
    refine ⟨hb.block b h1, fun hu => ?_⟩
    rcases (hU b).1 hu with hu | ⟨hu, _⟩
    · exact h3 hu
    · omega
  · rcases (hU b).1 hb' with hu | ⟨_, hu, _⟩
    · exact Nat.lt_of_lt_of_le (h.uin b hu) hb.size
    · exact hu
  · rw [hU b, ← h.uold b hb']
    constructor
    · rintro (hu | ⟨hu, _⟩)
      · exact hu
      · omega
    · exact .inl
  · rcases h.globs g x hx with e | ⟨e1, e2, e3⟩
    · exact .inl e
    · exact .inr ⟨e1, e2, e3.adv hA (avoids_nil _)⟩

theorem FRel.grow {s : St} {a : Act} (h : FRel S n U β s a w) (hb : Below w.heap.size w w') (hU : ∀ b, U' b ↔ U b ∨ (w.heap.size ≤ b ∧ b < w'.heap.size ∧ U' b)) : FRel S n U' β s a w' := by
  have hA : Adv w U β s.heap w' U' β s.heap [] := Adv.grow hb.block h.wrel.uin (fun b hb' => (hU b).2 (.inl hb')) (un_of hU)
  exact ⟨h.defers, h.size, fun i => (h.regs i).adv hA (avoids_nil _), h.wrel.grow hb hU⟩

theorem below_new (w : World) (o : Obj) : Below w.heap.size w (w.alloc o) := (Below.refl _ _).alloc (Nat.le_refl _) o

theorem size_alloc (w : World) (o : Obj) : (w.alloc o).heap.size = w.heap.size + 1 := by simp
theorem heap_alloc_at (w : World) (o : Obj) : (w.alloc o).heap[w.heap.size]? = some o := by
  show (w.heap.push o)[w.heap.size]? = some o
  simp

/-- With one new block that may be read. -/
def withB (U : Nat → Prop) (b : Nat) (x : Nat) : Prop := U x ∨ x = b

theorem withB_un (w : World) (U : Nat → Prop) : ∀ b, b < w.heap.size → withB U w.heap.size b → U b := by
  rintro b hb (h | rfl)
  · exact h
  · omega

theorem withB_grow (w : World) (o : Obj) (U : Nat → Prop) : ∀ b, withB U w.heap.size b ↔ U b ∨ (w.heap.size ≤ b ∧ b < (w.alloc o).heap.size ∧ withB U w.heap.size b) := by
  intro b
  unfold withB
  rw [size_alloc]
  constructor
  · rintro (h | rfl)
    · exact .inl h
    · exact .inr ⟨Nat.le_refl _, by omega, .inr rfl⟩
  · rintro (h | ⟨h1, h2, h⟩)
    · exact .inl h
    · exact h

theorem hget_append_lt {H : Heap} {x : TV} {id : Nat} (h : id < H.length) : hget (H ++ [x]) id = hget H id := by
  induction H generalizing id with
  | nil => simp at h
  | cons y l ih =>
    cases id with
    | zero => rfl
    | succ id => simp only [List.cons_append, hget]; exact ih (by simpa using h)
theorem hget_append_at {H : Heap} {x : TV} : hget (H ++ [x]) H.length = x := by
  induction H with
  | nil => rfl
  | cons y l ih => simp only [List.cons_append, List.length_cons, hget]; exact ih

def setB (β : Nat → Blk) (id : Nat) (x : Blk) (i : Nat) : Blk := if i = id then x else β i

theorem Adv.push (hU : ∀ b, U b → b < w.heap.size) (hb : Below w.heap.size w w') (x : TV) (bl : Blk) (hbl : ∀ b, bl.blk = some b → w.heap.size ≤ b) : Adv w U β H w' U (setB β H.length bl) (H ++ [x]) app where
  use _ h := h
  same b h := hb.block b (hU b h)
  len := by simp
  row id e xs hl he := ⟨xs, by rw [hget_append_lt hl]; exact he, fun _ => ⟨rfl, by simp [setB, Nat.ne_of_lt hl]⟩⟩
  box id hl hn := ⟨by simp [setB, Nat.ne_of_lt hl], by rw [hget_append_lt hl], by rw [hget_append_lt hl]; exact hn⟩
  keep b hlt hu hn := ⟨hb.block b hlt, hu, fun id hi h => by
    simp only [setB] at h
    split at h
    · have := hbl b h; omega
    · simp at hi
      exact hn id (by omega) h⟩

theorem AdvC.push (x : TV) (bl : Blk) : AdvC w U β H w U (setB β H.length bl) (H ++ [x]) app where
  use _ h := h
  same _ _ := rfl
  len := by simp
  row id e xs hl he := ⟨xs, by rw [hget_append_lt hl]; exact he, fun _ => ⟨rfl, by simp [setB, Nat.ne_of_lt hl]⟩⟩
  box id hl hn := ⟨by simp [setB, Nat.ne_of_lt hl], by rw [hget_append_lt hl], by rw [hget_append_lt hl]; exact hn⟩

/-- An object that lies there already, in a block that nothing knows. -/
theorem WRel.adopt (h : WRel S U β H w) {x : TV} {bl : Blk} (hbl : ∀ b, bl.blk = some b → ∀ id, id < H.length → (β id).blk ≠ some b) (ho : ObjAt w U (setB β H.length bl) (H ++ [x]) S.w0.heap.size H.length) :
    WRel S U (setB β H.length bl) (H ++ [x]) w := by
  have hA : AdvC w U β H w U (setB β H.length bl) (H ++ [x]) [] := AdvC.push x bl
  refine ⟨⟨fun id hi => ?_, fun id id' b hi hi' h1 h2 => ?_⟩, h.below, h.uin, h.uold, fun g x hx => ?_⟩
  · by_cases e : id = H.length
    · subst e; exact ho
    · have hlt : id < H.length := by simp at hi; omega
      refine (h.heap.obj id hlt).advC hA (hget_append_lt hlt) (by simp [setB, e]) (fun b hbl' => ?_) (avoidsO_nil _)
      exact ⟨rfl, (h.blk_lt hlt hbl').2.2⟩
  · simp only [List.length_append, List.length_singleton] at hi hi'
    simp only [setB] at h1 h2
    split at h1 <;> split at h2
    · omega
    · exact absurd h2 (hbl b h1 id' (by omega))
    · exact absurd h1 (hbl b h2 id (by omega))
    · exact h.heap.inj id id' b (by omega) (by omega) h1 h2
  · rcases h.globs g x hx with e | ⟨e1, e2, e3⟩
    · exact .inl e
    · exact .inr ⟨e1, e2, e3.advC hA (avoids_nil _)⟩

/-- A new object in a new block (or, for an empty row, in none). -/
theorem WRel.push (h : WRel S U β H w) (hb : Below w.heap.size w w') {x : TV} {bl : Blk} (hbl : ∀ b, bl.blk = some b → w.heap.size ≤ b) (ho : ObjAt w' U (setB β H.length bl) (H ++ [x]) S.w0.heap.size H.length) :
    WRel S U (setB β H.length bl) (H ++ [x]) w' := by
  have hA : Adv w U β H w' U (setB β H.length bl) (H ++ [x]) [] := Adv.push h.uin hb x bl hbl
  have hsz : S.w0.heap.size ≤ w.heap.size := h.below.size
  refine ⟨⟨fun id hi => ?_, fun id id' b hi hi' h1 h2 => ?_⟩, h.below.trans (hb.mono hsz), fun b hb' => Nat.lt_of_lt_of_le (h.uin b hb') hb.size, h.uold, fun g x hx => ?_⟩
  · by_cases e : id = H.length
    · subst e; exact ho
    · have hlt : id < H.length := by simp at hi; omega
      refine (h.heap.obj id hlt).adv hA (hget_append_lt hlt) (by simp [setB, e]) (fun b hbl' => ?_) (avoidsO_nil _)
      obtain ⟨h1, _, h3⟩ := h.blk_lt hlt hbl'
      exact ⟨hb.block b h1, h3⟩
  · simp only [List.length_append, List.length_singleton] at hi hi'
    simp only [setB] at h1 h2
    split at h1 <;> split at h2
    · omega
    · have := (h.blk_lt (by omega) h2).1
      have := hbl b h1
      omega
    · have := (h.blk_lt (by omega) h1).1
      have := hbl b h2
      omega
    · exact h.heap.inj id id' b (by omega) (by omega) h1 h2
  · rcases h.globs g x hx with e | ⟨e1, e2, e3⟩
    · exact .inl e
    · exact .inr ⟨e1, e2, e3.adv hA (avoids_nil _)⟩

theorem FRel.push {s : St} {a : Act} (h : FRel S n U β s a w) (hb : Below w.heap.size w w') {x : TV} {bl : Blk} (hbl : ∀ b, bl.blk = some b → w.heap.size ≤ b)
    (ho : ObjAt w' U (setB β s.heap.length bl) (s.heap ++ [x]) S.w0.heap.size s.heap.length) : FRel S n U (setB β s.heap.length bl) ⟨s.regs, s.heap ++ [x], s.app⟩ a w' :=
  ⟨h.defers, h.size, fun i => (h.regs i).adv (Adv.push (app := []) h.wrel.uin hb x bl hbl) (avoids_nil _), h.wrel.push hb hbl ho⟩
end
end Go.Dp
/- Structs and slices by their parts; new variables. -/
set_option autoImplicit false
set_option linter.unusedVariables false
set_option linter.unusedSimpArgs false
namespace Go.Dp
open Go.RowKit

section
variable {P : Program} {E : Env} {w : World} {U : Nat → Prop} {β : Nat → Blk} {H : Heap}

theorem foldl_splice (l1 m l2 vs : List Value) (h : m.length = vs.length) : ∀ (pre : List Value) (rest : List Value), vs = pre ++ rest →
    (rest.zipIdx pre.length).foldl (fun cs (x : Value × Nat) => cs.setIfInBounds (l1.length + x.2) x.1) (l1 ++ (pre ++ m.drop pre.length) ++ l2).toArray = (l1 ++ vs ++ l2).toArray := by
  intro pre rest
  induction rest generalizing pre with
  | nil =>
    intro e
    simp at e
    subst e
    simp [List.drop_eq_nil_of_le (Nat.le_of_eq h)]
  | cons v rest ih =>
    intro e
    simp only [List.zipIdx_cons, List.foldl_cons]
    have hlen : pre.length < m.length := by rw [h, e]; simp
    have e2 : (l1 ++ (pre ++ m.drop pre.length) ++ l2).toArray.setIfInBounds (l1.length + pre.length) v = (l1 ++ ((pre ++ [v]) ++ m.drop (pre ++ [v]).length) ++ l2).toArray := by
      rw [List.setIfInBounds_toArray]
      congr 1
      rw [List.append_assoc, List.append_assoc, List.set_append_right _ _ (by omega), Nat.add_sub_cancel_left, List.append_assoc, List.set_append_right _ _ (Nat.le_refl _), Nat.sub_self]
      have e3 : m.drop pre.length = m[pre.length] :: m.drop (pre.length + 1) := List.drop_eq_getElem_cons hlen
      rw [e3, List.cons_append, List.set_cons_zero]
      simp
    rw [e2]
    have := ih (pre ++ [v]) (by simp [e])
    simpa using this

theorem fill_step {place : Nat → Option (Nat × Nat)} {f off size : Nat} {v : Value} {l1 m l2 : List Value} {rest : List (Nat × Value)} (hp : place f = some (off, size)) (ho : l1.length = off) (hm : m.length = size) (hv : v.cells.size = size) :
    Instr.fill place (l1 ++ m ++ l2).toArray ((f, v) :: rest) = Instr.fill place (l1 ++ v.cells.toList ++ l2).toArray rest := by
  subst ho
  simp only [Instr.fill, hp]
  rw [if_neg (by simp [hv, ← hm])]
  congr 1
  rw [← Array.foldl_toList, Array.toList_zipIdx]
  have := foldl_splice l1 m l2 v.cells.toList (by rw [hm, ← hv]; simp) [] v.cells.toList rfl
  simpa using this

theorem replicate_part (l : List Value) : ∀ (n i : Nat), i < n → ((List.replicate n l).flatten.drop (i * l.length)).take l.length = l := by
  intro n
  induction n with
  | zero => intro i h; omega
  | succ n ih =>
    intro i h
    cases i with
    | zero => simp [List.replicate_succ]
    | succ i =>
      rw [List.replicate_succ, List.flatten_cons, Nat.succ_mul, List.drop_append, List.drop_eq_nil_of_le (by omega), List.nil_append, Nat.add_sub_cancel]
      exact ih i (by omega)

theorem zOK_pure {T : Ty} : T.zOK = true → T.pure = true := by
  induction T <;> simp_all [Ty.zOK, Ty.pure]

theorem zcells_ok : ∀ T : Ty, T.zOK = true → EncM w U β H false T T.dflt (zcells T) := by
  intro T
  induction T with
  | scons a r iha ihr =>
    intro h
    simp only [Ty.zOK, Bool.and_eq_true] at h
    simp only [EncM, zcells, Ty.dflt]
    exact ⟨_, _, rfl, iha h.1, ihr h.2⟩
  | arr n e ih =>
    intro h
    simp only [Ty.zOK] at h
    have he := ih h
    have hl := he.len
    simp only [EncM, zcells, Ty.dflt]
    refine ⟨zOK_pure h, ?_, List.length_replicate, fun i hi => ?_⟩
    · simp [List.length_flatten, hl]
    · have hi' : i < n := by simpa using hi
      rw [List.getElem_replicate, ← hl, replicate_part _ n i hi']
      exact he
  | int k => intro h; simp [EncM, zcells, Ty.dflt]
  | bool => intro h; simp [EncM, zcells, Ty.dflt]
  | str => intro h; simp [EncM, zcells, Ty.dflt]
  | list e ih => intro h; simp [EncM, zcells, Ty.dflt]
  | nilf => intro h; simp [EncM, zcells]
  | nilp => intro h; simp [EncM, zcells]
  | nili => intro h; simp [EncM, zcells]
  | nilm => intro h; simp [EncM, zcells]
  | snil => intro h; simp [EncM, zcells]
  | _ => intro h; simp [Ty.zOK] at h

theorem zval_cells (T : Ty) (h : T.zOK = true) : (zval T).cells.toList = zcells T := by
  unfold zval
  cases hg : T.isAgg with
  | true => simp [Value.cells]
  | false => cases T <;> simp [Ty.isAgg, Ty.zOK] at hg h <;> simp [zcells, Value.cells]

theorem zval_ok (T : Ty) (h : T.zOK = true) : EncV w U β H ⟨T, T.dflt⟩ (zval T) := by
  refine .inr ⟨?_, by rw [zval_cells T h]; exact zcells_ok T h⟩
  unfold zval
  cases hg : T.isAgg with
  | true => rfl
  | false => cases T <;> simp [Ty.isAgg, Ty.zOK] at hg h <;> rfl

/-- The places of a struct's fields. -/
theorem places_ok (hT : TIok P E) : ∀ (F : List Field), (F.all fun f => (look E.ti f.type).isSome) = true →
    F.mapM (fun f => (P.info? f.type).map fun i => (f.offset, i.size)) = some (F.map fun f => (f.offset, (tiOf E f.type).size)) := by
  intro F
  induction F with
  | nil => intro _; rfl
  | cons f F ih =>
    intro h
    simp only [List.all_cons, Bool.and_eq_true] at h
    obtain ⟨i, hi⟩ := Option.isSome_iff_exists.1 h.1
    obtain ⟨info, d, h1, _, _, h4, _⟩ := hT.ok _ i hi
    simp only [List.mapM_cons, h1, ih h.2, Option.map_some, Option.bind_eq_bind, Option.bind_some, Option.pure_def, List.map_cons]
    simp [tiOf, hi, h4]

theorem chSet_agg : ∀ (T : Ty) (v : T.den) (f : Nat) (y : TV), f < chLen T → (chSet T v f y).t.isAgg = true := by
  intro T v f y h
  cases T with
  | scons a r => cases f <;> rfl
  | _ => simp [chLen] at h

variable {α : Type} {r : α} {s : St} {S : Base} {n : Nat} {a : Act}

theorem chGet_dflt : ∀ (T : Ty) (f : Nat), f < chLen T → chGet T T.dflt f = ⟨tyGet T f, (tyGet T f).dflt⟩ := by
  intro T
  induction T with
  | scons a r _ ih =>
    intro f hf
    cases f with
    | zero => rfl
    | succ f => exact ih f (by simp only [chLen] at hf; omega)
  | _ => intro f hf; simp [chLen] at hf

theorem zOK_get : ∀ (T : Ty) (f : Nat), T.zOK = true → f < chLen T → (tyGet T f).zOK = true := by
  intro T
  induction T with
  | scons a r _ ih =>
    intro f hz hf
    simp only [Ty.zOK, Bool.and_eq_true] at hz
    cases f with
    | zero => exact hz.1
    | succ f => exact ih f hz.2 (by simp only [chLen] at hf; omega)
  | _ => intro f _ hf; simp [chLen] at hf

/-- A struct's zero with another value of the same cells for a field. -/
theorem set_init {y : TV} : ∀ (T : Ty) (f : Nat), T.zOK = true → f < chLen T → EncM w U β H false y.t y.v (zcells (tyGet T f)) →
    EncM w U β H false (chSet T T.dflt f y).t (chSet T T.dflt f y).v (zcells T) := by
  intro T
  induction T with
  | scons a r iha ihr =>
    intro f hz hf he
    simp only [Ty.zOK, Bool.and_eq_true] at hz
    cases f with
    | zero =>
      simp only [chSet, EncM, zcells]
      exact ⟨_, _, rfl, he, zcells_ok _ hz.2⟩
    | succ f =>
      simp only [chSet, EncM, zcells]
      exact ⟨_, _, rfl, zcells_ok _ hz.1, ihr f hz.2 (by simp only [chLen] at hf; omega) he⟩
  | _ => intro f hz hf he; simp [chLen] at hf

/-- A struct's zero with a row of one's own for an empty list. -/
theorem own_init {e : Ty} {id : Nat} (hs : EncM w U β H false (.slw id) () [.slice none 0 0]) : ∀ (p : List Nat) (T : Ty), T.zOK = true → pathOK p T = true → pathTy p T = .list e →
    EncM w U β H false (setAt p T T.dflt ⟨.slw id, ()⟩).t (setAt p T T.dflt ⟨.slw id, ()⟩).v (zcells T) := by
  intro p
  induction p with
  | nil =>
    intro T _ _ he
    simp only [pathTy] at he
    subst he
    exact hs
  | cons f p ih =>
    intro T hz hp he
    simp only [pathOK, Bool.and_eq_true] at hp
    have hf := bltN hp.1
    refine set_init T f hz hf ?_
    have := ih _ (zOK_get T f hz hf) hp.2 he
    have hg := chGet_dflt T f hf
    show EncM w U β H false (setAt p (chGet T T.dflt f).t (chGet T T.dflt f).v ⟨.slw id, ()⟩).t (setAt p (chGet T T.dflt f).t (chGet T T.dflt f).v ⟨.slw id, ()⟩).v _
    rw [hg]
    exact this

/-- Parts put into an aggregate. -/
theorem fill_go (hR : FRel S n U β s a w) {k : TV → Option α} {fs : List (Nat × Nat)} {place : Nat → Option (Nat × Nat)} (hpl : ∀ f ft off, fs[f]? = some (ft, off) → place f = some (off, (tiOf S.E ft).size)) :
    ∀ (parts : List (Nat × Operand)) (T : Ty) (v : T.den) (cs : List Value), T.isAgg = true → EncM w U β s.heap false T v cs → buildC.go S.E s k fs T v parts = some r →
        ∃ z cells, k z = some r ∧ z.t.isAgg = true ∧ EncM w U β s.heap false z.t z.v cells.toList ∧ Instr.fill place cs.toArray (parts.map fun (i, x) => (i, a.eval x)) = some cells := by
  intro parts
  induction parts with
  | nil =>
    intro T v cs hg hv h
    simp only [buildC.go] at h
    exact ⟨⟨T, v⟩, cs.toArray, h, hg, by simpa using hv, by simp [Instr.fill]⟩
  | cons p parts ih =>
    obtain ⟨f, x⟩ := p
    intro T v cs hg hv h
    simp only [buildC.go] at h
    split at h
    · rename_i ft off hf
      obtain ⟨h1, h⟩ := bif_some h
      obtain ⟨h1, h2⟩ := and2 h1
      obtain ⟨h1, h3⟩ := and2 h1
      obtain ⟨h1, h10⟩ := and2 h1
      obtain ⟨h4, h5, h6⟩ := and3 h1
      obtain ⟨l1, m, l2, rfl, h7, h8, h9⟩ := chGet_split T v f cs (bltN h5) hv
      have he := hR.ev ft x
      have hu : (ev S.E s ft x).t.isUnk = false := by simpa using h2
      have hx := (he.resolve_left (by rw [hu]; simp)).2
      have hlenv := hx.len
      have hsz : (a.eval x).cells.size = (tiOf S.E ft).size := by rw [← beqN h6, ← hlenv]; simp
      have hsplit := h9 _ _ hx
      have hm : m.length = (tiOf S.E ft).size := by
        rw [h8.len, chGet_ty]
        exact beqN h10
      obtain ⟨z, cells, g1, g2, g3, g4⟩ := ih _ _ _ (chSet_agg T v f _ (bltN h5)) hsplit h
      refine ⟨z, cells, g1, g2, g3, ?_⟩
      rw [List.map_cons, fill_step (l1 := l1) (m := m) (l2 := l2) (off := off) (size := (tiOf S.E ft).size) (hpl f ft off hf) (by rw [h7]; exact beqN h4) hm hsz]
      exact g4
    · cases h

theorem buildC_ok (hT : TIok S.P S.E) (hR : FRel S n U β s a w) {t : Nat} {init : TV} {parts : List (Nat × Operand)} {k : TV → Option α} (h : buildC S.E s t init parts k = some r)
    (hi : (tiOf S.E t).ty.isAgg = true → (tiOf S.E t).ty.zOK = true → init.t.isAgg = true ∧ EncM w U β s.heap false init.t init.v (zcells (tiOf S.E t).ty)) :
    ∃ z v, k z = some r ∧ EncV w U β s.heap z v ∧ (Instr.build t (parts.map fun (i, x) => (i, a.eval x)).toArray).run S.P w = .ok v w := by
  unfold buildC at h
  split at h
  · rename_i fs htd
    obtain ⟨h1, h⟩ := bif_some h
    obtain ⟨hz, hall⟩ := and2 h1
    obtain ⟨info, d, hK⟩ := hT.known_td (t := t) (by rw [htd]; simp)
    obtain ⟨F, rfl, hF⟩ := td_struct (hK.td.trans htd)
    have hp := places_ok hT F.toList (by
      rw [← hF] at hall
      simpa [List.all_map] using hall)
    have hzero := hK.zero hz
    obtain ⟨z, cells, h1, h2, h3, h4⟩ := fill_go (a := a) hR (place := ((F.toList.map fun f => (f.offset, (tiOf S.E f.type).size)).toArray[·]?)) (fun f ft off hf => by
      obtain ⟨fl, hfl, rfl, rfl⟩ := field_at hF hf
      simp [hfl]) parts _ _ _ (hi (by rw [← hK.agg]; rfl) hz).1 (hi (by rw [← hK.agg]; rfl) hz).2 h
    refine ⟨z, .agg cells, h1, .inr ⟨by rw [h2]; rfl, h3⟩, ?_⟩
    apply run_build
    unfold Program.built
    rw [hK.inf, hK.und]
    simp only [hzero, hp]
    rw [show (zval (tiOf S.E t).ty).cells = (zcells (tiOf S.E t).ty).toArray from by rw [← zval_cells _ hz]]
    exact h4
  · rename_i m e htd
    obtain ⟨h1, h⟩ := bif_some h
    obtain ⟨hz, hsome⟩ := and2 h1
    obtain ⟨info, d, hK⟩ := hT.known_td (t := t) (by rw [htd]; simp)
    obtain rfl := td_arr (hK.td.trans htd)
    obtain ⟨i', hi'⟩ := Option.isSome_iff_exists.1 hsome
    obtain ⟨info', d', q1, _, _, q4, _⟩ := hT.ok _ _ hi'
    have hsz : info'.size = (tiOf S.E e).size := by simp [tiOf, hi', q4]
    have hzero := hK.zero hz
    obtain ⟨z, cells, h1, h2, h3, h4⟩ := fill_go (a := a) hR (place := fun i => some (i * info'.size, info'.size)) (fun f ft off hf => by
      unfold arrFs at hf
      by_cases hlt : f < m
      · simp [List.getElem?_map, List.getElem?_range hlt] at hf
        obtain ⟨rfl, rfl⟩ := hf
        rw [hsz]
      · simp [List.getElem?_map, List.getElem?_eq_none (show (List.range m).length ≤ f by simpa using Nat.not_lt.1 hlt)] at hf) parts _ _ _ (hi (by rw [← hK.agg]; rfl) hz).1 (hi (by rw [← hK.agg]; rfl) hz).2 h
    refine ⟨z, .agg cells, h1, .inr ⟨by rw [h2]; rfl, h3⟩, ?_⟩
    apply run_build
    unfold Program.built
    rw [hK.inf, hK.und]
    simp only [hzero, q1]
    rw [show (zval (tiOf S.E t).ty).cells = (zcells (tiOf S.E t).ty).toArray from by rw [← zval_cells _ hz]]
    exact h4
  · cases h
end
end Go.Dp
/- New variables, new rows. -/
set_option autoImplicit false
set_option linter.unusedVariables false
set_option linter.unusedSimpArgs false
namespace Go.Dp
open Go.RowKit

section
variable {S : Base} {n : Nat} {U : Nat → Prop} {β : Nat → Blk} {s : St} {a : Act} {w : World} {α : Type} {k : St → Option α} {r : α} {h : Hint} {Q : Exit → Act → World → Prop} {o : Oper}

theorem run_newVar (P : Program) (w : World) (t : TypeId) (v : Value) : (newVar t v).run P w = .ok ⟨w.heap.size, 0, none⟩ (w.alloc (.cells v.cells t)) := by
  simp [newVar, newRow, newObj, Sem.run]

theorem zOK_notObj {T : Ty} (h : T.zOK = true) : T.isObj = false := by
  cases T <;> simp_all [Ty.zOK, Ty.isObj]

/-- A variable of the machine's own, in a block of its own. -/
theorem ObjAt.new {β' : Nat → Blk} {H' : Heap} {B id : Nat} {x : TV} {v : Value} {el : TypeId} (hU : ∀ b, U b → b < w.heap.size) (hB : B ≤ w.heap.size) (hg : hget H' id = x) (hx : x.t.isObj = false) (hb : (β' id).blk = some w.heap.size) (hc : (β' id).cap = el)
    (he : EncM (w.alloc (.cells v.cells el)) U β' H' false x.t x.v v.cells.toList) : ObjAt (w.alloc (.cells v.cells el)) U β' H' B id := by
  unfold ObjAt
  rw [hg]
  obtain ⟨t, y⟩ := x
  have key : ∃ b cs el' fr, (β' id).blk = some b ∧ B ≤ b ∧ ¬ U b ∧ (w.alloc (.cells v.cells el)).heap[b]? = some (.cells cs el' fr) ∧ (∀ j, j < cs.size → ¬ (fr.1 ≤ j ∧ j < fr.2)) ∧ EncM (w.alloc (.cells v.cells el)) U β' H' false t y cs.toList ∧ (β' id).cap = el' :=
    ⟨w.heap.size, v.cells, el, (0, 0), hb, hB, fun hu => by have := hU _ hu; omega, heap_alloc_at w _, fun j _ => by simp, he, hc⟩
  cases t <;> first | (simp [Ty.isObj] at hx; done) | exact key

/-- The step to a new variable. -/
theorem new_ok (hn : h.n = n) (hR : FRel S n U β s a w) {x : TV} {v : Value} {el : TypeId} (hx : EncV w U β s.heap x v) (hu : x.t.isUnk = false) (ho : x.t.isObj = false)
    (hrun : (execOp a.eval o).run S.P w = .ok (.value (.pointer (some ⟨w.heap.size, 0, none⟩))) (w.alloc (.cells v.cells el)))
    (hk : putC h ⟨s.regs, s.heap ++ [x], s.app⟩ o.dst ⟨.loc s.heap.length false [], (0 : Nat)⟩ k = some r) : o.wp S.P a w (Handed S n U β s w k r) Q := by
  unfold Oper.wp
  rw [hrun]
  have hbel := below_new w (.cells v.cells el)
  have hA : Adv w U β s.heap (w.alloc (.cells v.cells el)) U (setB β s.heap.length ⟨some w.heap.size, el⟩) (s.heap ++ [x]) s.app := Adv.push hR.wrel.uin hbel x _ (fun b e => by cases e; exact Nat.le_refl _)
  have hnr : ∀ e xs, x ≠ ⟨.row e, xs⟩ := fun e xs e' => by rw [e'] at ho; cases ho
  have hP := hR.push hbel (x := x) (bl := ⟨some w.heap.size, el⟩) (fun b e => by cases e; exact Nat.le_refl _)
    (ObjAt.new hR.wrel.uin hR.wrel.below.size hget_append_at ho (by simp [setB]) (by simp [setB])
      ((hx.resolve_left (by rw [hu]; simp)).2.adv (Adv.push (app := []) hR.wrel.uin hbel x ⟨some w.heap.size, el⟩ (fun b e => by cases e; exact Nat.le_refl _)) _ _ _ _ (avoids_nil _)))
  refine putC_ok hn hP (.inr ⟨rfl, ?_⟩) hA (fun _ _ h => h) hk
  simp only [EncM, Value.cells]
  refine ⟨w.heap.size, 0, rfl, by simp, by simp [setB], ?_⟩
  rw [hget_append_at]
  exact ⟨hnr, rfl, rfl⟩

/-- The step to a new variable: its value is read where it lies. -/
theorem new_ok' (hn : h.n = n) (hR : FRel S n U β s a w) {x : TV} {v : Value} {el : TypeId} (hx : EncM (w.alloc (.cells v.cells el)) U (setB β s.heap.length ⟨some w.heap.size, el⟩) (s.heap ++ [x]) false x.t x.v v.cells.toList) (ho : x.t.isObj = false)
    (hrun : (execOp a.eval o).run S.P w = .ok (.value (.pointer (some ⟨w.heap.size, 0, none⟩))) (w.alloc (.cells v.cells el)))
    (hk : putC h ⟨s.regs, s.heap ++ [x], s.app⟩ o.dst ⟨.loc s.heap.length false [], (0 : Nat)⟩ k = some r) : o.wp S.P a w (Handed S n U β s w k r) Q := by
  unfold Oper.wp
  rw [hrun]
  have hbel := below_new w (.cells v.cells el)
  have hA : Adv w U β s.heap (w.alloc (.cells v.cells el)) U (setB β s.heap.length ⟨some w.heap.size, el⟩) (s.heap ++ [x]) s.app := Adv.push hR.wrel.uin hbel x _ (fun b e => by cases e; exact Nat.le_refl _)
  have hnr : ∀ e xs, x ≠ ⟨.row e, xs⟩ := fun e xs e' => by rw [e'] at ho; cases ho
  have hP := hR.push hbel (x := x) (bl := ⟨some w.heap.size, el⟩) (fun b e => by cases e; exact Nat.le_refl _)
    (ObjAt.new hR.wrel.uin hR.wrel.below.size hget_append_at ho (by simp [setB]) (by simp [setB])
      hx)
  refine putC_ok hn hP (.inr ⟨rfl, ?_⟩) hA (fun _ _ h => h) hk
  simp only [EncM, Value.cells]
  refine ⟨w.heap.size, 0, rfl, by simp, by simp [setB], ?_⟩
  rw [hget_append_at]
  exact ⟨hnr, rfl, rfl⟩

theorem box_ok (hn : h.n = n) (hR : FRel S n U β s a w) {e : TypeId} {x : Operand} (hop : o.op = .box e x) (hu : (ev S.E s e x).t.isUnk = false) (ho : (ev S.E s e x).t.isObj = false)
    (hk : putC h ⟨s.regs, s.heap ++ [ev S.E s e x], s.app⟩ o.dst ⟨.loc s.heap.length false [], (0 : Nat)⟩ k = some r) : o.wp S.P a w (Handed S n U β s w k r) Q :=
  new_ok hn hR (hR.ev e x) hu ho (el := e) (by simp only [execOp, hop, Instr.box, Sem.run_bind, run_newVar, Result.andThen_ok, Sem.run_pure]) hk

theorem alloc_ok (hT : TIok S.P S.E) (hn : h.n = n) (hR : FRel S n U β s a w) {e : TypeId} (hop : o.op = .alloc e) (hc : (tiOf S.E e).ty.csize = (tiOf S.E e).size) (hz : (tiOf S.E e).ty.zOK = true) (hkn : ∃ info d, Known S.P S.E e info d)
    (hk : putC h ⟨s.regs, s.heap ++ [⟨(tiOf S.E e).ty, (tiOf S.E e).ty.dflt⟩], s.app⟩ o.dst ⟨.loc s.heap.length false [], (0 : Nat)⟩ k = some r) : o.wp S.P a w (Handed S n U β s w k r) Q := by
  obtain ⟨info, d, hK⟩ := hkn
  refine new_ok hn hR (zval_ok _ hz) (by generalize (tiOf S.E e).ty = T at *; cases T <;> simp_all [Ty.zOK, Ty.isUnk]) (zOK_notObj hz) (el := e) ?_ hk
  simp only [execOp, hop, Instr.alloc, zeroValue, Sem.run_bind, hK.runT, Result.andThen_ok, hK.zero hz, Sem.run_pure, run_newVar]

/-- A value in a new block that may only be read. -/
theorem boxImm_ok (hn : h.n = n) (hR : FRel S n U β s a w) {e : TypeId} {x : Operand} (hop : o.op = .box e x) (hu : (ev S.E s e x).t.isUnk = false) (hp : (ev S.E s e x).t.pure = true)
    (hk : putC h s o.dst ⟨.ref (ev S.E s e x).t, (ev S.E s e x).v⟩ k = some r) : o.wp S.P a w (Handed S n U β s w k r) Q := by
  unfold Oper.wp
  have hrun : (execOp a.eval o).run S.P w = .ok (.value (.pointer (some ⟨w.heap.size, 0, none⟩))) (w.alloc (.cells (a.eval x).cells e)) := by
    simp only [execOp, hop, Instr.box, Sem.run_bind, run_newVar, Result.andThen_ok, Sem.run_pure]
  rw [hrun]
  have hbel := below_new w (.cells (a.eval x).cells e)
  have hG := hR.grow hbel (withB_grow w (.cells (a.eval x).cells e) U)
  have hA : Adv w U β s.heap (w.alloc (.cells (a.eval x).cells e)) (withB U w.heap.size) β s.heap s.app := Adv.grow hbel.block hR.wrel.uin (fun b hb => .inl hb) (withB_un w U)
  refine putC_ok hn hG (.inr ⟨rfl, ?_⟩) hA (fun _ _ h => h) hk
  simp only [EncM, Value.cells]
  refine ⟨w.heap.size, 0, (a.eval x).cells.toList, rfl, .inr rfl, ?_, cellsAt_block (heap_alloc_at w _)⟩
  exact ((hR.ev e x).resolve_left (by rw [hu]; simp)).2.adv (app := []) (Adv.grow hbel.block hR.wrel.uin (fun b hb => .inl hb) (withB_un w U)) _ _ _ _ (avoids_nil _)

/-- A string's iterator. -/
theorem range_ok (hT : TIok S.P S.E) (hn : h.n = n) (hR : FRel S n U β s a w) {t : TypeId} {x : Operand} {b : List UInt8} (hop : o.op = .range t x) (htd : (tiOf S.E t).td = .str) (hx : ev S.E s t x = ⟨.str, b⟩)
    (hk : putC h ⟨s.regs, s.heap ++ [⟨.iter, (b, 0)⟩], s.app⟩ o.dst ⟨.loc s.heap.length false [], (0 : Nat)⟩ k = some r) : o.wp S.P a w (Handed S n U β s w k r) Q := by
  obtain ⟨info, d, hK⟩ := hT.known_td (t := t) (by rw [htd]; simp)
  obtain rfl := td_str (hK.td.trans htd)
  have hv := hR.ev t x
  rw [hx] at hv
  have hv := hv.str
  unfold Oper.wp
  have hrun : (execOp a.eval o).run S.P w = .ok (.value (.pointer (some ⟨w.heap.size, 0, none⟩))) (w.alloc (.stringIter ⟨b.toArray⟩ 0)) := by
    simp only [execOp, hop, hv, Instr.range, Sem.run_bind, hK.runU, Result.andThen_ok, Sem.run_pure, newObj, Sem.run]
    rfl
  rw [hrun]
  have hbel := below_new w (.stringIter ⟨b.toArray⟩ 0)
  have hA : Adv w U β s.heap (w.alloc (.stringIter ⟨b.toArray⟩ 0)) U (setB β s.heap.length ⟨some w.heap.size, 0⟩) (s.heap ++ [⟨.iter, (b, 0)⟩]) s.app := Adv.push hR.wrel.uin hbel _ _ (fun b e => by cases e; exact Nat.le_refl _)
  have hP := hR.push hbel (x := ⟨.iter, (b, 0)⟩) (bl := ⟨some w.heap.size, 0⟩) (fun b e => by cases e; exact Nat.le_refl _) (by
    unfold ObjAt
    rw [hget_append_at]
    exact ⟨w.heap.size, by simp [setB], hR.wrel.below.size, fun hu => by have := hR.wrel.uin _ hu; omega, heap_alloc_at w _⟩)
  refine putC_ok hn hP (.inr ⟨rfl, ?_⟩) hA (fun _ _ h => h) hk
  simp only [EncM, Value.cells]
  refine ⟨w.heap.size, 0, rfl, by simp, by simp [setB], ?_⟩
  rw [hget_append_at]
  exact ⟨fun e xs e' => (by cases e'), rfl, rfl⟩

theorem parts_zip : ∀ (parts : List (Nat × Operand)) (i : Nat), partsInOrder i parts = true → parts.map (fun (p : Nat × Operand) => (p.1, a.eval p.2)) = ((parts.map fun p => a.eval p.2).zipIdx i).map fun x => (x.2, x.1) := by
  intro parts
  induction parts with
  | nil => intro i _; rfl
  | cons p parts ih =>
    obtain ⟨j, x⟩ := p
    intro i h
    simp only [partsInOrder, Bool.and_eq_true] at h
    have := beqN h.1
    subst this
    simp only [List.map_cons, List.zipIdx_cons]
    rw [ih _ h.2]

theorem cast_some {t : Ty} {x : TV} {y : t.den} (h : cast t x = some y) : x = ⟨t, y⟩ := by
  unfold cast at h
  split at h
  · rename_i e
    obtain ⟨u, v⟩ := x
    subst e
    cases h
    rfl
  · cases h

theorem rowOf_ok {e : Ty} : ∀ (l : List TV) (ys : List e.den), rowOf e l = some ys → l = ys.map fun y => (⟨e, y⟩ : TV) := by
  intro l
  induction l with
  | nil => intro ys h; simp [rowOf] at h; subst h; rfl
  | cons x l ih =>
    intro ys h
    simp only [rowOf] at h
    split at h
    · rename_i y ys' h1 h2
      cases h
      rw [List.map_cons, ← ih _ h2, ← cast_some h1]
    · cases h

/-- The cells of a slice's parts side by side. -/
theorem flat_cells {c : Nat} : ∀ (vs : List Value), (∀ v ∈ vs, v.cells.size = c) → ∀ (i : Nat) (hi : i < vs.length) (j : Nat), j < c → (vs.flatMap fun v => v.cells.toList)[i * c + j]? = (vs[i]).cells.toList[j]? := by
  intro vs
  induction vs with
  | nil => intro _ i hi; simp at hi
  | cons v vs ih =>
    intro hc i hi j hj
    have hv : v.cells.toList.length = c := by simpa using hc v List.mem_cons_self
    rw [List.flatMap_cons]
    cases i with
    | zero => rw [List.getElem?_append_left (by omega)]; simp
    | succ i =>
      rw [List.getElem?_append_right (by rw [hv, Nat.succ_mul]; omega), hv, Nat.succ_mul]
      have e : i * c + c + j - c = i * c + j := by omega
      rw [e, ih (fun u hu => hc u (List.mem_cons_of_mem _ hu)) i (by simpa using hi) j hj]
      simp

theorem flat_len {c : Nat} : ∀ (vs : List Value), (∀ v ∈ vs, v.cells.size = c) → (vs.flatMap fun v => v.cells.toList).length = vs.length * c := by
  intro vs
  induction vs with
  | nil => intro _; simp
  | cons v vs ih =>
    intro hc
    have hv : v.cells.toList.length = c := by simpa using hc v List.mem_cons_self
    rw [List.flatMap_cons, List.length_append, hv, ih fun u hu => hc u (List.mem_cons_of_mem _ hu), List.length_cons, Nat.succ_mul]
    omega

theorem zval_size {T : Ty} (h : T.zOK = true) : (zval T).cells.size = T.csize := by
  have := (zcells_ok (w := default) (U := fun _ => False) (β := fun _ => ⟨none, 0⟩) (H := []) T h).len
  rw [← Array.length_toList, zval_cells T h, this]

/-- The model's own step at a slice by its parts. -/
theorem run_slice_parts (hT : TIok S.P S.E) {t len et : Nat} {vs : List Value} (htd : (tiOf S.E t).td = .slice et) (hz : (tiOf S.E et).ty.zOK = true) (h0 : 0 < (tiOf S.E et).size) (hl : vs.length = len) (hsmall : len * (tiOf S.E et).size ≤ 16777216)
    (hkn : ∃ info d, Known S.P S.E et info d) (hcs : (tiOf S.E et).ty.csize = (tiOf S.E et).size) (hc : ∀ v ∈ vs, v.cells.size = (tiOf S.E et).size) (w : World) :
    (Instr.buildSlice t len ((vs.zipIdx 0).map fun x => (x.2, x.1)).toArray).run S.P w = .ok (.slice (some ⟨w.heap.size, 0, none⟩) len len) (w.alloc (.cells (vs.flatMap fun v => v.cells.toList).toArray et)) := by
  obtain ⟨info, d, hK⟩ := hT.known_td (t := t) (by rw [htd]; simp)
  obtain rfl := td_slice (hK.td.trans htd)
  obtain ⟨info', d', hK'⟩ := hkn
  by_cases hlen : len = 0
  · subst hlen
    have : vs = [] := List.eq_nil_of_length_eq_zero hl
    subst this
    simp only [Instr.buildSlice, Sem.run_bind, hK.runU, Result.andThen_ok, hK'.runS, Nat.zero_mul, Sem.run_ite]
    have e0 : Array.range 0 = #[] := by apply Array.ext' ; simp
    simp [Instr.fill, newRow, newObj, Sem.run, e0]
  · have hpos : 0 < len * (tiOf S.E et).size := Nat.mul_pos (by omega) h0
    refine run_buildSlice w t et len _ _ info' _ hK.und hK'.inf (hK'.zero hz) (by rw [hK'.size]; omega) (by rw [hK'.size]; omega) ?_
    rw [hK'.size]
    refine Great.fill_whole h0 vs _ hc ?_
    simp [hl]
end
end Go.Dp
/- Slices by their parts. -/
set_option autoImplicit false
set_option linter.unusedVariables false
set_option linter.unusedSimpArgs false
namespace Go.Dp
open Go.RowKit

section
variable {S : Base} {n : Nat} {U : Nat → Prop} {β : Nat → Blk} {s : St} {a : Act} {w : World} {α : Type} {k : St → Option α} {r : α} {h : Hint} {Q : Exit → Act → World → Prop} {o : Oper}

theorem chMk_chain {w : World} {U : Nat → Prop} {β : Nat → Blk} {H : Heap} : ∀ (l : List TV) (vs : List Value), l.length = vs.length → (∀ i (h : i < l.length) (h' : i < vs.length), EncV w U β H l[i] vs[i]) → EncM w U β H true (chMk l).t (chMk l).v vs := by
  intro l
  induction l with
  | nil =>
    intro vs hl _
    have : vs = [] := List.eq_nil_of_length_eq_zero hl.symm
    subst this
    simp [chMk, EncM]
  | cons x l ih =>
    intro vs hl hx
    cases vs with
    | nil => simp at hl
    | cons v vs =>
      simp only [chMk, EncM]
      exact ⟨v, vs, rfl, hx 0 (by simp) (by simp), ih vs (by simpa using hl) fun i h h' => hx (i + 1) (by simpa using h) (by simpa using h')⟩

theorem chMk_len : ∀ l : List TV, chLen (chMk l).t = l.length := by
  intro l
  induction l with
  | nil => rfl
  | cons x l ih => simp [chMk, chLen, ih]

theorem ty_unk_of_zOK {T : Ty} (h : T.zOK = true) : T.isUnk = false := by
  cases T <;> simp_all [Ty.zOK, Ty.isUnk]

theorem idxN_ok : ∀ (fs : List Nat) (i f j : Nat), idxN fs i f = some j → i ≤ j ∧ fs[j - i]? = some f := by
  intro fs
  induction fs with
  | nil => intro i f j h; cases h
  | cons g fs ih =>
    intro i f j h
    simp only [idxN] at h
    cases hb : Nat.beq g f with
    | true =>
      rw [hb] at h
      cases h
      exact ⟨Nat.le_refl _, by rw [Nat.sub_self]; simp [beqN hb]⟩
    | false =>
      rw [hb] at h
      obtain ⟨h1, h2⟩ := ih _ _ _ h
      refine ⟨by omega, ?_⟩
      rw [show j - i = (j - (i + 1)) + 1 by omega]
      simpa using h2
theorem coeU_ok {w : World} {U : Nat → Prop} {β : Nat → Blk} {H : Heap} : ∀ (T u : Ty) (v : u.den) (y : T.den) (cs : List Value), coeU T u v = some y → EncM w U β H false u v cs → EncM w U β H false T y cs ∧ T.isAgg = u.isAgg := by
  have hc : ∀ (T u : Ty) (v : u.den) (y : T.den) (cs : List Value), cast T ⟨u, v⟩ = some y → EncM w U β H false u v cs → EncM w U β H false T y cs ∧ T.isAgg = u.isAgg := by
    intro T u v y cs h he
    have := cast_some h
    cases this
    exact ⟨he, rfl⟩
  intro T
  induction T with
  | fnu fs =>
    intro u v y cs h he
    cases u with
    | fn g c =>
      cases c with
      | snil =>
        obtain ⟨_, h2⟩ := idxN_ok _ _ _ _ h
        simp only [EncM] at he ⊢
        obtain ⟨vs, rfl, hvs⟩ := he
        have : vs = #[] := by apply Array.ext'; simpa [EncM] using hvs
        subst this
        exact ⟨⟨g, by simpa using h2, rfl⟩, rfl⟩
      | _ => exact hc _ _ _ _ _ h he
    | _ => exact hc _ _ _ _ _ h he
  | scons a r iha ihr =>
    intro u v y cs h he
    cases u with
    | scons b s =>
      simp only [coeU] at h
      split at h
      · rename_i x1 y1 h1 h2
        cases h
        simp only [EncM] at he ⊢
        obtain ⟨l1, l2, rfl, g1, g2⟩ := he
        exact ⟨⟨l1, l2, rfl, (iha _ _ _ _ h1 g1).1, (ihr _ _ _ _ h2 g2).1⟩, rfl⟩
      · cases h
    | _ => exact hc _ _ _ _ _ h he
  | _ => intro u v y cs h he; exact hc _ _ _ _ _ h he
theorem coeL_ok {w : World} {U : Nat → Prop} {β : Nat → Blk} {H : Heap} {T : Ty} (hT : T.isUnk = false) : ∀ (l : List TV) (ys : List T.den), coeL T l = some ys → ys.length = l.length ∧
    ∀ i (h1 : i < l.length) (h2 : i < ys.length) (v : Value), EncV w U β H l[i] v → l[i].t.isUnk = false → EncV w U β H ⟨T, ys[i]⟩ v := by
  intro l
  induction l with
  | nil => intro ys h; cases h; exact ⟨rfl, fun i h1 => absurd h1 (by simp)⟩
  | cons x l ih =>
    intro ys h
    simp only [coeL] at h
    split at h
    · rename_i y ys' h1 h2
      cases h
      obtain ⟨h3, h4⟩ := ih _ h2
      refine ⟨by simp [h3], fun i hi hi2 v hv hu => ?_⟩
      cases i with
      | zero =>
        rcases hv with hv | ⟨hv, hw⟩
        · simp only [List.getElem_cons_zero] at hu hv; rw [hu] at hv; cases hv
        · obtain ⟨g1, g2⟩ := coeU_ok _ _ _ _ _ h1 hw
          exact .inr ⟨hv.trans g2.symm, g1⟩
      | succ i => exact h4 i (by simpa using hi) (by simpa using hi2) v hv hu
    · cases h
theorem uniRow_ok {w : World} {U : Nat → Prop} {β : Nat → Blk} {H : Heap} {T : Ty} {l : List TV} {ys : List T.den} (hT : T.isUnk = false) (h : uniRow l = some ⟨T, ys⟩) : ys.length = l.length ∧
    ∀ i (h1 : i < l.length) (h2 : i < ys.length) (v : Value), EncV w U β H l[i] v → l[i].t.isUnk = false → EncV w U β H ⟨T, ys[i]⟩ v := by
  unfold uniRow at h
  split at h
  · cases h
  · split at h
    · split at h
      · rename_i ys' h2
        cases h
        exact coeL_ok hT _ _ h2
      · cases h
    · cases h

theorem buildSliceC_ok (hT : TIok S.P S.E) (hn : h.n = n) (hR : FRel S n U β s a w) {t len : Nat} {parts : Array (Nat × Operand)} (hop : o.op = .buildSlice t len parts)
    (hk : buildSliceC S.E h s o.dst t len parts.toList k = some r) : o.wp S.P a w (Handed S n U β s w k r) Q := by
  unfold buildSliceC at hk
  split at hk
  · rename_i et htd
    obtain ⟨h1, hk⟩ := bif_some hk
    obtain ⟨h1, hsm⟩ := and2 h1
    obtain ⟨h1, hpos⟩ := and2 h1
    obtain ⟨h1, hcs⟩ := and2 h1
    obtain ⟨h1, hz⟩ := and2 h1
    obtain ⟨hlen, hord⟩ := and2 h1
    have hlen := beqN hlen
    have hcs := beqN hcs
    have hpos := bltN hpos
    have hsm : len * (tiOf S.E et).size ≤ 16777216 := Nat.le_of_ble_eq_true hsm
    have hkn : ∃ info d, Known S.P S.E et info d := hT.known_size (by omega)
    let vs := parts.toList.map fun p => a.eval p.2
    have hvl : vs.length = len := by simpa [vs] using hlen
    have hparts : (parts.map fun (i, x) => (i, a.eval x)) = ((vs.zipIdx 0).map fun x => (x.2, x.1)).toArray := by
      rw [← parts_zip parts.toList 0 hord]
      apply Array.ext'
      simp
    have hev : ∀ i (h : i < vs.length) (h' : i < (parts.toList.map fun p => ev S.E s et p.2).length), EncV w U β s.heap (parts.toList.map fun p => ev S.E s et p.2)[i] vs[i] := by
      intro i h h'
      simp only [vs, List.getElem_map]
      exact hR.ev et _
    have hrun : ∀ (hc : ∀ v ∈ vs, v.cells.size = (tiOf S.E et).size), (execOp a.eval o).run S.P w = .ok (.value (.slice (some ⟨w.heap.size, 0, none⟩) len len)) (w.alloc (.cells (vs.flatMap fun v => v.cells.toList).toArray et)) := by
      intro hc
      simp only [execOp, hop, hparts, Sem.run_bind, run_slice_parts hT htd hz hpos hvl hsm hkn hcs hc w, Result.andThen_ok, Sem.run_pure]
    simp only at hk
    split at hk
    · rename_i ys hys
      obtain ⟨helem, hk⟩ := bif_none hk
      have helem : (tiOf S.E et).ty.elem = true := by simpa using helem
      have hl := rowOf_ok _ _ hys
      have hyl : ys.length = len := by rw [← hvl]; have := congrArg List.length hl; simpa [vs] using this.symm
      have hu := ty_unk_of_zOK hz
      have hel : ∀ i (hi : i < ys.length) (hi' : i < vs.length), EncM w U β s.heap false (tiOf S.E et).ty ys[i] (vs[i]).cells.toList := by
        intro i hi hi'
        have := hev i hi' (by rw [hl]; simpa using hi)
        simp only [hl, List.getElem_map] at this
        exact (this.resolve_left (by rw [hu]; simp)).2
      have hc : ∀ v ∈ vs, v.cells.size = (tiOf S.E et).size := by
        intro v hv
        obtain ⟨i, hi, rfl⟩ := List.getElem_of_mem hv
        have := (hel i (by omega) hi).len
        rw [← Array.length_toList, this, hcs]
      have hbel := below_new w (.cells (vs.flatMap fun v => v.cells.toList).toArray et)
      have hat : ∀ i (hi : i < ys.length) (hi' : i < vs.length) (j : Nat) (hj : j < (vs[i]).cells.toList.length), (vs.flatMap fun v => v.cells.toList).toArray[i * (tiOf S.E et).ty.csize + j]? = some (vs[i]).cells.toList[j] := by
        intro i hi hi' j hj
        have hj' : j < (tiOf S.E et).size := by rw [← hc _ (List.getElem_mem hi')]; simpa using hj
        rw [List.getElem?_toArray, hcs, flat_cells vs hc i hi' j hj', List.getElem?_eq_getElem hj]
      cases hown : h.isOwn o.dst with
      | true =>
        rw [hown] at hk
        simp only [cond_true] at hk
        unfold Oper.wp
        rw [hrun hc]
        have hA : Adv w U β s.heap (w.alloc (.cells (vs.flatMap fun v => v.cells.toList).toArray et)) U (setB β s.heap.length ⟨some w.heap.size, len⟩) (s.heap ++ [⟨.row (tiOf S.E et).ty, ys⟩]) s.app := Adv.push hR.wrel.uin hbel _ _ (fun b e => by cases e; exact Nat.le_refl _)
        have hP := hR.push hbel (x := ⟨.row (tiOf S.E et).ty, ys⟩) (bl := ⟨some w.heap.size, len⟩) (fun b e => by cases e; exact Nat.le_refl _) (by
          unfold ObjAt
          rw [hget_append_at]
          refine ⟨helem, .inr ⟨w.heap.size, _, et, (0, 0), by simp [setB], hR.wrel.below.size, fun hu => by have := hR.wrel.uin _ hu; omega, heap_alloc_at w _, ?_, by simp [setB]; omega, fun j _ => by simp, fun i hi => ?_⟩⟩
          · simp [setB, flat_len vs hc, hvl, hcs]
          · have hi' : i < vs.length := by omega
            exact ⟨_, (hel i hi hi').adv (app := []) (Adv.push hR.wrel.uin hbel _ _ (fun b e => by cases e; exact Nat.le_refl _)) _ _ _ _ (avoids_nil _), fun j hj => hat i hi hi' j hj⟩)
        refine putC_ok hn hP (.inr ⟨rfl, ?_⟩) hA (fun _ _ h => h) hk
        simp only [EncM, Value.cells]
        exact ⟨(tiOf S.E et).ty, ys, by simp, hget_append_at, by simp [setB, hyl]⟩
      | false =>
        rw [hown] at hk
        simp only [cond_false] at hk
        cases hfz : h.isFrz o.dst with
        | false =>
          rw [hfz] at hk
          simp only [cond_false] at hk
          unfold Oper.wp
          rw [hrun hc]
          have hG := hR.grow hbel (withB_grow w (.cells (vs.flatMap fun v => v.cells.toList).toArray et) U)
          have hA : ∀ app, Adv w U β s.heap (w.alloc (.cells (vs.flatMap fun v => v.cells.toList).toArray et)) (withB U w.heap.size) β s.heap app := fun app => Adv.grow hbel.block hR.wrel.uin (fun b hb => .inl hb) (withB_un w U)
          refine putC_ok hn hG (.inr ⟨rfl, ?_⟩) (hA _) (fun _ _ h => h) hk
          simp only [EncM, Value.cells]
          refine ⟨some ⟨w.heap.size, 0, none⟩, len, by rw [hyl], by omega, fun hp => ⟨w.heap.size, 0, rfl, .inr rfl, fun i hi => ?_⟩⟩
          have hi' : i < vs.length := by omega
          refine ⟨_, (hel i hi hi').adv (hA []) _ _ _ _ (avoids_nil _), fun j hj => ?_⟩
          simp only [World.cell?, heap_alloc_at, Nat.zero_add]
          exact hat i hi hi' j hj
        | true =>
          rw [hfz] at hk
          simp only [cond_true] at hk
          unfold Oper.wp
          rw [hrun hc]
          have hG := hR.grow hbel (withB_grow w (.cells (vs.flatMap fun v => v.cells.toList).toArray et) U)
          have hA : ∀ app, Adv w U β s.heap (w.alloc (.cells (vs.flatMap fun v => v.cells.toList).toArray et)) (withB U w.heap.size) β s.heap app := fun app => Adv.grow hbel.block hR.wrel.uin (fun b hb => .inl hb) (withB_un w U)
          refine putC_ok hn hG (.inr ⟨rfl, ?_⟩) (hA _) (fun _ _ h => h) hk
          simp only [EncM, Value.cells]
          refine ⟨some ⟨w.heap.size, 0, none⟩, len, by rw [hyl], by omega, fun hp => ⟨w.heap.size, 0, rfl, .inr rfl, fun i hi => ?_⟩⟩
          have hi' : i < vs.length := by omega
          refine ⟨_, (hel i hi hi').adv (hA []) _ _ _ _ (avoids_nil _), fun j hj => ?_⟩
          simp only [World.cell?, heap_alloc_at, Nat.zero_add]
          exact hat i hi hi' j hj
    · split at hk
      · rename_i T ys hU
        have hU : uniRow (parts.toList.map fun p => ev S.E s et p.2) = some ⟨T, ys⟩ := by
          cases hb : Nat.blt 1 (tiOf S.E et).size <;> rw [hb] at hU <;> first | exact hU | cases hU
        obtain ⟨h1, hk⟩ := bif_some hk
        obtain ⟨h1, hown⟩ := and2 h1
        obtain ⟨h1, hag⟩ := and2 h1
        obtain ⟨h1, hsz⟩ := and2 h1
        obtain ⟨helem, hunks⟩ := and2 h1
        have hsz := beqN hsz
        have hu : T.isUnk = false := by cases T <;> simp_all [Ty.isUnk, Ty.elem, Ty.pure]
        obtain ⟨hyl, hel0⟩ := uniRow_ok (w := w) (U := U) (β := β) (H := s.heap) hu hU
        have hyl : ys.length = len := by rw [hyl]; simpa using hlen
        have hel : ∀ i (hi : i < ys.length) (hi' : i < vs.length), EncM w U β s.heap false T ys[i] (vs[i]).cells.toList := by
          intro i hi hi'
          have hi2 : i < (parts.toList.map fun p => ev S.E s et p.2).length := by simpa [vs] using hi'
          have := hel0 i hi2 hi _ (hev i hi' hi2) (by have := List.all_eq_true.1 hunks _ (List.getElem_mem hi2); simpa using this)
          exact (this.resolve_left (by rw [hu]; simp)).2
        have hc : ∀ v ∈ vs, v.cells.size = (tiOf S.E et).size := by
          intro v hv
          obtain ⟨i, hi, rfl⟩ := List.getElem_of_mem hv
          have := (hel i (by omega) hi).len
          rw [← Array.length_toList, this, hsz]
        have hbel := below_new w (.cells (vs.flatMap fun v => v.cells.toList).toArray et)
        have hat : ∀ i (hi : i < ys.length) (hi' : i < vs.length) (j : Nat) (hj : j < (vs[i]).cells.toList.length), (vs.flatMap fun v => v.cells.toList).toArray[i * T.csize + j]? = some (vs[i]).cells.toList[j] := by
          intro i hi hi' j hj
          have hj' : j < (tiOf S.E et).size := by rw [← hc _ (List.getElem_mem hi')]; simpa using hj
          rw [List.getElem?_toArray, hsz, flat_cells vs hc i hi' j hj', List.getElem?_eq_getElem hj]
        unfold Oper.wp
        rw [hrun hc]
        have hG := hR.grow hbel (withB_grow w (.cells (vs.flatMap fun v => v.cells.toList).toArray et) U)
        have hA : ∀ app, Adv w U β s.heap (w.alloc (.cells (vs.flatMap fun v => v.cells.toList).toArray et)) (withB U w.heap.size) β s.heap app := fun app => Adv.grow hbel.block hR.wrel.uin (fun b hb => .inl hb) (withB_un w U)
        refine putC_ok hn hG (.inr ⟨rfl, ?_⟩) (hA _) (fun _ _ h => h) hk
        simp only [EncM, Value.cells]
        refine ⟨some ⟨w.heap.size, 0, none⟩, len, by rw [hyl], by omega, fun hp => ⟨w.heap.size, 0, rfl, .inr rfl, fun i hi => ?_⟩⟩
        have hi' : i < vs.length := by omega
        refine ⟨_, (hel i hi hi').adv (hA []) _ _ _ _ (avoids_nil _), fun j hj => ?_⟩
        simp only [World.cell?, heap_alloc_at, Nat.zero_add]
        exact hat i hi hi' j hj
      obtain ⟨h1, hk⟩ := bif_some hk
      obtain ⟨hall, hs1⟩ := and2 h1
      have hs1 := beqN hs1
      have hone : ∀ i (hi : i < vs.length), aggV vs[i] = false ∧ (vs[i]).cells = #[vs[i]] := by
        intro i hi
        have hi2 : i < (parts.toList.map fun p => ev S.E s et p.2).length := by simpa [vs] using hi
        have he := hev i hi hi2
        have hx := List.all_eq_true.1 hall _ (List.getElem_mem hi2)
        generalize (parts.toList.map fun p => ev S.E s et p.2)[i] = x at he hx
        obtain ⟨⟨hx1, hx2⟩, hx3⟩ := and2 hx |>.imp_left and2
        have hx2 : x.t.isAgg = false := by simpa using hx2
        have hx3 : x.t.isUnk = false := by simpa using hx3
        have := (he.resolve_left (by rw [hx3]; simp)).1
        rw [hx2] at this
        refine ⟨this, ?_⟩
        generalize vs[i] = v at this
        cases v <;> simp_all [aggV, Value.cells]
      have hc : ∀ v ∈ vs, v.cells.size = (tiOf S.E et).size := by
        intro v hv
        obtain ⟨i, hi, rfl⟩ := List.getElem_of_mem hv
        rw [(hone i hi).2, hs1]
        rfl
      have hflat : (vs.flatMap fun v => v.cells.toList) = vs := by
        have : ∀ v ∈ vs, v.cells.toList = [v] := by
          intro v hv
          obtain ⟨i, hi, rfl⟩ := List.getElem_of_mem hv
          rw [(hone i hi).2]
        clear_value vs
        clear hk hall hrun hev hparts hvl hone hc
        induction vs with
        | nil => rfl
        | cons v vs ih => rw [List.flatMap_cons, this v List.mem_cons_self, ih fun u hu => this u (List.mem_cons_of_mem _ hu)]; rfl
      have hbel := below_new w (.cells (vs.flatMap fun v => v.cells.toList).toArray et)
      unfold Oper.wp
      rw [hrun hc]
      have hG := hR.grow hbel (withB_grow w (.cells (vs.flatMap fun v => v.cells.toList).toArray et) U)
      have hA : ∀ app, Adv w U β s.heap (w.alloc (.cells (vs.flatMap fun v => v.cells.toList).toArray et)) (withB U w.heap.size) β s.heap app := fun app => Adv.grow hbel.block hR.wrel.uin (fun b hb => .inl hb) (withB_un w U)
      refine putC_ok hn hG (.inr ⟨rfl, ?_⟩) (hA _) (fun _ _ h => h) hk
      simp only [EncM]
      have hcl : chLen (chMk (parts.toList.map fun p => ev S.E s et p.2)).t = len := by rw [chMk_len]; simpa using hlen
      refine ⟨w.heap.size, 0, len, vs, by rw [hcl]; rfl, by omega, .inr rfl, ?_, ?_, ?_⟩
      · refine (chMk_chain (w := w) (U := U) (β := β) (H := s.heap) _ vs (by simp [vs]) fun i h h' => ?_).adv (hA []) _ _ _ _ (avoids_nil _)
        exact hev i h' h
      · intro v hv
        obtain ⟨i, hi, rfl⟩ := List.getElem_of_mem hv
        exact (hone i hi).1
      · have := cellsAt_block (heap_alloc_at w (.cells (vs.flatMap fun v => v.cells.toList).toArray et))
        rw [List.toList_toArray] at this
        intro j hj
        rw [this j (by rw [hflat]; exact hj)]
        exact congrArg some (List.getElem_of_eq hflat _)
  · cases hk

theorem size_zeros (z : Value) (n : Nat) : ((Array.range n).map fun i => (#[z] : Array Value)[i % (#[z] : Array Value).size]!) = Array.replicate n z := by
  apply Array.ext
  · simp
  · intro i h1 h2
    simp [Nat.mod_one]

theorem makeSliceC_ok (hT : TIok S.P S.E) (hn : h.n = n) (hR : FRel S n U β s a w) {t : Nat} {x y : Operand} (hop : o.op = .makeSlice t x y)
    (hk : makeSliceC S.E h s o.dst t (ev S.E s 0 x) (ev S.E s 0 y) k = some r) : o.wp S.P a w (Handed S n U β s w k r) Q := by
  have hx := hR.ev 0 x
  have hy := hR.ev 0 y
  generalize ev S.E s 0 x = X at hk hx
  generalize ev S.E s 0 y = Y at hk hy
  unfold makeSliceC at hk
  split at hk
  · rename_i et kn nn kc cc htd
    change Int at nn
    change Int at cc
    obtain ⟨h1, hk2⟩ := bif_some hk
    clear hk
    obtain ⟨h1, hby⟩ := and2 h1
    obtain ⟨h1, hsz⟩ := and2 h1
    obtain ⟨h1, hcs⟩ := and2 h1
    obtain ⟨h1, helem⟩ := and2 h1
    obtain ⟨h1, hz⟩ := and2 h1
    obtain ⟨h1, hroom⟩ := and2 h1
    obtain ⟨h1, hnn⟩ := and2 h1
    obtain ⟨hown, hnc⟩ := and2 h1
    have hnc : nn = cc := decT hnc
    subst hnc
    have hnn : (0 : Int) ≤ nn := decT hnn
    have hroom : nn.toNat * (tiOf S.E et).bytes ≤ maxRoom := decT hroom
    have hcs := beqN hcs
    have hsz := beqN hsz
    have hby := bltN hby
    obtain ⟨info, d, hK⟩ := hT.known_td (t := t) (by rw [htd]; simp)
    obtain rfl := td_slice (hK.td.trans htd)
    obtain ⟨info', d', hK'⟩ := hT.known_size (t := et) (by omega)
    have hzero := hK'.zero hz
    have e1 := hx.int
    have e2 := hy.int
    obtain ⟨z, hzc⟩ : ∃ z, zcells (tiOf S.E et).ty = [z] := by
      have := (zcells_ok (w := w) (U := U) (β := β) (H := s.heap) _ hz).len
      rw [hcs] at this
      exact List.length_eq_one_iff.1 this
    have hzv : (zval (tiOf S.E et).ty).cells = #[z] := by
      apply Array.ext'
      rw [zval_cells _ hz, hzc]
    have hcb : nn.toNat ≤ maxRoom := by
      have : nn.toNat * 1 ≤ nn.toNat * (tiOf S.E et).bytes := Nat.mul_le_mul_left _ hby
      omega
    unfold maxRoom at hcb hroom
    have w1 : IntKind.i64.wrap nn = nn := by rw [IntKind.wrap_i64]; omega
    have hcI : (info'.bytes : Int) * nn ≤ 140737488355328 := by
      rw [hK'.bytes]
      have e1 : nn = (nn.toNat : Int) := by omega
      rw [e1]
      have : ((nn.toNat * (tiOf S.E et).bytes : Nat) : Int) ≤ 140737488355328 := Int.ofNat_le.2 hroom
      rw [Int.natCast_mul] at this
      rw [Int.mul_comm]; exact this
    have hz0 : ∀ w : World, (zeroValue et).run S.P w = .ok (zval (tiOf S.E et).ty) w := fun w => by
      simp [zeroValue, typeInfo, hK'.inf, hzero]
    have hrun : (execOp a.eval o).run S.P w = .ok (.value (.slice (some ⟨w.heap.size, 0, none⟩) nn.toNat nn.toNat)) (w.alloc (.cells (Array.replicate nn.toNat z) et)) := by
      have c1 : ¬ (nn < 0) := by omega
      have c2 : ¬ ((info'.bytes : Int) * nn > 2 ^ 48) := by omega
      have c4 : ¬ (nn > nn) := by omega
      simp only [execOp, hop, e1, e2]
      simp only [Instr.makeSlice, Sem.run_bind, hK.runU, Result.andThen_ok, asInt, asIntOf, Sem.run_pure, run_typeInfo w hK'.inf, w1, Sem.run_ite]
      simp only [c1, c2, c4, decide_false, Bool.or_self, Bool.false_eq_true, if_false, run_askRoom, Result.andThen_ok, hK'.runS, hsz, Nat.mul_one]
      by_cases h0 : nn.toNat = 0
      · have hr0 : Array.map (fun _ => (default : Value)) (Array.range 0) = #[] := by apply Array.ext'; simp
        have hnr : ∀ c : Array Value, (newRow et c).run S.P w = .ok ⟨w.heap.size, 0, none⟩ (w.alloc (.cells c et)) := fun c => rfl
        simp [h0, hr0, hnr]
      · have hnr : ∀ c : Array Value, (newRow et c).run S.P w = .ok ⟨w.heap.size, 0, none⟩ (w.alloc (.cells c et)) := fun c => rfl
        simp only [h0, if_false, Sem.run_bind, hz0, Result.andThen_ok, Sem.run_pure, hzv, size_zeros, hnr]
    unfold Oper.wp
    rw [hrun]
    have hbel := below_new w (.cells (Array.replicate nn.toNat z) et)
    have hA : Adv w U β s.heap (w.alloc (.cells (Array.replicate nn.toNat z) et)) U (setB β s.heap.length ⟨some w.heap.size, nn.toNat⟩) (s.heap ++ [⟨.row (tiOf S.E et).ty, List.replicate nn.toNat (tiOf S.E et).ty.dflt⟩]) s.app := Adv.push hR.wrel.uin hbel _ _ (fun b e => by cases e; exact Nat.le_refl _)
    have hP := hR.push hbel (x := ⟨.row (tiOf S.E et).ty, List.replicate nn.toNat (tiOf S.E et).ty.dflt⟩) (bl := ⟨some w.heap.size, nn.toNat⟩) (fun b e => by cases e; exact Nat.le_refl _) (by
      unfold ObjAt
      rw [hget_append_at]
      refine ⟨helem, .inr ⟨w.heap.size, _, et, (0, 0), by simp [setB], hR.wrel.below.size, fun hu => by have := hR.wrel.uin _ hu; omega, heap_alloc_at w _, ?_, by simp [setB], fun j _ => by simp, fun i hi => ?_⟩⟩
      · simp [setB, hcs]
      · have hi' : i < nn.toNat := by simpa using hi
        refine ⟨[z], ?_, fun j hj => ?_⟩
        · rw [List.getElem_replicate, ← hzc]
          exact zcells_ok _ hz
        · obtain rfl : j = 0 := by simpa using hj
          rw [hcs]
          simp [hi'])
    refine putC_ok hn hP (.inr ⟨rfl, ?_⟩) hA (fun _ _ h => h) hk2
    simp only [EncM, Value.cells]
    exact ⟨(tiOf S.E et).ty, List.replicate nn.toNat (tiOf S.E et).ty.dflt, by simp, hget_append_at, by simp [setB]⟩
  · cases hk
end
end Go.Dp
/- Writing to the machine's own objects. -/
set_option autoImplicit false
set_option linter.unusedVariables false
set_option linter.unusedSimpArgs false
namespace Go.Dp
open Go.RowKit

theorem hget_hset_same : ∀ (H : Heap) (id : Nat) (x : TV), id < H.length → hget (hset H id x) id = x := by
  intro H
  induction H with
  | nil => intro id x h; simp at h
  | cons y l ih =>
    intro id x h
    cases id with
    | zero => rfl
    | succ id => simp only [hset, hget]; exact ih id x (by simpa using h)
theorem hget_hset_ne : ∀ (H : Heap) (id i : Nat) (x : TV), i ≠ id → hget (hset H id x) i = hget H i := by
  intro H
  induction H with
  | nil => intro id i x _; rfl
  | cons y l ih =>
    intro id i x h
    cases id with
    | zero =>
      cases i with
      | zero => exact absurd rfl h
      | succ i => rfl
    | succ id =>
      cases i with
      | zero => rfl
      | succ i => simp only [hset, hget]; exact ih id i x (by omega)
theorem length_hset : ∀ (H : Heap) (id : Nat) (x : TV), (hset H id x).length = H.length := by
  intro H
  induction H with
  | nil => intro id x; rfl
  | cons y l ih =>
    intro id x
    cases id with
    | zero => rfl
    | succ id => simp [hset, ih]

section
variable {S : Base} {n : Nat} {U U' : Nat → Prop} {β β' : Nat → Blk} {H H' : Heap} {w w' : World} {app : List Nat}

/-- What may replace an object's content: a row of as many elements of the kind, a variable of the same shape. -/
def Fits (x y : TV) : Prop := (∀ e xs, x = ⟨.row e, xs⟩ → ∃ ys, y = ⟨.row e, ys⟩ ∧ ys.length = xs.length) ∧ ((∀ e xs, x ≠ ⟨.row e, xs⟩) → y.t.shape = x.t.shape ∧ ∀ e ys, y ≠ ⟨.row e, ys⟩)

theorem Adv.set {id : Nat} {y : TV} (hid : id < H.length) (hU : ∀ b, U b → w'.heap[b]? = w.heap[b]?) (hk : ∀ c, c < w.heap.size → (β id).blk ≠ some c → w'.heap[c]? = w.heap[c]?) (hf : Fits (hget H id) y) : Adv w U β H w' U β (hset H id y) app where
  use _ h := h
  same b h := hU b h
  len := by rw [length_hset]; exact Nat.le_refl _
  row i e xs hl he := by
    by_cases e' : i = id
    · subst e'
      obtain ⟨ys, h1, h2⟩ := hf.1 e xs he
      exact ⟨ys, by rw [hget_hset_same _ _ _ hid]; exact h1, fun _ => ⟨h2, rfl⟩⟩
    · exact ⟨xs, by rw [hget_hset_ne _ _ _ _ e']; exact he, fun _ => ⟨rfl, rfl⟩⟩
  box i hl hn := by
    by_cases e' : i = id
    · subst e'
      obtain ⟨h1, h2⟩ := hf.2 hn
      rw [hget_hset_same _ _ _ hid]
      exact ⟨rfl, h1, h2⟩
    · rw [hget_hset_ne _ _ _ _ e']
      exact ⟨rfl, rfl, hn⟩
  keep b hb hu hn := ⟨hk b hb (hn id hid), hu, fun i hi => hn i (by rw [length_hset] at hi; exact hi)⟩

/-- One object's block is written. -/
theorem WRel.update (h : WRel S U β H w) {id b : Nat} {y : TV} (hid : id < H.length) (hb : (β id).blk = some b) (hbel : Below b w w') (hsame : ∀ c, c ≠ b → w'.heap[c]? = w.heap[c]?) (hf : Fits (hget H id) y)
    (ho : ObjAt w' U β (hset H id y) S.w0.heap.size id) : WRel S U β (hset H id y) w' ∧ ∀ app, Adv w U β H w' U β (hset H id y) app := by
  obtain ⟨hlt, hge, hnU⟩ := h.blk_lt hid hb
  have hU : ∀ c, U c → w'.heap[c]? = w.heap[c]? := fun c hc => hsame c fun e => hnU (e ▸ hc)
  have hA : ∀ app, Adv w U β H w' U β (hset H id y) app := fun app => Adv.set hid hU (fun c _ hc => hsame c fun e => hc (by rw [e]; exact hb)) hf
  refine ⟨⟨⟨fun i hi => ?_, ?_⟩, h.below.trans (hbel.mono hge), fun c hc => Nat.lt_of_lt_of_le (h.uin c hc) hbel.size, h.uold, fun g x hx => ?_⟩, hA⟩
  · rw [length_hset] at hi
    by_cases e : i = id
    · subst e; exact ho
    · refine (h.heap.obj i hi).adv (hA []) (hget_hset_ne _ _ _ _ e) rfl (fun c hc => ?_) (avoidsO_nil _)
      exact ⟨hsame c fun e' => e (h.heap.inj i id c hi hid hc (e' ▸ hb)), (h.blk_lt hi hc).2.2⟩
  · rw [length_hset]; exact h.heap.inj
  · rcases h.globs g x hx with e | ⟨e1, e2, e3⟩
    · exact .inl e
    · exact .inr ⟨e1, e2, e3.adv (hA []) (avoids_nil _)⟩

theorem noTup_cells {w : World} {U : Nat → Prop} {β : Nat → Blk} {H : Heap} : ∀ (t : Ty) (x : t.den) (l : List Value), t.noTup = true → EncM w U β H false t x l → ∀ v ∈ l, v.oneCell' = true := by
  intro t
  induction t with
  | scons a r iha ihr =>
    intro x l hn h v hv
    simp only [EncM] at h
    obtain ⟨l1, l2, rfl, h1, h2⟩ := h
    simp only [Ty.noTup, Bool.and_eq_true] at hn
    rcases List.mem_append.1 hv with hv | hv
    · exact iha _ _ hn.1 h1 v hv
    · exact ihr _ _ hn.2 h2 v hv
  | arr m e ih =>
    intro x l hn h v hv
    simp only [EncM] at h
    obtain ⟨_, h1, h2, h3⟩ := h
    simp only [Ty.noTup] at hn
    obtain ⟨i, hi, rfl⟩ := List.getElem_of_mem hv
    have hpos : 0 < e.csize := by
      rcases Nat.eq_zero_or_pos e.csize with h0 | h0
      · rw [h0, Nat.mul_zero] at h1; omega
      · exact h0
    have hd : i / e.csize < m := by
      rw [Nat.div_lt_iff_lt_mul hpos]; omega
    have := ih _ _ hn (h3 (i / e.csize) (by rw [h2]; exact hd)) l[i] ?_
    · exact this
    · have hm := Nat.div_add_mod i e.csize
      have hlt := Nat.mod_lt i hpos
      rw [List.mem_iff_getElem]
      have hle : i / e.csize * e.csize + e.csize ≤ l.length := by
        rw [h1, ← Nat.succ_mul]; exact Nat.mul_le_mul_right _ hd
      refine ⟨i % e.csize, by simp; omega, ?_⟩
      simp only [List.getElem_take, List.getElem_drop]
      congr 1
      rw [Nat.mul_comm]; omega
  | tup r ih => intro x l hn; simp [Ty.noTup] at hn
  | snil => intro x l hn h v hv; simp only [EncM] at h; subst h; simp at hv
  | unk => intro x l hn h v hv; simp only [EncM] at h; obtain ⟨v', rfl, h⟩ := h; simp at hv; subst hv; exact h
  | int k => intro x l hn h v hv; simp only [EncM] at h; subst h; simp at hv; subst hv; rfl
  | bool => intro x l hn h v hv; simp only [EncM] at h; subst h; simp at hv; subst hv; rfl
  | str => intro x l hn h v hv; simp only [EncM] at h; subst h; simp at hv; subst hv; rfl
  | nilf => intro x l hn h v hv; simp only [EncM] at h; subst h; simp at hv; subst hv; rfl
  | nilp => intro x l hn h v hv; simp only [EncM] at h; subst h; simp at hv; subst hv; rfl
  | nili => intro x l hn h v hv; simp only [EncM] at h; subst h; simp at hv; subst hv; rfl
  | nilm => intro x l hn h v hv; simp only [EncM] at h; subst h; simp at hv; subst hv; rfl
  | nils => intro x l hn h v hv; simp only [EncM] at h; obtain ⟨c, rfl⟩ := h; simp at hv; subst hv; rfl
  | list e ih => intro x l hn h v hv; simp only [EncM] at h; obtain ⟨A, c, rfl, _⟩ := h; simp at hv; subst hv; rfl
  | xls e ih => intro x l hn h v hv; simp only [EncM] at h; obtain ⟨A, c, rfl, _⟩ := h; simp at hv; subst hv; rfl
  | hl r ih => intro x l hn h v hv; simp only [EncM] at h; obtain ⟨b, off, c, vs, rfl, _⟩ := h; simp at hv; subst hv; rfl
  | ref r ih => intro x l hn h v hv; simp only [EncM] at h; obtain ⟨b, off, cs, rfl, _⟩ := h; simp at hv; subst hv; rfl
  | fn f c ih => intro x l hn h v hv; simp only [EncM] at h; obtain ⟨vs, rfl, _⟩ := h; simp at hv; subst hv; rfl
  | iface t y ih => intro x l hn h v hv; simp only [EncM] at h; obtain ⟨y, rfl, _⟩ := h; simp at hv; subst hv; rfl
  | loc id ix p => intro x l hn h v hv; simp only [EncM] at h; obtain ⟨b, off, rfl, _⟩ := h; simp at hv; subst hv; rfl
  | selfp id T => intro x l hn h v hv; simp only [EncM] at h; obtain ⟨_, _, _, rfl | ⟨b, _, rfl⟩⟩ := h <;> (simp at hv; subst hv; rfl)
  | slw id => intro x l hn h v hv; simp only [EncM] at h; obtain ⟨e, xs, _, _, rfl⟩ := h; simp at hv; subst hv; rfl
  | slv id => intro x l hn h v hv; simp only [EncM] at h; obtain ⟨e, xs, A, c, _, _, rfl, _⟩ := h; simp at hv; subst hv; rfl
  | row e ih => intro x l hn h; simp [EncM] at h
  | mobj k v ihk ihv => intro x l hn h; simp [EncM] at h
  | sint k => intro x l hn h v hv; simp only [EncM] at h; obtain ⟨n, rfl⟩ := h; simp at hv; subst hv; rfl
  | fnu fs => intro x l hn h v hv; simp only [EncM] at h; obtain ⟨f, _, rfl⟩ := h; simp at hv; subst hv; rfl
  | bm f c ih => intro x l hn h v hv; simp only [EncM] at h; obtain ⟨vs, rfl, _⟩ := h; simp at hv; subst hv; rfl
  | mapp id => intro x l hn h v hv; simp only [EncM] at h; obtain ⟨_, _, b, _, rfl⟩ := h; simp at hv; subst hv; rfl
  | iter => intro x l hn h; simp [EncM] at h

/-- The cells of a block behind a row of stores. -/
theorem setCells_heap (b : Nat) : ∀ (vs : List Value) (o : Nat) (w : World) (arr : Array Value) (el : TypeId) (fr : Nat × Nat), w.heap[b]? = some (.cells arr el fr) →
    ∃ arr', (w.setCells b o vs).heap[b]? = some (.cells arr' el fr) ∧ arr'.size = arr.size ∧ (∀ i, arr'[i]? = if o ≤ i ∧ i < o + vs.length ∧ i < arr.size then vs[i - o]? else arr[i]?) ∧
      (∀ c, c ≠ b → (w.setCells b o vs).heap[c]? = w.heap[c]?) ∧ (w.setCells b o vs).heap.size = w.heap.size ∧ (w.setCells b o vs).os = w.os ∧ (w.setCells b o vs).tape = w.tape ∧ (w.setCells b o vs).output = w.output := by
  intro vs
  induction vs with
  | nil =>
    intro o w arr el fr h
    exact ⟨arr, h, rfl, fun i => by rw [if_neg (by simp; omega)], fun _ _ => rfl, rfl, rfl, rfl, rfl⟩
  | cons v vs ih =>
    intro o w arr el fr h
    have h1 : (w.setCell ⟨b, o, none⟩ v).heap[b]? = some (.cells (arr.setIfInBounds o v) el fr) := by
      simp [World.setCell, Array.getElem?_modify, h]
    obtain ⟨arr', h2, h3, h4, h5, h6, h7, h8, h9⟩ := ih (o + 1) (w.setCell ⟨b, o, none⟩ v) _ el fr h1
    refine ⟨arr', h2, by rw [h3]; simp, fun i => ?_, fun c hc => ?_, ?_, h7, h8, h9⟩
    · rw [h4]
      simp only [Array.size_setIfInBounds, List.length_cons]
      by_cases ho : o = i
      · subst ho
        rw [if_neg (by omega)]
        by_cases hi : o < arr.size
        · rw [if_pos ⟨Nat.le_refl _, by omega, hi⟩]; simp [hi]
        · rw [if_neg (by omega)]; simp [Array.getElem?_setIfInBounds, hi]
      · by_cases hi : o + 1 ≤ i ∧ i < o + 1 + vs.length ∧ i < arr.size
        · rw [if_pos hi, if_pos (by omega)]
          have : i - o = (i - (o + 1)) + 1 := by omega
          rw [this, List.getElem?_cons_succ]
        · rw [if_neg hi, if_neg (by omega), Array.getElem?_setIfInBounds_ne ho]
    · exact (h5 c hc).trans (Below.heap_setCell _ _ _ _ (by simpa using hc))
    · rw [show (w.setCells b o (v :: vs)) = (w.setCell ⟨b, o, none⟩ v).setCells b (o + 1) vs from rfl, h6]
      simp [World.setCell]
end
end Go.Dp
/- Stores. -/
set_option autoImplicit false
set_option linter.unusedVariables false
set_option linter.unusedSimpArgs false
namespace Go.Dp
open Go.RowKit

section
variable {S : Base} {n : Nat} {U : Nat → Prop} {β : Nat → Blk} {s : St} {a : Act} {w : World} {α : Type} {k : St → Option α} {r : α} {h : Hint} {Q : Exit → Act → World → Prop} {o : Oper}

theorem splice_toList {arr arr' : Array Value} {l1 m l2 vs : List Value} (ha : arr.toList = l1 ++ m ++ l2) (hm : vs.length = m.length) (hs : arr'.size = arr.size)
    (hg : ∀ i, arr'[i]? = if l1.length ≤ i ∧ i < l1.length + vs.length ∧ i < arr.size then vs[i - l1.length]? else arr[i]?) : arr'.toList = l1 ++ vs ++ l2 := by
  have hsz : arr.size = l1.length + m.length + l2.length := by rw [← Array.length_toList, ha]; simp; omega
  apply List.ext_getElem?
  intro i
  rw [Array.getElem?_toList, hg]
  by_cases h1 : i < l1.length
  · rw [if_neg (by omega), ← Array.getElem?_toList, ha, List.append_assoc, List.append_assoc, List.getElem?_append_left h1, List.getElem?_append_left h1]
  · by_cases h2 : i < l1.length + vs.length
    · rw [if_pos (by omega), List.append_assoc, List.getElem?_append_right (by omega), List.getElem?_append_left (by omega)]
    · rw [if_neg (by omega), ← Array.getElem?_toList, ha, List.append_assoc, List.append_assoc, List.getElem?_append_right (by omega), List.getElem?_append_right (by omega),
        List.getElem?_append_right (by omega), List.getElem?_append_right (by omega)]
      congr 1
      omega

theorem run_storeAt {P : Program} {E : Env} {t : Nat} {info : TypeInfo} {d : TypeDesc} (hK : Known P E t info d) {b off : Nat} {v : Value} (hv : v.cells.size = (tiOf E t).size) {arr : Array Value} {el : TypeId} {fr : Nat × Nat}
    (hb : w.heap[b]? = some (.cells arr el fr)) (hfr : ∀ j, j < arr.size → ¬ (fr.1 ≤ j ∧ j < fr.2)) (hfit : off + v.cells.size ≤ arr.size) (h1 : ∀ x ∈ v.cells.toList, x.oneCell' = true) :
    (Instr.storeAt t (.pointer (some ⟨b, off, none⟩)) v).run P w = .ok () (w.setCells b off v.cells.toList) := by
  have hst := run_storeCells_cells (P := P) b off v.cells.toList 0 w (fun j hj => by
    simp only [World.cell?, hb]
    simp at hj
    have : off + j < arr.size := by omega
    simp [this]) (fun j hj => by
    simp at hj
    have := hfr (off + j) (by omega)
    simp only [World.frozen?, hb]
    simp
    intro h2
    simp at this
    omega) h1
  simp only [Nat.add_zero] at hst
  simp only [Instr.storeAt, Sem.run_bind, asAddr_ptr, Result.andThen_ok, storeVar, hK.runS, ne_eq, hv, not_true_eq_false, if_false]
  simpa using hst

theorem storeV_ok (hT : TIok S.P S.E) (hn : h.n = n) (hR : FRel S n U β s a w) {t : Nat} {x y : Operand} (hop : o.op = .store t x y) {X Y : TV} (hx : EncV w U β s.heap X (a.eval x)) (hy : EncV w U β s.heap Y (a.eval y))
    (hk : storeC S.E s t X Y (fun s => putC h s o.dst .unk k) = some r) : o.wp S.P a w (Handed S n U β s w k r) Q := by
  unfold storeC at hk
  obtain ⟨h1, hk⟩ := bif_some hk
  obtain ⟨h1, hnt⟩ := and2 h1
  obtain ⟨h1, hu⟩ := and2 h1
  obtain ⟨hs, ha⟩ := and2 h1
  have hs := beqN hs
  have ha := beqB ha
  have hu : Y.t.isUnk = false := by simpa using hu
  obtain ⟨info, d, hK⟩ := hT.known_fit hs ha
  have hyE := (hy.resolve_left (by rw [hu]; simp)).2
  have hysz : (a.eval y).cells.size = (tiOf S.E t).size := by rw [← Array.length_toList, hyE.len, hs]
  have hone := noTup_cells _ _ _ hnt hyE
  obtain ⟨T, xx⟩ := X
  cases T with
  | loc id ix post =>
    change Nat at xx
    have hm := hx.one rfl rfl
    simp only [EncM] at hm
    obtain ⟨b, off, hv, hl⟩ := hm
    have hv := (List.cons.inj hv).1
    have hfin : ∀ {s' : St} {w' : World}, (Instr.storeAt t (.pointer (some ⟨b, off, none⟩)) (a.eval y)).run S.P w = .ok () w' → FRel S n U β s' a w' → Adv w U β s.heap w' U β s'.heap s'.app → s'.app = s.app → putC h s' o.dst .unk k = some r →
        o.wp S.P a w (Handed S n U β s w k r) Q := by
      intro s' w' hrun hR' hA happ hk
      unfold Oper.wp
      have : (execOp a.eval o).run S.P w = .ok .skip w' := by
        simp only [execOp, hop, hv, Sem.run_bind, hrun, Result.andThen_ok, Sem.run_pure]
      rw [this]
      exact putC_ok hn hR' (.unk _) hA (fun _ _ h => by rw [happ]; exact h) hk
    cases ix with
    | false =>
      simp only at hk
      obtain ⟨h1, hk⟩ := bif_some hk
      obtain ⟨hsh, hnp, hny⟩ := and3 h1
      have hsh := decT hsh
      have hnp : (partAt (hget s.heap id).t (hget s.heap id).v post).t.isObj = false := by simpa using hnp
      obtain ⟨hid, hb, hnr, hpo, hof⟩ := hl
      have hobj : (hget s.heap id).t.isObj = false := by
        rcases notRow_iter (hget s.heap id).t with ⟨e, he⟩ | (he | ⟨K, V, he⟩) | he
        · generalize hz : hget s.heap id = z at *
          obtain ⟨t, v⟩ := z
          simp only at he
          subst he
          exact absurd rfl (hnr e v)
        · cases post with
          | nil => simp only [partAt] at hnp; exact hnp
          | cons f p => rw [he] at hpo; simp [pathOK, chLen] at hpo
        · cases post with
          | nil => simp only [partAt] at hnp; exact hnp
          | cons f p => rw [he] at hpo; simp [pathOK, chLen] at hpo
        · exact he
      obtain ⟨b', cs, el, fr, h4, hge, hnU, h5, hfr, h6, hcap⟩ := (hR.wrel.heap.obj id hid).box hobj
      obtain rfl : b' = b := by rw [h4] at hb; exact Option.some.inj hb
      obtain ⟨l1, m, l2, h7, h8, h9, h10⟩ := partAt_split post _ _ _ hpo h6
      have hml : m.length = (a.eval y).cells.size := by
        rw [h9.len, hysz, ← hs, ← csize_shape, hsh, csize_shape]
      have hcsz : cs.size = l1.length + m.length + l2.length := by rw [← Array.length_toList, h7]; simp; omega
      have hrun := run_storeAt (w := w) hK (b := b') (off := off) hysz h5 hfr (by rw [hof, ← h8]; omega) hone
      obtain ⟨arr', g1, g2, g3, g4, g5, g6, g7, g8⟩ := setCells_heap b' (a.eval y).cells.toList off w cs el fr h5
      have htl : arr'.toList = l1 ++ (a.eval y).cells.toList ++ l2 := splice_toList h7 (by simpa using hml.symm) g2 (by rw [h8, ← hof]; exact g3)
      have hsetsh : (setAt post (hget s.heap id).t (hget s.heap id).v Y).t.shape = (hget s.heap id).t.shape := setAt_shape post _ _ Y hpo (by rw [← hsh, partAt_ty])
      have hsetobj : (setAt post (hget s.heap id).t (hget s.heap id).v Y).t.isObj = false := by
        cases post with
        | nil => simpa [setAt] using hny
        | cons f p =>
          have : (setAt (f :: p) (hget s.heap id).t (hget s.heap id).v Y).t.isAgg = true := by
            simp only [setAt]
            simp only [pathOK, Bool.and_eq_true] at hpo
            exact chSet_agg _ _ f _ (by simpa using hpo.1)
          generalize (setAt (f :: p) (hget s.heap id).t (hget s.heap id).v Y).t = T at this
          cases T <;> simp_all [Ty.isAgg, Ty.isObj]
      have hfits : Fits (hget s.heap id) (setAt post (hget s.heap id).t (hget s.heap id).v Y) := by
        refine ⟨fun e xs he => absurd he (hnr e xs), fun _ => ⟨hsetsh, fun e ys he => ?_⟩⟩
        rw [he] at hsetobj; cases hsetobj
      have hnew := h10 Y _ hyE
      have hbel : Below b' w (w.setCells b' off (a.eval y).cells.toList) := ⟨g6, g7, g8, by rw [g5]; exact Nat.le_refl _, fun c hc => g4 c (by omega)⟩
      have hAdv0 : Adv w U β s.heap (w.setCells b' off (a.eval y).cells.toList) U β (hset s.heap id (setAt post (hget s.heap id).t (hget s.heap id).v Y)) [] :=
        Adv.set hid (fun c hc => g4 c fun e => hnU (e ▸ hc)) (fun c _ hc => g4 c fun e => hc (by rw [e]; exact hb)) hfits
      obtain ⟨hW, hA⟩ := hR.wrel.update hid hb hbel g4 hfits (by
        unfold ObjAt
        rw [hget_hset_same _ _ _ hid]
        have key : ∃ b cs el fr, (β id).blk = some b ∧ S.w0.heap.size ≤ b ∧ ¬ U b ∧ (w.setCells b' off (a.eval y).cells.toList).heap[b]? = some (.cells cs el fr) ∧ (∀ j, j < cs.size → ¬ (fr.1 ≤ j ∧ j < fr.2)) ∧
            EncM (w.setCells b' off (a.eval y).cells.toList) U β (hset s.heap id (setAt post (hget s.heap id).t (hget s.heap id).v Y)) false (setAt post (hget s.heap id).t (hget s.heap id).v Y).t (setAt post (hget s.heap id).t (hget s.heap id).v Y).v cs.toList ∧ (β id).cap = el :=
          ⟨b', arr', el, fr, hb, hge, hnU, g1, by rw [g2]; exact hfr, by rw [htl]; exact hnew.adv hAdv0 _ _ _ _ (avoids_nil _), hcap⟩
        generalize setAt post (hget s.heap id).t (hget s.heap id).v Y = z at *
        obtain ⟨t, v⟩ := z
        cases t <;> first | (simp [Ty.isObj] at hsetobj; done) | exact key)
      exact hfin (s' := ⟨s.regs, hset s.heap id (setAt post (hget s.heap id).t (hget s.heap id).v Y), s.app⟩) hrun ⟨hR.defers, hR.size, fun i => (hR.regs i).adv (hA []) (avoids_nil _), hW⟩ (hA _) rfl hk
    | true =>
      simp only at hk
      split at hk
      · rename_i e xs he
        split at hk
        · rename_i z hz
          have hz := cast_some hz
          obtain ⟨hid, hb, e', xs', he', hi, hpo, hof⟩ := hl
          rw [he] at he'
          cases he'
          obtain ⟨helem, hrow⟩ := (hR.wrel.heap.obj id hid).row he
          rcases hrow with ⟨hb', _, _⟩ | ⟨b', arr, el, fr, hb', hge, hnU, hw, hsz, hcap, hfr, hel⟩
          · rw [hb'] at hb; cases hb
          · obtain rfl : b' = b := by rw [hb'] at hb; exact Option.some.inj hb
            have hgd : xs.getD xx e.dflt = xs[xx] := getD_at xs xx _ hi
            rw [hgd] at hz
            obtain ⟨cs, hcs, hat⟩ := hel xx hi
            obtain ⟨l1, m, l2, h7, h8, h9, h10⟩ := partAt_split post _ _ _ hpo hcs
            have hnew := h10 Y _ hyE
            rw [hz] at hnew
            have hnl : _ = e.csize := hnew.len
            have hcl : cs.length = e.csize := hcs.len
            have hlen7 : cs.length = l1.length + m.length + l2.length := by rw [h7]; simp; omega
            have hnl' : l1.length + (a.eval y).cells.size + l2.length = e.csize := by
              rw [← hnl]; simp; omega
            have hml : m.length = (a.eval y).cells.size := by omega
            have hle : xx * e.csize + e.csize ≤ arr.size := by
              rw [hsz, ← Nat.succ_mul]; exact Nat.mul_le_mul_right _ (by omega)
            have hrun := run_storeAt (w := w) hK (b := b') (off := off) hysz hw hfr (by rw [hof, ← h8]; omega) hone
            obtain ⟨arr', g1, g2, g3, g4, g5, g6, g7, g8⟩ := setCells_heap b' (a.eval y).cells.toList off w arr el fr hw
            have hfits : Fits (hget s.heap id) ⟨.row e, xs.set xx z⟩ := by
              rw [he]
              exact ⟨fun e'' xs'' he'' => by cases he''; exact ⟨_, rfl, by simp⟩, fun hn => absurd rfl (hn e xs)⟩
            have hbel : Below b' w (w.setCells b' off (a.eval y).cells.toList) := ⟨g6, g7, g8, by rw [g5]; exact Nat.le_refl _, fun c hc => g4 c (by omega)⟩
            have hAdv0 : Adv w U β s.heap (w.setCells b' off (a.eval y).cells.toList) U β (hset s.heap id ⟨.row e, xs.set xx z⟩) [] :=
              Adv.set hid (fun c hc => g4 c fun e => hnU (e ▸ hc)) (fun c _ hc => g4 c fun e => hc (by rw [e]; exact hb)) hfits
            obtain ⟨hW, hA⟩ := hR.wrel.update hid hb hbel g4 hfits (by
              unfold ObjAt
              rw [hget_hset_same _ _ _ hid]
              refine ⟨helem, .inr ⟨b', arr', el, fr, hb, hge, hnU, g1, by rw [g2]; exact hsz, by simpa using hcap, by rw [g2]; exact hfr, fun i hi' => ?_⟩⟩
              simp only [List.length_set] at hi'
              by_cases e' : xx = i
              · subst e'
                refine ⟨l1 ++ (a.eval y).cells.toList ++ l2, ?_, fun j hj => ?_⟩
                · have : (xs.set xx z)[xx]'(by simpa using hi') = z := by simp
                  rw [this]
                  exact hnew.adv hAdv0 _ _ _ _ (avoids_nil _)
                · rw [← List.getElem?_eq_getElem hj]
                  simp only [List.length_append, Array.length_toList] at hj
                  rw [g3, List.append_assoc]
                  by_cases hj1 : j < l1.length
                  · rw [if_neg (by rw [hof, ← h8]; omega), hat j (by omega), List.getElem?_append_left hj1, ← List.getElem?_eq_getElem (by omega), h7, List.append_assoc, List.getElem?_append_left hj1]
                  · by_cases hj2 : j < l1.length + (a.eval y).cells.size
                    · rw [if_pos ⟨by rw [hof, ← h8]; omega, by rw [hof, ← h8]; simp; omega, by omega⟩, List.getElem?_append_right (by omega), List.getElem?_append_left (by simp; omega)]
                      congr 1
                      rw [hof, ← h8]; omega
                    · rw [if_neg (by rw [hof, ← h8]; simp; omega), hat j (by omega), ← List.getElem?_eq_getElem (by omega), h7, List.append_assoc,
                        List.getElem?_append_right (by omega), List.getElem?_append_right (by omega), List.getElem?_append_right (by omega), List.getElem?_append_right (by simp; omega)]
                      congr 1
                      simp; omega
              · obtain ⟨cs', h11, h12⟩ := hel i hi'
                refine ⟨cs', ?_, fun j hj => ?_⟩
                · rw [List.getElem_set_ne e']
                  exact h11.adv hAdv0 _ _ _ _ (avoids_nil _)
                · rw [g3, if_neg, h12 j hj]
                  have hl' := h11.len
                  rw [hof, ← h8]
                  simp only [Array.length_toList]
                  intro hcon
                  rcases Nat.lt_or_gt_of_ne e' with hlt | hlt
                  · have : (xx + 1) * e.csize ≤ i * e.csize := Nat.mul_le_mul_right _ hlt
                    rw [Nat.succ_mul] at this
                    omega
                  · have : (i + 1) * e.csize ≤ xx * e.csize := Nat.mul_le_mul_right _ hlt
                    rw [Nat.succ_mul] at this
                    omega)
            exact hfin (s' := ⟨s.regs, hset s.heap id ⟨.row e, xs.set xx z⟩, s.app⟩) hrun ⟨hR.defers, hR.size, fun i => (hR.regs i).adv (hA []) (avoids_nil _), hW⟩ (hA _) rfl hk
        · cases hk
      · cases hk
  | _ => simp at hk

theorem storeC_ok (hT : TIok S.P S.E) (hn : h.n = n) (hR : FRel S n U β s a w) {t : Nat} {x y : Operand} (hop : o.op = .store t x y)
    (hk : storeC S.E s t (ev S.E s 0 x) (ev S.E s t y) (fun s => putC h s o.dst .unk k) = some r) : o.wp S.P a w (Handed S n U β s w k r) Q :=
  storeV_ok hT hn hR hop (hR.ev 0 x) (hR.ev t y) hk
end
end Go.Dp
