/- A part of the proof of publicPart_holds: ViA, ViB, ViC, ViD, ViE, ViF, ViG. No condition of its own. -/
import Derived.Calls
import Derived.Laws.World
import Derived.Laws.AppendOwn
import Derived.Laws.Cells
import Derived.Laws.Tables
import Derived.Laws.MakeOwn
import Derived.Laws.BytesArg
import Derived.Laws.Slices
import Derived.Laws.StructEq
import Derived.Laws.CopyRow
set_option autoImplicit false
namespace Go.Vi
open Go

/-! ### Types of pure data -/
inductive Ty : Type
  | int (k : IntKind) | bool | str | list (t : Ty) | arr (n : Nat) (t : Ty) | unit | pair (a b : Ty) | err
  deriving DecidableEq, Inhabited

@[reducible] def Ty.den : Ty → Type
  | .int _ => Int
  | .bool => Bool
  | .str => List UInt8
  | .list t => List t.den
  | .arr _ t => List t.den
  | .unit => Unit
  | .pair a b => a.den × b.den
  | .err => Bool

def Ty.zero : (t : Ty) → t.den
  | .int _ => (0 : Int)
  | .bool => false
  | .str => []
  | .list _ => []
  | .arr n t => List.replicate n t.zero
  | .unit => ()
  | .pair a b => (a.zero, b.zero)
  | .err => false

def Ty.size : Ty → Nat
  | .arr n t => n * t.size
  | .unit => 0
  | .pair a b => a.size + b.size
  | _ => 1

def Ty.isAgg : Ty → Bool
  | .arr _ _ | .unit | .pair _ _ => true
  | _ => false

inductive PE | fld (i : Nat) | idx (i : Nat)
  deriving DecidableEq, Inhabited

/-! ### Abstract values -/
inductive AV : Type
  | dead
  | und
  | val (t : Ty) (x : t.den)
  | row (id ver : Nat)
  | rowv (id ver lo hi : Nat)
  | ptr (id ver : Nat) (p : List PE) (t : Ty)
  | rptr (t : Ty) (x : t.den)
  | fn (f : Nat)
  | nil
  | cons (a b : AV)
  | unt
  | tup (a : AV)

inductive Cont : Type
  | none
  | box (t : Ty) (a : AV)
  | rowb (t : Ty) (xs : List t.den)
  | ro (t : Ty) (xs : List t.den)

abbrev Mem := List (Nat × Nat × Cont)

def look : Mem → Nat → Nat × Cont
  | [], _ => (0, .none)
  | (i, e) :: m, j => cond (Nat.beq i j) e (look m j)

def put : Mem → Nat → Nat × Cont → Mem
  | [], j, e => [(j, e)]
  | (i, e') :: m, j, e => cond (Nat.beq i j) ((i, e) :: m) ((i, e') :: put m j e)

structure St where
  tmps : List AV
  mem : Mem
  ghosts : List AV

/-- a test, and a step that may fail: names of their own -/
@[reducible] def cnd {α : Type} (b : Bool) (x y : α) : α := cond b x y
@[reducible] def bnd {α β : Type} (o : Option α) (f : α → Option β) : Option β := Option.bind o f

def geti {α : Type} (xs : List α) (i : Int) : Option α := if 0 ≤ i then xs[i.toNat]? else none
def slc {α : Type} (xs : List α) (lo hi : Int) : Option (List α) :=
  if 0 ≤ lo ∧ lo ≤ hi ∧ hi ≤ (xs.length : Int) then some ((xs.take hi.toNat).drop lo.toNat) else none
def cat (a b : List UInt8) : Option (List UInt8) := if a.length + b.length ≤ 9223372036854775807 then some (a ++ b) else none
def app {α : Type} (bytes : Nat) (xs ys : List α) : Option (List α) := if (xs.length + ys.length) * bytes ≤ 140737488355328 then some (xs ++ ys) else none
def inb (i : Int) (n : Nat) : Bool := decide (0 ≤ i ∧ i < (n : Int))
def toBytes (s : List UInt8) : List Int := s.map fun c => (c.toNat : Int)
def ofBytes (l : List Int) : List UInt8 := l.map fun n => UInt8.ofNat n.toNat
def ibits (op : BinOp) (k : IntKind) (a b : Int) : Int :=
  match op with
  | .and => k.wrap ((BitVec.ofInt k.bits a &&& BitVec.ofInt k.bits b).toNat : Nat)
  | .or => k.wrap ((BitVec.ofInt k.bits a ||| BitVec.ofInt k.bits b).toNat : Nat)
  | .xor => k.wrap ((BitVec.ofInt k.bits a ^^^ BitVec.ofInt k.bits b).toNat : Nat)
  | _ => k.wrap ((BitVec.ofInt k.bits a &&& ~~~ BitVec.ofInt k.bits b).toNat : Nat)
def ishl (k : IntKind) (a b : Int) : Int := k.wrap (a * 2 ^ (min b.toNat k.bits))
def ishr (k : IntKind) (a b : Int) : Int := a.fdiv (2 ^ (min b.toNat k.bits))
def strLt (a b : List UInt8) : Bool := Op.bytesLess a b
def mn (x y : Int) : Int := if y < x then y else x
def mx (x y : Int) : Int := if y > x then y else x

/-- equality of comparable data -/
def eqv : (t : Ty) → t.den → t.den → Bool
  | .int _, x, y => decide ((x : Int) = y)
  | .bool, x, y => decide ((x : Bool) = y)
  | .str, x, y => decide ((x : List UInt8) = y)
  | .pair a b, x, y => eqv a x.1 y.1 && eqv b x.2 y.2
  | .unit, _, _ => true
  | _, _, _ => false
def eqvOk : Ty → Bool
  | .int _ | .bool | .str | .unit => true
  | .pair a b => eqvOk a && eqvOk b
  | _ => false

section
variable {R : Type}

def getVal : (t : Ty) → t.den → List PE → (AV → Option R) → Option R
  | t, x, [], K => K (.val t x)
  | .pair a _, x, .fld 0 :: p, K => getVal a x.1 p K
  | .pair _ b, x, .fld (i + 1) :: p, K => getVal b x.2 (.fld i :: p) K
  | .arr _ t, xs, .idx i :: p, K => bnd (xs[i]?) fun y => getVal t y p K
  | _, _, _, _ => none

def setVal : (t : Ty) → t.den → List PE → (s : Ty) → s.den → (t.den → Option R) → Option R
  | t, _, [], s, y, K => if h : s = t then K (h ▸ y) else none
  | .pair a _, x, .fld 0 :: p, s, y, K => setVal a x.1 p s y fun z => K (z, x.2)
  | .pair _ b, x, .fld (i + 1) :: p, s, y, K => setVal b x.2 (.fld i :: p) s y fun z => K (x.1, z)
  | .arr _ t, xs, .idx i :: p, s, y, K => bnd (xs[i]?) fun e => setVal t e p s y fun z => K (xs.set i z)
  | _, _, _, _, _, _ => none

def getAV : AV → List PE → (AV → Option R) → Option R
  | a, [], K => K a
  | .val t x, p, K => getVal t x p K
  | .cons a _, .fld 0 :: p, K => getAV a p K
  | .cons _ b, .fld (i + 1) :: p, K => getAV b (.fld i :: p) K
  | _, _, _ => none

/-- a value's layout -/
def fits : AV → Ty → Bool
  | .val s _, t => decide (s = t)
  | .row _ _, .list _ => true
  | .rowv _ _ _ _, .list _ => true
  | .nil, .list _ => true
  | .cons a b, .pair s t => fits a s && fits b t
  | .unt, .unit => true
  | _, _ => false

/-- a part that is no pure data is stored into pure data -/
def setMix : (t : Ty) → t.den → List PE → AV → (AV → Option R) → Option R
  | _, _, [], v, K => K v
  | .pair a b, x, .fld 0 :: p, v, K => setMix a x.1 p v fun z => K (.cons z (.val b x.2))
  | .pair a b, x, .fld (i + 1) :: p, v, K => setMix b x.2 (.fld i :: p) v fun z => K (.cons (.val a x.1) z)
  | _, _, _, _, _ => none

def setAV : AV → List PE → AV → (AV → Option R) → Option R
  | .val t x, p, .val s y, K => setVal t x p s y fun z => K (.val t z)
  | .val t x, p, v, K => setMix t x p v K
  | _, [], v, K => K v
  | .cons a b, .fld 0 :: p, v, K => setAV a p v fun z => K (.cons z b)
  | .cons a b, .fld (i + 1) :: p, v, K => setAV b (.fld i :: p) v fun z => K (.cons a z)
  | _, _, _, _ => none
end

/-! ### Types with owned rows -/
inductive OT | v (t : Ty) | row (t : Ty) | pair (a b : OT) | unit | ref (o : OT)
  deriving Inhabited
@[reducible] def OT.den : OT → Type
  | .v t => t.den
  | .row t => List t.den
  | .pair a b => a.den × b.den
  | .unit => Unit
  | .ref o => o.den
def OT.ty : OT → Ty
  | .v t => t
  | .row t => .list t
  | .pair a b => .pair a.ty b.ty
  | .unit => .unit
  | .ref _ => .err

def hasList : Ty → Bool
  | .list _ => true
  | .arr _ t => hasList t
  | .pair a b => hasList a || hasList b
  | _ => false
def OT.leaky : OT → Bool
  | .v t => hasList t
  | .row t => hasList t
  | .pair a b => a.leaky || b.leaky
  | .unit => false
  | .ref o => o.leaky

inductive PM | ro (t : Ty) | io (o : OT) | mv (o : OT) | ptr (o : OT) | fn (f : Nat)
  deriving Inhabited
structure Sig where
  ps : List PM
  rs : List OT
@[reducible] def insOT : List PM → OT
  | [] => .unit
  | .ro t :: r => .pair (.v t) (insOT r)
  | .io o :: r => .pair o (insOT r)
  | .mv o :: r => .pair o (insOT r)
  | .ptr o :: r => .pair o (insOT r)
  | .fn _ :: r => insOT r
@[reducible] def rsOT : List OT → OT
  | [] => .unit
  | o :: r => .pair o (rsOT r)
@[reducible] def outsOT : List PM → OT
  | [] => .unit
  | .io o :: r => .pair o (outsOT r)
  | .ptr o :: r => .pair o (outsOT r)
  | _ :: r => outsOT r
@[reducible] def Sig.inDen (s : Sig) : Type := (insOT s.ps).den
@[reducible] def Sig.outDen (s : Sig) : Type := (rsOT s.rs).den × (outsOT s.ps).den
structure Fn where
  sig : Sig
  f : sig.inDen → Option sig.outDen
def ptrLeaky : List PM → Bool
  | [] => false
  | .ptr o :: r => o.leaky || ptrLeaky r
  | .io o :: r => o.leaky || ptrLeaky r
  | _ :: r => ptrLeaky r
def Sig.leaky (s : Sig) : Bool := (rsOT s.rs).leaky || ptrLeaky s.ps

def OT.plain : OT → Bool
  | .ref _ => false
  | .pair a b => a.plain && b.plain
  | _ => true
def OT.okR : OT → Bool
  | .ref o => o.plain
  | o => o.plain
def PM.okP : PM → Bool
  | .io o => o.plain
  | .mv o => o.plain
  | .ptr o => o.plain
  | _ => true
def okPs : List PM → Bool
  | [] => true
  | p :: r => p.okP && okPs r
def okRs : List OT → Bool
  | [] => true
  | o :: r => o.okR && okRs r
def Sig.ok (s : Sig) : Bool := okPs s.ps && okRs s.rs

abbrev Lk := Nat → Nat × Cont
section
variable {R : Type}

/-- A value as pure data; the rows that are read. -/
def valK (m : Lk) : (t : Ty) → AV → (t.den → List Nat → Option R) → Option R
  | t, .val s x, K => if h : s = t then K (h ▸ x) [] else none
  | .list t, .row id ver, K =>
    cond (Nat.beq (m id).1 ver) (match (m id).2 with
      | .rowb s xs => if h : s = t then K (h ▸ xs) [id] else none
      | .ro s xs => if h : s = t then K (h ▸ xs) [] else none
      | _ => none) none
  | .list t, .rowv id ver lo hi, K =>
    cond (Nat.beq (m id).1 ver) (match (m id).2 with
      | .rowb s xs => if h : s = t then K (h ▸ ((xs.take hi).drop lo)) [id] else none
      | .ro s xs => if h : s = t then K (h ▸ ((xs.take hi).drop lo)) [] else none
      | _ => none) none
  | .list _, .nil, K => K [] []
  | .pair a b, .cons x y, K => valK m a x fun x' i => valK m b y fun y' j => K (x', y') (i ++ j)
  | .unit, .unt, K => K () []
  | _, _, _ => none

/-- A value with owned rows: the rows' numbers in order (none: a nil slice), and the rows that are read beside. -/
def gatherK (m : Lk) : (o : OT) → AV → (o.den → List (Option Nat) → List Nat → Option R) → Option R
  | .v t, a, K => valK m t a fun x ids => K x [] ids
  | .row t, .row id ver, K =>
    cond (Nat.beq (m id).1 ver) (match (m id).2 with
      | .rowb s xs => if h : s = t then K (h ▸ xs) [some id] [] else none
      | _ => none) none
  | .row t, .nil, K => cond (Nat.blt 0 t.size) (K [] [none] []) none
  | .pair a b, .cons x y, K => gatherK m a x fun x' i r => gatherK m b y fun y' j s => K (x', y') (i ++ j) (r ++ s)
  | .pair a b, .val (.pair s t) x, K =>
    gatherK m a (.val s x.1) fun x' i r => gatherK m b (.val t x.2) fun y' j s => K (x', y') (i ++ j) (r ++ s)
  | .unit, .unt, K => K () [] []
  | .unit, .val .unit _, K => K () [] []
  | .ref o, .ptr id ver [] t, K => cond (Nat.beq (m id).1 ver) (match (m id).2 with
      | .box t' c => if t = o.ty ∧ t' = o.ty then gatherK m o c fun x leaf ids => K x (some id :: leaf) ids else none
      | _ => none) none
  | _, _, _ => none
end

def sid (site j : Nat) : Nat := site + 10000 * j

/-- New rows for what a call gives: site, how many were laid. -/
def scat (m : Lk) (site : Nat) : (o : OT) → o.den → Nat → AV × Mem × Nat
  | .v t, x, j => (.val t x, [], j)
  | .row t, xs, j => (.row (sid site j) ((m (sid site j)).1 + 1), [(sid site j, (m (sid site j)).1 + 1, .rowb t xs)], j + 1)
  | .pair a b, x, j =>
    (.cons (scat m site a x.1 j).1 (scat m site b x.2 (scat m site a x.1 j).2.2).1,
     (scat m site a x.1 j).2.1 ++ (scat m site b x.2 (scat m site a x.1 j).2.2).2.1,
     (scat m site b x.2 (scat m site a x.1 j).2.2).2.2)
  | .unit, _, j => (.unt, [], j)
  | .ref o, x, j => (.ptr (sid site j) ((m (sid site j)).1 + 1) [] o.ty,
      (sid site j, (m (sid site j)).1 + 1, .box o.ty (scat m site o x (j + 1)).1) :: (scat m site o x (j + 1)).2.1, (scat m site o x (j + 1)).2.2)

/-- What comes back of a pointer's or a struct's rows: the rows' old numbers are kept, a nil slice gets a new one. -/
def rescat (m : Lk) (site : Nat) : (o : OT) → o.den → List (Option Nat) → Nat → AV × Mem × List (Option Nat) × Nat
  | .v t, x, ids, j => (.val t x, [], ids, j)
  | .row t, xs, some id :: ids, j => (.row id ((m id).1 + 1), [(id, (m id).1 + 1, .rowb t xs)], ids, j)
  | .row t, xs, none :: ids, j => (.row (sid site j) ((m (sid site j)).1 + 1), [(sid site j, (m (sid site j)).1 + 1, .rowb t xs)], ids, j + 1)
  | .row _, _, [], j => (.dead, [], [], j)
  | .pair a b, x, ids, j =>
    let p := rescat m site a x.1 ids j
    let q := rescat m site b x.2 p.2.2.1 p.2.2.2
    (.cons p.1 q.1, p.2.1 ++ q.2.1, q.2.2.1, q.2.2.2)
  | .unit, _, ids, j => (.unt, [], ids, j)
  | .ref _, _, ids, j => (.dead, [], ids, j)

def somes : List (Option Nat) → List Nat
  | [] => []
  | some i :: r => i :: somes r
  | none :: r => somes r
def memB : Nat → List Nat → Bool
  | _, [] => false
  | i, j :: r => cond (Nat.beq i j) true (memB i r)
def nodupB : List Nat → Bool
  | [] => true
  | i :: r => !memB i r && nodupB r
def dedup : List Nat → List Nat
  | [] => []
  | i :: r => cond (memB i r) (dedup r) (i :: dedup r)
def disjB : List Nat → List Nat → Bool
  | [], _ => true
  | i :: r, l => !memB i l && disjB r l
end Go.Vi

set_option autoImplicit false
namespace Go.Vi
open Go

/-- what is known of a type's number: its data, and of a slice the bytes of an element and the element's number -/
structure TI where
  ty : Ty
  eb : Nat
  elem : TypeId

abbrev TTab := List (Nat × TI)
def tyLook : TTab → Nat → Option TI
  | [], _ => none
  | (i, e) :: m, j => cond (Nat.beq i j) (some e) (tyLook m j)
abbrev Gam := List (Nat × Fn)
def fnLook : Gam → Nat → Option Fn
  | [], _ => none
  | (i, e) :: m, j => cond (Nat.beq i j) (some e) (fnLook m j)

def zeroAV : Ty → AV
  | .list _ => .nil
  | .pair a b => .cons (zeroAV a) (zeroAV b)
  | .unit => .unt
  | t => .val t t.zero
/-- struct data without any slice stays pure data -/
def zeroOf (t : Ty) : AV := cond (hasList t) (zeroAV t) (.val t t.zero)

def constAV : Value → AV
  | .int k n => .val (.int k) n
  | .bool b => .val .bool b
  | .string s => .val .str s.data.toList
  | .slice none 0 0 => .nil
  | .nilIface => .val .err false
  | _ => .dead

def getT : List AV → Nat → AV
  | [], _ => .und
  | a :: _, 0 => a
  | _ :: l, i + 1 => getT l i
def setT : List AV → Nat → AV → List AV
  | [], _, _ => []
  | _ :: l, 0, v => v :: l
  | a :: l, i + 1, v => a :: setT l i v

structure GV where
  t : Ty
  x : t.den
def gvLook : List (Nat × GV) → Nat → AV
  | [], _ => .dead
  | (i, e) :: m, j => cond (Nat.beq i j) (.rptr e.t e.x) (gvLook m j)
structure En where
  TT : TTab
  G : Gam
  GL : List (Nat × GV)
def evT (GL : List (Nat × GV)) (tmps : List AV) : Operand → AV
  | .tmp t => getT tmps t
  | .const v => constAV v
  | .func f => .fn f
  | .global g => gvLook GL g

section
variable {R : Type}

def intBin (op : BinOp) (k : IntKind) (a b : Int) (K : AV → Option R) : Option R :=
  match op with
  | .add => K (.val (.int k) (k.wrap (a + b)))
  | .sub => K (.val (.int k) (k.wrap (a - b)))
  | .mul => K (.val (.int k) (k.wrap (a * b)))
  | .quo => cnd (decide (b = 0)) none (K (.val (.int k) (k.wrap (a.tdiv b))))
  | .rem => cnd (decide (b = 0)) none (K (.val (.int k) (a.tmod b)))
  | .and => K (.val (.int k) (ibits .and k a b))
  | .or => K (.val (.int k) (ibits .or k a b))
  | .xor => K (.val (.int k) (ibits .xor k a b))
  | .andNot => K (.val (.int k) (ibits .andNot k a b))
  | .eql => K (.val .bool (decide (a = b)))
  | .neq => K (.val .bool (!decide (a = b)))
  | .lss => K (.val .bool (decide (a < b)))
  | .leq => K (.val .bool (decide (a ≤ b)))
  | .gtr => K (.val .bool (decide (a > b)))
  | .geq => K (.val .bool (decide (a ≥ b)))
  | _ => none

def strBin (op : BinOp) (a b : List UInt8) (K : AV → Option R) : Option R :=
  match op with
  | .add => bnd (cat a b) fun s => K (.val .str s)
  | .eql => K (.val .bool (decide (a = b)))
  | .neq => K (.val .bool (!decide (a = b)))
  | .lss => K (.val .bool (strLt a b))
  | .leq => K (.val .bool (strLt a b || decide (a = b)))
  | .gtr => K (.val .bool (!(strLt a b || decide (a = b))))
  | .geq => K (.val .bool (!strLt a b))
  | _ => none

def isErrT : Option TI → Bool
  | some ⟨.err, _, _⟩ => true
  | _ => false
def binK (TT : TTab) (m : Lk) (op : BinOp) (xType : TypeId) (x y : AV) (K : AV → Option R) : Option R :=
  match op, x, y with
  | .shl, .val (.int k) a, .val (.int _) b => cnd (decide ((b : Int) < 0)) none (K (.val (.int k) (ishl k a b)))
  | .shr, .val (.int k) a, .val (.int _) b => cnd (decide ((b : Int) < 0)) none (K (.val (.int k) (ishr k a b)))
  | op, .val (.int k) a, .val (.int k') b => if k = k' then intBin op k a b K else none
  | op, .val .str a, .val .str b => strBin op a b K
  | .eql, .val .err b, .val .err false => cond (isErrT (tyLook TT xType)) (K (.val .bool (!b))) none
  | .neq, .val .err b, .val .err false => cond (isErrT (tyLook TT xType)) (K (.val .bool b)) none
  | .eql, x, y => match tyLook TT xType with
    | some ti => cond (eqvOk ti.ty) (valK m ti.ty x fun a _ => valK m ti.ty y fun b _ => K (.val .bool (eqv ti.ty a b))) none
    | none => none
  | .neq, x, y => match tyLook TT xType with
    | some ti => cond (eqvOk ti.ty) (valK m ti.ty x fun a _ => valK m ti.ty y fun b _ => K (.val .bool (!eqv ti.ty a b))) none
    | none => none
  | _, _, _ => none

def unK (op : UnOp) (x : AV) (K : AV → Option R) : Option R :=
  match op, x with
  | .neg, .val (.int k) n => K (.val (.int k) (k.wrap (0 - n)))
  | .xor, .val (.int k) n => K (.val (.int k) (ibits .xor k (if k.signed then -1 else k.max) n))
  | .not, .val .bool b => K (.val .bool (!b))
  | _, _ => none

def lenK (m : Lk) (ty : Ty) (x : AV) (K : AV → Option R) : Option R :=
  match ty, x with
  | .str, .val .str s => K (.val (.int .i64) (s.length : Int))
  | .list t, .val (.list s) xs => if s = t then K (.val (.int .i64) (xs.length : Int)) else none
  | .arr n _, .val (.arr n' _) _ => cond (Nat.beq n n') (K (.val (.int .i64) (n : Int))) none
  | .list t, .row id ver => cond (Nat.beq (m id).1 ver) (match (m id).2 with
      | .rowb s xs => if s = t then K (.val (.int .i64) (xs.length : Int)) else none
      | .ro s xs => if s = t then K (.val (.int .i64) (xs.length : Int)) else none
      | _ => none) none
  | .list t, .rowv id ver lo hi => cond (Nat.beq (m id).1 ver) (match (m id).2 with
      | .rowb s xs => if s = t then K (.val (.int .i64) (((xs.take hi).drop lo).length : Int)) else none
      | .ro s xs => if s = t then K (.val (.int .i64) (((xs.take hi).drop lo).length : Int)) else none
      | _ => none) none
  | .list _, .nil => K (.val (.int .i64) 0)
  | _, _ => none

/-- a row or variable of this version is there -/
def live (m : Lk) (id ver : Nat) : Bool := Nat.beq (m id).1 ver && (match (m id).2 with | .none => false | _ => true)

def indexAddrK (m : Lk) (ty : Ty) (x i : AV) (K : AV → Option R) : Option R :=
  match i with
  | .val (.int _) i =>
    match ty, x with
    | .list t, .row id ver => cond (Nat.beq (m id).1 ver) (match (m id).2 with
        | .rowb s xs => if s = t then bnd (geti xs i) fun _ => K (.ptr id ver [.idx (i : Int).toNat] t) else none
        | .ro s xs => if s = t then bnd (geti xs i) fun y => K (.rptr s y) else none
        | _ => none) none
    | .list t, .val (.list s) xs => if s = t then bnd (geti xs i) fun y => K (.rptr s y) else none
    | .list t, .rowv id ver lo hi => cond (Nat.beq (m id).1 ver) (match (m id).2 with
        | .rowb s xs => if s = t then bnd (geti ((xs.take hi).drop lo) i) fun _ => K (.ptr id ver [.idx (lo + (i : Int).toNat)] t) else none
        | _ => none) none
    | .arr n t, .ptr id ver p s => if s = .arr n t then cond (live m id ver) (cnd (inb i n) (K (.ptr id ver (p ++ [.idx (i : Int).toNat]) t)) none) none else none
    | .arr n t, .rptr (.arr n' t') xs => if t' = t then cond (Nat.beq n n') (bnd (geti xs i) fun y => K (.rptr t' y)) none else none
    | _, _ => none
  | _ => none

def loadK (m : Lk) (t : Ty) (a : AV) (K : AV → Option R) : Option R :=
  match a with
  | .ptr id ver p s => if s = t then
      cond (Nat.beq (m id).1 ver) (match (m id).2, p with
      | .box _ c, p => getAV c p K
      | .rowb e xs, .idx i :: p => bnd (xs[i]?) fun x => getVal e x p K
      | _, _ => none) none else none
  | .rptr s x => if s = t then K (.val s x) else none
  | _ => none

def storeK (m : Lk) (t : Ty) (a v : AV) (K : Mem → Option R) : Option R :=
  match a with
  | .ptr id ver p s => if s = t then cond (fits v t)
      (cond (Nat.beq (m id).1 ver) (match (m id).2, p with
      | .box bt c, p => setAV c p v fun c' => K [(id, ver, .box bt c')]
      | .rowb e xs, .idx i :: p => bnd (xs[i]?) fun x => valK m t v fun y ids => setVal e x p t y fun z => K ((id, ver, .rowb e (xs.set i z)) :: froz m (dedup ids))
      | _, _ => none) none) none else none
  | _ => none
where
  froz (m : Lk) : List Nat → Mem
    | [] => []
    | i :: r => match m i with
      | (ver, .rowb t xs) => (i, ver, .ro t xs) :: froz m r
      | _ => froz m r

def fieldTy : Ty → Nat → Option Ty
  | .pair a _, 0 => some a
  | .pair _ b, i + 1 => fieldTy b i
  | _, _ => none

def fieldAddrK (m : Lk) (ty : Ty) (a : AV) (f : Nat) (K : AV → Option R) : Option R :=
  match a with
  | .ptr id ver p s => if s = ty then cond (live m id ver) (match fieldTy ty f with | some t => K (.ptr id ver (p ++ [.fld f]) t) | none => none) none else none
  | .rptr s x => if s = ty then getVal s x [.fld f] fun v => match v with | .val t y => K (.rptr t y) | _ => none else none
  | _ => none

def optI (d : Int) : Option AV → Option Int
  | none => some d
  | some (.val (.int _) n) => some n
  | _ => none

def sliceK (m : Lk) (ty : Ty) (x : AV) (lo hi : Option AV) (K : AV → Option R) : Option R :=
  match ty, x with
  | .str, .val .str s => match optI 0 lo, optI (s.length : Int) hi with
    | some l, some h => bnd (slc s l h) fun r => K (.val .str r)
    | _, _ => none
  | .list t, .val (.list u) xs => if u = t then (match optI 0 lo, optI (xs.length : Int) hi with
    | some l, some h => bnd (slc xs l h) fun r => K (.val (.list u) r)
    | _, _ => none) else none
  | .list t, .row id ver => cond (Nat.beq (m id).1 ver) (match (m id).2 with
    | .rowb u xs => if u = t then (match optI 0 lo, optI (xs.length : Int) hi with
      | some l, some h => bnd (slc xs l h) fun _ => K (.rowv id ver l.toNat h.toNat)
      | _, _ => none) else none
    | .ro u xs => if u = t then (match optI 0 lo, optI (xs.length : Int) hi with
      | some l, some h => bnd (slc xs l h) fun r => K (.val (.list u) r)
      | _, _ => none) else none
    | _ => none) none
  | .list _, .nil => match optI 0 lo, optI 0 hi with
    | some l, some h => cnd (decide (l = 0) && decide (h = 0)) (K .nil) none
    | _, _ => none
  | _, _ => none

def stepVer (m : Lk) (id : Nat) : Nat := (m id).1 + 1

/-- append: d is the number for a new row -/
def appendK (m : Lk) (d : Nat) (t : Ty) (eb : Nat) (x y : AV) (K : AV → Mem → Option R) : Option R :=
  match x with
  | .nil => valK m (.list t) y fun ys ids => bnd (app eb ([] : List t.den) ys) fun zs =>
      K (.row d (stepVer m d)) ((d, stepVer m d, .rowb t zs) :: storeK.froz m (cond (hasList t) (dedup ids) []))
  | .row id ver => cond (Nat.beq (m id).1 ver) (match (m id).2 with
    | .rowb s xs => if h : s = t then valK m (.list t) y fun ys ids => cond (memB id ids) none (bnd (app eb (h ▸ xs : List t.den) ys) fun zs =>
        K (.row id (stepVer m id)) ((id, stepVer m id, .rowb t zs) :: storeK.froz m (cond (hasList t) (dedup ids) []))) else none
    | _ => none) none
  | .rowv id ver 0 hi => cond (Nat.beq (m id).1 ver) (match (m id).2 with
    | .rowb s xs => if h : s = t then cond (hasList t) none (valK m (.list t) y fun ys _ => cnd (decide (hi + ys.length ≤ xs.length))
        (K (.row id (stepVer m id)) [(id, stepVer m id, .rowb t ((h ▸ xs : List t.den).take hi ++ ys))]) none) else none
    | _ => none) none
  | _ => none

def convK (m : Lk) (d : Nat) (src dst : Ty) (x : AV) (K : AV → Mem → Option R) : Option R :=
  match src, dst, x with
  | .int _, .int k, .val (.int _) n => K (.val (.int k) (k.wrap n)) []
  | .str, .str, .val .str s => K (.val .str s) []
  | .str, .list (.int .u8), .val .str s => K (.row d (stepVer m d)) [(d, stepVer m d, .rowb (.int .u8) (toBytes s))]
  | .list (.int .u8), .str, x => valK m (.list (.int .u8)) x fun xs _ => K (.val .str (ofBytes xs)) []
  | _, _, _ => none

/-- the elements of a slice literal, in order; what is not told is zero -/
def litK (m : Lk) (t : Ty) : Nat → Nat → List (Nat × AV) → (List t.den → List Nat → Option R) → Option R
  | _, 0, [], K => K [] []
  | _, 0, _ :: _, _ => none
  | i, n + 1, [], K => litK m t (i + 1) n [] fun xs js => K (t.zero :: xs) js
  | i, n + 1, (j, v) :: r, K =>
    cond (Nat.beq j i) (valK m t v fun x ids => litK m t (i + 1) n r fun xs js => K (x :: xs) (ids ++ js))
      (litK m t (i + 1) n ((j, v) :: r) fun xs js => K (t.zero :: xs) js)

/-- the type of a part of a struct or an array -/
def partTy : Ty → Nat → Option Ty
  | .arr n t, i => cond (Nat.blt i n) (some t) none
  | t, i => fieldTy t i
def partPE : Ty → Nat → PE
  | .arr _ _, i => .idx i
  | _, i => .fld i
def buildK (ty : Ty) (a : AV) : List (Nat × AV) → (AV → Option R) → Option R
  | [], K => K a
  | (i, v) :: r, K => match partTy ty i with
    | some s => cond (fits v s) (setAV a [partPE ty i] v fun a' => buildK ty a' r K) none
    | none => none


/-! calls -/
structure AI where
  leaf : List (Option Nat)
  rid : List Nat
  ptr : Option (Nat × Nat × List PE × Ty × AV)   -- the box, its version, the place in it, its type, its content

def gArgs (m : Lk) : (ps : List PM) → List AV → ((insOT ps).den → List AI → Option R) → Option R
  | [], [], K => K () []
  | .ro t :: ps, a :: as_, K => valK m t a fun x ids => gArgs m ps as_ fun y l => K (x, y) (⟨[], ids, none⟩ :: l)
  | .io o :: ps, a :: as_, K => gatherK m o a fun x leaf ids => gArgs m ps as_ fun y l => K (x, y) (⟨leaf, ids, none⟩ :: l)
  | .mv o :: ps, a :: as_, K => gatherK m o a fun x leaf ids => gArgs m ps as_ fun y l => K (x, y) (⟨leaf, ids, none⟩ :: l)
  | .ptr o :: ps, .ptr id ver p t :: as_, K => if t = o.ty then
      cond (Nat.beq (m id).1 ver) (match (m id).2 with
      | .box bt c => getAV c p fun sub => gatherK m o sub fun x leaf ids => gArgs m ps as_ fun y l => K (x, y) (⟨leaf, ids, some (id, ver, p, bt, c)⟩ :: l)
      | _ => none) none else none
  | .fn f :: ps, .fn g :: as_, K => cond (Nat.beq f g) (gArgs m ps as_ fun y l => K y (⟨[], [], none⟩ :: l)) none
  | _, _, _ => none

def ownIds : List AI → List Nat
  | [] => []
  | a :: r => (match a.ptr with | some (id, _) => id :: somes a.leaf | none => somes a.leaf) ++ ownIds r
def roIds : List AI → List Nat
  | [] => []
  | a :: r => a.rid ++ roIds r

/-- what stands in the caller's memory behind the call: for each parameter in turn -/
def outsK (m : Lk) (site : Nat) : (ps : List PM) → (outsOT ps).den → List AI → Nat → (Mem → Option R) → Option R
  | [], _, _, _, K => K []
  | .ro _ :: ps, y, _ :: l, j, K => outsK m site ps y l j K
  | .fn _ :: ps, y, _ :: l, j, K => outsK m site ps y l j K
  | .mv _ :: ps, y, a :: l, j, K => outsK m site ps y l j fun u => K ((somes a.leaf).map (fun i => (i, (m i).1 + 1, .none)) ++ u)
  | .io o :: ps, y, a :: l, j, K => outsK m site ps y.2 l j fun u => K (backs m o y.1 a.leaf ++ u)
  | .ptr o :: ps, y, a :: l, j, K => match a.ptr with
    | some (id, ver, p, bt, c) =>
      setAV c p (rescat m site o y.1 a.leaf j).1 fun c' => outsK m site ps y.2 l (rescat m site o y.1 a.leaf j).2.2.2 fun u =>
        K ((id, ver, .box bt c') :: (rescat m site o y.1 a.leaf j).2.1 ++ u)
    | none => none
  | _, _, _, _, _ => none
where
  backs (m : Lk) (o : OT) (y : o.den) (ids : List (Option Nat)) : Mem := (go m o y ids).1
  go (m : Lk) : (o : OT) → o.den → List (Option Nat) → Mem × List (Option Nat)
    | .v _, _, ids => ([], ids)
    | .row t, xs, some id :: ids => ([(id, (m id).1, .rowb t xs)], ids)
    | .row _, _, none :: ids => ([], ids)
    | .row _, _, [] => ([], [])
    | .pair a b, x, ids => ((go m a x.1 ids).1 ++ (go m b x.2 (go m a x.1 ids).2).1, (go m b x.2 (go m a x.1 ids).2).2)
    | .unit, _, ids => ([], ids)
    | .ref _, _, ids => ([], ids)

def resAV : List OT → AV → AV
  | [], _ => .dead
  | [_], .cons a _ => a
  | _, a => .tup a

def callK (m : Lk) (d : Nat) (F : Fn) (as_ : List AV) (K : AV → Mem → Option R) : Option R :=
  gArgs m F.sig.ps as_ fun x l =>
    cond (F.sig.ok && nodupB (ownIds l) && disjB (roIds l) (ownIds l))
      (bnd (F.f x) fun r =>
        outsK m d F.sig.ps r.2 l (scat m d (rsOT F.sig.rs) r.1 0).2.2 fun u =>
          K (resAV F.sig.rs (scat m d (rsOT F.sig.rs) r.1 0).1)
            ((scat m d (rsOT F.sig.rs) r.1 0).2.1 ++ u ++ storeK.froz m (cond F.sig.leaky (dedup (roIds l)) [])))
      none

def hasNth : AV → Nat → Bool
  | .cons _ _, 0 => true
  | .cons _ b, i + 1 => hasNth b i
  | _, _ => false
/-- two values of an interface are compared with nil alone, as it is written -/
def errFit : AV → Operand → Bool
  | .val .err _, .const _ => true
  | .val .err _, _ => false
  | _, _ => true
def nthAV : AV → Nat → AV
  | .cons a _, 0 => a
  | .cons _ b, i + 1 => nthAV b i
  | _, _ => .dead

def sameOp : Operand → Operand → Bool
  | .tmp a, .tmp b => Nat.beq a b
  | .const (.int _ a), .const (.int _ b) => decide (a = b)
  | _, _ => false

def opK (TT : TTab) (G : Gam) (m : Lk) (ev : Operand → AV) (o : Oper) (K : AV → Mem → Option R) : Option R :=
  match o.op with
  | .move x => K (ev x) []
  | .assign x => K (ev x) []
  | .pick c a b => match ev c with
    | .val .bool t => cnd t (K (ev a) []) (K (ev b) [])
    | _ => none
  | .alloc e => match tyLook TT e, o.dst with
    | some ti, some d => K (.ptr d (stepVer m d) [] ti.ty) [(d, stepVer m d, .box ti.ty (zeroOf ti.ty))]
    | _, _ => none
  | .box e x => match tyLook TT e, o.dst with
    | some ti, some d => cond (fits (ev x) ti.ty) (K (.ptr d (stepVer m d) [] ti.ty) [(d, stepVer m d, .box ti.ty (ev x))]) none
    | _, _ => none
  | .build t parts => match tyLook TT t with
    | some ti => cond ti.ty.isAgg (buildK ti.ty (zeroOf ti.ty) (parts.toList.map fun p => (p.1, ev p.2)) fun a => K a []) none
    | none => none
  | .buildSlice t n parts => match tyLook TT t, o.dst with
    | some ⟨.list e, _, _⟩, some d => cond (Nat.ble (n * e.size) 16777216) (litK m e 0 n (parts.toList.map fun p => (p.1, ev p.2)) fun xs ids =>
        K (.row d (stepVer m d)) ((d, stepVer m d, .rowb e xs) :: storeK.froz m (dedup ids))) none
    | _, _ => none
  | .load t a => match tyLook TT t with
    | some ti => loadK m ti.ty (ev a) fun v => K v []
    | none => none
  | .store t a v => match tyLook TT t with
    | some ti => storeK m ti.ty (ev a) (ev v) fun u => K .dead u
    | none => none
  | .nilCheck x => match ev x with
    | .ptr id ver p t => cond (live m id ver) (K (.ptr id ver p t) []) none
    | .rptr t x => K (.rptr t x) []
    | .fn f => K (.fn f) []
    | _ => none
  | .binOp op t x y _ => cond (errFit (ev x) y) (binK TT m op t (ev x) (ev y) fun v => K v []) none
  | .unOp op _ x => unK op (ev x) fun v => K v []
  | .convert s t x => match tyLook TT s, tyLook TT t, o.dst with
    | some si, some ti, some d => convK m d si.ty ti.ty (ev x) K
    | _, _, _ => none
  | .makeSlice t l c => match tyLook TT t, o.dst, ev l with
    | some ⟨.list e, eb, _⟩, some d, .val (.int _) n => cond (sameOp l c)
        (cnd (decide (0 ≤ (n : Int) ∧ n * eb ≤ 140737488355328)) (K (.row d (stepVer m d)) [(d, stepVer m d, .rowb e (List.replicate (n : Int).toNat e.zero))]) none) none
    | _, _, _ => none
  | .slice t x lo hi none => match tyLook TT t with
    | some ti => sliceK m ti.ty (ev x) (lo.map ev) (hi.map ev) fun v => K v []
    | none => none
  | .fieldAddr s x f => match tyLook TT s with
    | some ti => fieldAddrK m ti.ty (ev x) f fun v => K v []
    | none => none
  | .field s x f => match tyLook TT s with
    | some ti => cond (fits (ev x) ti.ty) (getAV (ev x) [.fld f] fun v => K v []) none
    | none => none
  | .indexAddr t x i => match tyLook TT t with
    | some ti => indexAddrK m ti.ty (ev x) (ev i) fun v => K v []
    | none => none
  | .index t x i => match tyLook TT t, ev x, ev i with
    | some ⟨.str, _, _⟩, .val .str s, .val (.int _) i => bnd (geti s i) fun c => K (.val (.int .u8) (c.toNat : Int)) []
    | some ⟨.arr n e, _, _⟩, .val (.arr n' e') xs, .val (.int _) i => cond (Nat.beq n n') (if h : e' = e then bnd (geti xs i) fun y => K (.val e (h ▸ y)) [] else none) none
    | _, _, _ => none
  | .extract x i => match ev x with
    | .tup a => cond (hasNth a i) (K (nthAV a i) []) none
    | _ => none
  | .call c => match c.callee with
    | .builtin .len => match c.args.toList, c.argTypes.toList with
      | [x], t :: _ => match tyLook TT t with
        | some ti => lenK m ti.ty (ev x) fun v => K v []
        | none => none
      | _, _ => none
    | .builtin .append => match c.args.toList, c.argTypes.toList, o.dst with
      | [x, y], t :: u :: _, some d => cond (Nat.beq t u) (match tyLook TT t with
        | some ⟨.list e, eb, _⟩ => appendK m d e eb (ev x) (ev y) K
        | _ => none) none
      | _, _, _ => none
    | .builtin .min => match c.args.toList.map ev with
      | [.val (.int k) a, .val (.int k') b] => if k = k' then K (.val (.int k) (mn a b)) [] else none
      | _ => none
    | .builtin .max => match c.args.toList.map ev with
      | [.val (.int k) a, .val (.int k') b] => if k = k' then K (.val (.int k) (mx a b)) [] else none
      | _ => none
    | .value f => match ev f, o.dst with
      | .fn f, some d => match fnLook G f with
        | some F => callK m d F (c.args.toList.map ev) K
        | none => none
      | _, _ => none
    | _ => none
  | _ => none
end

def puts : Mem → Mem → Mem
  | m, [] => m
  | m, (i, e) :: u => puts (put m i e) u

/-! ### Regions -/
def idsAV : AV → List Nat
  | .row id _ => [id]
  | .rowv id _ _ _ => [id]
  | .ptr id _ _ _ => [id]
  | .cons a b => idsAV a ++ idsAV b
  | .tup a => idsAV a
  | _ => []
def idsIn (m : Lk) : List Nat → List Nat
  | [] => []
  | i :: r => (match (m i).2 with | .box _ c => idsAV c | _ => []) ++ idsIn m r
def idsOps (ev : Operand → AV) : List Operand → List Nat
  | [] => []
  | x :: r => idsAV (ev x) ++ idsOps ev r
def siteIds (d : Nat) : List Nat := [d, sid d 1, sid d 2, sid d 3, sid d 4, sid d 5, sid d 6, sid d 7, sid d 8, sid d 9, sid d 10, sid d 11, sid d 12, sid d 13, sid d 14, sid d 15]
/-- the rows and variables that an operation may read or write -/
def copies : Op → Bool
  | .move _ => true
  | .assign _ => true
  | _ => false
def foot (m : Lk) (ev : Operand → AV) (o : Oper) : List Nat :=
  cond (copies o.op) [] (idsOps ev o.op.operands.toList ++ idsIn m (idsOps ev o.op.operands.toList) ++ (match o.dst with | some d => siteIds d | none => []))
def mask (m : Lk) (F : List Nat) : Lk := fun i => cond (memB i F) (m i) (0, .none)
def allIn : List Nat → List Nat → Bool
  | [], _ => true
  | i :: r, l => memB i l && allIn r l
def fsts : Mem → List Nat
  | [] => []
  | (i, _) :: r => i :: fsts r

section
variable {R : Type}
def setO (l : List AV) (d : Option Nat) (v : AV) : List AV := match d with | some d => setT l d v | none => l
def runOp1 (E : En) (o : Oper) (st : St) (K : St → Option R) : Option R :=
  opK E.TT E.G (look st.mem) (evT E.GL st.tmps) o fun v u => cond (nodupB (fsts u)) (K { st with tmps := setO st.tmps o.dst v, mem := puts st.mem u }) none
/-- one operation, in the state; what its guard says is learned -/
def runOp (E : En) (ops : Array Oper) (o : Oper) (st : St) (K : St → Option R) : Option R :=
  match o.guard with
  | none => runOp1 E o st K
  | some (j, want) =>
    match (ops[j]?).bind (·.dst) with
    | some d =>
      match getT st.tmps d with
      | .val .bool b => cnd b
          (match want with
            | true => runOp1 E o { st with tmps := setT st.tmps d (.val .bool true) } K
            | false => K { st with tmps := setO (setT st.tmps d (.val .bool true)) o.dst .und })
          (match want with
            | true => K { st with tmps := setO (setT st.tmps d (.val .bool false)) o.dst .und }
            | false => runOp1 E o { st with tmps := setT st.tmps d (.val .bool false) } K)
      | .und => K { st with tmps := setO st.tmps o.dst .und }
      | _ => none
    | none => none

def runOps (E : En) (ops : Array Oper) : List Oper → St → (St → Option R) → Option R
  | [], st, K => K st
  | o :: r, st, K => runOp E ops o st fun st' => runOps E ops r st' K

/-! A region that draws its order: what each operation touches is told. -/
structure Touch where
  foot : List Nat
  upd : List Nat
def runOpD1 (E : En) (o : Oper) (st : St) (K : St → Touch → Option R) : Option R :=
  opK E.TT E.G (mask (look st.mem) (foot (look st.mem) (evT E.GL st.tmps) o)) (evT E.GL st.tmps) o fun v u =>
    cond (nodupB (fsts u) && allIn (fsts u) (foot (look st.mem) (evT E.GL st.tmps) o))
      (K { st with tmps := setO st.tmps o.dst v, mem := puts st.mem u } ⟨foot (look st.mem) (evT E.GL st.tmps) o, fsts u⟩) none
def runOpD (E : En) (ops : Array Oper) (o : Oper) (st : St) (K : St → Touch → Option R) : Option R :=
  match o.guard with
  | none => runOpD1 E o st K
  | some (j, want) =>
    match (ops[j]?).bind (·.dst) with
    | some d =>
      match getT st.tmps d with
      | .val .bool b => cnd b
          (match want with
            | true => runOpD1 E o { st with tmps := setT st.tmps d (.val .bool true) } K
            | false => K { st with tmps := setO (setT st.tmps d (.val .bool true)) o.dst .und } ⟨[], []⟩)
          (match want with
            | true => K { st with tmps := setO (setT st.tmps d (.val .bool false)) o.dst .und } ⟨[], []⟩
            | false => runOpD1 E o { st with tmps := setT st.tmps d (.val .bool false) } K)
      | .und => K { st with tmps := setO st.tmps o.dst .und } ⟨[], []⟩
      | _ => none
    | none => none

/-- the edges lead back -/
def edgesGo : Nat → List Oper → Bool
  | _, [] => true
  | i, o :: r => o.after.toList.all (fun e => !Region.binds .any e || Nat.blt e.on i) && edgesGo (i + 1) r
def edgesOk (ops : Array Oper) : Bool := edgesGo 0 ops.toList
def slotsRead (ops : Array Oper) (o : Oper) : List Nat :=
  (match o.guard with | some (j, _) => (match (ops[j]?).bind (·.dst) with | some d => [d] | none => []) | none => []) ++
  o.op.operands.toList.filterMap fun | .tmp t => some t | _ => none
def slotsWrit (o : Oper) : List Nat := match o.dst with | some d => [d] | none => []
/-- two operations that may change places -/
def apart (ops : Array Oper) (a b : Oper) (s t : Touch) : Bool :=
  disjB (slotsWrit a) (slotsRead ops b ++ slotsWrit b) && disjB (slotsWrit b) (slotsRead ops a) && disjB s.upd t.foot && disjB t.upd s.foot
/-- operation j (bits b: what is surely ahead of it) against all that stand ahead of it in the text -/
def apartAll (ops : Array Oper) (b : Nat) (o : Oper) (t : Touch) : Nat → List (Oper × Touch) → Bool
  | _, [] => true
  | i, (o', s) :: r => (b.testBit i || apart ops o' o s t) && apartAll ops b o t (i + 1) r
def runOpsD (E : En) (ops : Array Oper) (bf : Array Nat) : List Oper → Nat → List (Oper × Touch) → St → (St → Option R) → Option R
  | [], _, _, st, K => K st
  | o :: r, j, done, st, K => runOpD E ops o st fun st' t =>
    cond (apartAll ops (bf.getD j 0) o t 0 done) (runOpsD E ops bf r (j + 1) (done ++ [(o, t)]) st' K) none
end
end Go.Vi

set_option autoImplicit false
namespace Go.Vi
open Go

/-! ### A state's form: which slots and variables live on, and how they are named -/
inductive Sh | v (t : Ty) | row (id : Nat) (t : Ty) | fn (f : Nat) | ptr (id : Nat) (p : List PE) (t : Ty) | pair (a b : Sh) | unit
  | ali (id : Nat) | pidx (id : Nat) (t : Ty)
  deriving Inhabited
@[reducible] def Sh.den : Sh → Type
  | .v t => t.den
  | .row _ t => List t.den
  | .fn _ => Unit
  | .ptr _ _ _ => Unit
  | .pair a b => a.den × b.den
  | .unit => Unit
  | .ali _ => Unit
  | .pidx _ _ => Nat
structure Tmpl where
  n : Nat
  slots : List (Nat × Sh)
  boxes : List (Nat × Ty × Sh)
  gh : List AV
@[reducible] def slotsDen : List (Nat × Sh) → Type
  | [] => Unit
  | p :: r => p.2.den × slotsDen r
@[reducible] def boxesDen : List (Nat × Ty × Sh) → Type
  | [] => Unit
  | p :: r => p.2.2.den × boxesDen r
@[reducible] def Tmpl.den (T : Tmpl) : Type := slotsDen T.slots × boxesDen T.boxes

def eqPE : List PE → List PE → Bool
  | [], [] => true
  | .fld i :: p, .fld j :: q => Nat.beq i j && eqPE p q
  | _, _ => false

/-- how rows are named anew; what is read; aliases -/
structure Ren where
  ren : List (Nat × Option Nat)
  ro : List Nat
  ali : List (Nat × Nat)
def Ren.add (a b : Ren) : Ren := ⟨a.ren ++ b.ren, a.ro ++ b.ro, a.ali ++ b.ali⟩
def Ren.nil : Ren := ⟨[], [], []⟩
/-- a form's data has the layout of a type -/
def shFits : Sh → Ty → Bool
  | .v s, t => decide (s = t)
  | .row _ _, .list _ => true
  | .ali _, .list _ => true
  | .pair a b, .pair s t => shFits a s && shFits b t
  | .unit, .unit => true
  | _, _ => false
def deadB : AV → Bool
  | .dead => true
  | _ => false
section
variable {R : Type}
def packSh (m : Lk) : (s : Sh) → AV → (s.den → Ren → Option R) → Option R
  | .v t, a, K => valK m t a fun x ids => K x ⟨[], ids, []⟩
  | .row id t, .row id' ver, K => cond (Nat.beq (m id').1 ver) (match (m id').2 with
      | .rowb s xs => if h : s = t then K (h ▸ xs) ⟨[(id, some id')], [], []⟩ else none
      | _ => none) none
  | .row id t, .nil, K => cond (Nat.blt 0 t.size) (K [] ⟨[(id, none)], [], []⟩) none
  | .fn f, .fn g, K => cond (Nat.beq f g) (K () .nil) none
  | .ptr id p t, .ptr id' ver q s, K => cond (eqPE p q && Nat.beq (m id').1 ver) (if s = t then K () ⟨[], [], [(id, id')]⟩ else none) none
  | .pair a b, .cons x y, K => packSh m a x fun x' i => packSh m b y fun y' j => K (x', y') (i.add j)
  | .pair a b, .val (.pair s t) x, K => packSh m a (.val s x.1) fun x' i => packSh m b (.val t x.2) fun y' j => K (x', y') (i.add j)
  | .unit, .unt, K => K () .nil
  | .unit, .val .unit _, K => K () .nil
  | .ali id, .row id' ver, K => cond (Nat.beq (m id').1 ver) (K () ⟨[], [], [(id, id')]⟩) none
  | .pidx id t, .ptr id' ver [.idx i] s, K => cond (Nat.beq (m id').1 ver) (if s = t then K i ⟨[], [], [(id, id')]⟩ else none) none
  | _, _, _ => none
def packSlots (m : Lk) (tmps : List AV) : (l : List (Nat × Sh)) → (slotsDen l → Ren → Option R) → Option R
  | [], K => K () .nil
  | (i, s) :: l, K => packSh m s (getT tmps i) fun x n => packSlots m tmps l fun y n' => K (x, y) (n.add n')
def packBoxes (m : Lk) : (l : List (Nat × Ty × Sh)) → (boxesDen l → Ren → Option R) → Option R
  | [], K => K () .nil
  | (id, t, s) :: l, K => match (m id).2 with
    | .box t' c => if t' = t then cond (shFits s t) (packSh m s c fun x n => packBoxes m l fun y n' => K (x, y) (Ren.add ⟨[(id, some id)], [], []⟩ (n.add n'))) none else none
    | _ => none
def olds : List (Nat × Option Nat) → List Nat
  | [] => []
  | (_, some i) :: r => i :: olds r
  | (_, none) :: r => olds r
def news : List (Nat × Option Nat) → List Nat
  | [] => []
  | (i, _) :: r => i :: news r
def renHas : List (Nat × Option Nat) → Nat → Nat → Bool
  | [], _, _ => false
  | (i, some j) :: r, k, l => (Nat.beq i k && Nat.beq j l) || renHas r k l
  | (_, none) :: r, k, l => renHas r k l
def alisOk (n : List (Nat × Option Nat)) : List (Nat × Nat) → Bool
  | [] => true
  | (i, j) :: r => renHas n i j && alisOk n r
/-- what the form says of a parameter's rows that are given back -/
def ghOk (m : Lk) (n : List (Nat × Option Nat)) : AV → AV → Bool
  | .row i 0, .row j ver => Nat.beq (m j).1 ver && renHas n i j
  | .ptr i 0 [] t, .ptr j ver [] s => Nat.beq (m j).1 ver && renHas n i j && decide (s = t)
  | .cons a b, .cons c d => ghOk m n a c && ghOk m n b d
  | .unt, .unt => true
  | _, _ => false
def ghsOk (m : Lk) (n : List (Nat × Option Nat)) : List AV → List AV → Bool
  | [], [] => true
  | a :: l, b :: k => (deadB a || ghOk m n a b) && ghsOk m n l k
  | _, _ => false
def packK (T : Tmpl) (st : St) (K : T.den → Option R) : Option R :=
  packSlots (look st.mem) st.tmps T.slots fun x n => packBoxes (look st.mem) T.boxes fun y n' =>
    cond (nodupB (olds (n.add n').ren) && nodupB (news (n.add n').ren) && disjB (n.add n').ro (olds (n.add n').ren) && alisOk (n.add n').ren (n.add n').ali && ghsOk (look st.mem) (n.add n').ren T.gh st.ghosts && Nat.beq st.tmps.length T.n)
      (K (x, y)) none
end

def unSh : (s : Sh) → s.den → AV × Mem
  | .v t, x => (.val t x, [])
  | .row id t, xs => (.row id 0, [(id, 0, .rowb t xs)])
  | .fn f, _ => (.fn f, [])
  | .ptr id p t, _ => (.ptr id 0 p t, [])
  | .pair a b, x => (.cons (unSh a x.1).1 (unSh b x.2).1, (unSh a x.1).2 ++ (unSh b x.2).2)
  | .unit, _ => (.unt, [])
  | .ali id, _ => (.row id 0, [])
  | .pidx id t, i => (.ptr id 0 [.idx i] t, [])
def unSlots : (l : List (Nat × Sh)) → slotsDen l → List (Nat × AV) × Mem
  | [], _ => ([], [])
  | p :: l, x => ((p.1, (unSh p.2 x.1).1) :: (unSlots l x.2).1, (unSh p.2 x.1).2 ++ (unSlots l x.2).2)
def unBoxes : (l : List (Nat × Ty × Sh)) → boxesDen l → Mem
  | [], _ => []
  | p :: l, x => (p.1, 0, .box p.2.1 (unSh p.2.2 x.1).1) :: (unSh p.2.2 x.1).2 ++ unBoxes l x.2
def slotOf : List (Nat × AV) → Nat → AV
  | [], _ => .dead
  | (i, a) :: l, j => cond (Nat.beq i j) a (slotOf l j)
def slotsOf (l : List (Nat × AV)) : Nat → Nat → List AV
  | _, 0 => []
  | i, n + 1 => slotOf l i :: slotsOf l (i + 1) n
def unpack (T : Tmpl) (x : T.den) : St :=
  { tmps := slotsOf (unSlots T.slots x.1).1 0 T.n, mem := (unSlots T.slots x.1).2 ++ unBoxes T.boxes x.2, ghosts := T.gh }

/-! ### Iteration -/
def iterN {σ ρ : Type} (f : σ → Option (σ ⊕ ρ)) : Nat → σ → Option ρ
  | 0, _ => none
  | n + 1, s => match f s with
    | none => none
    | some (.inr r) => some r
    | some (.inl s') => iterN f n s'
open Classical in
noncomputable def iter {σ ρ : Type} (f : σ → Option (σ ⊕ ρ)) (s : σ) : Option ρ :=
  if h : ∃ r n, iterN f n s = some r then some h.choose else none

theorem iterN_mono {σ ρ : Type} (f : σ → Option (σ ⊕ ρ)) : ∀ (n : Nat) (s : σ) (r : ρ), iterN f n s = some r → ∀ m, n ≤ m → iterN f m s = some r := by
  intro n
  induction n with
  | zero => intro s r h; simp [iterN] at h
  | succ n ih =>
    intro s r h m hm
    obtain ⟨m, rfl⟩ : ∃ k, m = k + 1 := ⟨m - 1, by omega⟩
    simp only [iterN] at h ⊢
    split at h
    · simp at h
    · exact h
    · exact ih _ _ h m (by omega)
theorem iter_some {σ ρ : Type} (f : σ → Option (σ ⊕ ρ)) (s : σ) (r : ρ) : iter f s = some r ↔ ∃ n, iterN f n s = some r := by
  unfold iter
  constructor
  · intro h
    split at h
    · rename_i hh
      obtain ⟨n, hn⟩ := hh.choose_spec
      simp only [Option.some.injEq] at h
      exact ⟨n, h ▸ hn⟩
    · simp at h
  · rintro ⟨n, hn⟩
    have hh : ∃ r n, iterN f n s = some r := ⟨r, n, hn⟩
    rw [dif_pos hh]
    obtain ⟨k, hk⟩ := hh.choose_spec
    have h1 := iterN_mono f n s r hn (max n k) (by omega)
    have h2 := iterN_mono f k s _ hk (max n k) (by omega)
    rw [h1] at h2
    exact h2.symm
theorem iter_eq {σ ρ : Type} (f : σ → Option (σ ⊕ ρ)) (s : σ) : iter f s = (f s).bind fun | .inl s' => iter f s' | .inr r => some r := by
  apply Option.ext
  intro r
  rw [iter_some]
  constructor
  · rintro ⟨n, hn⟩
    cases n with
    | zero => simp [iterN] at hn
    | succ n =>
      simp only [iterN] at hn
      split at hn
      · simp at hn
      · rename_i r' h; rw [h]; simpa using hn
      · rename_i s' h; rw [h]; simp only [Option.bind_some]; exact (iter_some ..).2 ⟨n, hn⟩
  · intro h
    cases hf : f s with
    | none => rw [hf] at h; simp at h
    | some x =>
      rw [hf] at h
      simp only [Option.bind_some] at h
      cases x with
      | inl s' => obtain ⟨n, hn⟩ := (iter_some ..).1 h; exact ⟨n + 1, by simp only [iterN, hf]; exact hn⟩
      | inr r' => exact ⟨1, by simp only [iterN, hf]; simpa using h⟩

/-! ### Code -/
abbrev Exits := List (Nat × Tmpl)
@[reducible] def exDen : Exits → Type
  | [] => Unit
  | [p] => p.2.den
  | p :: q :: r => p.2.den ⊕ exDen (q :: r)
structure Cut where
  t : Tmpl
  x : Exits
def cutLook : List (Nat × Cut) → Nat → Option Cut
  | [], _ => none
  | (i, e) :: m, j => cond (Nat.beq i j) (some e) (cutLook m j)
structure Cx where
  E : En
  sig : Sig
  results : List ResultVar
  L : List (Nat × Cut)
  J : List (Nat × Cut)

inductive XK | normal | exit (i : Nat)
inductive Ex (O : Type) | go (e : XK) (st : St) | ret (o : O)

section
variable {R : Type}
def gRes (TT : TTab) (m : Lk) (tmps : List AV) : (rs : List OT) → List ResultVar → ((rsOT rs).den → List Nat → List Nat → Option R) → Option R
  | [], [], K => K () [] []
  | o :: rs, .tmp t :: l, K => gatherK m o (getT tmps t) fun x leaf ids => gRes TT m tmps rs l fun y n r => K (x, y) (somes leaf ++ n) (ids ++ r)
  | o :: rs, .cell a t :: l, K => match tyLook TT t with
    | some ti => loadK m ti.ty (getT tmps a) fun v => gatherK m o v fun x leaf ids => gRes TT m tmps rs l fun y n r => K (x, y) (somes leaf ++ n) (ids ++ r)
    | none => none
  | _, _, _ => none
def gOuts (m : Lk) : (ps : List PM) → List AV → ((outsOT ps).den → List Nat → List Nat → Option R) → Option R
  | [], [], K => K () [] []
  | .ro _ :: ps, gs, K => gOuts m ps gs K
  | .mv _ :: ps, gs, K => gOuts m ps gs K
  | .fn _ :: ps, gs, K => gOuts m ps gs K
  | .io o :: ps, g :: gs, K => gatherK m o g fun x leaf ids => gOuts m ps gs fun y n r => K (x, y) (somes leaf ++ n) (ids ++ r)
  | .ptr o :: ps, .ptr id ver [] _ :: gs, K => cond (Nat.beq (m id).1 ver) (match (m id).2 with
      | .box t c => if t = o.ty then gatherK m o c fun x leaf ids => gOuts m ps gs fun y n r => K (x, y) (id :: somes leaf ++ n) (ids ++ r) else none
      | _ => none) none
  | _, _, _ => none
def finishK (C : Cx) (st : St) (K : C.sig.outDen → Option R) : Option R :=
  gRes C.E.TT (look st.mem) st.tmps C.sig.rs C.results fun x n r => gOuts (look st.mem) C.sig.ps st.ghosts fun y n' r' =>
    cond (nodupB (n ++ n') && disjB (r ++ r') (n ++ n')) (K (x, y)) none
def capEx (st : St) (i : Nat) : (l : Exits) → (exDen l → Option R) → Option R
  | [], _ => none
  | [p], K => cond (Nat.beq i p.1) (packK p.2 st K) none
  | p :: q :: r, K => cond (Nat.beq i p.1) (packK p.2 st fun y => K (.inl y)) (capEx st i (q :: r) fun y => K (.inr y))
def exK : (l : Exits) → exDen l → (Nat → St → Option R) → Option R
  | [], _, _ => none
  | [p], y, f => f p.1 (unpack p.2 y)
  | p :: _ :: _, .inl y, f => f p.1 (unpack p.2 y)
  | _ :: q :: r, .inr e, f => exK (q :: r) e f
end

def joinId : Code → Nat
  | .seq (.region id _ _) (.cond _ _ _) => id
  | .region id _ _ => id + 100000
  | .block id _ => id + 200000
  | _ => 999999

abbrev LR (C : Cx) (T : Cut) : Type := T.t.den ⊕ (exDen T.x ⊕ C.sig.outDen)
def cap (C : Cx) (T : Cut) : Ex C.sig.outDen → Option (LR C T)
  | .go .normal st => packK T.t st fun y => some (.inl y)
  | .go (.exit i) st => capEx st i T.x fun y => some (.inr (.inl y))
  | .ret o => some (.inr (.inr o))

/-- the list itself, laid out -/
def forceL {R : Type} : List AV → (List AV → Option R) → Option R
  | [], K => K []
  | a :: l, K => forceL l fun l' => K (a :: l')

def regionK {R : Type} (C : Cx) (ops : Array Oper) (draw : Bool) (st : St) (K : St → Option R) : Option R :=
  match draw with
  | false => runOps C.E ops ops.toList st fun st' => forceL st'.tmps fun l => K { st' with tmps := l }
  | true => cond (edgesOk ops) (runOpsD C.E ops (Region.before ops) ops.toList 0 [] st fun st' => forceL st'.tmps fun l => K { st' with tmps := l }) none

noncomputable def execK (C : Cx) : Code → Nat → St → (R : Type) → (Ex C.sig.outDen → Option R) → Option R
  | .skip, _, st, _, K => K (.go .normal st)
  | .region _ ops draw, _, st, _, K => regionK C ops draw st fun st' => K (.go .normal st')
  | .seq a b, cur, st, R, K =>
    match cutLook C.J (joinId a) with
    | some T => bnd (execK C a cur st (LR C T) (cap C T)) fun
      | .inl y => execK C b cur (unpack T.t y) R K
      | .inr (.inl y) => exK T.x y fun i st' => K (.go (.exit i) st')
      | .inr (.inr o) => K (.ret o)
    | none => execK C a cur st R fun
      | .go .normal st' => execK C b cur st' R K
      | e => K e
  | .cond c a b, cur, st, R, K =>
    match evT C.E.GL st.tmps c with
    | .val .bool t => cnd t (execK C a cur st R K) (execK C b cur st R K)
    | _ => none
  | .block id b, _, st, R, K => execK C b id st R fun
    | .go (.exit i) st' => _root_.cond (Nat.beq i id) (K (.go .normal st')) (K (.go (.exit i) st'))
    | e => K e
  | .loop c, cur, st, R, K =>
    match cutLook C.L cur with
    | some T => packK T.t st fun x => bnd (iter (ρ := exDen T.x ⊕ C.sig.outDen) (fun x => execK C c cur (unpack T.t x) (LR C T) (cap C T)) x) fun
      | .inl y => exK T.x y fun i st' => K (.go (.exit i) st')
      | .inr o => K (.ret o)
    | none => none
  | .exit i, _, st, _, K => K (.go (.exit i) st)
  | .ret, _, st, _, K => finishK C st fun o => K (.ret o)
  | _, _, _, _, _ => none

/-! ### A function -/
def pbase (i : Nat) : Nat := 5000 + i
def parAV (m : Lk) : (ps : List PM) → (insOT ps).den → Nat → List AV × Mem × List AV
  | [], _, _ => ([], [], [])
  | .ro t :: ps, x, i => (.val t x.1 :: (parAV m ps x.2 (i + 1)).1, (parAV m ps x.2 (i + 1)).2)
  | .io o :: ps, x, i => ((scat m (pbase i) o x.1 0).1 :: (parAV m ps x.2 (i + 1)).1, (scat m (pbase i) o x.1 0).2.1 ++ (parAV m ps x.2 (i + 1)).2.1, (scat m (pbase i) o x.1 0).1 :: (parAV m ps x.2 (i + 1)).2.2)
  | .mv o :: ps, x, i => ((scat m (pbase i) o x.1 0).1 :: (parAV m ps x.2 (i + 1)).1, (scat m (pbase i) o x.1 0).2.1 ++ (parAV m ps x.2 (i + 1)).2.1, (parAV m ps x.2 (i + 1)).2.2)
  | .ptr o :: ps, x, i => (.ptr (pbase i) 1 [] o.ty :: (parAV m ps x.2 (i + 1)).1, (pbase i, 1, .box o.ty (scat m (pbase i) o x.1 1).1) :: (scat m (pbase i) o x.1 1).2.1 ++ (parAV m ps x.2 (i + 1)).2.1, .ptr (pbase i) 1 [] o.ty :: (parAV m ps x.2 (i + 1)).2.2)
  | .fn f :: ps, x, i => (.fn f :: (parAV m ps x (i + 1)).1, (parAV m ps x (i + 1)).2)

def initSt (sig : Sig) (ntmps : Nat) (x : sig.inDen) : St :=
  { tmps := (parAV (fun _ => (0, .none)) sig.ps x 0).1 ++ List.replicate (ntmps - sig.ps.length) .und,
    mem := (parAV (fun _ => (0, .none)) sig.ps x 0).2.1, ghosts := (parAV (fun _ => (0, .none)) sig.ps x 0).2.2 }

noncomputable def runFn (C : Cx) (ntmps : Nat) (body : Code) (x : C.sig.inDen) : Option C.sig.outDen :=
  cond (nodupB (fsts (initSt C.sig ntmps x).mem)) (execK C body 999999 (initSt C.sig ntmps x) _ fun
    | .go .normal st => finishK C st some
    | .ret o => some o
    | _ => none) none
end Go.Vi

set_option autoImplicit false
set_option linter.unusedVariables false
namespace Go.Vi
open Go

/-! ## Lists of cells -/
def CellsAt (w : World) (b o : Nat) (cs : List Value) : Prop := ∀ j v, cs[j]? = some v → w.cell? ⟨b, o + j, none⟩ = some v

def RepAll {α : Type} (R : α → List Value → Prop) : List α → List Value → Prop
  | [], cs => cs = []
  | x :: xs, cs => ∃ c1 c2, cs = c1 ++ c2 ∧ R x c1 ∧ RepAll R xs c2

def sv (s : List UInt8) : Value := .string ⟨⟨s⟩⟩

def Rep (A : Nat → Prop) (w : World) : (t : Ty) → t.den → List Value → Prop
  | .int k, n, cs => cs = [.int k n]
  | .bool, b, cs => cs = [.bool b]
  | .str, s, cs => cs = [sv s]
  | .err, b, cs => (b = false ∧ cs = [.nilIface]) ∨ (b = true ∧ ∃ t u, cs = [.iface t u])
  | .unit, _, cs => cs = []
  | .pair a b, x, cs => ∃ c1 c2, cs = c1 ++ c2 ∧ Rep A w a x.1 c1 ∧ Rep A w b x.2 c2
  | .arr n t, xs, cs => List.length xs = n ∧ RepAll (Rep A w t) xs cs
  | .list t, xs, cs => ∃ a c, cs = [.slice a (List.length xs) c] ∧ List.length xs ≤ c ∧
      (xs = [] ∨ ∃ b o all, a = some ⟨b, o, none⟩ ∧ A b ∧ CellsAt w b o all ∧ RepAll (Rep A w t) xs all)

theorem RepAll.mono {α : Type} {R S : α → List Value → Prop} (h : ∀ x c, R x c → S x c) : ∀ {xs : List α} {cs : List Value}, RepAll R xs cs → RepAll S xs cs := by
  intro xs
  induction xs with
  | nil => intro cs h0; exact h0
  | cons x xs ih => rintro cs ⟨c1, c2, e, h1, h2⟩; exact ⟨c1, c2, e, h _ _ h1, ih h2⟩

theorem RepAll.length {α : Type} {R : α → List Value → Prop} {n : Nat} (h : ∀ x c, R x c → c.length = n) : ∀ {xs : List α} {cs : List Value}, RepAll R xs cs → cs.length = xs.length * n := by
  intro xs
  induction xs with
  | nil => intro cs h0; simp [RepAll] at h0; simp [h0]
  | cons x xs ih =>
    rintro cs ⟨c1, c2, rfl, h1, h2⟩
    simp [h _ _ h1, ih h2, Nat.add_mul, Nat.add_comm]

theorem Rep.length {A : Nat → Prop} {w : World} : ∀ {t : Ty} {x : t.den} {cs : List Value}, Rep A w t x cs → cs.length = t.size := by
  intro t
  induction t with
  | int k => intro x cs h; simp [Rep] at h; simp [h, Ty.size]
  | bool => intro x cs h; simp [Rep] at h; simp [h, Ty.size]
  | str => intro x cs h; simp [Rep] at h; simp [h, Ty.size]
  | err => intro x cs h; rcases h with ⟨_, rfl⟩ | ⟨_, _, _, rfl⟩ <;> simp [Ty.size]
  | unit => intro x cs h; simp [Rep] at h; simp [h, Ty.size]
  | list t ih => rintro x cs ⟨a, c, rfl, _⟩; simp [Ty.size]
  | arr n t ih => rintro x cs ⟨h1, h2⟩; simp [Ty.size, RepAll.length (fun x c h => ih h) h2, h1]
  | pair a b iha ihb => rintro x cs ⟨c1, c2, rfl, h1, h2⟩; simp [Ty.size, iha h1, ihb h2]

theorem CellsAt.mono {w w' : World} {b o : Nat} {cs : List Value} (hb : w'.heap[b]? = w.heap[b]?) (h : CellsAt w b o cs) : CellsAt w' b o cs := by
  intro j v hj
  have := h j v hj
  simpa [World.cell?, hb] using this

/-- What is read stays, if the blocks that it lies in stay. -/
theorem Rep.mono {A A' : Nat → Prop} {w w' : World} (h : ∀ b, A b → A' b ∧ w'.heap[b]? = w.heap[b]?) : ∀ {t : Ty} {x : t.den} {cs : List Value}, Rep A w t x cs → Rep A' w' t x cs := by
  intro t
  induction t with
  | int k => intro x cs h0; exact h0
  | bool => intro x cs h0; exact h0
  | str => intro x cs h0; exact h0
  | err => intro x cs h0; exact h0
  | unit => intro x cs h0; exact h0
  | list t ih =>
    rintro x cs ⟨a, c, e, hc, h0⟩
    refine ⟨a, c, e, hc, ?_⟩
    rcases h0 with h0 | ⟨b, o, all, ha, hA, hc, hr⟩
    · exact .inl h0
    · exact .inr ⟨b, o, all, ha, (h b hA).1, hc.mono (h b hA).2, hr.mono fun x c hx => ih hx⟩
  | arr n t ih => rintro x cs ⟨h1, h2⟩; exact ⟨h1, h2.mono fun x c hx => ih hx⟩
  | pair a b iha ihb => rintro x cs ⟨c1, c2, e, h1, h2⟩; exact ⟨c1, c2, e, iha h1, ihb h2⟩

theorem RepAll.append {α : Type} {R : α → List Value → Prop} : ∀ {xs ys : List α} {cs ds : List Value}, RepAll R xs cs → RepAll R ys ds → RepAll R (xs ++ ys) (cs ++ ds) := by
  intro xs
  induction xs with
  | nil => intro ys cs ds h k; simp [RepAll] at h; subst h; simpa using k
  | cons x xs ih =>
    rintro ys cs ds ⟨c1, c2, rfl, h1, h2⟩ k
    exact ⟨c1, c2 ++ ds, by simp, h1, ih h2 k⟩

/-- the element at a place, and what stands around it -/
theorem RepAll.split {α : Type} {R : α → List Value → Prop} {n : Nat} (hn : ∀ x c, R x c → c.length = n) : ∀ {xs : List α} {cs : List Value} {i : Nat} {x : α}, RepAll R xs cs → xs[i]? = some x →
    ∃ pre c post, cs = pre ++ c ++ post ∧ pre.length = i * n ∧ R x c ∧ RepAll R (xs.take i) pre ∧ RepAll R (xs.drop (i + 1)) post := by
  intro xs
  induction xs with
  | nil => intro cs i x _ h; simp at h
  | cons y xs ih =>
    rintro cs i x ⟨c1, c2, rfl, h1, h2⟩ hi
    cases i with
    | zero =>
      simp at hi
      subst hi
      exact ⟨[], c1, c2, by simp, by simp, h1, by simp [RepAll], by simpa using h2⟩
    | succ i =>
      simp at hi
      obtain ⟨pre, c, post, rfl, hl, hr, ht, hd⟩ := ih h2 hi
      refine ⟨c1 ++ pre, c, post, by simp, ?_, hr, ⟨c1, pre, rfl, h1, ht⟩, by simpa using hd⟩
      simp [hl, hn _ _ h1, Nat.add_mul, Nat.add_comm]

theorem RepAll.take_drop {α : Type} {R : α → List Value → Prop} {n : Nat} (hn : ∀ x c, R x c → c.length = n) : ∀ {xs : List α} {cs : List Value} (i : Nat), RepAll R xs cs →
    RepAll R (xs.take i) (cs.take (i * n)) ∧ RepAll R (xs.drop i) (cs.drop (i * n)) := by
  intro xs
  induction xs with
  | nil => intro cs i h; simp [RepAll] at h; subst h; simp [RepAll]
  | cons y xs ih =>
    rintro cs i ⟨c1, c2, rfl, h1, h2⟩
    cases i with
    | zero => simp only [List.take_zero, Nat.zero_mul, List.drop_zero]; exact ⟨by simp [RepAll], c1, c2, rfl, h1, h2⟩
    | succ i =>
      obtain ⟨ht, hd⟩ := ih i h2
      have hl := hn _ _ h1
      have e : (i + 1) * n = n + i * n := by rw [Nat.add_mul]; omega
      rw [e]
      constructor
      · refine ⟨c1, c2.take (i * n), ?_, h1, ht⟩
        rw [show n + i * n = c1.length + i * n by rw [hl], List.take_length_add_append]
      · rw [show n + i * n = c1.length + i * n by rw [hl], List.drop_length_add_append]
        simpa using hd

theorem RepAll.map {α β : Type} (f : α → β) {R : β → List Value → Prop} : ∀ {xs : List α} {cs : List Value}, RepAll (fun x c => R (f x) c) xs cs → RepAll R (xs.map f) cs := by
  intro xs
  induction xs with
  | nil => intro cs h; exact h
  | cons x xs ih => rintro cs ⟨c1, c2, e, h1, h2⟩; exact ⟨c1, c2, e, h1, ih h2⟩

theorem CellsAt.append {w : World} {b o : Nat} {cs ds : List Value} (h : CellsAt w b o (cs ++ ds)) : CellsAt w b o cs ∧ CellsAt w b (o + cs.length) ds := by
  constructor
  · intro j v hj
    refine h j v ?_
    rw [List.getElem?_append_left (by obtain ⟨hl, _⟩ := List.getElem?_eq_some_iff.1 hj; exact hl)]
    exact hj
  · intro j v hj
    have := h (cs.length + j) v (by rw [List.getElem?_append_right (by omega)]; simpa using hj)
    rwa [← Nat.add_assoc] at this
end Go.Vi

set_option autoImplicit false
set_option linter.unusedVariables false
namespace Go.Vi
open Go

/-! ## What abstract values mean in a world -/
abbrev Foot := List (Nat × Nat × Nat)
/-- what stands fast while a function runs: the tables, the world it began in, what it may write, what it may not see, its arguments -/
structure Sx where
  GL : List (Nat × GV)
  w0 : World
  E : Foot
  hid : Nat → Prop
  gv : List Value
structure Ms where
  κ : Nat → Option Nat
  ι : Nat → Option (Nat × Nat)
  X : Sx

def Fre (M : Ms) (w : World) (b : Nat) : Prop := M.κ b = none ∧ ¬ M.X.hid b ∧ b < w.heap.size
/-- a part of a block that may be written -/
def Wr (M : Ms) (b lo hi : Nat) : Prop := M.X.w0.heap.size ≤ b ∨ ∃ p ∈ M.X.E, p.1 = b ∧ p.2.1 ≤ lo ∧ hi ≤ p.2.1 + p.2.2
def hdr (l : Option (Nat × Nat)) (n : Nat) : Value := match l with
  | none => .slice none 0 0
  | some p => .slice (some ⟨p.1, 0, none⟩) n p.2
def hdrv (l : Option (Nat × Nat)) (s lo hi : Nat) : Value := match l with
  | none => .slice none 0 0
  | some p => .slice (some (if p.2 = lo then ⟨p.1, 0, none⟩ else (⟨p.1, 0, none⟩ : Addr).add (lo * s))) (hi - lo) (p.2 - lo)

/-- where a part of data of a type lies, and its type -/
def offT : Ty → List PE → Option (Nat × Ty)
  | t, [] => some (0, t)
  | .pair a _, .fld 0 :: p => offT a p
  | .pair a b, .fld (i + 1) :: p => (offT b (.fld i :: p)).map fun q => (a.size + q.1, q.2)
  | .arr n t, .idx i :: p => if i < n then (offT t p).map fun q => (i * t.size + q.1, q.2) else none
  | _, _ => none

def aggAV : AV → Bool
  | .val t _ => t.isAgg
  | .cons _ _ => true
  | .unt => true
  | _ => false
def toV (agg : Bool) (cs : List Value) : Value := if agg then .agg cs.toArray else cs.getD 0 undef

/-- one cell's value -/
def OneC (cs : List Value) : Prop := ∃ v, cs = [v] ∧ v.oneCell' = true

def AVC (M : Ms) (L : Lk) (w : World) : AV → List Value → Prop
  | .val t x, cs => Rep (Fre M w) w t x cs
  | .row id ver, cs => OneC cs ∧ ver ≤ (L id).1 ∧ (ver = (L id).1 → match (L id).2 with
      | .rowb _ xs => cs = [hdr (M.ι id) xs.length]
      | .ro _ xs => cs = [hdr (M.ι id) xs.length]
      | _ => True)
  | .rowv id ver lo hi, cs => OneC cs ∧ ver ≤ (L id).1 ∧ (ver = (L id).1 → match (L id).2 with
      | .rowb t xs => lo ≤ hi ∧ hi ≤ xs.length ∧ cs = [hdrv (M.ι id) t.size lo hi]
      | .ro t xs => lo ≤ hi ∧ hi ≤ xs.length ∧ cs = [hdrv (M.ι id) t.size lo hi]
      | _ => True)
  | .ptr id ver p t, cs => OneC cs ∧ ver ≤ (L id).1 ∧ (ver = (L id).1 → match (L id).2 with
      | .box bt _ => ∃ b o d, M.ι id = some (b, o) ∧ offT bt p = some (d, t) ∧ cs = [.pointer (some ⟨b, o + d, none⟩)]
      | .rowb e xs => ∃ b c i q d, M.ι id = some (b, c) ∧ p = .idx i :: q ∧ i < xs.length ∧ offT e q = some (d, t) ∧ cs = [.pointer (some ⟨b, i * e.size + d, none⟩)]
      | .ro e xs => ∃ b c i q d, M.ι id = some (b, c) ∧ p = .idx i :: q ∧ i < xs.length ∧ offT e q = some (d, t) ∧ cs = [.pointer (some ⟨b, i * e.size + d, none⟩)]
      | _ => True)
  | .rptr t x, cs => ∃ b o c, cs = [.pointer (some ⟨b, o, none⟩)] ∧ Fre M w b ∧ CellsAt w b o c ∧ Rep (Fre M w) w t x c
  | .fn f, cs => cs = [.func (.func f) #[] #[]]
  | .nil, cs => cs = [.slice none 0 0]
  | .cons a b, cs => ∃ c1 c2, cs = c1 ++ c2 ∧ AVC M L w a c1 ∧ AVC M L w b c2
  | .unt, cs => cs = []
  | .dead, cs => OneC cs
  | .und, _ => False
  | .tup _, _ => False

def AV1 (M : Ms) (L : Lk) (w : World) (av : AV) (v : Value) : Prop := ∃ cs, AVC M L w av cs ∧ v = toV (aggAV av) cs
def TupR (M : Ms) (L : Lk) (w : World) : AV → List Value → Prop
  | .unt, vs => vs = []
  | .cons a b, vs => ∃ v r, vs = v :: r ∧ AV1 M L w a v ∧ TupR M L w b r
  | _, _ => False
def AVR (M : Ms) (L : Lk) (w : World) : AV → Value → Prop
  | .dead, _ => True
  | .und, v => v = undef
  | .tup s, v => ∃ vs : List Value, v = .tuple vs.toArray ∧ TupR M L w s vs
  | av, v => AV1 M L w av v

/-- a block that may be written -/
def Open (w : World) (b : Nat) (cur : Array Value) (el : TypeId) : Prop :=
  ∃ fr : Nat × Nat, w.heap[b]? = some (.cells cur el fr) ∧ ∀ j, j < cur.size → ¬ (fr.1 ≤ j ∧ j < fr.2)

def BlkC (M : Ms) (L : Lk) (w : World) (id : Nat) : Cont → Prop
  | .none => True
  | .box t a => fits a t = true ∧ ∃ (b o : Nat) (cur : Array Value) (el : TypeId), M.ι id = some (b, o) ∧ M.κ b = some id ∧ Wr M b o (o + t.size) ∧ Open w b cur el ∧
      ∃ cs : List Value, AVC M L w a cs ∧ ∀ (j : Nat) (v : Value), cs[j]? = some v → cur[o + j]? = some v
  | .rowb t xs => 0 < t.size ∧ ((M.ι id = none ∧ xs = []) ∨ ∃ (b cap : Nat) (cur : Array Value) (el : TypeId), M.ι id = some (b, cap) ∧ M.κ b = some id ∧ Wr M b 0 (cap * t.size) ∧ Open w b cur el ∧
      cur.size = cap * t.size ∧ xs.length ≤ cap ∧ ∃ cs : List Value, RepAll (Rep (Fre M w) w t) xs cs ∧ ∀ (j : Nat) (v : Value), cs[j]? = some v → cur[j]? = some v)
  | .ro t xs => 0 < t.size ∧ ((M.ι id = none ∧ xs = []) ∨ ∃ b cap, M.ι id = some (b, cap) ∧ Fre M w b ∧ xs.length ≤ cap ∧ ∃ cs : List Value, RepAll (Rep (Fre M w) w t) xs cs ∧ CellsAt w b 0 cs)

/-- what has become of the world that a call began in -/
structure Frame (w0 : World) (E : Foot) (w : World) : Prop where
  os : w.os = w0.os
  tape : w.tape = w0.tape
  output : w.output = w0.output
  size : w0.heap.size ≤ w.heap.size
  old : ∀ b, b < w0.heap.size → (∀ p ∈ E, p.1 ≠ b) → w.heap[b]? = w0.heap[b]?
  cut : ∀ p ∈ E, ∃ cur0 cur el fr, w0.heap[p.1]? = some (.cells cur0 el fr) ∧ w.heap[p.1]? = some (.cells cur el fr) ∧ cur.size = cur0.size ∧
    ∀ j, (j < p.2.1 ∨ p.2.1 + p.2.2 ≤ j) → cur[j]? = cur0[j]?

/-- the program's tables stand -/
def GlobOK (M : Ms) (w : World) : Prop :=
  ∀ p ∈ M.X.GL, Fre M w p.1 ∧ ∃ cs, CellsAt w p.1 0 cs ∧ Rep (Fre M w) w p.2.t p.2.x cs

/-- a world in which memory is as told -/
structure WInv (M : Ms) (L : Lk) (w : World) : Prop where
  blk : ∀ id, BlkC M L w id (L id).2
  own : ∀ b id, M.κ b = some id → b < w.heap.size ∧ ¬ M.X.hid b ∧ (M.X.w0.heap.size ≤ b ∨ ∃ p ∈ M.X.E, p.1 = b)
  hid : ∀ b, M.X.hid b → b < M.X.w0.heap.size
  ed : ∀ p ∈ M.X.E, ∀ q ∈ M.X.E, p.1 = q.1 → p = q
  frame : Frame M.X.w0 M.X.E w
  glob : GlobOK M w

structure Inv (M : Ms) (st : St) (a : Act) (w : World) : Prop where
  len : st.tmps.length = a.tmps.size
  tmps : ∀ i, AVR M (look st.mem) w (getT st.tmps i) (a.tmps.getD i undef)
  glen : st.ghosts.length = M.X.gv.length
  gh : ∀ i, AVR M (look st.mem) w (getT st.ghosts i) (M.X.gv.getD i undef)
  win : WInv M (look st.mem) w
  defers : a.defers = []

/-! ## How memory's numbers change -/
def Compat : Cont → Cont → Prop
  | .none, .none => True
  | .rowb t xs, .rowb t' xs' => t = t' ∧ xs.length = xs'.length
  | .rowb t xs, .ro t' xs' => t = t' ∧ xs.length = xs'.length
  | .ro t xs, .ro t' xs' => t = t' ∧ xs.length = xs'.length
  | .box t _, .box t' _ => t = t'
  | _, .none => True
  | _, _ => False
theorem Compat.refl (c : Cont) : Compat c c := by cases c <;> simp [Compat]

/-- A later state of things: what is shared stays; a row or variable of an old version keeps its place and size. -/
structure Later (M M' : Ms) (L L' : Lk) (w w' : World) : Prop where
  ctx : M'.X = M.X
  fre : ∀ b, Fre M w b → Fre M' w' b ∧ w'.heap[b]? = w.heap[b]?
  ver : ∀ id, (L id).1 ≤ (L' id).1
  same : ∀ id, (L' id).1 = (L id).1 → M'.ι id = M.ι id ∧ Compat (L id).2 (L' id).2

theorem Later.rep {M M' : Ms} {L L' : Lk} {w w' : World} (h : Later M M' L L' w w') {t : Ty} {x : t.den} {cs : List Value} (hr : Rep (Fre M w) w t x cs) : Rep (Fre M' w') w' t x cs :=
  hr.mono h.fre

theorem Later.avc {M M' : Ms} {L L' : Lk} {w w' : World} (h : Later M M' L L' w w') : ∀ {av : AV} {cs : List Value}, AVC M L w av cs → AVC M' L' w' av cs := by
  intro av
  induction av with
  | dead => intro cs k; exact k
  | und => intro cs k; exact k
  | val t x => intro cs k; exact h.rep k
  | row id ver =>
    rintro cs ⟨k1, k2, k3⟩
    refine ⟨k1, Nat.le_trans k2 (h.ver id), fun e => ?_⟩
    have e1 : (L' id).1 = (L id).1 := Nat.le_antisymm (e ▸ k2) (h.ver id)
    obtain ⟨hi, hc⟩ := h.same id e1
    have k4 := k3 (by omega)
    revert k4 hc
    rw [hi]
    cases (L id).2 <;> cases (L' id).2 <;> simp [Compat] <;> (intros; simp_all)
  | rowv id ver lo hi =>
    rintro cs ⟨k1, k2, k3⟩
    refine ⟨k1, Nat.le_trans k2 (h.ver id), fun e => ?_⟩
    have e1 : (L' id).1 = (L id).1 := Nat.le_antisymm (e ▸ k2) (h.ver id)
    obtain ⟨hi, hc⟩ := h.same id e1
    have k4 := k3 (by omega)
    revert k4 hc
    rw [hi]
    cases (L id).2 <;> cases (L' id).2 <;> simp [Compat] <;> (intros; simp_all)
  | ptr id ver p t =>
    rintro cs ⟨k1, k2, k3⟩
    refine ⟨k1, Nat.le_trans k2 (h.ver id), fun e => ?_⟩
    have e1 : (L' id).1 = (L id).1 := Nat.le_antisymm (e ▸ k2) (h.ver id)
    obtain ⟨hi, hc⟩ := h.same id e1
    have k4 := k3 (by omega)
    revert k4 hc
    rw [hi]
    cases h1 : (L id).2 <;> cases h2 : (L' id).2 <;> simp only [Compat] <;> intro hc k4 <;> first | trivial | exact hc.elim | skip
    · subst hc; exact k4
    · obtain ⟨rfl, hl⟩ := hc; rw [← hl]; exact k4
    · obtain ⟨rfl, hl⟩ := hc; rw [← hl]; exact k4
    · obtain ⟨rfl, hl⟩ := hc; rw [← hl]; exact k4
  | rptr t x =>
    rintro cs ⟨b, o, c, e, hf, hc, hr⟩
    exact ⟨b, o, c, e, (h.fre b hf).1, hc.mono (h.fre b hf).2, h.rep hr⟩
  | fn f => intro cs k; exact k
  | nil => intro cs k; exact k
  | cons a b iha ihb => rintro cs ⟨c1, c2, e, k1, k2⟩; exact ⟨c1, c2, e, iha k1, ihb k2⟩
  | unt => intro cs k; exact k
  | tup a => intro cs k; exact k

theorem Later.av1 {M M' : Ms} {L L' : Lk} {w w' : World} (h : Later M M' L L' w w') {av : AV} {v : Value} (k : AV1 M L w av v) : AV1 M' L' w' av v := by
  obtain ⟨cs, k1, k2⟩ := k
  exact ⟨cs, h.avc k1, k2⟩
theorem Later.tup {M M' : Ms} {L L' : Lk} {w w' : World} (h : Later M M' L L' w w') : ∀ {av : AV} {vs : List Value}, TupR M L w av vs → TupR M' L' w' av vs := by
  intro av
  induction av with
  | unt => intro vs k; exact k
  | cons a b iha ihb => rintro vs ⟨v, r, e, k1, k2⟩; exact ⟨v, r, e, h.av1 k1, ihb k2⟩
  | _ => intro vs k; exact k
theorem Later.avr {M M' : Ms} {L L' : Lk} {w w' : World} (h : Later M M' L L' w w') {av : AV} {v : Value} (k : AVR M L w av v) : AVR M' L' w' av v := by
  cases av with
  | dead => trivial
  | und => exact k
  | tup s => obtain ⟨vs, e, k1⟩ := k; exact ⟨vs, e, h.tup k1⟩
  | _ => exact h.av1 k
theorem Later.glob {M M' : Ms} {L L' : Lk} {w w' : World} (h : Later M M' L L' w w') (k : GlobOK M w) : GlobOK M' w' := by
  intro p hp
  rw [h.ctx] at hp
  obtain ⟨hf, cs, hc, hr⟩ := k p hp
  exact ⟨(h.fre _ hf).1, cs, hc.mono (h.fre _ hf).2, h.rep hr⟩
theorem Later.wr {M M' : Ms} {L L' : Lk} {w w' : World} (h : Later M M' L L' w w') {b lo hi : Nat} (k : Wr M b lo hi) : Wr M' b lo hi := by
  unfold Wr at *
  rw [h.ctx]
  exact k
/-- a row or variable whose block is as it was -/
theorem Later.blk {M M' : Ms} {L L' : Lk} {w w' : World} (h : Later M M' L L' w w') {id : Nat} {c : Cont} (k : BlkC M L w id c) (hi : M'.ι id = M.ι id)
    (hb : ∀ b, M.κ b = some id → M'.κ b = some id ∧ w'.heap[b]? = w.heap[b]?) : BlkC M' L' w' id c := by
  cases c with
  | none => exact True.intro
  | box t a =>
    obtain ⟨k0, b, o, cur, el, k1, k2, kw, ⟨fr, k3, k3'⟩, cs, k4, k5⟩ := k
    exact ⟨k0, b, o, cur, el, by rw [hi, k1], (hb b k2).1, h.wr kw, ⟨fr, by rw [(hb b k2).2, k3], k3'⟩, cs, h.avc k4, k5⟩
  | rowb t xs =>
    obtain ⟨k0, k⟩ := k
    refine ⟨k0, ?_⟩
    rcases k with k | ⟨b, cap, cur, el, k1, k2, kw, ⟨fr, k3, k3'⟩, k4, k5, cs, k6, k7⟩
    · exact .inl ⟨by rw [hi, k.1], k.2⟩
    · exact .inr ⟨b, cap, cur, el, by rw [hi, k1], (hb b k2).1, h.wr kw, ⟨fr, by rw [(hb b k2).2, k3], k3'⟩, k4, k5, cs, k6.mono fun x c hx => h.rep hx, k7⟩
  | ro t xs =>
    obtain ⟨k0, k⟩ := k
    refine ⟨k0, ?_⟩
    rcases k with k | ⟨b, cap, k1, k2, k5, cs, k6, k7⟩
    · exact .inl ⟨by rw [hi, k.1], k.2⟩
    · exact .inr ⟨b, cap, by rw [hi, k1], (h.fre b k2).1, k5, cs, k6.mono fun x c hx => h.rep hx, k7.mono (h.fre b k2).2⟩

theorem Later.refl (M : Ms) (L : Lk) (w : World) : Later M M L L w w := ⟨rfl, fun b h => ⟨h, rfl⟩, fun _ => Nat.le_refl _, fun _ _ => ⟨rfl, Compat.refl _⟩⟩

/-! ## Lists of slots, and memory's list -/
theorem getT_setT (l : List AV) (d : Nat) (v : AV) (i : Nat) : getT (setT l d v) i = if i = d ∧ d < l.length then v else getT l i := by
  induction l generalizing d i with
  | nil => simp [setT, getT]
  | cons a l ih =>
    cases d with
    | zero => cases i <;> simp [setT, getT]
    | succ d => cases i with
      | zero => simp [setT, getT]
      | succ i => simp [setT, getT, ih]
theorem length_setT (l : List AV) (d : Nat) (v : AV) : (setT l d v).length = l.length := by
  induction l generalizing d with
  | nil => rfl
  | cons a l ih => cases d <;> simp [setT, ih]
theorem nbeq (i j : Nat) : Nat.beq i j = decide (i = j) := by
  rw [Bool.eq_iff_iff]
  simp [Nat.beq_eq]
theorem look_put (m : Mem) (j : Nat) (e : Nat × Cont) (i : Nat) : look (put m j e) i = if i = j then e else look m i := by
  induction m with
  | nil =>
    simp only [put, look, nbeq]
    by_cases h : i = j
    · simp [h]
    · have : ¬ j = i := fun x => h x.symm
      simp [h, this]
  | cons p m ih =>
    obtain ⟨k, e'⟩ := p
    simp only [put, nbeq]
    by_cases h : k = j
    · subst h
      by_cases h2 : i = k
      · simp [look, nbeq, h2]
      · have : ¬ k = i := fun x => h2 x.symm
        simp [look, nbeq, h2, this]
    · simp only [h, decide_false, cond_false, look, nbeq]
      by_cases h2 : k = i
      · subst h2; simp [h]
      · simp [h2, ih]
theorem look_puts_not (m u : Mem) (i : Nat) (h : i ∉ fsts u) : look (puts m u) i = look m i := by
  induction u generalizing m with
  | nil => rfl
  | cons p u ih =>
    obtain ⟨j, e⟩ := p
    simp [fsts] at h
    simp only [puts]
    rw [ih _ h.2, look_put, if_neg h.1]
theorem memB_iff (i : Nat) (l : List Nat) : memB i l = true ↔ i ∈ l := by
  induction l with
  | nil => simp [memB]
  | cons j l ih =>
    simp only [memB, nbeq]
    by_cases h : i = j <;> simp [h, ih]
theorem nodupB_iff (l : List Nat) : nodupB l = true ↔ l.Nodup := by
  induction l with
  | nil => simp [nodupB]
  | cons i l ih =>
    simp only [nodupB, Bool.and_eq_true, ih, List.nodup_cons]
    have := memB_iff i l
    cases h : memB i l <;> simp_all
theorem disjB_iff (l k : List Nat) : disjB l k = true ↔ ∀ i ∈ l, i ∉ k := by
  induction l with
  | nil => simp [disjB]
  | cons i l ih =>
    simp only [disjB, Bool.and_eq_true, ih, List.forall_mem_cons]
    have := memB_iff i k
    cases h : memB i k <;> simp_all
theorem look_puts_mem (m u : Mem) (h : (fsts u).Nodup) (i : Nat) (e : Nat × Cont) (hi : (i, e) ∈ u) : look (puts m u) i = e := by
  induction u generalizing m with
  | nil => simp at hi
  | cons p u ih =>
    obtain ⟨j, e'⟩ := p
    simp only [fsts, List.nodup_cons] at h
    simp only [puts]
    rcases List.mem_cons.1 hi with hi | hi
    · simp only [Prod.mk.injEq] at hi
      obtain ⟨rfl, rfl⟩ := hi
      rw [look_puts_not _ _ _ h.1, look_put, if_pos rfl]
    · exact ih _ h.2 hi
end Go.Vi

set_option autoImplicit false
set_option linter.unusedVariables false
namespace Go.Vi
open Go

/-! ## Running over a block that is open -/
theorem add_at (b o n : Nat) : (⟨b, o, none⟩ : Addr).add n = ⟨b, o + n, none⟩ := by unfold Addr.add; split <;> simp_all
theorem cell_open {w : World} {b : Nat} {cur : Array Value} {el : TypeId} {fr : Nat × Nat} (h : w.heap[b]? = some (.cells cur el fr)) (j : Nat) : w.cell? ⟨b, j, none⟩ = cur[j]? := by
  simp [World.cell?, h]
theorem run_storeCells_open (P : Program) (g o : Nat) (t : TypeId) (fr : Nat × Nat) : ∀ (vs : List Value) (i : Nat) (cur : Array Value) (w : World), w.heap[g]? = some (.cells cur t fr) →
    (∀ j, j < cur.size → ¬ (fr.1 ≤ j ∧ j < fr.2)) → o + i + vs.length ≤ cur.size → (∀ v ∈ vs, v.oneCell' = true) →
    (storeCells ⟨g, o, none⟩ vs i).run P w = .ok () (w.setRow g (cur.toList.take (o + i) ++ vs ++ cur.toList.drop (o + i + vs.length)).toArray)
  | [], i, cur, w, hg, _, _, _ => by
    simp only [storeCells, List.append_nil, List.length_nil, Nat.add_zero, List.take_append_drop, Array.toArray_toList]
    rw [setRow_self w g cur t fr hg]
    rfl
  | v :: rest, i, cur, w, hg, hf, hl, h1 => by
    have hi : o + i < cur.size := by simp at hl; omega
    have hadd : (⟨g, o, none⟩ : Addr).add i = ⟨g, o + i, none⟩ := add_at ..
    have hcell : w.cell? ⟨g, o + i, none⟩ = some cur[o + i] := by simp [World.cell?, hg, hi]
    have hfro : w.frozen? ⟨g, o + i, none⟩ = false := by
      have := hf (o + i) hi
      simp only [World.frozen?, hg]
      rw [Bool.eq_false_iff]
      intro h
      simp only [Bool.and_eq_true, decide_eq_true_eq] at h
      exact this h
    have hst : (store ((⟨g, o, none⟩ : Addr).add i) v).run P w = .ok () (w.setRow g (cur.setIfInBounds (o + i) v)) := by
      rw [hadd, run_store P w _ v _ (h1 v (by simp)), hcell]
      simp [hfro, setCell_eq_setRow w g (o + i) cur t fr v hg]
    have ih := run_storeCells_open P g o t fr rest (i + 1) (cur.setIfInBounds (o + i) v) (w.setRow g (cur.setIfInBounds (o + i) v)) (setRow_heap w g cur _ t _ hg) (by simpa using hf) (by simp at hl ⊢; omega) (fun x hx => h1 x (by simp [hx]))
    simp only [storeCells, Sem.run_bind, hst, Result.andThen_ok, ih, setRow_setRow]
    congr 3
    have e := list_seg_step cur.toList (o + i) v rest (by simp at hl ⊢; omega)
    simpa [Array.toList_setIfInBounds, Nat.add_assoc] using e
end Go.Vi

set_option autoImplicit false
set_option linter.unusedVariables false
set_option linter.unusedSimpArgs false
namespace Go.Vi
open Go

/-! ## Cells of one value -/
theorem Rep.one {A : Nat → Prop} {w : World} : ∀ {t : Ty} {x : t.den} {cs : List Value}, Rep A w t x cs → ∀ v ∈ cs, v.oneCell' = true := by
  intro t
  have all : ∀ {α : Type} {R : α → List Value → Prop} (_ : ∀ x c, R x c → ∀ v ∈ c, v.oneCell' = true) (xs : List α) (cs : List Value), RepAll R xs cs → ∀ v ∈ cs, v.oneCell' = true := by
    intro α R hR xs
    induction xs with
    | nil => intro cs h v hv; simp [RepAll] at h; simp [h] at hv
    | cons x xs ih =>
      rintro cs ⟨c1, c2, rfl, h1, h2⟩ v hv
      rcases List.mem_append.1 hv with hv | hv
      · exact hR _ _ h1 v hv
      · exact ih _ h2 v hv
  induction t with
  | int k => intro x cs h v hv; simp [Rep] at h; simp [h] at hv; simp [hv, Value.oneCell']
  | bool => intro x cs h v hv; simp [Rep] at h; simp [h] at hv; simp [hv, Value.oneCell']
  | str => intro x cs h v hv; simp [Rep] at h; simp [h] at hv; simp [hv, Value.oneCell', sv]
  | err => intro x cs h v hv; rcases h with ⟨_, rfl⟩ | ⟨_, _, _, rfl⟩ <;> (simp at hv; simp [hv, Value.oneCell'])
  | unit => intro x cs h v hv; simp [Rep] at h; simp [h] at hv
  | list t ih => rintro x cs ⟨a, c, rfl, _⟩ v hv; simp at hv; simp [hv, Value.oneCell']
  | arr n t ih => rintro x cs ⟨h1, h2⟩; exact all (fun x c h => ih h) _ _ h2
  | pair a b iha ihb =>
    rintro x cs ⟨c1, c2, rfl, h1, h2⟩ v hv
    rcases List.mem_append.1 hv with hv | hv
    · exact iha h1 v hv
    · exact ihb h2 v hv
theorem RepAll.one {A : Nat → Prop} {w : World} {t : Ty} : ∀ {xs : List t.den} {cs : List Value}, RepAll (Rep A w t) xs cs → ∀ v ∈ cs, v.oneCell' = true := by
  intro xs
  induction xs with
  | nil => intro cs h v hv; simp [RepAll] at h; simp [h] at hv
  | cons x xs ih =>
    rintro cs ⟨c1, c2, rfl, h1, h2⟩ v hv
    rcases List.mem_append.1 hv with hv | hv
    · exact h1.one v hv
    · exact ih h2 v hv
theorem OneC.one {cs : List Value} (h : OneC cs) : ∀ v ∈ cs, v.oneCell' = true := by
  obtain ⟨u, rfl, hu⟩ := h
  intro v hv; simp at hv; simp [hv, hu]
theorem OneC.length {cs : List Value} (h : OneC cs) : cs.length = 1 := by obtain ⟨u, rfl, hu⟩ := h; rfl
theorem AVC.one {M : Ms} {L : Lk} {w : World} : ∀ {av : AV} {cs : List Value}, AVC M L w av cs → ∀ v ∈ cs, v.oneCell' = true := by
  intro av
  induction av with
  | dead => intro cs k; exact OneC.one k
  | und => intro cs k; exact k.elim
  | val t x => intro cs k; exact Rep.one k
  | row id ver => intro cs k; exact k.1.one
  | rowv id ver lo hi => intro cs k; exact k.1.one
  | ptr id ver p t => intro cs k; exact k.1.one
  | rptr t x => rintro cs ⟨b, o, c, rfl, _⟩ v hv; simp at hv; simp [hv, Value.oneCell']
  | fn f => intro cs k v hv; simp [AVC] at k; simp [k] at hv; simp [hv, Value.oneCell']
  | nil => intro cs k v hv; simp [AVC] at k; simp [k] at hv; simp [hv, Value.oneCell']
  | cons a b iha ihb =>
    rintro cs ⟨c1, c2, rfl, k1, k2⟩ v hv
    rcases List.mem_append.1 hv with hv | hv
    · exact iha k1 v hv
    · exact ihb k2 v hv
  | unt => intro cs k v hv; simp [AVC] at k; simp [k] at hv
  | tup a => intro cs k; exact k.elim
theorem fits_length {M : Ms} {L : Lk} {w : World} : ∀ {av : AV} {t : Ty} {cs : List Value}, fits av t = true → AVC M L w av cs → cs.length = t.size := by
  intro av
  induction av with
  | val s x => intro t cs h k; simp [fits] at h; subst h; exact Rep.length k
  | row id ver => intro t cs h k; cases t <;> simp [fits] at h; exact k.1.length
  | rowv id ver lo hi => intro t cs h k; cases t <;> simp [fits] at h; exact k.1.length
  | nil => intro t cs h k; cases t <;> simp [fits] at h; simp [AVC] at k; simp [k, Ty.size]
  | cons a b iha ihb =>
    intro t cs h k
    cases t <;> simp [fits] at h
    obtain ⟨c1, c2, rfl, k1, k2⟩ := k
    simp [Ty.size, iha h.1 k1, ihb h.2 k2]
  | unt => intro t cs h k; cases t <;> simp [fits] at h; simp [AVC] at k; simp [k, Ty.size]
  | _ => intro t cs h k; simp [fits] at h
theorem fits_agg : ∀ {av : AV} {t : Ty}, fits av t = true → aggAV av = t.isAgg := by
  intro av t h
  cases av with
  | val s x => simp [fits] at h; subst h; rfl
  | row id ver => cases t <;> simp [fits] at h; rfl
  | rowv id ver lo hi => cases t <;> simp [fits] at h; rfl
  | nil => cases t <;> simp [fits] at h; rfl
  | cons a b => cases t <;> simp [fits] at h; rfl
  | unt => cases t <;> simp [fits] at h; rfl
  | _ => simp [fits] at h
theorem size_one {t : Ty} (h : t.isAgg = false) : t.size = 1 := by cases t <;> simp [Ty.isAgg] at h <;> rfl
theorem cells_toV {agg : Bool} {cs : List Value} (h1 : ∀ v ∈ cs, v.oneCell' = true) (hl : agg = false → cs.length = 1) : (toV agg cs).cells.toList = cs := by
  cases agg with
  | true => rfl
  | false =>
    match cs, hl rfl with
    | [v], _ =>
      have := h1 v (by simp)
      cases v <;> simp [Value.oneCell'] at this <;> rfl

/-! ## Parts of data -/
theorem offT_nil (t : Ty) : offT t [] = some (0, t) := by cases t <;> rfl
theorem offT_append : ∀ {p : List PE} {t s r : Ty} {d e : Nat} {x : List PE}, offT t p = some (d, s) → offT s x = some (e, r) → offT t (p ++ x) = some (d + e, r) := by
  intro p
  induction p with
  | nil => intro t s r d e x h h2; rw [offT_nil] at h; simp at h; obtain ⟨rfl, rfl⟩ := h; simpa using h2
  | cons q p ih =>
    intro t
    induction t generalizing q with
    | pair a b _ ihb =>
      intro s r d e x h h2
      cases q with
      | fld i =>
        cases i with
        | zero => simp only [offT, List.cons_append] at h ⊢; exact ih h h2
        | succ i =>
          simp only [offT, List.cons_append, Option.map_eq_some_iff] at h ⊢
          obtain ⟨⟨d', s'⟩, h, he⟩ := h
          simp only [Prod.mk.injEq] at he
          obtain ⟨rfl, rfl⟩ := he
          have := ihb (q := .fld i) h h2
          exact ⟨_, this, by simp [Nat.add_assoc]⟩
      | idx i => simp [offT] at h
    | arr n a _ =>
      intro s r d e x h h2
      cases q with
      | fld i => simp [offT] at h
      | idx i =>
        simp only [offT, List.cons_append] at h ⊢
        split at h
        · rename_i hi
          rw [if_pos hi]
          simp only [Option.map_eq_some_iff] at h ⊢
          obtain ⟨⟨d', s'⟩, h, he⟩ := h
          simp only [Prod.mk.injEq] at he
          obtain ⟨rfl, rfl⟩ := he
          exact ⟨_, ih h h2, by simp [Nat.add_assoc]⟩
        · simp at h
    | _ => intro s r d e x h h2; simp [offT] at h
theorem offT_bound : ∀ {p : List PE} {t s : Ty} {d : Nat}, offT t p = some (d, s) → d + s.size ≤ t.size := by
  intro p
  induction p with
  | nil => intro t s d h; rw [offT_nil] at h; simp at h; obtain ⟨rfl, rfl⟩ := h; simp
  | cons q p ih =>
    intro t
    induction t generalizing q with
    | pair a b _ ihb =>
      intro s d h
      cases q with
      | fld i =>
        cases i with
        | zero => simp only [offT] at h; have := ih h; simp only [Ty.size]; omega
        | succ i =>
          simp only [offT, Option.map_eq_some_iff] at h
          obtain ⟨⟨d', s'⟩, h, he⟩ := h
          simp only [Prod.mk.injEq] at he
          obtain ⟨rfl, rfl⟩ := he
          have := ihb (q := .fld i) h
          simp only [Ty.size]; omega
      | idx i => simp [offT] at h
    | arr n a _ =>
      intro s d h
      cases q with
      | fld i => simp [offT] at h
      | idx i =>
        simp only [offT] at h
        split at h
        · rename_i hi
          simp only [Option.map_eq_some_iff] at h
          obtain ⟨⟨d', s'⟩, h, he⟩ := h
          simp only [Prod.mk.injEq] at he
          obtain ⟨rfl, rfl⟩ := he
          have := ih h
          simp only [Ty.size]
          have h3 : (i + 1) * a.size ≤ n * a.size := Nat.mul_le_mul_right _ hi
          rw [Nat.add_mul] at h3
          omega
        · simp at h
    | _ => intro s d h; simp [offT] at h

/-! ## A program's types -/
/-- the cells of a zero -/
def zc : Ty → List Value
  | .int k => [.int k 0]
  | .bool => [.bool false]
  | .str => [sv []]
  | .list _ => [.slice none 0 0]
  | .arr n t => (List.replicate n (zc t)).flatten
  | .unit => []
  | .pair a b => zc a ++ zc b
  | .err => [.nilIface]
def zeq : Value → Value → Bool
  | .int k n, .int k' n' => decide (k = k') && decide (n = n')
  | .bool a, .bool b => a == b
  | .string a, .string b => decide (a.data.toList = b.data.toList)
  | .slice none 0 0, .slice none 0 0 => true
  | .nilIface, .nilIface => true
  | _, _ => false
def zall : List Value → List Value → Bool
  | [], [] => true
  | a :: l, b :: k => zeq a b && zall l k
  | _, _ => false
theorem zeq_eq {a b : Value} (h : zeq a b = true) : a = b := by
  unfold zeq at h
  split at h
  · simp at h; simp [h]
  · simp at h; simp [h]
  · simp at h
    rename_i a b
    obtain ⟨⟨a⟩⟩ := a
    obtain ⟨⟨b⟩⟩ := b
    simp at h; simp [h]
  · rfl
  · rfl
  · simp at h
theorem zall_eq : ∀ {l k : List Value}, zall l k = true → l = k
  | [], [], _ => rfl
  | a :: l, b :: k, h => by simp [zall] at h; rw [zeq_eq h.1, zall_eq h.2]
  | [], _ :: _, h => by simp [zall] at h
  | _ :: _, [], h => by simp [zall] at h

def infoOk (P : Program) (t : TypeId) (ty : Ty) : Bool :=
  match P.info? t with
  | some i => decide (i.size = ty.size) && (match i.zero with | some z => zall z.cells.toList (zc ty) | none => false)
  | none => false
def Lay (P : Program) : Ty → TypeId ⊕ (Nat × List Field) → Bool
  | .int k, .inl t => infoOk P t (.int k) && (match P.underlying t with | some (.int k') => decide (k = k') | _ => false)
  | .bool, .inl t => infoOk P t .bool && (match P.underlying t with | some .bool => true | _ => false)
  | .str, .inl t => infoOk P t .str && (match P.underlying t with | some .string => true | _ => false)
  | .err, .inl t => infoOk P t .err && (match P.underlying t with | some (.interface _) => true | _ => false)
  | .list e, .inl t => infoOk P t (.list e) && (match P.underlying t with | some (.slice e') => decide (0 < e.size) && Lay P e (.inl e') | _ => false)
  | .arr n e, .inl t => infoOk P t (.arr n e) && (match P.underlying t with | some (.array n' e') => decide (n = n') && decide (0 < e.size) && Lay P e (.inl e') | _ => false)
  | .unit, .inl t => infoOk P t .unit && (match P.underlying t with | some (.struct fs) => fs.toList.isEmpty | _ => false)
  | .unit, .inr (_, []) => true
  | .pair a b, .inl t => infoOk P t (.pair a b) && (match P.underlying t with
    | some (.struct fs) => (match fs.toList with
      | f :: r => decide (f.offset = 0) && decide (0 < a.size) && Lay P a (.inl f.type) && Lay P b (.inr (a.size, r))
      | [] => false)
    | _ => false)
  | .pair a b, .inr (off, f :: r) => decide (f.offset = off) && decide (0 < a.size) && Lay P a (.inl f.type) && Lay P b (.inr (off + a.size, r))
  | _, _ => false

section
variable {P : Program}
theorem lay_infoOk {ty : Ty} {t : TypeId} (h : Lay P ty (.inl t) = true) : infoOk P t ty = true := by
  cases ty <;> simp only [Lay, Bool.and_eq_true] at h <;> exact h.1
theorem lay_info {ty : Ty} {t : TypeId} (h : Lay P ty (.inl t) = true) : ∃ i z, P.info? t = some i ∧ i.size = ty.size ∧ i.zero = some z ∧ z.cells.toList = zc ty := by
  have := lay_infoOk h
  unfold infoOk at this
  split at this
  · rename_i i hi
    simp only [Bool.and_eq_true, decide_eq_true_eq] at this
    obtain ⟨h1, h2⟩ := this
    split at h2
    · rename_i z hz
      exact ⟨i, z, hi, h1, hz, zall_eq h2⟩
    · simp at h2
  · simp at this
theorem lay_isAgg {ty : Ty} {t : TypeId} (h : Lay P ty (.inl t) = true) (w : World) : (isAgg t).run P w = .ok ty.isAgg w := by
  have key : ∀ d, P.underlying t = some d → (isAgg t).run P w = .ok (match d with | .struct _ | .array _ _ => true | _ => false) w := by
    intro d hd
    simp only [isAgg, Sem.run_bind, run_underlying hd, Result.andThen_ok]
    cases d <;> rfl
  cases ty <;> simp only [Lay, Bool.and_eq_true] at h <;> obtain ⟨_, h⟩ := h <;> split at h <;> first | (rename_i hu; rw [key _ hu]; rfl) | simp at h
theorem lay_struct {ty : Ty} {t : TypeId} (h : Lay P ty (.inl t) = true) (hp : (∃ a b, ty = .pair a b) ∨ ty = .unit) : ∃ fs, P.underlying t = some (.struct fs) ∧ Lay P ty (.inr (0, fs.toList)) = true := by
  rcases hp with ⟨a, b, rfl⟩ | rfl
  · simp only [Lay, Bool.and_eq_true] at h
    obtain ⟨_, h⟩ := h
    split at h
    · rename_i fs hu
      refine ⟨fs, hu, ?_⟩
      split at h
      · rename_i f r hf
        rw [hf]
        simp only [Lay, Bool.and_eq_true, decide_eq_true_eq, Nat.zero_add] at h ⊢
        exact h
      · simp at h
    · simp at h
  · simp only [Lay, Bool.and_eq_true] at h
    obtain ⟨_, h⟩ := h
    split at h
    · rename_i fs hu
      refine ⟨fs, hu, ?_⟩
      simp only [List.isEmpty_iff] at h
      rw [h]
      rfl
    · simp at h
theorem lay_field : ∀ {ty : Ty} {f : Nat} {s : Ty} {off : Nat} {fs : List Field}, Lay P ty (.inr (off, fs)) = true → fieldTy ty f = some s →
    ∃ (fl : Field) (d : Nat), fs[f]? = some fl ∧ offT ty [.fld f] = some (d, s) ∧ fl.offset = off + d ∧ Lay P s (.inl fl.type) = true ∧ 0 < s.size := by
  intro ty
  induction ty with
  | pair a b _ ihb =>
    intro f s off fs h hf
    cases fs with
    | nil => simp [Lay] at h
    | cons fl r =>
      simp only [Lay, Bool.and_eq_true, decide_eq_true_eq] at h
      obtain ⟨⟨⟨h1, h2⟩, h3⟩, h4⟩ := h
      cases f with
      | zero =>
        simp only [fieldTy, Option.some.injEq] at hf
        subst hf
        exact ⟨fl, 0, rfl, by simp [offT, offT_nil], by simp [h1], h3, h2⟩
      | succ f =>
        simp only [fieldTy] at hf
        obtain ⟨fl', d, k1, k2, k3, k4, k5⟩ := ihb h4 hf
        refine ⟨fl', a.size + d, by simpa using k1, ?_, by omega, k4, k5⟩
        simp only [offT, k2, Option.map_some]
  | _ => intro f s off fs h hf; simp [fieldTy] at hf
end
end Go.Vi

