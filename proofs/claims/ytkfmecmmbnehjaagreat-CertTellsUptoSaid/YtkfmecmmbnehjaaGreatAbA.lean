/-
The plain reckoning of a function's whole text. Definitions, and what may be seen in another form. No condition.
-/
import Derived.WalkKit
import Derived.Laws.Tables
import Derived.Laws.AppendOwn
import Derived.Laws.BytesArg
import Derived.Orders
import Derived.Below
import Derived.Test.YtkfmecmmbnehjaaGreatLib
import Derived.Maps.OwnOps
import Derived.Maps.Views
/-
A plain reckoning of Go code on values without memory's addresses: what a function answers is reckoned on lists and numbers. Definitions alone, no condition.
-/
namespace Go.Proofs.YtkfmecmmbnehjaaGreat
set_option linter.unusedSimpArgs false
set_option linter.unusedVariables false

/-- values as a function's text sees them: slices that are read stand as lists, what is the function's own stands in numbered blocks -/
inductive V where
  | s (v : Value)
  | agg (l : List V)
  | tup (l : List V)
  | lst (fr : Bool) (sz : Nat) (l : List V)
  | sw (b ver len : Nat)
  | sp (b ver sz off len : Nat)
  | ptr (b ver off : Nat)
  | rp (b ver sz i off : Nat)
  | bp (b ver off len : Nat)
  | mp (b ver : Nat)
  | ept (l : List V)
  | fn (f : Nat) (caps : List V)
  | own (sz e : Nat) (l : List V)
  | obx (l : List V)
  | io (t : Nat) (r out : V)

instance : Inhabited V := ⟨.s undef⟩

def V.cells : V → List V
  | .agg l => l
  | .s (.agg cs) => cs.toList.map .s
  | v => [v]

def flat (l : List V) : List V := l.flatMap V.cells

inductive Cont where
  | gone
  | box (cells : List V)
  | row (sz e : Nat) (l : List V)
  | rowV (sz e : Nat) (l : List V)
  | mpc (n : Nat) (f : Int → Int)

structure Blk where
  ver : Nat
  c : Cont

structure S where
  env : Nat → V
  st : Nat → Blk

def upd {α : Type} (f : Nat → α) (i : Nat) (v : α) : Nat → α := fun j => if j = i then v else f j
@[simp] theorem upd_apply {α : Type} (f : Nat → α) (i : Nat) (v : α) (j : Nat) : upd f i v j = if j = i then v else f j := rfl

def ups (st : Nat → Blk) : List (Nat × Blk) → Nat → Blk
  | [] => st
  | (b, k) :: r => ups (upd st b k) r

/-- what is known of a function: which arguments it takes as its own, and what it answers -/
structure Spec where
  mv : List Bool
  fn : List V → Option V
abbrev Orc := Nat → Option Spec

def ev (env : Nat → V) : Operand → V
  | .tmp t => env t
  | .const v => .s v
  | .global g => .s (.pointer (some ⟨g, 0, none⟩))
  | .func f => .fn f []

/-- one value of one cell -/
def V.one : V → Bool
  | .s v => v.oneCell'
  | .agg _ => false
  | .tup _ => false
  | .own .. => false
  | .obx _ => false
  | .io .. => false
  | _ => true

/-- one number, truth or text -/
def V.scal1 : V → Bool
  | .s v => v.oneCell'
  | _ => false

/-- no more than numbers, truths and texts -/
def V.scal : V → Bool
  | .s _ => true
  | .agg l => l.all fun x => match x with | .s _ => true | _ => false
  | _ => false

mutual
/-- closed: nothing of the function's own; k: and all lists fresh -/
def V.clo (k : Bool) : V → Bool
  | .s _ => true
  | .agg l => V.cloL k l
  | .tup l => V.cloL k l
  | .lst fr _ _ => !k || fr
  | .ept _ => !k
  | .fn _ l => V.cloL k l
  | _ => false
def V.cloL (k : Bool) : List V → Bool
  | [] => true
  | x :: r => V.clo k x && V.cloL k r
end

mutual
def V.unfr : V → V
  | .agg l => .agg (V.unfrL l)
  | .tup l => .tup (V.unfrL l)
  | .lst _ sz l => .lst false sz l
  | .fn f l => .fn f (V.unfrL l)
  | v => v
def V.unfrL : List V → List V
  | [] => []
  | x :: r => V.unfr x :: V.unfrL r
end

def rowAt (st : Nat → Blk) (b ver : Nat) : Option (Nat × Nat × List V) :=
  if (st b).ver = ver then (match (st b).c with | .row sz e l => some (sz, e, l) | _ => none) else none
/-- .. of cells that may be one's own, too -/
def rowAny (st : Nat → Blk) (b ver : Nat) : Option (Nat × Nat × List V) :=
  if (st b).ver = ver then (match (st b).c with | .row sz e l => some (sz, e, l) | .rowV sz e l => some (sz, e, l) | _ => none) else none
def boxAt (st : Nat → Blk) (b ver : Nat) : Option (List V) :=
  if (st b).ver = ver then (match (st b).c with | .box l => some l | _ => none) else none

def rowVAt (st : Nat → Blk) (b ver : Nat) : Option (Nat × Nat × List V) :=
  if (st b).ver = ver then (match (st b).c with | .rowV sz e l => some (sz, e, l) | _ => none) else none
def elseV (x y : Option V) : Option V := match x with
  | some v => some v
  | none => y
@[congr] theorem elseV_congr {x x' y : Option V} (h : x = x') : elseV x y = elseV x' y := by rw [h]
@[simp] theorem elseV_some (v : V) (y : Option V) : elseV (some v) y = some v := rfl
@[simp] theorem elseV_none (y : Option V) : elseV none y = y := rfl
/-- an element whose cells are others -/
def withCells (x : V) (cs : List V) : V := match x with
  | .agg _ => .agg cs
  | .s (.agg _) => .agg cs
  | _ => cs.headD (.s undef)
/-- what a called function sees of a value -/
def expV (st : Nat → Blk) : Nat → V → Option V
  | 0, _ => none
  | n + 1, x => match x with
    | .s v => some (.s v)
    | .agg l => (l.mapM (expV st n)).map .agg
    | .tup l => (l.mapM (expV st n)).map .tup
    | .lst _ sz l => some (.lst false sz l)
    | .sw b ver _ => elseV ((rowAt st b ver).map fun (sz, _, l) => .lst false sz l) ((rowVAt st b ver).bind fun (sz, _, l) => (l.mapM fun (x : V) => (x.cells.mapM (expV st n)).map (withCells x)).map (.lst false sz))
    | .sp b ver sz off len => (rowAt st b ver).bind fun (sz', _, l) => if sz' = sz ∧ off + len ≤ l.length then some (.lst false sz ((l.drop off).take len)) else none
    | .bp b ver off len => (boxAt st b ver).bind fun cs => if off + len ≤ cs.length ∧ ((cs.drop off).take len).all V.scal1 then some (.lst false 1 ((cs.drop off).take len)) else none
    | .ptr b ver off => (boxAt st b ver).bind fun cs => ((cs.drop off).mapM (expV st n)).map .ept
    | .ept l => some (.ept l)
    | .fn f l => (l.mapM (expV st n)).map (.fn f)
    | _ => none

/-- the elements of a list that is read, and whether they are fresh -/
def elemsOf (st : Nat → Blk) : V → Option (Nat × Bool × List V)
  | .lst fr sz l => some (sz, fr, l)
  | .sw b ver _ => (rowAt st b ver).map fun (sz, _, l) => (sz, true, l)
  | .sp b ver sz off len => (rowAt st b ver).bind fun (sz', _, l) => if sz' = sz ∧ off + len ≤ l.length then some (sz, true, (l.drop off).take len) else none
  | _ => none

/-- a row of one's own, or the part of one -/
def ownRow (st : Nat → Blk) : V → Option (Nat × Nat × Nat × Nat × List V)
  | .sw b ver _ => (rowAt st b ver).map fun (sz, e, l) => (b, ver, sz, e, l)
  | .sp b ver sz off len => (rowAt st b ver).bind fun (sz', e, l) => if sz' = sz ∧ off + len ≤ l.length then some (b, ver, sz, e, (l.drop off).take len) else none
  | _ => none

def szOf (P : Program) (t : TypeId) : Option Nat := (P.info? t).map (·.size)
def bytesOf (P : Program) (t : TypeId) : Option Nat := (P.info? t).map (·.bytes)
def zeroOf (P : Program) (t : TypeId) : Option Value := (P.info? t).bind (·.zero)
def zOk (P : Program) (t : TypeId) (sz : Nat) : Bool := match zeroOf P t with | some z => z.cells.size == sz | none => false
def isBoolT (P : Program) (t : TypeId) : Bool := match P.underlying t with | some .bool => true | _ => false
def isPtrT (P : Program) (t : TypeId) : Bool := match P.underlying t with | some (.pointer _) => true | _ => false
def isU8T (P : Program) (t : TypeId) : Bool := match P.underlying t with | some (.int .u8) => true | _ => false
def isAggB (P : Program) (t : TypeId) : Option Bool := (P.underlying t).map fun | .struct _ => true | .array _ _ => true | _ => false

/-- cells put over others from a place on -/
def spl (l : List V) (off : Nat) (ys : List V) : List V := l.take off ++ ys ++ l.drop (off + ys.length)

def loadC (agg : Bool) (n : Nat) (cs : List V) : Option V :=
  if agg then (if n ≤ cs.length then some (.agg (cs.take n)) else none) else cs.head?

def fillC (place : Nat → Option (Nat × Nat)) (cells : List V) : List (Nat × V) → Option (List V)
  | [] => some cells
  | (i, v) :: rest => match place i with
    | none => none
    | some (off, size) => if v.cells.length = size ∧ off + v.cells.length ≤ cells.length then fillC place (spl cells off v.cells) rest else none

def buildC (P : Program) (t : TypeId) (parts : List (Nat × V)) : Option (List V) :=
  match P.info? t, P.underlying t with
  | some it, some (.array _ e) =>
    match it.zero, P.info? e with
    | some z, some ie => fillC (fun i => some (i * ie.size, ie.size)) (z.cells.toList.map .s) parts
    | _, _ => none
  | some it, some (.struct fields) =>
    match it.zero, fields.toList.mapM (fun f => (P.info? f.type).map fun i => (f.offset, i.size)) with
    | some z, some places => fillC (places.toArray[·]?) (z.cells.toList.map .s) parts
    | _, _ => none
  | _, _ => none

def intBin (op : BinOp) (k : IntKind) (a b : Int) : Option Value :=
  match op with
  | .add => some (.int k (k.wrap (a + b)))
  | .sub => some (.int k (k.wrap (a - b)))
  | .mul => some (.int k (k.wrap (a * b)))
  | .quo => if b = 0 then none else some (.int k (k.wrap (a.tdiv b)))
  | .rem => if b = 0 then none else some (.int k (a.tmod b))
  | .and => some (.int k (k.wrap (BitVec.ofInt k.bits a &&& BitVec.ofInt k.bits b).toNat))
  | .or => some (.int k (k.wrap (BitVec.ofInt k.bits a ||| BitVec.ofInt k.bits b).toNat))
  | .xor => some (.int k (k.wrap (BitVec.ofInt k.bits a ^^^ BitVec.ofInt k.bits b).toNat))
  | .andNot => some (.int k (k.wrap (BitVec.ofInt k.bits a &&& ~~~(BitVec.ofInt k.bits b)).toNat))
  | .eql => some (.bool (a == b))
  | .neq => some (.bool (a != b))
  | .lss => some (.bool (a < b))
  | .leq => some (.bool (a ≤ b))
  | .gtr => some (.bool (a > b))
  | .geq => some (.bool (a ≥ b))
  | _ => none

def binS (op : BinOp) (x y : Value) : Option Value :=
  match op, x, y with
  | .shl, .int k a, .int _ b => if b < 0 then none else some (.int k (k.wrap (a * 2 ^ (min b.toNat k.bits))))
  | .shr, .int k a, .int _ b => if b < 0 then none else some (.int k (a.fdiv (2 ^ (min b.toNat k.bits))))
  | op, .int k a, .int k' b => if k = k' then intBin op k a b else none
  | .eql, .string a, .string b => some (.bool (a.toList == b.toList))
  | .neq, .string a, .string b => some (.bool (!(a.toList == b.toList)))
  | _, _, _ => none

/-- equal numbers, one by one -/
def eqInts : List V → List V → Option Bool
  | [], [] => some true
  | .s (.int k a) :: x, .s (.int k' b) :: y => if k = k' then (eqInts x y).map ((a == b) && ·) else none
  | _, _ => none

/-- types of which == is that of so many numbers -/
abbrev EqT := TypeId → Bool

def nilEq (op : BinOp) (b : Bool) : Option V := match op with
  | .eql => some (.s (.bool b))
  | .neq => some (.s (.bool (!b)))
  | _ => none

def binV (P : Program) (E : EqT) (op : BinOp) (t : TypeId) (x y : V) : Option V :=
  match x, y with
  | .s (.bool a), .s (.bool b) => if isBoolT P t = true then (match op with | .eql => some (.s (.bool (a == b))) | .neq => some (.s (.bool (a != b))) | _ => none) else none
  | .s (.pointer none), .s (.pointer none) => if isPtrT P t = true then nilEq op true else none
  | .s a, .s b => (binS op a b).map .s
  | .ptr .., .s (.pointer none) => if isPtrT P t = true then nilEq op false else none
  | .ept _, .s (.pointer none) => if isPtrT P t = true then nilEq op false else none
  | .agg a, .agg b => if E t = true ∧ szOf P t = some a.length then (match op with | .eql => (eqInts a b).map (.s ∘ .bool) | .neq => (eqInts a b).map (.s ∘ .bool ∘ not) | _ => none) else none
  | _, _ => none

def unV (op : UnOp) : V → Option V
  | .s (.bool b) => match op with | .not => some (.s (.bool !b)) | _ => none
  | .s (.int k n) => match op with
    | .neg => some (.s (.int k (k.wrap (0 - n))))
    | .xor => some (.s (.int k (k.wrap (BitVec.ofInt k.bits (if k.signed then -1 else k.max) ^^^ BitVec.ofInt k.bits n).toNat)))
    | _ => none
  | _ => none

def isU8 : V → Bool
  | .s (.int .u8 _) => true
  | _ => false
def numOf : V → Int
  | .s (.int _ n) => n
  | _ => 0

def convV (P : Program) (st : Nat → Blk) (src dst : TypeId) (x : V) : Option V :=
  match P.underlying src, P.underlying dst, x with
  | some _, some (.int k), .s (.int _ n) => some (.s (.int k (k.wrap n)))
  | some _, some .string, .s (.string s) => some (.s (.string s))
  | some .string, some (.slice e), .s (.string s) => if isU8T P e = true then some (.lst true 1 (s.data.toList.map fun b => .s (.int .u8 b.toNat))) else none
  | some (.slice e), some (.slice e'), .sw b ver n => if src = dst ∧ e = e' ∧ isU8T P e = true then (rowAt st b ver).bind fun (_, _, l) => if 0 < l.length then some (.sw b ver n) else none else none
  | some (.slice e), some .string, x => if isU8T P e = true then
      (match x with
      | .s (.slice none 0 0) => some (.s (.string (strOfNums [])))
      | x => (elemsOf st x).bind fun (_, _, l) => if l.all isU8 then some (.s (.string (strOfNums (l.map numOf)))) else none) else none
  | _, _, _ => none

def lenV (P : Program) (st : Nat → Blk) (t : TypeId) (x : V) : Option V :=
  match P.underlying t, x with
  | some .string, .s (.string s) => some (.s (.int .i64 s.size))
  | some (.array n _), _ => some (.s (.int .i64 n))
  | some (.slice _), .s (.slice _ n _) => some (.s (.int .i64 n))
  | some (.slice _), .sw _ _ n => some (.s (.int .i64 n))
  | some (.slice _), .sp _ _ _ _ n => some (.s (.int .i64 n))
  | some (.slice _), .bp _ _ _ n => some (.s (.int .i64 n))
  | some (.slice _), x => (elemsOf st x).map fun (_, _, l) => .s (.int .i64 l.length)
  | _, _ => none

def asI : V → Option Int
  | .s (.int _ n) => some n
  | _ => none

/-- bounds of a slice expression -/
def bnds (len : Nat) (lo hi : Option V) : Option (Nat × Nat) :=
  match (match hi with | none => some (len : Int) | some v => asI v), (match lo with | none => some (0 : Int) | some v => asI v) with
  | some h, some l => if 0 ≤ l ∧ l ≤ h ∧ h ≤ len then some (l.toNat, h.toNat) else none
  | _, _ => none

def sliceV (P : Program) (st : Nat → Blk) (t : TypeId) (x : V) (lo hi : Option V) : Option V :=
  match P.underlying t, x with
  | some .string, .s (.string s) => (bnds s.size lo hi).map fun (l, h) => .s (.string (s.extract l h))
  | some (.slice e), .lst fr sz l => if szOf P e = some sz then (bnds l.length lo hi).map fun (a, b) => .lst fr sz ((l.drop a).take (b - a)) else none
  | some (.slice e), .sw b ver _ => (rowAny st b ver).bind fun (sz, _, l) => if szOf P e = some sz then (bnds l.length lo hi).map fun (x, y) => .sp b ver sz x (y - x) else none
  | some (.slice e), .sp b ver sz off len => (rowAny st b ver).bind fun (_, _, _) => if szOf P e = some sz then (bnds len lo hi).map fun (x, y) => .sp b ver sz (off + x) (y - x) else none
  | some (.array n e), .ptr b ver off => (boxAt st b ver).bind fun _ => if szOf P e = some 1 then (bnds n lo hi).map fun (x, y) => .bp b ver (off + x) (y - x) else none
  | some (.pointer arr), .ptr b ver off => match P.underlying arr with
    | some (.array n e) => (boxAt st b ver).bind fun _ => if szOf P e = some 1 then (bnds n lo hi).map fun (x, y) => .bp b ver (off + x) (y - x) else none
    | _ => none
  | _, _ => none

def indexAddrV (P : Program) (st : Nat → Blk) (t : TypeId) (x i : V) : Option V :=
  match asI i, P.underlying t, x with
  | some i, some (.array n e), .ptr b ver off => (szOf P e).bind fun sz => if 0 ≤ i ∧ i < n then (boxAt st b ver).map fun _ => .ptr b ver (off + i.toNat * sz) else none
  | some i, some (.array n e), .ept l => (szOf P e).bind fun sz => if 0 ≤ i ∧ i < n then some (.ept (l.drop (i.toNat * sz))) else none
  | some i, some (.slice e), .sw b ver _ => (rowAny st b ver).bind fun (sz, _, l) => if szOf P e = some sz ∧ 0 ≤ i ∧ i < l.length then some (.rp b ver sz i.toNat 0) else none
  | some i, some (.slice e), .sp b ver sz off len => (rowAny st b ver).bind fun (_, _, _) => if szOf P e = some sz ∧ 0 ≤ i ∧ i < len then some (.rp b ver sz (off + i.toNat) 0) else none
  | some i, some (.slice e), .lst _ sz l => if szOf P e = some sz ∧ 0 ≤ i ∧ 0 < sz then (l[i.toNat]?).map fun x => .ept x.cells else none
  | _, _, _ => none

def indexV (P : Program) (t : TypeId) (x i : V) : Option V :=
  match asI i, P.underlying t, x with
  | some i, some .string, .s (.string s) => if 0 ≤ i then (s[i.toNat]?).map fun b => .s (.int .u8 b.toNat) else none
  | some i, some (.array n e), .agg l => (szOf P e).bind fun sz => (isAggB P e).bind fun ag => if 0 ≤ i ∧ i < n then loadC ag sz (l.drop (i.toNat * sz)) else none
  | _, _, _ => none

def fieldV (P : Program) (t : TypeId) (k : Nat) : Option Nat :=
  match P.underlying t with
  | some (.struct fs) => match fs[k]? with
    | some f => (szOf P f.type).bind fun n => if n = 0 then none else some f.offset
    | none => none
  | _ => none

def fieldAddrV (st : Nat → Blk) (off : Nat) : V → Option V
  | .ptr b ver o' => (boxAt st b ver).map fun _ => .ptr b ver (o' + off)
  | .rp b ver sz i o' => (rowAny st b ver).map fun _ => .rp b ver sz i (o' + off)
  | .ept l => some (.ept (l.drop off))
  | _ => none

def loadV (P : Program) (st : Nat → Blk) (t : TypeId) (x : V) : Option V :=
  (szOf P t).bind fun n => (isAggB P t).bind fun ag =>
  match x with
  | .ptr b ver off => (boxAt st b ver).bind fun cs => loadC ag n (cs.drop off)
  | .rp b ver sz i off => (rowAny st b ver).bind fun (sz', _, l) => if sz' = sz then (l[i]?).bind fun x => loadC ag n (x.cells.drop off) else none
  | .ept l => (loadC ag n l).map V.unfr
  | _ => none

/-- an element of a row is given other cells -/
def putRow (c : Cont) (i off : Nat) (ys : List V) : Option (Nat × Cont) := match c with
  | .row sz e l => (l[i]?).bind fun el => if off + ys.length ≤ el.cells.length then
      (if V.cloL true ys then some (sz, .row sz e (l.set i (withCells el (spl el.cells off (V.unfrL ys)))))
      else some (sz, .rowV sz e (l.set i (withCells el (spl el.cells off ys))))) else none
  | .rowV sz e l => (l[i]?).bind fun el => if off + ys.length ≤ el.cells.length then some (sz, .rowV sz e (l.set i (withCells el (spl el.cells off ys)))) else none
  | _ => none

def storeV (P : Program) (st : Nat → Blk) (t : TypeId) (x y : V) : Option (List (Nat × Blk)) :=
  (szOf P t).bind fun n =>
  if y.cells.length = n ∧ y.cells.all V.one then
  match x with
  | .ptr b ver off => (boxAt st b ver).bind fun cs => if off + n ≤ cs.length then some [(b, ⟨ver, .box (spl cs off y.cells)⟩)] else none
  | .rp b ver sz i off => if (st b).ver = ver then (putRow (st b).c i off y.cells).bind fun (sz', c) => if sz' = sz then some [(b, ⟨ver, c⟩)] else none else none
  | _ => none
  else none

/-- the most that one slice may hold -/
def fits (n bytes : Nat) : Prop := n * bytes ≤ 140737488355328
instance (n bytes : Nat) : Decidable (fits n bytes) := inferInstanceAs (Decidable (_ ≤ _))

/-- append: to nothing, or to a row of one's own; the row stands at place d then -/
def appendV (P : Program) (st : Nat → Blk) (d : Nat) (t : TypeId) (x y : V) : Option (V × List (Nat × Blk)) :=
  match P.underlying t with
  | some (.slice e) => (szOf P e).bind fun sz => (bytesOf P e).bind fun by_ =>
    (match y with | .s (.slice none 0 0) => some (true, ([] : List V)) | y => (elemsOf st y).bind fun (sz', fr, l) => if sz' = sz then some (fr || l.all V.scal, l) else none).bind fun (ok, ys) =>
    if ok = true ∧ 0 < sz ∧ 0 < by_ ∧ zOk P e sz = true then
    match x with
    | .s (.slice none 0 0) => if fits ys.length by_ then some (.sw d ((st d).ver + 1) ys.length, [(d, ⟨(st d).ver + 1, .row sz e ys⟩)]) else none
    | x => (ownRow st x).bind fun (b, ver, sz', e', l) => if sz' = sz ∧ e' = e ∧ fits (l.length + ys.length) by_ then some (.sw b (ver + 1) (l.length + ys.length), [(b, ⟨ver + 1, .row sz e (l ++ ys)⟩)]) else none
    else none
  | _ => none

def buildSliceV (P : Program) (st : Nat → Blk) (d : Nat) (t : TypeId) (len : Nat) (parts : List (Nat × V)) : Option (V × List (Nat × Blk)) :=
  match P.underlying t with
  | some (.slice e) => (szOf P e).bind fun sz =>
    if parts.map (·.1) = List.range len ∧ 0 < sz ∧ len * sz ≤ 1000000 ∧ 0 < len ∧ (zeroOf P e).isSome = true then
      (if parts.all (fun p => decide (p.2.cells.length = sz) && p.2.cells.all V.one && V.clo true p.2) = true then some (.sw d ((st d).ver + 1) len, [(d, ⟨(st d).ver + 1, .row sz e (parts.map fun p => p.2.unfr)⟩)])
      else if parts.all (fun p => decide (p.2.cells.length = sz) && p.2.cells.all V.one) = true then some (.sw d ((st d).ver + 1) len, [(d, ⟨(st d).ver + 1, .rowV sz e (parts.map fun p => p.2)⟩)])
      else none)
    else if len = 0 ∧ parts.isEmpty = true ∧ 0 < sz then some (.lst true sz [], []) else none
  | _ => none

/-- a row that hangs in a cell of a box -/
def nest (b j : Nat) : Nat := 1000 * (b + 1) + j

/-- a cell of a box that is handed over, with the blocks that go with it -/
def movC (st : Nat → Blk) : List V → Option (List V × List Nat)
  | [] => some ([], [])
  | c :: r => (movC st r).bind fun (cs, bs) =>
    match c with
    | .s v => some (.s v :: cs, bs)
    | c => (ownRow st c).bind fun (b, _, sz, e, l) => if l.all V.scal = true then some (.own sz e l :: cs, b :: bs) else none
/-- what is handed over: a row, or a box and the rows that hang in it -/
def movV (st : Nat → Blk) (x : V) : Option (V × List Nat) := match x with
  | .ptr b ver 0 => (boxAt st b ver).bind fun cs => (movC st cs).bind fun (cs', bs) => if (b :: bs).Nodup ∧ cs'.length ≤ 1000 then some (.obx cs', b :: bs) else none
  | x => (ownRow st x).bind fun (b, _, sz, e, l) => if l.all V.scal = true then some (.own sz e l, [b]) else none
/-- numbers, truths and texts, one or some of them -/
def V.scalT : V → Bool
  | .s _ => true
  | .agg l => l.all fun x => match x with | .s _ => true | _ => false
  | .tup l => l.all fun x => match x with | .s _ => true | _ => false
  | _ => false
/-- may a value be handed over? -/
def V.movable : V → Bool
  | .sw .. => true
  | .sp .. => true
  | .ptr .. => true
  | _ => false

/-- what the called function sees of a value lies in none of these blocks -/
def apartV (st : Nat → Blk) (bs : List Nat) : Nat → V → Bool
  | 0, _ => false
  | n + 1, x => match x with
    | .agg l => l.all (apartV st bs n)
    | .tup l => l.all (apartV st bs n)
    | .fn _ l => l.all (apartV st bs n)
    | .sw b _ _ => !(bs.contains b) && (match (st b).c with | .rowV _ _ l => l.all fun (x : V) => x.cells.all (apartV st bs n) | _ => true)
    | .sp b _ _ _ _ => !(bs.contains b)
    | .bp b _ _ _ => !(bs.contains b)
    | .ptr b _ _ => !(bs.contains b) && (match (st b).c with | .box cs => cs.all (apartV st bs n) | _ => true)
    | _ => true
def apartL (l B : List Nat) : Bool := l.all fun x => !(B.contains x)

/-- the arguments as the called function sees them; moved: the blocks that become its own -/
def argsV (st : Nat → Blk) : List Bool → List V → Option (List V × List Nat)
  | _, [] => some ([], [])
  | mv, x :: xs => (argsV st mv.tail xs).bind fun (ys, bs) =>
    match mv.headD false && x.movable with
    | true => (movV st x).bind fun (y, b) => if bs = [] then some (y :: ys, b) else none
    | false => (expV st 4 x).bind fun y => some (y :: ys, bs)
/-- what is not handed over names nothing that is -/
def argsApart (st : Nat → Blk) (bs : List Nat) : List Bool → List V → Bool
  | _, [] => true
  | mv, x :: xs => argsApart st bs mv.tail xs && ((mv.headD false && x.movable) || apartV st bs 4 x)

/-- a box that is handed back: the rows in its cells are blocks of one's own then -/
def hang (st : Nat → Blk) (b : Nat) : Nat → List V → List V × List (Nat × Blk)
  | _, [] => ([], [])
  | j, c :: r => match c with
    | .own sz e l => (.sw (nest b j) ((st (nest b j)).ver + 1) l.length :: (hang st b (j + 1) r).1, (nest b j, ⟨(st (nest b j)).ver + 1, .row sz e l⟩) :: (hang st b (j + 1) r).2)
    | c => (c :: (hang st b (j + 1) r).1, (hang st b (j + 1) r).2)
/-- what an argument holds behind the call -/
def backV (st : Nat → Blk) (x : Option V) (out : V) : Option (List (Nat × Blk)) := match x, out with
  | some (.sw b ver n), .own sz e l => if l.length = n ∧ (rowAt st b ver).isSome = true then some [(b, ⟨ver, .row sz e l⟩)] else none
  | some (.ptr b ver 0), .obx cs => if (boxAt st b ver).isSome = true then some ((hang st b 0 cs).2 ++ [(b, ⟨ver, .box (hang st b 0 cs).1⟩)]) else none
  | _, _ => none

def callV (C : Orc) (st : Nat → Blk) (d : Nat) (f : V) (args : List V) : Option (V × List (Nat × Blk)) :=
  match f with
  | .fn g caps => (C g).bind fun sp => (argsV st sp.mv (args ++ caps)).bind fun (ys, bs) => (sp.fn ys).bind fun r =>
    if bs = [] ∨ (argsApart st bs sp.mv (args ++ caps) = true ∧ ys.length ≤ 1000) then
    let gone := bs.map fun b => (b, ⟨(st b).ver, Cont.gone⟩)
    match r with
    | .own sz e l => some (.sw d ((st d).ver + 1) l.length, gone ++ [(d, ⟨(st d).ver + 1, .row sz e l⟩)])
    | .obx cs => some (.ptr d ((st d).ver + 1) 0, gone ++ ((hang st d 0 cs).2 ++ [(d, ⟨(st d).ver + 1, .box (hang st d 0 cs).1⟩)]))
    | .io t r out => (backV st (args ++ caps)[t]? out).map fun u => (r, gone ++ u)
    | r => some (r, gone)
    else none
  | _ => none

/-- a new row of so many zeros -/
def makeV (P : Program) (st : Nat → Blk) (d : Nat) (t : TypeId) (n : Int) : Option (V × List (Nat × Blk)) :=
  match P.underlying t with
  | some (.slice e) => (bytesOf P e).bind fun by_ => (zeroOf P e).bind fun z => if 0 ≤ n ∧ n * by_ ≤ 140737488355328 ∧ n ≤ 1000000 ∧ zOk P e 1 = true ∧ szOf P e = some 1 ∧ z.oneCell' = true then
      some (.sw d ((st d).ver + 1) n.toNat, [(d, ⟨(st d).ver + 1, .row 1 e (List.replicate n.toNat (.s z))⟩)]) else none
  | _ => none

/-- the number of a type's interfaces: a value in one -/
def ifaceV (P : Program) (t : TypeId) : V → Option V
  | .s v => match P.underlying t with
    | some (.interface _) => none
    | some _ => some (.s (.iface t v))
    | none => none
  | _ => none
def assertV (P : Program) (t : TypeId) (ok : Bool) : V → Option V
  | .s .nilIface => match P.underlying t with
    | some (.interface _) => none
    | some _ => if ok then (zeroOf P t).map fun z => .tup [.s z, .s (.bool false)] else none
    | none => none
  | .s (.iface t' v) => match P.underlying t with
    | some (.interface _) => none
    | some _ => if t' = t then (if ok then some (.tup [.s v, .s (.bool true)]) else some (.s v)) else (if ok then (zeroOf P t).map fun z => .tup [.s z, .s (.bool false)] else none)
    | none => none
  | _ => none

def isI64T (P : Program) (t : TypeId) : Bool := match P.underlying t with
  | some (.int .i64) => true
  | _ => false
/-- maps from int to int -/
def mapI (P : Program) (t : TypeId) : Bool := match P.underlying t with
  | some (.map k e) => isI64T P k && (isI64T P e && (match zeroOf P e with
    | some (.int .i64 z) => z == 0
    | _ => false))
  | _ => false
def wfI (a : Int) : Bool := decide (-9223372036854775808 ≤ a) && decide (a ≤ 9223372036854775807)
def makeMapV (P : Program) (st : Nat → Blk) (d : Nat) (t : TypeId) : Option (V × List (Nat × Blk)) :=
  if mapI P t = true then some (.mp d ((st d).ver + 1), [(d, ⟨(st d).ver + 1, .mpc 0 (fun _ => 0)⟩)]) else none
def mapAt (st : Nat → Blk) (b ver : Nat) : Option (Nat × (Int → Int)) :=
  if (st b).ver = ver then (match (st b).c with | .mpc n f => some (n, f) | _ => none) else none
def lookV (P : Program) (st : Nat → Blk) (t : TypeId) (x y : V) : Option V := match x, y with
  | .mp b ver, .s (.int .i64 a) => if mapI P t = true then (if wfI a = true then (mapAt st b ver).map fun p => .s (.int .i64 (p.2 a)) else none) else none
  | _, _ => none
def putV (P : Program) (st : Nat → Blk) (t : TypeId) (x y z : V) : Option (List (Nat × Blk)) := match x, y, z with
  | .mp b ver, .s (.int .i64 a), .s (.int .i64 v) => if mapI P t = true then (if wfI a = true then (if wfI v = true then (mapAt st b ver).bind fun p =>
      if p.1 < maxLen then some [(b, ⟨ver, .mpc (p.1 + 1) (fun x => if x = a then v else p.2 x)⟩)] else none else none) else none) else none
  | _, _, _ => none
/-- a part of a row of one's own is made zeros -/
def clearV (P : Program) (st : Nat → Blk) (t : TypeId) (x : V) : Option (List (Nat × Blk)) := match P.underlying t, x with
  | some (.slice e), .sp b ver sz off len => (zeroOf P e).bind fun z => (rowAt st b ver).bind fun (sz', e', l) =>
      if sz' = sz ∧ off + len ≤ l.length ∧ z.cells.size = sz then (if z.cells.all Value.oneCell' = true then some [(b, ⟨ver, .row sz e' (l.take off ++ List.replicate len (.s z) ++ l.drop (off + len))⟩)] else none) else none
  | _, _ => none

def maxV : List V → Option V
  | [.s (.int k x), .s (.int _ y)] => some (.s (.int k (if y > x then y else x)))
  | _ => none
def minV : List V → Option V
  | [.s (.int k x), .s (.int _ y)] => some (.s (.int k (if y < x then y else x)))
  | _ => none

def pickV (c : Bool) (a b : V) : V := match c with
  | true => a
  | false => b
@[simp] theorem pickV_true (a b : V) : pickV true a b = a := rfl
@[simp] theorem pickV_false (a b : V) : pickV false a b = b := rfl

def opV (P : Program) (C : Orc) (E : EqT) (o : Oper) (ρ : Operand → V) (st : Nat → Blk) : Option (V × List (Nat × Blk)) :=
  let d := o.dst.getD 0
  let pure (v : Option V) : Option (V × List (Nat × Blk)) := v.map fun v => (v, [])
  match o.op with
  | .move x | .assign x => pure (some (ρ x))
  | .pick c a b => match ρ c with
    | .s (.bool c) => pure (some (pickV c (ρ a) (ρ b)))
    | _ => none
  | .alloc t => (zeroOf P t).map fun z => (.ptr d ((st d).ver + 1) 0, [(d, ⟨(st d).ver + 1, .box (z.cells.toList.map .s)⟩)])
  | .box _ x => some (.ptr d ((st d).ver + 1) 0, [(d, ⟨(st d).ver + 1, .box (ρ x).cells⟩)])
  | .build t parts => pure ((buildC P t (parts.toList.map fun (i, x) => (i, ρ x))).map .agg)
  | .buildSlice t n parts => if o.dst.isSome then buildSliceV P st d t n (parts.toList.map fun (i, x) => (i, ρ x)) else none
  | .makeSlice t n m => if o.dst.isSome then (match ρ n, ρ m with
      | .s (.int .i64 a), .s (.int .i64 b) => if a = b then makeV P st d t a else none
      | _, _ => none) else none
  | .makeInterface t x => pure (ifaceV P t (ρ x))
  | .typeAssert x _ t ok => pure (assertV P t ok (ρ x))
  | .load t a => pure (loadV P st t (ρ a))
  | .store t a x => if o.dst.isNone then (storeV P st t (ρ a) (ρ x)).map fun u => (.s undef, u) else none
  | .binOp op t x y _ => pure (binV P E op t (ρ x) (ρ y))
  | .unOp op _ x => pure (unV op (ρ x))
  | .convert a b x => pure (convV P st a b (ρ x))
  | .makeFunc (.func f) first caps => if first.size = 0 then pure (some (.fn f (caps.toList.map ρ))) else none
  | .slice t x lo hi none => pure (sliceV P st t (ρ x) (lo.map ρ) (hi.map ρ))
  | .fieldAddr t x k => (fieldV P t k).bind fun off => pure (fieldAddrV st off (ρ x))
  | .nilCheck x => pure (fieldAddrV st 0 (ρ x))
  | .indexAddr t x i => pure (indexAddrV P st t (ρ x) (ρ i))
  | .index t x i => pure (indexV P t (ρ x) (ρ i))
  | .extract x i => match ρ x with
    | .tup l => pure (l[i]?)
    | _ => none
  | .call c => if o.dst.isSome then (match c.callee with
    | .builtin .len => match c.argTypes.toList, c.args.toList with
      | [t], [x] => pure (lenV P st t (ρ x))
      | _, _ => none
    | .builtin .append => match c.argTypes.toList, c.args.toList with
      | [t, u], [x, y] => if t = u then appendV P st d t (ρ x) (ρ y) else none
      | _, _ => none
    | .builtin .max => pure (maxV (c.args.toList.map ρ))
    | .builtin .min => pure (minV (c.args.toList.map ρ))
    | .value f => callV C st d (ρ f) (c.args.toList.map ρ)
    | _ => none) else (match c.callee with
    | .builtin .clear => (match c.argTypes.toList, c.args.toList with
      | [t], [x] => (clearV P st t (ρ x)).map fun u => (.s undef, u)
      | _, _ => none)
    | _ => none)
  | .makeMap t none => if o.dst.isSome then makeMapV P st d t else none
  | .lookup t m x false => pure (lookV P st t (ρ m) (ρ x))
  | .mapUpdate t m x v => if o.dst.isNone then (putV P st t (ρ m) (ρ x) (ρ v)).map fun u => (.s undef, u) else none
  | _ => none

/-- is the operation wanted? -/
def wants (ops : List Oper) (env : Nat → V) (o : Oper) : Option (Option (Bool × Bool)) :=
  match o.guard with
  | none => some none
  | some (j, b) => match (ops[j]?).bind (·.dst) with
    | some t => match env t with
      | .s (.bool c) => some (some (c, b))
      | .s (.tuple _) => some (some (!b, b))
      | _ => none
    | none => none

def stepV (P : Program) (C : Orc) (E : EqT) (n : Nat) (o : Oper) (s : S) : Option S :=
  (opV P C E o (ev s.env) s.st).bind fun (v, u) => match o.dst with
    | some d => if d < n then some ⟨upd s.env d v, ups s.st u⟩ else none
    | none => some ⟨s.env, ups s.st u⟩

/-- a way parts: what stands behind it is not looked at before it is known where it goes -/
def br (b : Bool) (A B : Prop) : Prop := (b = true → A) ∧ (b = false → B)
@[congr] theorem br_congr {b b' : Bool} {A B : Prop} (h : b = b') : br b A B = br b' A B := by rw [h]
@[simp] theorem br_true (A B : Prop) : br true A B = A := by simp [br]
@[simp] theorem br_false (A B : Prop) : br false A B = B := by simp [br]
inductive Ex where
  | normal
  | exit (id : Nat)
  | ret

/-- what is done with a state, if there is one -/
def thenS (x : Option S) (k : S → Prop) : Prop := match x with
  | some s => k s
  | none => False
@[congr] theorem thenS_congr {x x' : Option S} {k : S → Prop} (h : x = x') : thenS x k = thenS x' k := by rw [h]
@[simp] theorem thenS_some (s : S) (k : S → Prop) : thenS (some s) k = k s := rfl
@[simp] theorem thenS_none (k : S → Prop) : thenS none k = False := rfl
/-- the truth that an operation waits for, and the one that it wants; none: it is done in any case -/
def onG (x : Option (Option (Bool × Bool))) (A B : Prop) : Prop := match x with
  | some none => A
  | some (some (b, true)) => br b A B
  | some (some (b, false)) => br b B A
  | none => False
@[congr] theorem onG_congr {x x' : Option (Option (Bool × Bool))} {A B : Prop} (h : x = x') : onG x A B = onG x' A B := by rw [h]
@[simp] theorem onG_any (A B : Prop) : onG (some none) A B = A := rfl
@[simp] theorem onG_yes (b : Bool) (A B : Prop) : onG (some (some (b, true))) A B = br b A B := rfl
@[simp] theorem onG_no (b : Bool) (A B : Prop) : onG (some (some (b, false))) A B = br b B A := rfl
@[simp] theorem onG_none (A B : Prop) : onG none A B = False := rfl
def onB (x : Option Bool) (A B : Prop) : Prop := match x with
  | some b => br b A B
  | none => False
@[congr] theorem onB_congr {x x' : Option Bool} {A B : Prop} (h : x = x') : onB x A B = onB x' A B := by rw [h]
@[simp] theorem onB_some (b : Bool) (A B : Prop) : onB (some b) A B = br b A B := rfl
@[simp] theorem onB_none (A B : Prop) : onB none A B = False := rfl
def asB : V → Option Bool
  | .s (.bool b) => some b
  | _ => none
/-- an operation that is not wanted -/
def passV (n : Nat) (o : Oper) (s : S) : Option S := match o.dst with
  | some d => if d < n then some ⟨upd s.env d (.s undef), s.st⟩ else none
  | none => some s

def awpOps (P : Program) (C : Orc) (E : EqT) (n : Nat) (ops : List Oper) (K : S → Prop) : List Oper → S → Prop
  | [], s => K s
  | o :: r, s => onG (wants ops s.env o) (thenS (stepV P C E n o s) (awpOps P C E n ops K r)) (thenS (passV n o s) (awpOps P C E n ops K r))

/-- the block that a value names -/
def V.ref : V → List Nat
  | .sw b _ _ => [b]
  | .sp b _ _ _ _ => [b]
  | .ptr b _ _ => [b]
  | .rp b _ _ _ _ => [b]
  | .bp b _ _ _ => [b]
  | .mp b _ => [b]
  | _ => []
/-- what an operation reads stands in none of these blocks -/
def readsOk (B : List Nat) (op : Op) (ρ : Operand → V) : Bool :=
  B.isEmpty || (match op with
  | .load _ x | .nilCheck x | .fieldAddr _ x _ | .indexAddr _ x _ | .slice _ x _ _ _ | .convert _ _ x => apartL (ρ x).ref B
  | .call c => (match c.callee with
    | .builtin _ => c.args.toList.all fun x => apartL (ρ x).ref B
    | .value f => (ρ f).clo false && c.args.toList.all fun x => (ρ x).clo false
    | _ => false)
  | .move _ | .assign _ | .pick _ _ _ | .build _ _ | .binOp _ _ _ _ _ | .unOp _ _ _ | .makeFunc _ _ _ | .index _ _ _ | .extract _ _ | .makeInterface _ _ | .typeAssert _ _ _ _ => true
  | _ => false)
/-- may the operation turn a block? T: the places of those that may -/
def turns (T : List Nat) (o : Oper) : Bool := match o.dst with
  | some d => T.contains d
  | none => true

/-- T names pairs of operations that stand in no order: 1000000 + 1000 times the place of the one, which makes a new block, + the place of the other, which does not touch that block -/
def pr (a b : Nat) : Nat := 1000000 + a * 1000 + b
def freeOk (T : List Nat) (o : Oper) (ρ : Operand → V) : Bool :=
  T.all fun t => decide (t < 1000000) || ((t - 1000000) % 1000 != o.dst.getD 1000 || (match o.op with
    | .alloc _ => true
    | .buildSlice _ _ _ => true
    | .call c => (match c.callee with
      | .builtin .append => c.args.toList.all fun x => !((ρ x).ref.contains ((t - 1000000) / 1000))
      | .value f => decide ((t - 1000000) / 1000 < 1000) && ((ρ f).clo false && c.args.toList.all fun x => (ρ x).clo false)
      | _ => false)
    | _ => false))
def isNew (o : Oper) : Bool := match o.op, o.dst with
  | .alloc _, some _ => true
  | .buildSlice _ _ _, some _ => true
  | _, _ => false
def isAp (o : Oper) : Bool := match o.op, o.dst with
  | .alloc _, some _ => true
  | .buildSlice _ _ _, some _ => true
  | .call c, some _ => (match c.callee with
    | .builtin .append => true
    | .value _ => true
    | _ => false)
  | _, _ => false
def named (T : List Nat) (x y : Oper) : Bool := match x.dst, y.dst with
  | some a, some b => decide (a < 1000) && (decide (b < 1000) && T.contains (pr a b))
  | _, _ => false
/-- it reads alone -/
def isRd (o : Oper) : Bool := match o.op with
  | .load _ _ => true
  | .indexAddr _ _ _ => true
  | .fieldAddr _ _ _ => true
  | .nilCheck _ => true
  | _ => false
def freeP (T : List Nat) (x y : Oper) : Bool := (isNew x && isAp y && named T x y) || ((isAp x && isNew y && named T y x) || (isRd x && isRd y))
/-- a step in a region that draws its order; B: the blocks that may turn in it, T: the places of the operations that turn them -/
def stepD (P : Program) (C : Orc) (E : EqT) (n : Nat) (B T : List Nat) (o : Oper) (s : S) : Option S :=
  if turns T o = true then
    (match opV P C E o (ev s.env) s.st with
    | some (v, u) => if (freeOk T o (ev s.env) && u.all (fun p => B.contains p.1)) = true then (match o.dst with
      | some d => if d < n then some ⟨upd s.env d v, ups s.st u⟩ else none
      | none => some ⟨s.env, ups s.st u⟩) else none
    | none => none)
  else if readsOk B o.op (ev s.env) = true then
    (match opV P C E o (ev s.env) s.st with
    | some (v, []) => (match o.dst with
      | some d => if d < n then some ⟨upd s.env d v, s.st⟩ else none
      | none => some s)
    | _ => none)
  else none

/-- the last operation: it stands behind all others and may do what it likes, or, if 99999 stands in T, it is one of them -/
def stepL (P : Program) (C : Orc) (E : EqT) (n : Nat) (B T : List Nat) (o : Oper) (s : S) : Option S := if T.contains 99999 = true then stepD P C E n B T o s else stepV P C E n o s
/-- .. -/
def awpOpsD (P : Program) (C : Orc) (E : EqT) (n : Nat) (B T : List Nat) (ops : List Oper) (K : S → Prop) : List Oper → S → Prop
  | [], s => K s
  | [o], s => onG (wants ops s.env o) (thenS (stepL P C E n B T o s) K) (thenS (passV n o s) K)
  | o :: o' :: r, s => onG (wants ops s.env o) (thenS (stepD P C E n B T o s) (awpOpsD P C E n B T ops K (o' :: r))) (thenS (passV n o s) (awpOpsD P C E n B T ops K (o' :: r)))

/-- what must stand ahead of each operation -/
def ancAll (ops : Array Oper) : List (List Nat) :=
  ops.toList.zipIdx.foldl (fun acc (y, j) => acc ++ [y.after.toList.foldl (fun l e => if Region.binds .any e && decide (e.on < j) then (if l.contains e.on then l else e.on :: l ++ (acc.getD e.on [])) else l) []]) []
/-- of two operations of a region the first one stands ahead, or both may stand in any order -/
def pairOk (A : List (List Nat)) (T : List Nat) (ops : Array Oper) (i j : Nat) : Bool :=
  (A.getD j []).contains i || (match ops[i]?, ops[j]? with
  | some x, some y => (decide (j + 1 < ops.size) || T.contains 99999) && !(turns T x && turns T y && !freeP T x y) && x.apart ops y
  | _, _ => true)
def lowOk (ops : Array Oper) : Bool :=
  (List.range ops.size).all fun j => (match ops[j]? with
    | some y => y.after.all fun e => !Region.binds .any e || decide (e.on < j)
    | none => true)
/-- what stands in the lists does stand ahead -/
def ancOk (A : List (List Nat)) (ops : Array Oper) : Bool :=
  (List.range ops.size).all fun j => (A.getD j []).all fun i => (match ops[j]? with
    | some y => y.after.any fun e => Region.binds .any e && decide (e.on < j) && (e.on == i || (A.getD e.on []).contains i)
    | none => false)
def drawOk (T : List Nat) (ops : Array Oper) : Bool :=
  lowOk ops && ancOk (ancAll ops) ops && (let A := ancAll ops; (List.range ops.size).all fun j => ((List.range j).all fun i => pairOk A T ops i j))
def regD (b : Bool) (A : Prop) : Prop := b = true ∧ A
@[congr] theorem regD_congr {b b' : Bool} {A : Prop} (h : b = b') : regD b A = regD b' A := by rw [h]

def Kseq (K : Ex → S → Prop) (y : S → Prop) : Ex → S → Prop
  | .normal, s => y s
  | e, s => K e s
def Kblock (id : Nat) (K : Ex → S → Prop) : Ex → S → Prop
  | .exit i, s => if i = id then K .normal s else K (.exit i) s
  | e, s => K e s

@[congr] theorem awpOps_congr {P : Program} {C : Orc} {E : EqT} {n : Nat} {ops : List Oper} {K : S → Prop} {r : List Oper} {s s' : S} (h : s = s') : awpOps P C E n ops K r s = awpOps P C E n ops K r s' := by rw [h]
@[congr] theorem Kseq_congr {K : Ex → S → Prop} {y : S → Prop} {e e' : Ex} {s s' : S} (he : e = e') (h : s = s') : Kseq K y e s = Kseq K y e' s' := by rw [h, he]
@[congr] theorem Kblock_congr {K : Ex → S → Prop} {id : Nat} {e e' : Ex} {s s' : S} (he : e = e') (h : s = s') : Kblock id K e s = Kblock id K e' s' := by rw [h, he]

/-- a result as its caller sees it -/
def resV (st : Nat → Blk) : Nat → V → Option V
  | 0, _ => none
  | n + 1, x => match x with
    | .s v => some (.s v)
    | .agg l => (l.mapM (resV st n)).map .agg
    | .tup l => (l.mapM (resV st n)).map .tup
    | .lst fr sz l => if fr then some (.lst true sz l) else none
    | .sw b ver _ => (rowAt st b ver).map fun (sz, _, l) => .lst true sz l
    | .sp b ver sz off len => (rowAt st b ver).bind fun (sz', _, l) => if sz' = sz ∧ off + len ≤ l.length then some (.lst true sz ((l.drop off).take len)) else none
    | _ => none
def resT (st : Nat → Blk) (x : V) : Option V :=
  match x with
  | .sw b ver _ => (rowAt st b ver).map fun (sz, e, l) => .own sz e l
  | .ptr b ver 0 => (boxAt st b ver).bind fun cs => (movC st cs).bind fun (cs', bs) => if (b :: bs).Nodup then some (.obx cs') else none
  | x => resV st 4 x

def resL (P : Program) (fn : Func) (s : S) : Option (List V) :=
  fn.results.toList.mapM (m := Option) fun r => match r with
    | .tmp t => if t < fn.ntmps then some (s.env t) else none
    | .cell a t => if a < fn.ntmps then loadV P s.st t (s.env a) else none
def one (vs : List V) : V := match vs with
  | [v] => v
  | vs => .tup vs
def resOf (P : Program) (fn : Func) (s : S) : Option V := (resL P fn s).bind fun vs => resT s.st (one vs)
/-- .. and what stands behind a pointer that was handed over, which is handed back -/
def ioOf (P : Program) (fn : Func) (s : S) (t : Nat) : Option V := (resL P fn s).bind fun vs =>
  if (one vs).scalT = true then
    if (s.st t).ver = 1 then (match (s.st t).c with
    | .box cs => (movC s.st cs).bind fun (cs', bs) => if (t :: bs).Nodup then some (.io t (one vs) (.obx cs')) else none
    | .row sz e l => if l.all V.scal = true then some (.io t (one vs) (.own sz e l)) else none
    | _ => none) else none
  else none

/-- the cells of a box that is handed over, as the function has them -/
def inC (t : Nat) : Nat → List V → List V
  | _, [] => []
  | j, c :: r => (match c with
    | .own _ _ l => .sw (nest t j) 1 l.length
    | c => c) :: inC t (j + 1) r
/-- the state in which a function begins -/
def init (xs : List V) : S :=
  { env := fun t => match xs[t]? with
      | some (.own _ _ l) => .sw t 1 l.length
      | some (.obx _) => .ptr t 1 0
      | some x => x.unfr
      | none => .s undef
    st := fun t => if t < 1000 then (match xs[t]? with
        | some (.own sz e l) => ⟨1, .row sz e l⟩
        | some (.obx cs) => ⟨1, .box (inC t 0 cs)⟩
        | _ => ⟨0, .gone⟩)
      else (match xs[t / 1000 - 1]? with
        | some (.obx cs) => (match cs[t % 1000]? with
          | some (.own sz e l) => ⟨1, .row sz e l⟩
          | _ => ⟨0, .gone⟩)
        | _ => ⟨0, .gone⟩) }

end Go.Proofs.YtkfmecmmbnehjaaGreat
/-
Rows of one's own, from any place of their block on: what they hold, and how they grow. No condition.
-/
namespace Go.Proofs.YtkfmecmmbnehjaaGreat
set_option linter.unusedSimpArgs false
set_option linter.unusedVariables false

/-- a mark of bytes that a text may share lies behind the last cell at most -/
def Harmless (fz : Nat × Nat) (k : Nat) : Prop := fz = (0, 0) ∨ fz = (k, k + 1)

/-- the slice has these cells, and nothing else has them -/
def OwnRow (w : World) (e sz : Nat) (v : Value) (n : Nat) (us : List Value) : Prop :=
  us.length = n * sz ∧ ((v = .slice none 0 0 ∧ n = 0) ∨ ∃ g o cap cur fz, v = .slice (some ⟨g, o, none⟩) n cap ∧ w.heap[g]? = some (.cells cur e fz) ∧ Harmless fz cur.size ∧ n ≤ cap ∧ cap ≤ maxLen ∧
    o + cap * sz ≤ cur.size ∧ (cur.toList.drop o).take (n * sz) = us)

def blkOf : Value → Option Nat
  | .slice (some a) _ _ => some a.block
  | .pointer (some a) => some a.block
  | .map (some g) => some g
  | _ => none

section
variable {w w' : World} {e sz n : Nat} {v : Value} {us : List Value}
theorem OwnRow.nil (w : World) (e sz : Nat) : OwnRow w e sz (.slice none 0 0) 0 [] := ⟨by simp, .inl ⟨rfl, rfl⟩⟩
theorem OwnRow.of (h : w.ownsRow 0 e sz v n us) : OwnRow w e sz v n us := by
  refine ⟨h.1, ?_⟩
  rcases h.2 with h' | ⟨g, cap, cur, h1, _, h2, h3, h4, h5, h6⟩
  · exact .inl h'
  · exact .inr ⟨g, 0, cap, cur, (0, 0), h1, h2, .inl rfl, h3, h4, by omega, by simpa using h6⟩
theorem OwnRow.same (h : OwnRow w e sz v n us) (hs : ∀ g, blkOf v = some g → w'.heap[g]? = w.heap[g]?) : OwnRow w' e sz v n us := by
  refine ⟨h.1, ?_⟩
  rcases h.2 with h' | ⟨g, o, cap, cur, fz, rfl, h2, h3⟩
  · exact .inl h'
  · exact .inr ⟨g, o, cap, cur, fz, rfl, (hs g rfl).trans h2, h3⟩
theorem OwnRow.lt (h : OwnRow w e sz v n us) {g : Nat} (hg : blkOf v = some g) : g < w.heap.size := by
  rcases h.2 with ⟨rfl, _⟩ | ⟨g', o, cap, cur, fz, rfl, h2, h3⟩
  · simp [blkOf] at hg
  · simp [blkOf] at hg
    subst hg
    exact (Array.getElem?_eq_some_iff.1 h2).1
theorem OwnRow.cells (h : OwnRow w e sz v n us) {g o c : Nat} (hv : v = .slice (some ⟨g, o, none⟩) n c) : ∀ j u, us[j]? = some u → w.cell? ⟨g, o + j, none⟩ = some u := by
  intro j u hj
  rcases h.2 with ⟨h', _⟩ | ⟨g', o', cap, cur, fz, h1, h2, _, _, _, _, h6⟩
  · rw [h'] at hv; cases hv
  · rw [h1] at hv
    cases hv
    rw [← h6, List.getElem?_take] at hj
    split at hj
    · rw [List.getElem?_drop] at hj
      simp only [World.cell?, h2]
      simpa using hj
    · cases hj
theorem OwnRow.val (h : OwnRow w e sz v n us) : (v = .slice none 0 0 ∧ n = 0) ∨ ∃ g o cap, v = .slice (some ⟨g, o, none⟩) n cap ∧ n ≤ cap := by
  rcases h.2 with h' | ⟨g, o, cap, cur, fz, h1, h2, h3, h4, _⟩
  · exact .inl h'
  · exact .inr ⟨g, o, cap, h1, h4⟩
theorem OwnRow.one (h : OwnRow w e sz v n us) : v.oneCell' = true := by
  rcases h.2 with ⟨rfl, _⟩ | ⟨g, o, cap, cur, fz, rfl, _⟩ <;> rfl
/-- where the part of a row from an element on lies -/
def PartOf (sz i : Nat) (v0 v : Value) : Prop :=
  (v0 = .slice none 0 0 ∧ v = .slice none 0 0) ∨ ∃ g o n cap len o', v0 = .slice (some ⟨g, o, none⟩) n cap ∧ v = .slice (some ⟨g, o', none⟩) len (cap - i) ∧ i ≤ cap ∧ (o' = o + i * sz ∨ (cap = i ∧ o' ≤ o + i * sz))
/-- a part of it is one, too -/
theorem OwnRow.part (h : OwnRow w e sz v n us) {i j : Nat} (hij : i + j ≤ n) {A : Option Addr} {cp : Nat} (hv : PartOf sz i v (.slice A j cp)) : OwnRow w e sz (.slice A j cp) j ((us.drop (i * sz)).take (j * sz)) := by
  have hl : ((us.drop (i * sz)).take (j * sz)).length = j * sz := by
    rw [List.length_take, List.length_drop, h.1]
    have := Nat.mul_le_mul_right sz hij
    rw [Nat.add_mul] at this
    omega
  refine ⟨hl, ?_⟩
  rcases h.2 with ⟨h', hn⟩ | ⟨g', o', cap', cur, fz, h1, h2, h3, h4, h5, h6, h7⟩
  · rcases hv with ⟨_, hv⟩ | ⟨g, o, m, cap, len, o2, hv, _⟩
    · cases hv
      exact .inl ⟨rfl, rfl⟩
    · rw [h'] at hv; cases hv
  · rcases hv with ⟨hv, _⟩ | ⟨g, o, m, cap, len, o2, hv, hv2, hic, hA⟩
    · rw [h1] at hv; cases hv
    · rw [h1] at hv
      cases hv
      cases hv2
      have hmul := Nat.mul_le_mul_right sz (show i + (cap' - i) ≤ cap' by omega)
      rw [Nat.add_mul] at hmul
      have hmn := Nat.mul_le_mul_right sz hij
      rw [Nat.add_mul] at hmn
      rcases hA with rfl | ⟨rfl, hA⟩
      · refine .inr ⟨g', _, _, cur, fz, rfl, h2, h3, by omega, by omega, by omega, ?_⟩
        rw [← h7, List.drop_take, List.drop_drop, List.take_take, Nat.min_eq_left (by omega)]
      · have hj : j = 0 := by omega
        subst hj
        exact .inr ⟨g', o2, _, cur, fz, rfl, h2, h3, by omega, by omega, by simp; omega, by simp⟩

theorem frozen_harmless {cur : Array Value} {fz : Nat × Nat} {g i : Nat} (hg : w.heap[g]? = some (.cells cur e fz)) (hf : Harmless fz cur.size) (hi : i < cur.size) : w.frozen? ⟨g, i, none⟩ = false := by
  simp only [World.frozen?, hg]
  rcases hf with rfl | rfl
  · simp
  · simp; omega

theorem run_storeCells_h (P : Program) (g o : Nat) (t : TypeId) (fz : Nat × Nat) : ∀ (vs : List Value) (i : Nat) (cur : Array Value) (w : World), w.heap[g]? = some (.cells cur t fz) → Harmless fz cur.size → o + i + vs.length ≤ cur.size → (∀ v ∈ vs, v.oneCell' = true) →
    (storeCells ⟨g, o, none⟩ vs i).run P w = .ok () (w.setRow g (cur.toList.take (o + i) ++ vs ++ cur.toList.drop (o + i + vs.length)).toArray)
  | [], i, cur, w, hg, _, _, _ => by
    simp only [storeCells, List.append_nil, List.length_nil, Nat.add_zero, List.take_append_drop, Array.toArray_toList]
    rw [setRow_self w g cur t fz hg]
    rfl
  | v :: rest, i, cur, w, hg, hf, hl, h1 => by
    have hi : o + i < cur.size := by simp at hl; omega
    have hadd : (⟨g, o, none⟩ : Addr).add i = ⟨g, o + i, none⟩ := by unfold Addr.add; split <;> simp_all
    have hcell : w.cell? ⟨g, o + i, none⟩ = some cur[o + i] := by simp [World.cell?, hg, hi]
    have hfro : w.frozen? ⟨g, o + i, none⟩ = false := frozen_harmless hg hf hi
    have hst : (store ((⟨g, o, none⟩ : Addr).add i) v).run P w = .ok () (w.setRow g (cur.setIfInBounds (o + i) v)) := by
      rw [hadd, run_store P w _ v _ (h1 v (by simp)), hcell]
      simp [hfro, setCell_eq_setRow w g (o + i) cur t fz v hg]
    have ih := run_storeCells_h P g o t fz rest (i + 1) (cur.setIfInBounds (o + i) v) (w.setRow g (cur.setIfInBounds (o + i) v)) (setRow_heap w g cur _ t _ hg) (by simpa using hf) (by simp at hl ⊢; omega) (fun x hx => h1 x (by simp [hx]))
    simp only [storeCells, Sem.run_bind, hst, Result.andThen_ok, ih, setRow_setRow]
    congr 3
    have e := list_seg_step cur.toList (o + i) v rest (by simp at hl ⊢; omega)
    simpa [Array.toList_setIfInBounds, Nat.add_assoc] using e

/-- a row after cells were put over some of its own -/
theorem OwnRow.put {g o cap : Nat} {cur : Array Value} {fz : Nat × Nat} (hl : us.length = n * sz) (hg : w.heap[g]? = some (.cells cur e fz)) (hf : Harmless fz cur.size) (h4 : n ≤ cap) (h5 : cap ≤ maxLen) (h6 : o + cap * sz ≤ cur.size)
    (h7 : (cur.toList.drop o).take (n * sz) = us) {k m : Nat} {vs : List Value} (hk : k + vs.length ≤ m * sz) (hm : m ≤ cap) (hnm : n ≤ m) (hkn : k ≤ n * sz) (hend : m = n ∨ k + vs.length = m * sz) :
    OwnRow (w.setRow g (cur.toList.take (o + k) ++ vs ++ cur.toList.drop (o + k + vs.length)).toArray) e sz (.slice (some ⟨g, o, none⟩) m cap) m (us.take k ++ vs ++ us.drop (k + vs.length)) := by
  have hms := Nat.mul_le_mul_right sz hm
  have hns := Nat.mul_le_mul_right sz hnm
  have hcs : cur.toList.length = cur.size := by simp
  refine ⟨?_, .inr ⟨g, o, cap, _, fz, rfl, setRow_heap w g cur _ e _ hg, ?_, hm, h5, ?_, ?_⟩⟩
  · simp only [List.length_append, List.length_take, List.length_drop, hl]
    rcases hend with rfl | he <;> omega
  · have : (cur.toList.take (o + k) ++ vs ++ cur.toList.drop (o + k + vs.length)).toArray.size = cur.size := by
      simp only [List.size_toArray, List.length_append, List.length_take, List.length_drop, hcs]; omega
    rw [this]; exact hf
  · simp only [List.size_toArray, List.length_append, List.length_take, List.length_drop, hcs]; omega
  · rw [← h7]
    apply List.ext_getElem?
    intro q
    simp only [List.getElem?_take, List.getElem?_drop, List.getElem?_append, List.length_append, List.length_take, List.length_drop, hcs]
    by_cases hq : q < m * sz
    · by_cases h1 : q < k
      · have a1 : o + q < min (o + k) cur.size + vs.length := by omega
        have a2 : o + q < min (o + k) cur.size := by omega
        have a3 : q < min k (min (n * sz) (cur.size - o)) + vs.length := by omega
        have a4 : q < min k (min (n * sz) (cur.size - o)) := by omega
        have a5 : q < n * sz := by omega
        have a6 : o + q < o + k := by omega
        simp only [hq, h1, a1, a2, a3, a4, a5, a6, if_true]
      · by_cases h2 : q < k + vs.length
        · have a1 : o + q < min (o + k) cur.size + vs.length := by omega
          have a2 : ¬ o + q < min (o + k) cur.size := by omega
          have a3 : q < min k (min (n * sz) (cur.size - o)) + vs.length := by omega
          have a4 : ¬ q < min k (min (n * sz) (cur.size - o)) := by omega
          have a5 : o + q - min (o + k) cur.size = q - min k (min (n * sz) (cur.size - o)) := by omega
          simp only [hq, a1, a2, a3, a4, a5, if_true, if_false]
        · have hmn : m = n := by omega
          subst hmn
          have a1 : ¬ o + q < min (o + k) cur.size + vs.length := by omega
          have a3 : ¬ q < min k (min (m * sz) (cur.size - o)) + vs.length := by omega
          have a5 : o + k + vs.length + (o + q - (min (o + k) cur.size + vs.length)) = o + q := by omega
          have a6 : k + vs.length + (q - (min k (min (m * sz) (cur.size - o)) + vs.length)) = q := by omega
          simp only [hq, a1, a3, a5, a6, if_true, if_false]
    · have a3 : ¬ q < min k (min (n * sz) (cur.size - o)) + vs.length := by omega
      have a6 : ¬ k + vs.length + (q - (min k (min (n * sz) (cur.size - o)) + vs.length)) < n * sz := by omega
      simp only [hq, a3, a6, if_false]
end

/-- append to a row of one's own -/
theorem run_append_own' {P : Program} (w : World) (t ty e : TypeId) (i : TypeInfo) (z : Value) (size bytes : Nat) (ht : P.underlying t = some (.slice e)) (hi : P.info? e = some i) (hz : i.zero = some z)
    (hsize : i.size = size) (hby : i.bytes = bytes) (hzs : z.cells.size = size) (hsz : 0 < size)
    (v : Value) (n : Nat) (xs : List Value) (hown : OwnRow w e size v n xs)
    (a : Addr) (m c : Nat) (news : List Value) (hl : news.length = m * size) (hnews : ∀ j u, news[j]? = some u → w.cell? (a.add j) = some u) (h1 : ∀ u ∈ news, u.oneCell' = true)
    (h63 : n + m ≤ maxLen) (hbytes : (n + m) * bytes ≤ 140737488355328) :
    ∃ v' w', (Builtin.append_ #[t, t] ty #[v, .slice (some a) m c]).run P w = .ok v' w' ∧ OwnRow w' e size v' (n + m) (xs ++ news) ∧ w.grownBy w' (blkOf v) ∧ (blkOf v' = blkOf v ∨ blkOf v' = some w.heap.size) := by
  rcases hown.2 with ⟨rfl, rfl⟩ | ⟨g, o, cap, cur, fz, rfl, hg, hf, hnc, hcm, hfit, htake⟩
  · have hx : xs = [] := List.eq_nil_of_length_eq_zero (by simpa using hown.1)
    subst hx
    obtain ⟨v', w', hr, ho, hgr, _, hb⟩ := run_append_own_at (P := P) w 0 t ty e i z size bytes ht hi hz hsize hby hzs hsz (.slice none 0 0) 0 [] (World.ownsRow_nil w 0 e size) a m c news hl hnews h1 h63 hbytes (Nat.zero_le _)
    have ho' := OwnRow.of ho
    have hbk : blkOf v' = v'.ownBlock := by
      rcases ho'.2 with ⟨rfl, _⟩ | ⟨g, o, cap, cur, fz, rfl, _⟩ <;> rfl
    exact ⟨v', w', hr, ho', hgr, by rw [hbk]; exact hb⟩
  · subst hsize
    subst hby
    have hsmall : n + m ≤ 9223372036854775807 := by simp only [maxLen] at h63; omega
    have hlen : (xs ++ news).length = (n + m) * i.size := by rw [List.length_append, hown.1, hl, Nat.add_mul]
    have hxl := hown.1
    by_cases hroom : n + m ≤ cap
    · have hnm : n * i.size + news.length = (n + m) * i.size := by rw [hl, Nat.add_mul]
      have hcap := Nat.mul_le_mul_right i.size hroom
      have hfirst := run_firstCells_some (P := P) w i.size m a m c news hl hnews
      have hst := run_storeCells_h P g (o + n * i.size) e fz news 0 cur w hg hf (by omega) h1
      simp only [Nat.add_zero] at hst
      have hput := OwnRow.put (w := w) (g := g) (o := o) (cap := cap) (cur := cur) (fz := fz) (e := e) (sz := i.size) (n := n) (us := xs) hown.1 hg hf hnc hcm hfit htake (k := n * i.size) (m := n + m) (vs := news) (by omega) hroom (by omega) (Nat.le_refl _) (.inr hnm)
      refine ⟨.slice (some ⟨g, o, none⟩) (n + m) cap, w.setRow g (cur.toList.take (o + n * i.size) ++ news ++ cur.toList.drop (o + n * i.size + news.length)).toArray, ?_, ?_,
        ⟨rfl, rfl, rfl, by simp, fun k _ hk => setRow_other w g k _ (fun e => hk (by simp [blkOf, e]))⟩, .inl rfl⟩
      · simp [Builtin.append_, run_underlying ht, sizeOf, typeInfo, hi, Builtin.lenOf, hroom, hfirst, Addr.add_lit, hst]
      · have e1 : xs.take (n * i.size) = xs := by rw [← hxl]; exact List.take_length
        have e2 : xs.drop (n * i.size + news.length) = [] := List.drop_eq_nil_of_le (by omega)
        rw [e1, e2, List.append_nil] at hput
        exact hput
    · have holds : ∀ j u, xs[j]? = some u → w.cell? ((⟨g, o, none⟩ : Addr).add j) = some u := fun j u hj => by
        rw [Addr.add_lit]; exact hown.cells rfl j u hj
      have hr := run_append_grow (P := P) w t ty e i z ht hi hz ⟨g, o, none⟩ n cap xs hown.1 holds a m c news hl hnews (by omega) (by omega) (growslice_fits (by omega) hbytes)
      refine ⟨_, _, hr, ⟨hlen, .inr ⟨w.heap.size, 0, _, _, (0, 0), rfl, heap_alloc_new w.drew _, .inl rfl, grownCap_ge w (n + m) cap e, grownCap_le_maxLen w (n + m) cap e h63, ?_, ?_⟩⟩, ⟨rfl, rfl, rfl, by simp, fun k hk _ => heap_alloc_old w.drew _ hk⟩, .inr rfl⟩
      · have hge := grownCap_ge w (n + m) cap e
        simp only [Array.size_append, List.size_toArray, size_zeroCells, hzs, hown.1, hl, ← Nat.add_mul, Nat.zero_add]
        apply Nat.mul_le_mul_right
        omega
      · simp only [Array.toList_append, List.append_assoc, List.drop_zero]
        rw [← List.append_assoc, ← hlen]
        exact List.take_left

/-- .. of anything that can be read -/
theorem run_append_rd' {P : Program} (w : World) (t ty e : TypeId) (z : Value) (size bytes : Nat) (ht : P.underlying t = some (.slice e))
    (hinfo : (P.info? e).map (fun i => (i.zero, i.size, i.bytes)) = some (some z, size, bytes)) (hzs : z.cells.size = size) (hsz : 0 < size) (hb0 : 0 < bytes)
    (v : Value) (n : Nat) (xs : List Value) (hown : OwnRow w e size v n xs)
    (A : Option Addr) (m c : Nat) (ys : List Value) (hr : Rd w A ys) (hl : ys.length = m * size) (h1 : ∀ u ∈ ys, u.oneCell' = true)
    (hbytes : (n + m) * bytes ≤ 140737488355328) :
    ∃ v' w', (Builtin.append_ #[t, t] ty #[v, .slice A m c]).run P w = .ok v' w' ∧ OwnRow w' e size v' (n + m) (xs ++ ys) ∧ w.grownBy w' (blkOf v) ∧ (blkOf v' = blkOf v ∨ blkOf v' = some w.heap.size) := by
  obtain ⟨i, hi, hzz⟩ := Option.map_eq_some_iff.1 hinfo
  simp only [Prod.mk.injEq] at hzz
  obtain ⟨hz0, hz1, hz2⟩ := hzz
  have hm' : n + m ≤ 140737488355328 := Nat.le_trans (Nat.le_mul_of_pos_right _ hb0) hbytes
  rcases A with _ | ad
  · have h0 : ys = [] := by
      rcases hr with h | ⟨b, off, h, _⟩
      · exact h
      · cases h
    subst h0
    have hm0 : m = 0 := by
      have : m * size = 0 := by simpa using hl.symm
      rcases Nat.mul_eq_zero.1 this with h | h
      · exact h
      · omega
    subst hm0
    refine ⟨v, w, ?_, by simpa using hown, World.grownBy.refl w _, .inl rfl⟩
    rcases hown.2 with ⟨rfl, hn⟩ | ⟨g, o, cap, cur, fz, rfl, _, _, hnc, _⟩
    · simp [Builtin.append_, run_underlying ht, sizeOf, typeInfo, hi, Builtin.lenOf, Builtin.firstCells]
    · simp [Builtin.append_, run_underlying ht, sizeOf, typeInfo, hi, Builtin.lenOf, Builtin.firstCells, hnc, storeCells]
  · exact run_append_own' (P := P) w t ty e i z size bytes ht hi hz0 hz1 hz2 hzs hsz v n xs hown ad m c ys hl (rd_add hr rfl) h1 (by simp only [maxLen]; omega) hbytes

/-- bytes may be shared with a text from now on: no cell turns -/
theorem run_mark {P : Program} {w : World} {e e2 sz n : Nat} {v : Value} {us : List Value} (h : OwnRow w e2 sz v n us) (hnn : v ≠ .slice none 0 0) {src : TypeId} (hs : P.underlying src = some (.slice e)) (he : P.underlying e = some (.int .u8)) :
    ∃ w', (convert src src v).run P w = .ok v w' ∧ OwnRow w' e2 sz v n us ∧ w.grownBy w' (blkOf v) := by
  rcases h.2 with ⟨h', _⟩ | ⟨g, o, cap, cur, fz, rfl, hg, hf, hnc, hcm, hfit, htake⟩
  · exact absurd h' hnn
  · have hlt : g < w.heap.size := (Array.getElem?_eq_some_iff.1 hg).1
    have hge : w.heap[g] = .cells cur e2 fz := (Array.getElem?_eq_some_iff.1 hg).2
    have hshape : w.shape? g = some (e2, cur.size) := by simp [World.shape?, hg]
    refine ⟨w.freeze ⟨g, cur.size, none⟩ 1, ?_, ⟨h.1, .inr ⟨g, o, cap, cur, (cur.size, cur.size + 1), rfl, ?_, .inr rfl, hnc, hcm, hfit, htake⟩⟩, ⟨?_, ?_, ?_, ?_, fun k hk hkne => ?_⟩⟩
    · simp [convert, run_underlying hs, run_underlying he, markStringish, hshape, freeze, shape, Sem.run]
    · simp only [World.freeze, Nat.one_ne_zero, if_false]
      rw [Array.getElem?_modify, if_pos rfl, hg]
      rcases hf with rfl | rfl <;> simp
    · simp [World.freeze]
    · simp [World.freeze]
    · simp [World.freeze]
    · simp [World.freeze]
    · simp only [World.freeze, Nat.one_ne_zero, if_false]
      rw [Array.getElem?_modify, if_neg (fun e => hkne (by simp [blkOf, e]))]

end Go.Proofs.YtkfmecmmbnehjaaGreat
/-
Maps of one's own from int to int: which block holds one, what is read out of it, and what it holds when it was written. No condition.
-/
namespace Go.Proofs.YtkfmecmmbnehjaaGreat
set_option linter.unusedSimpArgs false
set_option linter.unusedVariables false
open Go.Maps Go.WideElems

/-- an entry as it reads -/
def rgI (x : MapEntry) : Lit × DataW Unit := match x.key, x.val with
  | .int .i64 a, .int .i64 c => (.int .i64 a, .lit (.int .i64 c))
  | _, _ => (.int .i64 0, .lit (.int .i64 0))
def RawOwn (w : World) (g n : Nat) (f : Int → Int) : Prop :=
  ∃ es clock, w.heap[g]? = some (.map es clock) ∧ es.size ≤ n ∧ es.size ≤ maxLen ∧ MapKept.Stamped es clock ∧
    (∀ x ∈ es.toList, ∃ a c, x.key = .int .i64 a ∧ x.val = .int .i64 c ∧ (Lit.int .i64 a).wf = true ∧ (Lit.int .i64 c).wf = true) ∧
    ∀ a, (Lit.int .i64 a).wf = true → (DataW.map (H := Unit) ((es.toList.map rgI).foldr DataW.insert [])).atKey (.int .i64 a) (.lit (.int .i64 0)) = .lit (.int .i64 (f a))

section
variable {w w' : World} {g n : Nat} {f : Int → Int} {P : Program} {t k e : TypeId}
theorem RawOwn.made (w : World) : RawOwn (w.alloc (.map #[] 0)) w.heap.size 0 (fun _ => 0) :=
  ⟨#[], 0, (MapKept.heap_alloc w _).1, Nat.le_refl _, by simp, MapKept.stamped_empty 0, fun x hx => by simp at hx, fun a _ => rfl⟩
theorem RawOwn.same (h : RawOwn w g n f) (hs : w'.heap[g]? = w.heap[g]?) : RawOwn w' g n f := by
  obtain ⟨es, clock, h1, h2⟩ := h
  exact ⟨es, clock, hs.trans h1, h2⟩
theorem RawOwn.lt (h : RawOwn w g n f) : g < w.heap.size := by
  obtain ⟨es, clock, h1, _⟩ := h
  exact (Array.getElem?_eq_some_iff.1 h1).1
theorem rg_rgI (hk : P.underlying k = some (.int .i64)) (he : P.underlying e = some (.int .i64)) {x : MapEntry} {a c : Int} (h1 : x.key = .int .i64 a) (h2 : x.val = .int .i64 c) (ha : (Lit.int .i64 a).wf = true) (hc : (Lit.int .i64 c).wf = true) :
    rd P k (plainElem (H := Unit) P e) x = some (rgI x) := by
  unfold rd rgI
  rw [h1, h2, keyOf_int_mk hk ha, plainElem_int he hc]; rfl
theorem RawOwn.owns (h : RawOwn w g n f) (hk : P.underlying k = some (.int .i64)) (he : P.underlying e = some (.int .i64)) : ∃ D, w.ownsMap (H := Unit) P k (plainElem P e) g n D ∧ IsMap D ∧ ∀ a, (Lit.int .i64 a).wf = true → D.atKey (.int .i64 a) (.lit (.int .i64 0)) = .lit (.int .i64 (f a)) := by
  obtain ⟨es, clock, h1, h2, h3, h4, h5, h6⟩ := h
  have hrd : ∀ x ∈ es.toList, rd P k (plainElem (H := Unit) P e) x = some (rgI x) := fun x hx => by
    obtain ⟨a, c, e1, e2, e3, e4⟩ := h5 x hx
    exact rg_rgI hk he e1 e2 e3 e4
  have hm : es.toList.map (rg P k (plainElem (H := Unit) P e)) = es.toList.map rgI := List.map_congr_left fun x hx => rg_of (hrd x hx)
  refine ⟨_, ⟨es, clock, h1, ⟨h3, h4, fun x hx => ⟨_, hrd x hx⟩⟩, h2, rfl⟩, ⟨_, rfl⟩, ?_⟩
  rw [hm]
  exact h6
theorem RawOwn.look (h : RawOwn w g n f) (ht : P.underlying t = some (.map k e)) (hk : P.underlying k = some (.int .i64)) (he : P.underlying e = some (.int .i64)) (hz : (zeroValue e).run P w = .ok (.int .i64 0) w) {a : Int} (ha : (Lit.int .i64 a).wf = true) :
    (Instr.lookup t (.map (some g)) (.int .i64 a) false).run P w = .ok (.int .i64 (f a)) w := by
  obtain ⟨D, hD, _, hat⟩ := h.owns hk he
  obtain ⟨c, hrun, hc, _⟩ := hD.lookup_int (int_keyed hk) ht he hz (keyOf_int_mk hk ha)
  rw [hat a ha] at hc
  simp only [DataW.lit.injEq, Lit.int.injEq, true_and] at hc
  rw [hrun, hc]
theorem RawOwn.put (h : RawOwn w g n f) (ht : P.underlying t = some (.map k e)) (hk : P.underlying k = some (.int .i64)) (he : P.underlying e = some (.int .i64)) (hn : n < maxLen) {a v : Int} (ha : (Lit.int .i64 a).wf = true) (hv : (Lit.int .i64 v).wf = true) :
    ∃ w', (Instr.mapUpdate t (.map (some g)) (.int .i64 a) (.int .i64 v)).run P w = .ok () w' ∧ RawOwn w' g (n + 1) (fun x => if x = a then v else f x) ∧ w.grownBy w' (some g) := by
  obtain ⟨D, hD, hM, hat⟩ := h.owns hk he
  obtain ⟨w', hrun, hD', hg⟩ := hD.update (int_keyed hk) ht hn (keyOf_int_mk hk ha) (plainElem_int he hv)
  refine ⟨w', hrun, ?_, hg⟩
  obtain ⟨es, clock, h1, F, h2, h3⟩ := hD'
  have raw : ∀ x ∈ es.toList, ∃ a c, x.key = .int .i64 a ∧ x.val = .int .i64 c ∧ (Lit.int .i64 a).wf = true ∧ (Lit.int .i64 c).wf = true := fun x hx => by
    obtain ⟨y, hy⟩ := F.reads x hx
    obtain ⟨z, hz, _⟩ := rd_val hy
    obtain ⟨c, hc, _, hwc⟩ := plainElem_int_inv he hz
    have hkk := rd_key hy
    rw [keyOf_int hk] at hkk
    cases hkx : x.key <;> rw [hkx] at hkk <;> simp [mapKey, hk] at hkk
    rename_i q b
    obtain ⟨⟨rfl, hwb⟩, _⟩ := hkk
    exact ⟨b, c, rfl, hc, hwb, hwc⟩
  have hm : es.toList.map (rg P k (plainElem (H := Unit) P e)) = es.toList.map rgI := List.map_congr_left fun x hx => by
    obtain ⟨a, c, e1, e2, e3, e4⟩ := raw x hx
    exact rg_of (rg_rgI hk he e1 e2 e3 e4)
  refine ⟨es, clock, h1, h2, F.size, F.stamped, raw, fun b hb => ?_⟩
  rw [hm] at h3
  rw [← h3]
  show _ = DataW.lit (Lit.int IntKind.i64 (if b = a then v else f b))
  by_cases hba : b = a
  · subst hba
    rw [if_pos rfl]
    exact atKey_put_same hM (by simp [WideAt.IsKeyLit]) _ _
  · rw [if_neg hba, atKey_put_other (fun e => hba (by injection e))]
    exact hat b hb
end
end Go.Proofs.YtkfmecmmbnehjaaGreat
/-
What a plain value says of a value in memory, and what of it stays as memory grows. No condition.
-/
namespace Go.Proofs.YtkfmecmmbnehjaaGreat
set_option linter.unusedSimpArgs false
set_option linter.unusedVariables false

/-- one by one -/
def PW (R : Value → V → Prop) (us : List Value) (l : List V) : Prop :=
  us.length = l.length ∧ ∀ (i : Nat) (u : Value) (x : V), us[i]? = some u → l[i]? = some x → R u x

section
variable {R R' : Value → V → Prop}
theorem PW.nil : PW R [] [] := ⟨rfl, fun i u x h => by simp at h⟩
theorem PW.imp {us : List Value} {l : List V} (h : PW R us l) (hr : ∀ u x, R u x → R' u x) : PW R' us l := ⟨h.1, fun i u x hu hx => hr _ _ (h.2 i u x hu hx)⟩
theorem PW.impm {us : List Value} {l : List V} (h : PW R us l) (hr : ∀ u x, x ∈ l → R u x → R' u x) : PW R' us l := ⟨h.1, fun i u x hu hx => hr _ _ (List.mem_of_getElem? hx) (h.2 i u x hu hx)⟩
theorem PW.get {us : List Value} {l : List V} (h : PW R us l) {i : Nat} {x : V} (hx : l[i]? = some x) : ∃ u, us[i]? = some u ∧ R u x := by
  have hi : i < l.length := (List.getElem?_eq_some_iff.1 hx).1
  have hu : i < us.length := by rw [h.1]; exact hi
  exact ⟨us[i], List.getElem?_eq_getElem hu, h.2 i _ _ (List.getElem?_eq_getElem hu) hx⟩
theorem PW.getl {us : List Value} {l : List V} (h : PW R us l) {i : Nat} {u : Value} (hu : us[i]? = some u) : ∃ x, l[i]? = some x ∧ R u x := by
  have hi : i < us.length := (List.getElem?_eq_some_iff.1 hu).1
  have hx : i < l.length := by rw [← h.1]; exact hi
  exact ⟨l[i], List.getElem?_eq_getElem hx, h.2 i _ _ hu (List.getElem?_eq_getElem hx)⟩
theorem PW.append {us vs : List Value} {l m : List V} (h : PW R us l) (k : PW R vs m) : PW R (us ++ vs) (l ++ m) := by
  refine ⟨by simp [h.1, k.1], fun i u x hu hx => ?_⟩
  rw [List.getElem?_append] at hu hx
  rw [h.1] at hu
  split at hu
  · rename_i hi
    rw [if_pos hi] at hx
    exact h.2 i u x hu hx
  · rename_i hi
    rw [if_neg hi] at hx
    exact k.2 _ u x hu hx
theorem PW.drop {us : List Value} {l : List V} (h : PW R us l) (n : Nat) : PW R (us.drop n) (l.drop n) := by
  refine ⟨by simp [h.1], fun i u x hu hx => ?_⟩
  rw [List.getElem?_drop] at hu hx
  exact h.2 _ u x hu hx
theorem PW.take {us : List Value} {l : List V} (h : PW R us l) (n : Nat) : PW R (us.take n) (l.take n) := by
  refine ⟨by simp [h.1], fun i u x hu hx => ?_⟩
  rw [List.getElem?_take] at hu hx
  split at hu
  · rename_i hi
    rw [if_pos hi] at hx
    exact h.2 _ u x hu hx
  · cases hu
theorem PW.cons {u : Value} {x : V} {us : List Value} {l : List V} (h : R u x) (k : PW R us l) : PW R (u :: us) (x :: l) := by
  refine ⟨by simp [k.1], fun i v y hv hy => ?_⟩
  cases i with
  | zero => simp at hv hy; subst hv; subst hy; exact h
  | succ i => simp at hv hy; exact k.2 i v y hv hy
theorem PW.one {u : Value} {x : V} (h : R u x) : PW R [u] [x] := PW.cons h PW.nil
theorem PW.uncons {x : V} {us : List Value} {l : List V} (h : PW R us (x :: l)) : ∃ u us', us = u :: us' ∧ R u x ∧ PW R us' l := by
  cases us with
  | nil => simp [PW] at h
  | cons u us' =>
    refine ⟨u, us', rfl, h.2 0 u x rfl rfl, by simpa using h.1, fun i v y hv hy => h.2 (i + 1) v y (by simpa using hv) (by simpa using hy)⟩
theorem PW.nil_r {us : List Value} (h : PW R us []) : us = [] := List.eq_nil_of_length_eq_zero (by simpa using h.1)
theorem PW.consts (vs : List Value) (hr : ∀ v, R v (.s v)) : PW R vs (vs.map .s) := by
  refine ⟨by simp, fun i u x hu hx => ?_⟩
  rw [List.getElem?_map, hu] at hx
  simp at hx
  subst hx
  exact hr _
theorem PW.spl {us vs : List Value} {l m : List V} (h : PW R us l) (k : PW R vs m) (off : Nat) : PW R (us.take off ++ vs ++ us.drop (off + vs.length)) (spl l off m) := by
  unfold Proofs.YtkfmecmmbnehjaaGreat.spl
  rw [k.1]
  exact ((h.take off).append k).append (h.drop _)
theorem PW.set {us : List Value} {l : List V} (h : PW R us l) {i : Nat} {u : Value} {x : V} (k : R u x) : PW R (us.set i u) (l.set i x) := by
  refine ⟨by simp [h.1], fun j v y hv hy => ?_⟩
  rw [List.getElem?_set] at hv hy
  split at hv
  · rename_i hi
    rw [if_pos hi] at hy
    split at hv <;> simp at hv
    split at hy <;> simp at hy
    subst hv; subst hy; exact k
  · rename_i hi
    rw [if_neg hi] at hy
    exact h.2 j v y hv hy
end

/-- the cells behind a slice's address, in no block of one's own -/
def RdC (w : World) (own fresh : Nat → Prop) (k : Bool) (A : Option Addr) (us : List Value) : Prop :=
  us = [] ∨ ∃ g o, A = some ⟨g, o, none⟩ ∧ ¬ own g ∧ (k = true → fresh g) ∧ ∀ j u, us[j]? = some u → w.cell? ⟨g, o + j, none⟩ = some u

/-- values that hang on nothing that is still written -/
inductive RC (w : World) (own fresh : Nat → Prop) : Bool → Value → V → Prop
  | s (k : Bool) (v : Value) : RC w own fresh k v (.s v)
  | agg (k : Bool) (us : List Value) (l : List V) (hl : us.length = l.length) (he : ∀ (i : Nat) (u : Value) (x : V), us[i]? = some u → l[i]? = some x → RC w own fresh k u x) :
      RC w own fresh k (.agg us.toArray) (.agg l)
  | tup (k : Bool) (us : List Value) (l : List V) (hl : us.length = l.length) (he : ∀ (i : Nat) (u : Value) (x : V), us[i]? = some u → l[i]? = some x → RC w own fresh k u x) :
      RC w own fresh k (.tuple us.toArray) (.tup l)
  | lst (k fr : Bool) (sz : Nat) (l : List V) (A : Option Addr) (cp : Nat) (us : List Value) (hc : l.length ≤ cp) (hu : ∀ x ∈ l, x.cells.length = sz) (hl : us.length = (flat l).length)
      (he : ∀ (i : Nat) (u : Value) (x : V), us[i]? = some u → (flat l)[i]? = some x → RC w own fresh k u x) (h1 : ∀ u ∈ us, u.oneCell' = true) (hr : RdC w own fresh k A us) :
      RC w own fresh k (.slice A l.length cp) (.lst fr sz l)
  | ept (us : List Value) (l : List V) (g o : Nat) (hl : us.length = l.length) (he : ∀ (i : Nat) (u : Value) (x : V), us[i]? = some u → l[i]? = some x → RC w own fresh false u x)
      (hr : us = [] ∨ (¬ own g ∧ ∀ j u, us[j]? = some u → w.cell? ⟨g, o + j, none⟩ = some u)) : RC w own fresh false (.pointer (some ⟨g, o, none⟩)) (.ept l)
  | fn (k : Bool) (f : Nat) (us : List Value) (l : List V) (hl : us.length = l.length) (he : ∀ (i : Nat) (u : Value) (x : V), us[i]? = some u → l[i]? = some x → RC w own fresh k u x) :
      RC w own fresh k (.func (.func f) #[] us.toArray) (.fn f l)

section
variable {w w' : World} {own own' fresh fresh' : Nat → Prop} {k : Bool} {v : Value} {x : V}

theorem cell_same {w w' : World} {g o : Nat} (h : w'.heap[g]? = w.heap[g]?) : w'.cell? ⟨g, o, none⟩ = w.cell? ⟨g, o, none⟩ := by simp [World.cell?, h]

theorem RdC.mono {A : Option Addr} {us : List Value} (h : RdC w own fresh k A us) (hw : ∀ g, ¬ own g → g < w.heap.size → w'.heap[g]? = w.heap[g]? ∧ ¬ own' g) : RdC w' own' fresh k A us := by
  rcases h with h | ⟨g, o, hA, ho, hf, hc⟩
  · exact .inl h
  · cases us with
    | nil => exact .inl rfl
    | cons u us =>
      have hg : g < w.heap.size := World.block_lt_of_cell? w _ (hc 0 u rfl)
      obtain ⟨h1, h2⟩ := hw g ho hg
      exact .inr ⟨g, o, hA, h2, hf, fun j u hu => (cell_same h1).trans (hc j u hu)⟩

theorem RC.mono (h : RC w own fresh k v x) (hw : ∀ g, ¬ own g → g < w.heap.size → w'.heap[g]? = w.heap[g]? ∧ ¬ own' g) : RC w' own' fresh k v x := by
  induction h with
  | s k v => exact .s k v
  | agg k us l hl he ih => exact .agg k us l hl ih
  | tup k us l hl he ih => exact .tup k us l hl ih
  | lst k fr sz l A cp us hc hu hl he h1 hr ih => exact .lst k fr sz l A cp us hc hu hl ih h1 (hr.mono hw)
  | ept us l g o hl he hr ih =>
    refine .ept us l g o hl ih ?_
    rcases hr with hr | ⟨ho, hc⟩
    · exact .inl hr
    · cases us with
      | nil => exact .inl rfl
      | cons u us =>
        have hg : g < w.heap.size := World.block_lt_of_cell? w _ (hc 0 u rfl)
        obtain ⟨h1, h2⟩ := hw g ho hg
        exact .inr ⟨h2, fun j u hu => (cell_same h1).trans (hc j u hu)⟩
  | fn k f us l hl he ih => exact .fn k f us l hl ih

/-- what is fresh hangs on what is fresh alone -/
theorem RC.refresh (h : RC w own fresh k v x) (hk : k = true) (hf : ∀ g, ¬ own g → fresh g → ¬ own' g ∧ fresh' g) : RC w own' fresh' k v x := by
  induction h with
  | s k v => exact .s k v
  | agg k us l hl he ih => exact .agg k us l hl fun i u x hu hx => ih i u x hu hx hk
  | tup k us l hl he ih => exact .tup k us l hl fun i u x hu hx => ih i u x hu hx hk
  | lst k fr sz l A cp us hc hu hl he h1 hr ih =>
    subst hk
    refine .lst true fr sz l A cp us hc hu hl (fun i u x hu hx => ih i u x hu hx rfl) h1 ?_
    rcases hr with hr | ⟨g, o, hA, ho, hfr, hc'⟩
    · exact .inl hr
    · have := hf g ho (hfr rfl)
      exact .inr ⟨g, o, hA, this.1, fun _ => this.2, hc'⟩
  | ept => cases hk
  | fn k f us l hl he ih => exact .fn k f us l hl fun i u x hu hx => ih i u x hu hx hk

theorem RC.weak (h : RC w own fresh k v x) : RC w own fresh' false v x := by
  induction h with
  | s k v => exact .s _ v
  | agg k us l hl he ih => exact .agg _ us l hl ih
  | tup k us l hl he ih => exact .tup _ us l hl ih
  | lst k fr sz l A cp us hc hu hl he h1 hr ih =>
    refine .lst _ fr sz l A cp us hc hu hl ih h1 ?_
    rcases hr with hr | ⟨g, o, hA, ho, hfr, hc'⟩
    · exact .inl hr
    · exact .inr ⟨g, o, hA, ho, fun h => (by cases h), hc'⟩
  | ept us l g o hl he hr ih => exact .ept us l g o hl ih hr
  | fn k f us l hl he ih => exact .fn _ f us l hl ih

theorem cloL_get {k : Bool} {l : List V} {i : Nat} {x : V} (h : V.cloL k l = true) (hx : l[i]? = some x) : V.clo k x = true := by
  induction l generalizing i with
  | nil => simp at hx
  | cons y l ih =>
    simp only [V.cloL, Bool.and_eq_true] at h
    cases i with
    | zero => simp at hx; exact hx ▸ h.1
    | succ i => exact ih h.2 (by simpa using hx)

theorem unfrL_len (l : List V) : (V.unfrL l).length = l.length := by
  induction l with
  | nil => rfl
  | cons x l ih => simp [V.unfrL, ih]
theorem unfrL_get (l : List V) (i : Nat) : (V.unfrL l)[i]? = (l[i]?).map V.unfr := by
  induction l generalizing i with
  | nil => simp [V.unfrL]
  | cons x l ih => cases i <;> simp [V.unfrL, ih]
theorem unfrL_map (l : List V) : V.unfrL l = l.map V.unfr := by
  induction l with
  | nil => rfl
  | cons x l ih => simp [V.unfrL, ih]

theorem RC.unfr (h : RC w own fresh k v x) : RC w own fresh k v x.unfr := by
  induction h with
  | s k v => exact .s k v
  | agg k us l hl he ih =>
    refine .agg k us (V.unfrL l) (by rw [unfrL_len]; exact hl) fun i u x hu hx => ?_
    rw [unfrL_get] at hx
    obtain ⟨y, hy, rfl⟩ := Option.map_eq_some_iff.1 hx
    exact ih i u y hu hy
  | tup k us l hl he ih =>
    refine .tup k us (V.unfrL l) (by rw [unfrL_len]; exact hl) fun i u x hu hx => ?_
    rw [unfrL_get] at hx
    obtain ⟨y, hy, rfl⟩ := Option.map_eq_some_iff.1 hx
    exact ih i u y hu hy
  | lst k fr sz l A cp us hc hu hl he h1 hr ih => exact .lst k false sz l A cp us hc hu hl he h1 hr
  | ept us l g o hl he hr ih => exact .ept us l g o hl he hr
  | fn k f us l hl he ih =>
    refine .fn k f us (V.unfrL l) (by rw [unfrL_len]; exact hl) fun i u x hu hx => ?_
    rw [unfrL_get] at hx
    obtain ⟨y, hy, rfl⟩ := Option.map_eq_some_iff.1 hx
    exact ih i u y hu hy

theorem unfr_cells (x : V) : x.unfr.cells = V.unfrL x.cells := by
  cases x with
  | s v => cases v <;> simp [V.unfr, V.cells, V.unfrL, unfrL_map, Function.comp_def]
  | _ => simp [V.unfr, V.cells, V.unfrL]

theorem RC.cells (h : RC w own fresh k v x) : PW (RC w own fresh k) v.cells.toList x.cells := by
  cases h with
  | s _ => cases v <;> first | exact PW.one (.s k _) | exact PW.consts _ (fun v => .s k v)
  | agg _ us l hl he => exact ⟨hl, he⟩
  | tup _ us l hl he => exact PW.one (.tup k us l hl he)
  | lst _ fr sz l A cp us hc hu hl he h1 hr => exact PW.one (.lst k fr sz l A cp us hc hu hl he h1 hr)
  | ept us l g o hl he hr => exact PW.one (.ept us l g o hl he hr)
  | fn _ f us l hl he => exact PW.one (.fn k f us l hl he)
end

/-- how a function's own things stand in memory -/
structure Cx where
  w : World
  own : Nat → Prop
  fresh : Nat → Prop
  cur : Nat → Nat
  look : Nat → Nat → Option Value

inductive RV (c : Cx) : Value → V → Prop
  | s (v : Value) : RV c v (.s v)
  | lst (fr : Bool) (sz : Nat) (l : List V) (v : Value) (h : RC c.w c.own c.fresh fr v (.lst fr sz l)) : RV c v (.lst fr sz l)
  | ept (l : List V) (v : Value) (h : RC c.w c.own c.fresh false v (.ept l)) : RV c v (.ept l)
  | agg (us : List Value) (l : List V) (hl : us.length = l.length) (he : ∀ (i : Nat) (u : Value) (x : V), us[i]? = some u → l[i]? = some x → RV c u x) : RV c (.agg us.toArray) (.agg l)
  | tup (us : List Value) (l : List V) (hl : us.length = l.length) (he : ∀ (i : Nat) (u : Value) (x : V), us[i]? = some u → l[i]? = some x → RV c u x) : RV c (.tuple us.toArray) (.tup l)
  | fn (f : Nat) (us : List Value) (l : List V) (hl : us.length = l.length) (he : ∀ (i : Nat) (u : Value) (x : V), us[i]? = some u → l[i]? = some x → RV c u x) : RV c (.func (.func f) #[] us.toArray) (.fn f l)
  | sw (b ver len : Nat) (v : Value) (hs : ∃ A cp, v = .slice A len cp) (hv : ver ≤ c.cur b) (h : ∀ v0, c.look b ver = some v0 → v = v0) : RV c v (.sw b ver len)
  | sp (b ver sz off len : Nat) (v : Value) (hs : ∃ A cp, v = .slice A len cp ∧ len ≤ cp) (hv : ver ≤ c.cur b) (h : ∀ v0, c.look b ver = some v0 → PartOf sz off v0 v) : RV c v (.sp b ver sz off len)
  | ptr (b ver off : Nat) (v : Value) (hs : ∃ A, v = .pointer (some A)) (hv : ver ≤ c.cur b)
      (h : ∀ v0, c.look b ver = some v0 → ∃ g o, v0 = .pointer (some ⟨g, o, none⟩) ∧ v = .pointer (some ⟨g, o + off, none⟩)) : RV c v (.ptr b ver off)
  | rp (b ver sz i off : Nat) (v : Value) (hs : ∃ A, v = .pointer (some A)) (hv : ver ≤ c.cur b)
      (h : ∀ v0, c.look b ver = some v0 → ∃ g o n cap, v0 = .slice (some ⟨g, o, none⟩) n cap ∧ v = .pointer (some ⟨g, o + (i * sz + off), none⟩)) : RV c v (.rp b ver sz i off)
  | bp (b ver off len : Nat) (v : Value) (hs : ∃ A cp, v = .slice A len cp ∧ len ≤ cp) (hv : ver ≤ c.cur b)
      (h : ∀ v0, c.look b ver = some v0 → len = 0 ∨ ∃ g o cp, v0 = .pointer (some ⟨g, o, none⟩) ∧ v = .slice (some ⟨g, o + off, none⟩) len cp) : RV c v (.bp b ver off len)
  | mp (b ver : Nat) (v : Value) (hs : ∃ g, v = .map (some g)) (hv : ver ≤ c.cur b) (h : ∀ v0, c.look b ver = some v0 → v = v0) : RV c v (.mp b ver)

structure Cx.le (c c' : Cx) : Prop where
  cells : ∀ g, ¬ c.own g → g < c.w.heap.size → c'.w.heap[g]? = c.w.heap[g]? ∧ ¬ c'.own g
  fresh : c'.fresh = c.fresh
  cur : ∀ b, c.cur b ≤ c'.cur b
  look : ∀ b ver v0, c'.look b ver = some v0 → ver ≤ c.cur b → c.look b ver = some v0

theorem cells_one {v : Value} (h : v.oneCell' = true) : v.cells.toList = [v] := by cases v <;> simp_all [Value.cells, Value.oneCell']

section
variable {c c' : Cx} {v : Value} {x : V}
theorem RV.mono (h : RV c v x) (hc : c.le c') : RV c' v x := by
  induction h with
  | s v => exact .s v
  | lst fr sz l v h => exact .lst fr sz l v (by rw [hc.fresh]; exact h.mono hc.cells)
  | ept l v h => exact .ept l v (by rw [hc.fresh]; exact h.mono hc.cells)
  | agg us l hl he ih => exact .agg us l hl ih
  | tup us l hl he ih => exact .tup us l hl ih
  | fn f us l hl he ih => exact .fn f us l hl ih
  | sw b ver len v h1 hv h => exact .sw b ver len v h1 (Nat.le_trans hv (hc.cur b)) fun v0 h0 => h v0 (hc.look b ver v0 h0 hv)
  | sp b ver sz off len v h1 hv h => exact .sp b ver sz off len v h1 (Nat.le_trans hv (hc.cur b)) fun v0 h0 => h v0 (hc.look b ver v0 h0 hv)
  | ptr b ver off v h1 hv h => exact .ptr b ver off v h1 (Nat.le_trans hv (hc.cur b)) fun v0 h0 => h v0 (hc.look b ver v0 h0 hv)
  | rp b ver sz i off v h1 hv h => exact .rp b ver sz i off v h1 (Nat.le_trans hv (hc.cur b)) fun v0 h0 => h v0 (hc.look b ver v0 h0 hv)
  | bp b ver off len v h1 hv h => exact .bp b ver off len v h1 (Nat.le_trans hv (hc.cur b)) fun v0 h0 => h v0 (hc.look b ver v0 h0 hv)
  | mp b ver v h1 hv h => exact .mp b ver v h1 (Nat.le_trans hv (hc.cur b)) fun v0 h0 => h v0 (hc.look b ver v0 h0 hv)

theorem RV.s_inv {a : Value} (h : RV c v (.s a)) : v = a := by
  cases h; rfl
theorem RV.agg_inv {l : List V} (h : RV c v (.agg l)) : ∃ us : List Value, v = .agg us.toArray ∧ PW (RV c) us l := by
  cases h with
  | agg us l hl he => exact ⟨us, rfl, hl, he⟩
theorem RV.tup_inv {l : List V} (h : RV c v (.tup l)) : ∃ us : List Value, v = .tuple us.toArray ∧ PW (RV c) us l := by
  cases h with
  | tup us l hl he => exact ⟨us, rfl, hl, he⟩
theorem RV.fn_inv {f : Nat} {l : List V} (h : RV c v (.fn f l)) : ∃ us : List Value, v = .func (.func f) #[] us.toArray ∧ PW (RV c) us l := by
  cases h with
  | fn f us l hl he => exact ⟨us, rfl, hl, he⟩
theorem RV.lst_inv {fr : Bool} {sz : Nat} {l : List V} (h : RV c v (.lst fr sz l)) : RC c.w c.own c.fresh fr v (.lst fr sz l) := by
  cases h; assumption
theorem RV.ept_inv {l : List V} (h : RV c v (.ept l)) : RC c.w c.own c.fresh false v (.ept l) := by
  cases h; assumption

/-- what is closed -/
theorem RV.clo (h : RV c v x) {k : Bool} (hx : x.clo k = true) : RC c.w c.own c.fresh k v x := by
  induction h with
  | s v => exact .s k v
  | lst fr sz l v h =>
    cases k with
    | false => exact h.weak
    | true =>
      have : fr = true := by simpa [V.clo] using hx
      subst this; exact h
  | ept l v h =>
    have : k = false := by simpa [V.clo] using hx
    subst this; exact h
  | agg us l hl he ih => exact .agg k us l hl fun i u x hu hx' => ih i u x hu hx' (cloL_get (by simpa [V.clo] using hx) hx')
  | tup us l hl he ih => exact .tup k us l hl fun i u x hu hx' => ih i u x hu hx' (cloL_get (by simpa [V.clo] using hx) hx')
  | fn f us l hl he ih => exact .fn k f us l hl fun i u x hu hx' => ih i u x hu hx' (cloL_get (by simpa [V.clo] using hx) hx')
  | sw => simp [V.clo] at hx
  | sp => simp [V.clo] at hx
  | ptr => simp [V.clo] at hx
  | rp => simp [V.clo] at hx
  | bp => simp [V.clo] at hx
  | mp => simp [V.clo] at hx
theorem RC.rvt {k : Bool} (h : RC c.w c.own c.fresh k v x) (hk : k = true) : RV c v x := by
  generalize hw : c.w = w at h
  generalize ho : c.own = own at h
  generalize hf : c.fresh = fresh at h
  induction h with
  | s k v => exact .s v
  | agg k us l hl he ih => exact .agg us l hl fun i u x hu hx => ih i u x hu hx hk
  | tup k us l hl he ih => exact .tup us l hl fun i u x hu hx => ih i u x hu hx hk
  | fn k f us l hl he ih => exact .fn f us l hl fun i u x hu hx => ih i u x hu hx hk
  | lst k fr sz l A cp us hc hu hl he h1 hr ih =>
    subst hk
    refine .lst fr sz l _ ?_
    rw [hw, ho, hf]
    cases fr with
    | true => exact .lst true true sz l A cp us hc hu hl he h1 hr
    | false => exact (RC.lst true false sz l A cp us hc hu hl he h1 hr).weak
  | ept => cases hk
theorem RC.rvu {k : Bool} (h : RC c.w c.own c.fresh k v x) : RV c v x.unfr := by
  generalize hw : c.w = w at h
  generalize ho : c.own = own at h
  generalize hf : c.fresh = fresh at h
  induction h with
  | s k v => exact .s v
  | agg k us l hl he ih =>
    refine .agg us (V.unfrL l) (by rw [unfrL_len]; exact hl) fun i u x hu hx => ?_
    rw [unfrL_get] at hx
    obtain ⟨y, hy, rfl⟩ := Option.map_eq_some_iff.1 hx
    exact ih i u y hu hy
  | tup k us l hl he ih =>
    refine .tup us (V.unfrL l) (by rw [unfrL_len]; exact hl) fun i u x hu hx => ?_
    rw [unfrL_get] at hx
    obtain ⟨y, hy, rfl⟩ := Option.map_eq_some_iff.1 hx
    exact ih i u y hu hy
  | fn k f us l hl he ih =>
    refine .fn f us (V.unfrL l) (by rw [unfrL_len]; exact hl) fun i u x hu hx => ?_
    rw [unfrL_get] at hx
    obtain ⟨y, hy, rfl⟩ := Option.map_eq_some_iff.1 hx
    exact ih i u y hu hy
  | lst k fr sz l A cp us hc hu hl he h1 hr ih =>
    refine .lst false sz l _ ?_
    rw [hw, ho, hf]
    exact (RC.lst k false sz l A cp us hc hu hl he h1 hr).weak
  | ept us l g o hl he hr ih =>
    refine .ept l _ ?_
    rw [hw, ho, hf]
    exact .ept us l g o hl he hr
theorem RV.sw_inv {b ver len : Nat} (h : RV c v (.sw b ver len)) : (∃ A cp, v = .slice A len cp) ∧ ver ≤ c.cur b ∧ ∀ v0, c.look b ver = some v0 → v = v0 := by
  cases h with
  | sw _ _ _ _ h1 hv h => exact ⟨h1, hv, h⟩
theorem RV.sp_inv {b ver sz off len : Nat} (h : RV c v (.sp b ver sz off len)) : (∃ A cp, v = .slice A len cp ∧ len ≤ cp) ∧ ver ≤ c.cur b ∧ ∀ v0, c.look b ver = some v0 → PartOf sz off v0 v := by
  cases h with
  | sp _ _ _ _ _ _ h1 hv h => exact ⟨h1, hv, h⟩
theorem RV.ptr_inv {b ver off : Nat} (h : RV c v (.ptr b ver off)) : (∃ A, v = .pointer (some A)) ∧ ver ≤ c.cur b ∧ ∀ v0, c.look b ver = some v0 → ∃ g o, v0 = .pointer (some ⟨g, o, none⟩) ∧ v = .pointer (some ⟨g, o + off, none⟩) := by
  cases h with
  | ptr _ _ _ _ h1 hv h => exact ⟨h1, hv, h⟩
theorem RV.rp_inv {b ver sz i off : Nat} (h : RV c v (.rp b ver sz i off)) : (∃ A, v = .pointer (some A)) ∧ ver ≤ c.cur b ∧ ∀ v0, c.look b ver = some v0 → ∃ g o n cap, v0 = .slice (some ⟨g, o, none⟩) n cap ∧ v = .pointer (some ⟨g, o + (i * sz + off), none⟩) := by
  cases h with
  | rp _ _ _ _ _ _ h1 hv h => exact ⟨h1, hv, h⟩
theorem RV.bp_inv {b ver off len : Nat} (h : RV c v (.bp b ver off len)) : (∃ A cp, v = .slice A len cp ∧ len ≤ cp) ∧ ver ≤ c.cur b ∧ ∀ v0, c.look b ver = some v0 → len = 0 ∨ ∃ g o cp, v0 = .pointer (some ⟨g, o, none⟩) ∧ v = .slice (some ⟨g, o + off, none⟩) len cp := by
  cases h with
  | bp _ _ _ _ _ h1 hv h => exact ⟨h1, hv, h⟩
theorem RV.mp_inv {b ver : Nat} (h : RV c v (.mp b ver)) : (∃ g, v = .map (some g)) ∧ ver ≤ c.cur b ∧ ∀ v0, c.look b ver = some v0 → v = v0 := by
  cases h with
  | mp _ _ _ h1 hv h => exact ⟨h1, hv, h⟩
theorem RV.cells (h : RV c v x) : PW (RV c) v.cells.toList x.cells := by
  cases h with
  | s v => cases v <;> first | exact PW.one (.s _) | exact PW.consts _ (fun v => .s v)
  | lst fr sz l v h => rw [cells_one (by cases h; rfl)]; exact PW.one (.lst fr sz l v h)
  | ept l v h => rw [cells_one (by cases h; rfl)]; exact PW.one (.ept l v h)
  | agg us l hl he => exact ⟨hl, he⟩
  | tup us l hl he => exact PW.one (.tup us l hl he)
  | fn f us l hl he => exact PW.one (.fn f us l hl he)
  | sw b ver len v h1 hv h => rw [cells_one (by obtain ⟨A, cp, rfl⟩ := h1; rfl)]; exact PW.one (.sw b ver len v h1 hv h)
  | sp b ver sz off len v h1 hv h => rw [cells_one (by obtain ⟨A, cp, rfl, _⟩ := h1; rfl)]; exact PW.one (.sp b ver sz off len v h1 hv h)
  | ptr b ver off v h1 hv h => rw [cells_one (by obtain ⟨A, rfl⟩ := h1; rfl)]; exact PW.one (.ptr b ver off v h1 hv h)
  | rp b ver sz i off v h1 hv h => rw [cells_one (by obtain ⟨A, rfl⟩ := h1; rfl)]; exact PW.one (.rp b ver sz i off v h1 hv h)
  | bp b ver off len v h1 hv h => rw [cells_one (by obtain ⟨A, cp, rfl, _⟩ := h1; rfl)]; exact PW.one (.bp b ver off len v h1 hv h)
  | mp b ver v h1 hv h => rw [cells_one (by obtain ⟨A, rfl⟩ := h1; rfl)]; exact PW.one (.mp b ver v h1 hv h)

theorem RV.one (h : RV c v x) (hx : x.one = true) : v.oneCell' = true := by
  cases h with
  | s => simpa [V.one] using hx
  | lst fr sz l v h => cases h; rfl
  | ept l v h => cases h; rfl
  | agg => simp [V.one] at hx
  | tup => simp [V.one] at hx
  | fn => rfl
  | sw b ver len v h1 hv h => obtain ⟨A, cp, rfl⟩ := h1; rfl
  | sp b ver sz off len v h1 hv h => obtain ⟨A, cp, rfl, _⟩ := h1; rfl
  | ptr b ver off v h1 hv h => obtain ⟨A, rfl⟩ := h1; rfl
  | rp b ver sz i off v h1 hv h => obtain ⟨A, rfl⟩ := h1; rfl
  | bp b ver off len v h1 hv h => obtain ⟨A, cp, rfl, _⟩ := h1; rfl
  | mp b ver v h1 hv h => obtain ⟨A, rfl⟩ := h1; rfl
end

end Go.Proofs.YtkfmecmmbnehjaaGreat
/-
How a state of the plain reckoning stands in memory, and how both go on together. No condition.
-/
namespace Go.Proofs.YtkfmecmmbnehjaaGreat
set_option linter.unusedSimpArgs false
set_option linter.unusedVariables false

def Cont.live : Cont → Bool
  | .gone => false
  | _ => true

/-- what was there and is the function's own: its blocks, and which values stand at the places of its arguments -/
structure Ow where
  i : Nat → Prop
  pin : Nat → Option Value

def cx (w0 : World) (I : Ow) (st : Nat → Blk) (w : World) (η : Nat → Value) : Cx where
  w := w
  own := fun g => ∃ b, (st b).c.live = true ∧ blkOf (η b) = some g
  fresh := fun g => w0.heap.size ≤ g ∨ I.i g
  cur := fun b => (st b).ver
  look := fun b ver => if (st b).ver = ver ∧ (st b).c.live = true then some (η b) else none

def RowR (w : World) (own fresh : Nat → Prop) (v0 : Value) (sz e : Nat) (l : List V) : Prop :=
  ∃ us, OwnRow w e sz v0 l.length us ∧ (∀ x ∈ l, x.cells.length = sz) ∧ PW (RC w own fresh true) us (flat l) ∧ ∀ u ∈ us, u.oneCell' = true

/-- .. of cells that may be one's own, too -/
def RowV (c : Cx) (v0 : Value) (sz e : Nat) (l : List V) : Prop :=
  ∃ us, OwnRow c.w e sz v0 l.length us ∧ (∀ x ∈ l, x.cells.length = sz) ∧ PW (RV c) us (flat l) ∧ ∀ u ∈ us, u.oneCell' = true

def BR (c : Cx) (v0 : Value) : Cont → Prop
  | .gone => True
  | .box cells => ∃ g o cur e, v0 = .pointer (some ⟨g, o, none⟩) ∧ c.w.heap[g]? = some (.cells cur e (0, 0)) ∧ PW (RV c) ((cur.toList.drop o).take cells.length) cells
  | .row sz e l => RowR c.w c.own c.fresh v0 sz e l
  | .rowV sz e l => RowV c v0 sz e l
  | .mpc n f => ∃ g, v0 = .map (some g) ∧ RawOwn c.w g n f

structure Fr (w0 : World) (I : Nat → Prop) (w : World) : Prop where
  os : w.os = w0.os
  tape : w.tape = w0.tape
  output : w.output = w0.output
  size : w0.heap.size ≤ w.heap.size
  block : ∀ k, k < w0.heap.size → ¬ I k → w.heap[k]? = w0.heap[k]?

structure Rel (w0 : World) (I : Ow) (n : Nat) (s : S) (a : Act) (w : World) (η : Nat → Value) : Prop where
  size : a.tmps.size = n
  defers : a.defers = []
  env : ∀ t, RV (cx w0 I s.st w η) (a.tmps.getD t undef) (s.env t)
  blk : ∀ b, (s.st b).c.live = true → BR (cx w0 I s.st w η) (η b) (s.st b).c
  sep : ∀ b b' g, (s.st b).c.live = true → (s.st b').c.live = true → blkOf (η b) = some g → blkOf (η b') = some g → b = b'
  old : ∀ b g, (s.st b).c.live = true → blkOf (η b) = some g → w0.heap.size ≤ g ∨ I.i g
  fr : Fr w0 I.i w
  pin : ∀ b v, I.pin b = some v → 1 ≤ (s.st b).ver ∧ ((s.st b).ver = 1 → (s.st b).c.live = true → η b = v)

section
variable {w0 w w' : World} {I : Ow} {n : Nat} {s : S} {env : Nat → V} {st st' : Nat → Blk} {a : Act} {η η' : Nat → Value}

theorem RowR.rowV {c : Cx} {v0 : Value} {sz e : Nat} {l : List V} (h : RowR c.w c.own c.fresh v0 sz e l) : RowV c v0 sz e l := by
  obtain ⟨us, h1, h2, h3, h4⟩ := h
  exact ⟨us, h1, h2, h3.imp fun u x hx => hx.rvt rfl, h4⟩

theorem BR.lt {c : Cx} {v : Value} {k : Cont} (h : BR c v k) (hl : k.live = true) {g : Nat} (hg : blkOf v = some g) : g < c.w.heap.size := by
  cases k with
  | gone => cases hl
  | box cells =>
    obtain ⟨g1, o, cur, e, hv, hg1, hp⟩ := h
    rw [hv] at hg; simp [blkOf] at hg; subst hg
    exact (Array.getElem?_eq_some_iff.1 hg1).1
  | row sz e l =>
    obtain ⟨us, ho, _⟩ := h
    exact ho.lt hg
  | rowV sz e l =>
    obtain ⟨us, ho, _⟩ := h
    exact ho.lt hg
  | mpc n f =>
    obtain ⟨g1, rfl, ho⟩ := h
    simp [blkOf] at hg
    subst hg
    exact ho.lt

/-- memory and blocks go on: U: the blocks that turn -/
theorem Rel.step (h : Rel w0 I n ⟨env, st⟩ a w η) (U : Nat → Prop)
    (hos : w'.os = w.os) (htp : w'.tape = w.tape) (hout : w'.output = w.output) (hsz : w.heap.size ≤ w'.heap.size)
    (hst : ∀ b, ¬ U b → st' b = st b ∧ η' b = η b)
    (hver : ∀ b, U b → (st b).ver ≤ (st' b).ver)
    (hliv : ∀ b, U b → (st' b).c.live = true → (st b).ver < (st' b).ver ∨ (η' b = η b ∧ (st b).c.live = true))
    (hheap : ∀ g, g < w.heap.size → w'.heap[g]? ≠ w.heap[g]? → ∃ b, U b ∧ (st b).c.live = true ∧ blkOf (η b) = some g)
    (hnew : ∀ b g, U b → (st' b).c.live = true → blkOf (η' b) = some g → w.heap.size ≤ g ∨ ∃ b0, U b0 ∧ (st b0).c.live = true ∧ blkOf (η b0) = some g)
    (hsep : ∀ b b' g, U b → U b' → (st' b).c.live = true → (st' b').c.live = true → blkOf (η' b) = some g → blkOf (η' b') = some g → b = b')
    (hBR : (cx w0 I st w η).le (cx w0 I st' w' η') → ∀ b, U b → (st' b).c.live = true → BR (cx w0 I st' w' η') (η' b) (st' b).c) :
    Rel w0 I n ⟨env, st'⟩ a w' η' ∧ (cx w0 I st w η).le (cx w0 I st' w' η') := by
  have hle : (cx w0 I st w η).le (cx w0 I st' w' η') := by
    refine ⟨fun g hg hlt => ⟨?_, ?_⟩, rfl, fun b => ?_, fun b ver v0 h0 hv => ?_⟩
    · refine Classical.byContradiction fun hne => ?_
      obtain ⟨b, _, hb, hg'⟩ := hheap g hlt hne
      exact hg ⟨b, hb, hg'⟩
    · rintro ⟨b, hb, hg'⟩
      by_cases hU : U b
      · rcases hnew b g hU hb hg' with h1 | ⟨b0, _, h1, h2⟩
        · simp only [cx] at hlt; omega
        · exact hg ⟨b0, h1, h2⟩
      · obtain ⟨h1, h2⟩ := hst b hU
        rw [h1] at hb; rw [h2] at hg'
        exact hg ⟨b, hb, hg'⟩
    · by_cases hU : U b
      · exact hver b hU
      · simp only [cx]; rw [(hst b hU).1]; exact Nat.le_refl _
    · simp only [cx] at h0 hv ⊢
      by_cases hU : U b
      · split at h0
        · rename_i hc
          obtain ⟨rfl, hlv⟩ := hc
          simp only [Option.some.injEq] at h0
          subst h0
          rcases hliv b hU hlv with h1 | ⟨h1, h2⟩
          · omega
          · have := hver b hU
            rw [if_pos ⟨by omega, h2⟩, h1]
        · cases h0
      · rw [(hst b hU).1, (hst b hU).2] at h0; exact h0
  refine ⟨⟨h.size, h.defers, fun t => (h.env t).mono hle, fun b hb => ?_, fun b b' g hb hb' hg hg' => ?_, fun b g hb hg => ?_, ⟨hos.trans h.fr.os, htp.trans h.fr.tape, hout.trans h.fr.output, Nat.le_trans h.fr.size hsz, fun k hk hI => ?_⟩, fun b v hbv => ?_⟩, hle⟩
  · by_cases hU : U b
    · exact hBR hle b hU hb
    · obtain ⟨h1, h2⟩ := hst b hU
      simp only at hb ⊢
      rw [h1] at hb ⊢
      rw [h2]
      have hsame : ∀ g, blkOf (η b) = some g → g < w.heap.size → w'.heap[g]? = w.heap[g]? := fun g hg hlt => by
        refine Classical.byContradiction fun hne => ?_
        obtain ⟨b1, hb1, hl1, hg1⟩ := hheap g hlt hne
        exact hU (h.sep b1 b g hl1 hb hg1 hg ▸ hb1)
      have hB := h.blk b hb
      simp only at hB
      cases hc : (st b).c with
      | gone => simp [BR]
      | box cells =>
        rw [hc] at hB
        obtain ⟨g, o, cur, e, hv, hg, hp⟩ := hB
        refine ⟨g, o, cur, e, hv, (hsame g (by rw [hv]; rfl) (Array.getElem?_eq_some_iff.1 hg).1).trans hg, hp.imp fun u x hx => hx.mono hle⟩
      | row sz e l =>
        rw [hc] at hB
        obtain ⟨us, ho, hu, hp, h1⟩ := hB
        refine ⟨us, ho.same fun g hg => hsame g hg (ho.lt hg), hu, hp.imp fun u x hx => by have := hx.mono hle.cells; rw [← hle.fresh] at this; exact this, h1⟩
      | rowV sz e l =>
        rw [hc] at hB
        obtain ⟨us, ho, hu, hp, h1⟩ := hB
        exact ⟨us, ho.same fun g hg => hsame g hg (ho.lt hg), hu, hp.imp fun u x hx => hx.mono hle, h1⟩
      | mpc n f =>
        rw [hc] at hB
        obtain ⟨g, hv, ho⟩ := hB
        exact ⟨g, hv, ho.same (hsame g (by rw [hv]; rfl) ho.lt)⟩
  · simp only at hb hb'
    by_cases hU : U b
    · by_cases hU' : U b'
      · exact hsep b b' g hU hU' hb hb' hg hg'
      · exfalso
        obtain ⟨h1, h2⟩ := hst b' hU'
        rw [h1] at hb'; rw [h2] at hg'
        rcases hnew b g hU hb hg with h3 | ⟨b0, hU0, h3, h4⟩
        · have hB := h.blk b' hb'
          simp only at hB
          have hlt : g < w.heap.size := hB.lt hb' hg'
          omega
        · exact hU' (h.sep b0 b' g h3 hb' h4 hg' ▸ hU0)
    · obtain ⟨h1, h2⟩ := hst b hU
      rw [h1] at hb; rw [h2] at hg
      by_cases hU' : U b'
      · exfalso
        rcases hnew b' g hU' hb' hg' with h3 | ⟨b0, hU0, h3, h4⟩
        · have hB := h.blk b hb
          simp only at hB
          have hlt : g < w.heap.size := hB.lt hb hg
          omega
        · exact hU (h.sep b0 b g h3 hb h4 hg ▸ hU0)
      · obtain ⟨h3, h4⟩ := hst b' hU'
        rw [h3] at hb'; rw [h4] at hg'
        exact h.sep b b' g hb hb' hg hg'
  · simp only at hb
    by_cases hU : U b
    · rcases hnew b g hU hb hg with h1 | ⟨b0, _, h1, h2⟩
      · exact .inl (Nat.le_trans h.fr.size h1)
      · exact h.old b0 g h1 h2
    · obtain ⟨h1, h2⟩ := hst b hU
      rw [h1] at hb; rw [h2] at hg
      exact h.old b g hb hg
  · refine Eq.trans (Classical.byContradiction fun hne => ?_) (h.fr.block k hk hI)
    obtain ⟨b, _, hb, hg⟩ := hheap k (Nat.lt_of_lt_of_le hk h.fr.size) hne
    rcases h.old b k hb hg with h1 | h1
    · omega
    · exact hI h1
  · obtain ⟨h1, h2⟩ := h.pin b v hbv
    simp only at h1 h2 ⊢
    by_cases hU : U b
    · have h3 := hver b hU
      refine ⟨by omega, fun h4 h5 => ?_⟩
      rcases hliv b hU h5 with h6 | ⟨h6, h7⟩
      · omega
      · rw [h6]; exact h2 (by omega) h7
    · obtain ⟨h3, h4⟩ := hst b hU
      rw [h3, h4]
      exact ⟨h1, h2⟩

/-- a place of the frame is given a value -/
theorem Rel.put (h : Rel w0 I n ⟨env, st⟩ a w η) {d : Nat} {v : Value} {x : V} (hv : RV (cx w0 I st w η) v x) (hd : d < n) :
    Rel w0 I n ⟨upd env d x, st⟩ (a.put (some d) v) w η := by
  refine ⟨by simpa [Act.put] using h.size, h.defers, fun t => ?_, h.blk, h.sep, h.old, h.fr, h.pin⟩
  have hs := h.size
  simp only [Act.put, upd]
  by_cases ht : t = d
  · subst ht
    rw [if_pos rfl]
    have : (a.tmps.setIfInBounds t v).getD t undef = v := by
      simp [Array.getD_eq_getD_getElem?, hs, hd]
    rw [this]; exact hv
  · rw [if_neg ht]
    have : (a.tmps.setIfInBounds d v).getD t undef = a.tmps.getD t undef := by
      simp [Array.getD_eq_getD_getElem?, Array.getElem?_setIfInBounds_ne (Ne.symm ht)]
    rw [this]; exact h.env t

theorem Rel.eval (h : Rel w0 I n s a w η) (x : Operand) : RV (cx w0 I s.st w η) (a.eval x) (ev s.env x) := by
  cases x with
  | tmp t => exact h.env t
  | const v => exact .s _
  | global g => exact .s _
  | func f => exact .fn f [] [] rfl fun i u x hu => by simp at hu

theorem look_row {b ver sz e : Nat} {l : List V} (h : Rel w0 I n s a w η) (hr : rowAt s.st b ver = some (sz, e, l)) :
    (s.st b).ver = ver ∧ (s.st b).c = .row sz e l ∧ (cx w0 I s.st w η).look b ver = some (η b) ∧ RowR w (cx w0 I s.st w η).own (cx w0 I s.st w η).fresh (η b) sz e l := by
  unfold rowAt at hr
  split at hr
  · rename_i hv
    split at hr
    · rename_i sz' e' l' hc
      simp only [Option.some.injEq, Prod.mk.injEq] at hr
      obtain ⟨rfl, rfl, rfl⟩ := hr
      have hl : (s.st b).c.live = true := by rw [hc]; rfl
      have := h.blk b hl
      rw [hc] at this
      exact ⟨hv, hc, by simp [cx, hv, hl], this⟩
    · cases hr
  · cases hr
theorem look_any {b ver sz e : Nat} {l : List V} (h : Rel w0 I n s a w η) (hr : rowAny s.st b ver = some (sz, e, l)) :
    (s.st b).ver = ver ∧ (s.st b).c.live = true ∧ (cx w0 I s.st w η).look b ver = some (η b) ∧ RowV (cx w0 I s.st w η) (η b) sz e l := by
  unfold rowAny at hr
  split at hr
  · rename_i hv
    split at hr
    · rename_i sz' e' l' hc
      simp only [Option.some.injEq, Prod.mk.injEq] at hr
      obtain ⟨rfl, rfl, rfl⟩ := hr
      have hl : (s.st b).c.live = true := by rw [hc]; rfl
      have := h.blk b hl
      rw [hc] at this
      exact ⟨hv, hl, by simp [cx, hv, hl], RowR.rowV this⟩
    · rename_i sz' e' l' hc
      simp only [Option.some.injEq, Prod.mk.injEq] at hr
      obtain ⟨rfl, rfl, rfl⟩ := hr
      have hl : (s.st b).c.live = true := by rw [hc]; rfl
      have := h.blk b hl
      rw [hc] at this
      exact ⟨hv, hl, by simp [cx, hv, hl], this⟩
    · cases hr
  · cases hr
theorem look_box {b ver : Nat} {l : List V} (h : Rel w0 I n s a w η) (hr : boxAt s.st b ver = some l) :
    (s.st b).ver = ver ∧ (s.st b).c = .box l ∧ (cx w0 I s.st w η).look b ver = some (η b) ∧
      ∃ g o cur e, η b = .pointer (some ⟨g, o, none⟩) ∧ w.heap[g]? = some (.cells cur e (0, 0)) ∧ PW (RV (cx w0 I s.st w η)) ((cur.toList.drop o).take l.length) l := by
  unfold boxAt at hr
  split at hr
  · rename_i hv
    split at hr
    · rename_i l' hc
      simp only [Option.some.injEq] at hr
      subst hr
      have hl : (s.st b).c.live = true := by rw [hc]; rfl
      have := h.blk b hl
      rw [hc] at this
      exact ⟨hv, hc, by simp [cx, hv, hl], this⟩
    · cases hr
  · cases hr
end

end Go.Proofs.YtkfmecmmbnehjaaGreat
namespace Go.Proofs.YtkfmecmmbnehjaaGreat
set_option linter.unusedSimpArgs false
set_option linter.unusedVariables false

/-- what stands in memory may be seen so, too -/
def Gh (s s' : S) : Prop := ∀ (w0 : World) (I : Ow) (n : Nat) (a : Act) (w : World) (η : Nat → Value), Rel w0 I n s a w η → Rel w0 I n s' a w η
theorem Gh.refl (s : S) : Gh s s := fun _ _ _ _ _ _ h => h
theorem Gh.trans {s s' s'' : S} (h : Gh s s') (k : Gh s' s'') : Gh s s'' := fun w0 I n a w η hr => k w0 I n a w η (h w0 I n a w η hr)

def awp (P : Program) (C : Orc) (E : EqT) (n : Nat) : Code → (Ex → S → Prop) → S → Prop
  | .skip, K, s => K .normal s
  | .label _, K, s => K .normal s
  | .region _ ops false, K, s => awpOps P C E n ops.toList (K .normal) ops.toList s
  | .region _ ops true, K, s => ∃ B T, drawOk T ops = true ∧ awpOpsD P C E n B T ops.toList (K .normal) ops.toList s
  | .seq x y, K, s => awp P C E n x (Kseq K (awp P C E n y K)) s
  | .cond c x y, K, s => onB (asB (ev s.env c)) (awp P C E n x K s) (awp P C E n y K s)
  | .block id c, K, s => awp P C E n c (Kblock id K) s
  | .loop c, K, s => ∀ Z : S → Prop, (∀ s s', Gh s s' → awp P C E n c (Kseq K Z) s' → Z s) → Z s
  | .exit id, K, s => K (.exit id) s
  | .ret, K, s => K .ret s
  | _, _, _ => False
@[congr] theorem awp_congr {P : Program} {C : Orc} {E : EqT} {n : Nat} {c : Code} {K : Ex → S → Prop} {s s' : S} (h : s = s') : awp P C E n c K s = awp P C E n c K s' := by rw [h]

end Go.Proofs.YtkfmecmmbnehjaaGreat
