/-
A plain reckoning of Go code on values without memory's addresses: what a function answers is reckoned on lists and numbers. Definitions alone, no condition.
-/
import Derived.WalkKit
import Derived.Laws.Tables
import Derived.Laws.AppendOwn
import Derived.Laws.BytesArg
import Derived.Orders
import Derived.Below
namespace Go.Proofs.Ytbmgaebhcomjaaa
set_option linter.unusedSimpArgs false
set_option linter.unusedVariables false

/-- values as a function's text sees them: slices that are read stand as lists, what is the function's own stands in numbered blocks -/
inductive V where
  | s (v : Value)
  | agg (l : List V)
  | tup (l : List V)
  | lst (fr : Bool) (sz : Nat) (l : List V)
  | sw (b ver len : Nat)
  | sp (b ver sz off len : Nat)
  | ptr (b ver off : Nat)
  | rp (b ver sz i off : Nat)
  | bp (b ver off len : Nat)
  | ept (l : List V)
  | fn (f : Nat) (caps : List V)
  | own (sz e : Nat) (l : List V)
  | obx (l : List V)
  | io (t : Nat) (r out : V)

instance : Inhabited V := ⟨.s undef⟩

def V.cells : V → List V
  | .agg l => l
  | .s (.agg cs) => cs.toList.map .s
  | v => [v]

def flat (l : List V) : List V := l.flatMap V.cells

inductive Cont where
  | gone
  | box (cells : List V)
  | row (sz e : Nat) (l : List V)
  | rowV (sz e : Nat) (l : List V)

structure Blk where
  ver : Nat
  c : Cont

structure S where
  env : Nat → V
  st : Nat → Blk

def upd {α : Type} (f : Nat → α) (i : Nat) (v : α) : Nat → α := fun j => if j = i then v else f j
@[simp] theorem upd_apply {α : Type} (f : Nat → α) (i : Nat) (v : α) (j : Nat) : upd f i v j = if j = i then v else f j := rfl

def ups (st : Nat → Blk) : List (Nat × Blk) → Nat → Blk
  | [] => st
  | (b, k) :: r => ups (upd st b k) r

/-- what is known of a function: which arguments it takes as its own, and what it answers -/
structure Spec where
  mv : List Bool
  fn : List V → Option V
abbrev Orc := Nat → Option Spec

def ev (env : Nat → V) : Operand → V
  | .tmp t => env t
  | .const v => .s v
  | .global g => .s (.pointer (some ⟨g, 0, none⟩))
  | .func f => .fn f []

/-- one value of one cell -/
def V.one : V → Bool
  | .s v => v.oneCell'
  | .agg _ => false
  | .tup _ => false
  | .own .. => false
  | .obx _ => false
  | .io .. => false
  | _ => true

/-- one number, truth or text -/
def V.scal1 : V → Bool
  | .s v => v.oneCell'
  | _ => false

/-- no more than numbers, truths and texts -/
def V.scal : V → Bool
  | .s _ => true
  | .agg l => l.all fun x => match x with | .s _ => true | _ => false
  | _ => false

mutual
/-- closed: nothing of the function's own; k: and all lists fresh -/
def V.clo (k : Bool) : V → Bool
  | .s _ => true
  | .agg l => V.cloL k l
  | .tup l => V.cloL k l
  | .lst fr _ _ => !k || fr
  | .ept _ => !k
  | .fn _ l => V.cloL k l
  | _ => false
def V.cloL (k : Bool) : List V → Bool
  | [] => true
  | x :: r => V.clo k x && V.cloL k r
end

mutual
def V.unfr : V → V
  | .agg l => .agg (V.unfrL l)
  | .tup l => .tup (V.unfrL l)
  | .lst _ sz l => .lst false sz l
  | .fn f l => .fn f (V.unfrL l)
  | v => v
def V.unfrL : List V → List V
  | [] => []
  | x :: r => V.unfr x :: V.unfrL r
end

def rowAt (st : Nat → Blk) (b ver : Nat) : Option (Nat × Nat × List V) :=
  if (st b).ver = ver then (match (st b).c with | .row sz e l => some (sz, e, l) | _ => none) else none
/-- .. of cells that may be one's own, too -/
def rowAny (st : Nat → Blk) (b ver : Nat) : Option (Nat × Nat × List V) :=
  if (st b).ver = ver then (match (st b).c with | .row sz e l => some (sz, e, l) | .rowV sz e l => some (sz, e, l) | _ => none) else none
def boxAt (st : Nat → Blk) (b ver : Nat) : Option (List V) :=
  if (st b).ver = ver then (match (st b).c with | .box l => some l | _ => none) else none

/-- what a called function sees of a value -/
def expV (st : Nat → Blk) : Nat → V → Option V
  | 0, _ => none
  | n + 1, x => match x with
    | .s v => some (.s v)
    | .agg l => (l.mapM (expV st n)).map .agg
    | .tup l => (l.mapM (expV st n)).map .tup
    | .lst _ sz l => some (.lst false sz l)
    | .sw b ver _ => (rowAt st b ver).map fun (sz, _, l) => .lst false sz l
    | .sp b ver sz off len => (rowAt st b ver).bind fun (sz', _, l) => if sz' = sz ∧ off + len ≤ l.length then some (.lst false sz ((l.drop off).take len)) else none
    | .bp b ver off len => (boxAt st b ver).bind fun cs => if off + len ≤ cs.length ∧ ((cs.drop off).take len).all V.scal1 then some (.lst false 1 ((cs.drop off).take len)) else none
    | .ptr b ver off => (boxAt st b ver).bind fun cs => ((cs.drop off).mapM (expV st n)).map .ept
    | .ept l => some (.ept l)
    | .fn f l => (l.mapM (expV st n)).map (.fn f)
    | _ => none

/-- the elements of a list that is read, and whether they are fresh -/
def elemsOf (st : Nat → Blk) : V → Option (Nat × Bool × List V)
  | .lst fr sz l => some (sz, fr, l)
  | .sw b ver _ => (rowAt st b ver).map fun (sz, _, l) => (sz, true, l)
  | .sp b ver sz off len => (rowAt st b ver).bind fun (sz', _, l) => if sz' = sz ∧ off + len ≤ l.length then some (sz, true, (l.drop off).take len) else none
  | _ => none

/-- a row of one's own, or the part of one -/
def ownRow (st : Nat → Blk) : V → Option (Nat × Nat × Nat × Nat × List V)
  | .sw b ver _ => (rowAt st b ver).map fun (sz, e, l) => (b, ver, sz, e, l)
  | .sp b ver sz off len => (rowAt st b ver).bind fun (sz', e, l) => if sz' = sz ∧ off + len ≤ l.length then some (b, ver, sz, e, (l.drop off).take len) else none
  | _ => none

def szOf (P : Program) (t : TypeId) : Option Nat := (P.info? t).map (·.size)
def bytesOf (P : Program) (t : TypeId) : Option Nat := (P.info? t).map (·.bytes)
def zeroOf (P : Program) (t : TypeId) : Option Value := (P.info? t).bind (·.zero)
def zOk (P : Program) (t : TypeId) (sz : Nat) : Bool := match zeroOf P t with | some z => z.cells.size == sz | none => false
def isBoolT (P : Program) (t : TypeId) : Bool := match P.underlying t with | some .bool => true | _ => false
def isPtrT (P : Program) (t : TypeId) : Bool := match P.underlying t with | some (.pointer _) => true | _ => false
def isU8T (P : Program) (t : TypeId) : Bool := match P.underlying t with | some (.int .u8) => true | _ => false
def isAggB (P : Program) (t : TypeId) : Option Bool := (P.underlying t).map fun | .struct _ => true | .array _ _ => true | _ => false

/-- cells put over others from a place on -/
def spl (l : List V) (off : Nat) (ys : List V) : List V := l.take off ++ ys ++ l.drop (off + ys.length)

def loadC (agg : Bool) (n : Nat) (cs : List V) : Option V :=
  if agg then (if n ≤ cs.length then some (.agg (cs.take n)) else none) else cs.head?

def fillC (place : Nat → Option (Nat × Nat)) (cells : List V) : List (Nat × V) → Option (List V)
  | [] => some cells
  | (i, v) :: rest => match place i with
    | none => none
    | some (off, size) => if v.cells.length = size ∧ off + v.cells.length ≤ cells.length then fillC place (spl cells off v.cells) rest else none

def buildC (P : Program) (t : TypeId) (parts : List (Nat × V)) : Option (List V) :=
  match P.info? t, P.underlying t with
  | some it, some (.array _ e) =>
    match it.zero, P.info? e with
    | some z, some ie => fillC (fun i => some (i * ie.size, ie.size)) (z.cells.toList.map .s) parts
    | _, _ => none
  | some it, some (.struct fields) =>
    match it.zero, fields.toList.mapM (fun f => (P.info? f.type).map fun i => (f.offset, i.size)) with
    | some z, some places => fillC (places.toArray[·]?) (z.cells.toList.map .s) parts
    | _, _ => none
  | _, _ => none

def intBin (op : BinOp) (k : IntKind) (a b : Int) : Option Value :=
  match op with
  | .add => some (.int k (k.wrap (a + b)))
  | .sub => some (.int k (k.wrap (a - b)))
  | .mul => some (.int k (k.wrap (a * b)))
  | .quo => if b = 0 then none else some (.int k (k.wrap (a.tdiv b)))
  | .rem => if b = 0 then none else some (.int k (a.tmod b))
  | .and => some (.int k (k.wrap (BitVec.ofInt k.bits a &&& BitVec.ofInt k.bits b).toNat))
  | .or => some (.int k (k.wrap (BitVec.ofInt k.bits a ||| BitVec.ofInt k.bits b).toNat))
  | .xor => some (.int k (k.wrap (BitVec.ofInt k.bits a ^^^ BitVec.ofInt k.bits b).toNat))
  | .andNot => some (.int k (k.wrap (BitVec.ofInt k.bits a &&& ~~~(BitVec.ofInt k.bits b)).toNat))
  | .eql => some (.bool (a == b))
  | .neq => some (.bool (a != b))
  | .lss => some (.bool (a < b))
  | .leq => some (.bool (a ≤ b))
  | .gtr => some (.bool (a > b))
  | .geq => some (.bool (a ≥ b))
  | _ => none

def binS (op : BinOp) (x y : Value) : Option Value :=
  match op, x, y with
  | .shl, .int k a, .int _ b => if b < 0 then none else some (.int k (k.wrap (a * 2 ^ (min b.toNat k.bits))))
  | .shr, .int k a, .int _ b => if b < 0 then none else some (.int k (a.fdiv (2 ^ (min b.toNat k.bits))))
  | op, .int k a, .int k' b => if k = k' then intBin op k a b else none
  | .eql, .string a, .string b => some (.bool (a.toList == b.toList))
  | .neq, .string a, .string b => some (.bool (!(a.toList == b.toList)))
  | _, _, _ => none

/-- equal numbers, one by one -/
def eqInts : List V → List V → Option Bool
  | [], [] => some true
  | .s (.int k a) :: x, .s (.int k' b) :: y => if k = k' then (eqInts x y).map ((a == b) && ·) else none
  | _, _ => none

/-- types of which == is that of so many numbers -/
abbrev EqT := TypeId → Bool

def nilEq (op : BinOp) (b : Bool) : Option V := match op with
  | .eql => some (.s (.bool b))
  | .neq => some (.s (.bool (!b)))
  | _ => none

def binV (P : Program) (E : EqT) (op : BinOp) (t : TypeId) (x y : V) : Option V :=
  match x, y with
  | .s (.bool a), .s (.bool b) => if isBoolT P t = true then (match op with | .eql => some (.s (.bool (a == b))) | .neq => some (.s (.bool (a != b))) | _ => none) else none
  | .s (.pointer none), .s (.pointer none) => if isPtrT P t = true then nilEq op true else none
  | .s a, .s b => (binS op a b).map .s
  | .ptr .., .s (.pointer none) => if isPtrT P t = true then nilEq op false else none
  | .ept _, .s (.pointer none) => if isPtrT P t = true then nilEq op false else none
  | .agg a, .agg b => if E t = true ∧ szOf P t = some a.length then (match op with | .eql => (eqInts a b).map (.s ∘ .bool) | .neq => (eqInts a b).map (.s ∘ .bool ∘ not) | _ => none) else none
  | _, _ => none

def unV (op : UnOp) : V → Option V
  | .s (.bool b) => match op with | .not => some (.s (.bool !b)) | _ => none
  | .s (.int k n) => match op with
    | .neg => some (.s (.int k (k.wrap (0 - n))))
    | .xor => some (.s (.int k (k.wrap (BitVec.ofInt k.bits (if k.signed then -1 else k.max) ^^^ BitVec.ofInt k.bits n).toNat)))
    | _ => none
  | _ => none

def isU8 : V → Bool
  | .s (.int .u8 _) => true
  | _ => false
def numOf : V → Int
  | .s (.int _ n) => n
  | _ => 0

def convV (P : Program) (st : Nat → Blk) (src dst : TypeId) (x : V) : Option V :=
  match P.underlying src, P.underlying dst, x with
  | some _, some (.int k), .s (.int _ n) => some (.s (.int k (k.wrap n)))
  | some _, some .string, .s (.string s) => some (.s (.string s))
  | some .string, some (.slice e), .s (.string s) => if isU8T P e = true then some (.lst true 1 (s.data.toList.map fun b => .s (.int .u8 b.toNat))) else none
  | some (.slice e), some (.slice e'), .sw b ver n => if src = dst ∧ e = e' ∧ isU8T P e = true then (rowAt st b ver).bind fun (_, _, l) => if 0 < l.length then some (.sw b ver n) else none else none
  | some (.slice e), some .string, x => if isU8T P e = true then
      (match x with
      | .s (.slice none 0 0) => some (.s (.string (strOfNums [])))
      | x => (elemsOf st x).bind fun (_, _, l) => if l.all isU8 then some (.s (.string (strOfNums (l.map numOf)))) else none) else none
  | _, _, _ => none

def lenV (P : Program) (st : Nat → Blk) (t : TypeId) (x : V) : Option V :=
  match P.underlying t, x with
  | some .string, .s (.string s) => some (.s (.int .i64 s.size))
  | some (.array n _), _ => some (.s (.int .i64 n))
  | some (.slice _), .s (.slice _ n _) => some (.s (.int .i64 n))
  | some (.slice _), .sw _ _ n => some (.s (.int .i64 n))
  | some (.slice _), .sp _ _ _ _ n => some (.s (.int .i64 n))
  | some (.slice _), .bp _ _ _ n => some (.s (.int .i64 n))
  | some (.slice _), x => (elemsOf st x).map fun (_, _, l) => .s (.int .i64 l.length)
  | _, _ => none

def asI : V → Option Int
  | .s (.int _ n) => some n
  | _ => none

/-- bounds of a slice expression -/
def bnds (len : Nat) (lo hi : Option V) : Option (Nat × Nat) :=
  match (match hi with | none => some (len : Int) | some v => asI v), (match lo with | none => some (0 : Int) | some v => asI v) with
  | some h, some l => if 0 ≤ l ∧ l ≤ h ∧ h ≤ len then some (l.toNat, h.toNat) else none
  | _, _ => none

def sliceV (P : Program) (st : Nat → Blk) (t : TypeId) (x : V) (lo hi : Option V) : Option V :=
  match P.underlying t, x with
  | some .string, .s (.string s) => (bnds s.size lo hi).map fun (l, h) => .s (.string (s.extract l h))
  | some (.slice e), .lst fr sz l => if szOf P e = some sz then (bnds l.length lo hi).map fun (a, b) => .lst fr sz ((l.drop a).take (b - a)) else none
  | some (.slice e), .sw b ver _ => (rowAny st b ver).bind fun (sz, _, l) => if szOf P e = some sz then (bnds l.length lo hi).map fun (x, y) => .sp b ver sz x (y - x) else none
  | some (.slice e), .sp b ver sz off len => (rowAny st b ver).bind fun (_, _, _) => if szOf P e = some sz then (bnds len lo hi).map fun (x, y) => .sp b ver sz (off + x) (y - x) else none
  | some (.array n e), .ptr b ver off => (boxAt st b ver).bind fun _ => if szOf P e = some 1 then (bnds n lo hi).map fun (x, y) => .bp b ver (off + x) (y - x) else none
  | some (.pointer arr), .ptr b ver off => match P.underlying arr with
    | some (.array n e) => (boxAt st b ver).bind fun _ => if szOf P e = some 1 then (bnds n lo hi).map fun (x, y) => .bp b ver (off + x) (y - x) else none
    | _ => none
  | _, _ => none

def indexAddrV (P : Program) (st : Nat → Blk) (t : TypeId) (x i : V) : Option V :=
  match asI i, P.underlying t, x with
  | some i, some (.array n e), .ptr b ver off => (szOf P e).bind fun sz => if 0 ≤ i ∧ i < n then (boxAt st b ver).map fun _ => .ptr b ver (off + i.toNat * sz) else none
  | some i, some (.array n e), .ept l => (szOf P e).bind fun sz => if 0 ≤ i ∧ i < n then some (.ept (l.drop (i.toNat * sz))) else none
  | some i, some (.slice e), .sw b ver _ => (rowAny st b ver).bind fun (sz, _, l) => if szOf P e = some sz ∧ 0 ≤ i ∧ i < l.length then some (.rp b ver sz i.toNat 0) else none
  | some i, some (.slice e), .sp b ver sz off len => (rowAny st b ver).bind fun (_, _, _) => if szOf P e = some sz ∧ 0 ≤ i ∧ i < len then some (.rp b ver sz (off + i.toNat) 0) else none
  | some i, some (.slice e), .lst _ sz l => if szOf P e = some sz ∧ 0 ≤ i ∧ 0 < sz then (l[i.toNat]?).map fun x => .ept x.cells else none
  | _, _, _ => none

def indexV (P : Program) (t : TypeId) (x i : V) : Option V :=
  match asI i, P.underlying t, x with
  | some i, some .string, .s (.string s) => if 0 ≤ i then (s[i.toNat]?).map fun b => .s (.int .u8 b.toNat) else none
  | some i, some (.array n e), .agg l => (szOf P e).bind fun sz => (isAggB P e).bind fun ag => if 0 ≤ i ∧ i < n then loadC ag sz (l.drop (i.toNat * sz)) else none
  | _, _, _ => none

def fieldV (P : Program) (t : TypeId) (k : Nat) : Option Nat :=
  match P.underlying t with
  | some (.struct fs) => match fs[k]? with
    | some f => (szOf P f.type).bind fun n => if n = 0 then none else some f.offset
    | none => none
  | _ => none

def fieldAddrV (st : Nat → Blk) (off : Nat) : V → Option V
  | .ptr b ver o' => (boxAt st b ver).map fun _ => .ptr b ver (o' + off)
  | .rp b ver sz i o' => (rowAny st b ver).map fun _ => .rp b ver sz i (o' + off)
  | .ept l => some (.ept (l.drop off))
  | _ => none

def loadV (P : Program) (st : Nat → Blk) (t : TypeId) (x : V) : Option V :=
  (szOf P t).bind fun n => (isAggB P t).bind fun ag =>
  match x with
  | .ptr b ver off => (boxAt st b ver).bind fun cs => loadC ag n (cs.drop off)
  | .rp b ver sz i off => (rowAny st b ver).bind fun (sz', _, l) => if sz' = sz then (l[i]?).bind fun x => loadC ag n (x.cells.drop off) else none
  | .ept l => (loadC ag n l).map V.unfr
  | _ => none

/-- an element whose cells are others -/
def withCells (x : V) (cs : List V) : V := match x with
  | .agg _ => .agg cs
  | .s (.agg _) => .agg cs
  | _ => cs.headD (.s undef)

/-- an element of a row is given other cells -/
def putRow (c : Cont) (i off : Nat) (ys : List V) : Option (Nat × Cont) := match c with
  | .row sz e l => (l[i]?).bind fun el => if off + ys.length ≤ el.cells.length then
      (if V.cloL true ys then some (sz, .row sz e (l.set i (withCells el (spl el.cells off (V.unfrL ys)))))
      else some (sz, .rowV sz e (l.set i (withCells el (spl el.cells off ys))))) else none
  | .rowV sz e l => (l[i]?).bind fun el => if off + ys.length ≤ el.cells.length then some (sz, .rowV sz e (l.set i (withCells el (spl el.cells off ys)))) else none
  | _ => none

def storeV (P : Program) (st : Nat → Blk) (t : TypeId) (x y : V) : Option (List (Nat × Blk)) :=
  (szOf P t).bind fun n =>
  if y.cells.length = n ∧ y.cells.all V.one then
  match x with
  | .ptr b ver off => (boxAt st b ver).bind fun cs => if off + n ≤ cs.length then some [(b, ⟨ver, .box (spl cs off y.cells)⟩)] else none
  | .rp b ver sz i off => if (st b).ver = ver then (putRow (st b).c i off y.cells).bind fun (sz', c) => if sz' = sz then some [(b, ⟨ver, c⟩)] else none else none
  | _ => none
  else none

/-- the most that one slice may hold -/
def fits (n bytes : Nat) : Prop := n * bytes ≤ 140737488355328
instance (n bytes : Nat) : Decidable (fits n bytes) := inferInstanceAs (Decidable (_ ≤ _))

/-- append: to nothing, or to a row of one's own; the row stands at place d then -/
def appendV (P : Program) (st : Nat → Blk) (d : Nat) (t : TypeId) (x y : V) : Option (V × List (Nat × Blk)) :=
  match P.underlying t with
  | some (.slice e) => (szOf P e).bind fun sz => (bytesOf P e).bind fun by_ =>
    (match y with | .s (.slice none 0 0) => some (true, ([] : List V)) | y => (elemsOf st y).bind fun (sz', fr, l) => if sz' = sz then some (fr || l.all V.scal, l) else none).bind fun (ok, ys) =>
    if ok = true ∧ 0 < sz ∧ 0 < by_ ∧ zOk P e sz = true then
    match x with
    | .s (.slice none 0 0) => if fits ys.length by_ then some (.sw d ((st d).ver + 1) ys.length, [(d, ⟨(st d).ver + 1, .row sz e ys⟩)]) else none
    | x => (ownRow st x).bind fun (b, ver, sz', e', l) => if sz' = sz ∧ e' = e ∧ fits (l.length + ys.length) by_ then some (.sw b (ver + 1) (l.length + ys.length), [(b, ⟨ver + 1, .row sz e (l ++ ys)⟩)]) else none
    else none
  | _ => none

def buildSliceV (P : Program) (st : Nat → Blk) (d : Nat) (t : TypeId) (len : Nat) (parts : List (Nat × V)) : Option (V × List (Nat × Blk)) :=
  match P.underlying t with
  | some (.slice e) => (szOf P e).bind fun sz =>
    if parts.map (·.1) = List.range len ∧ 0 < sz ∧ len * sz ≤ 1000000 ∧ 0 < len ∧ (zeroOf P e).isSome = true then
      (if parts.all (fun p => decide (p.2.cells.length = sz) && p.2.cells.all V.one && V.clo true p.2) = true then some (.sw d ((st d).ver + 1) len, [(d, ⟨(st d).ver + 1, .row sz e (parts.map fun p => p.2.unfr)⟩)])
      else if parts.all (fun p => decide (p.2.cells.length = sz) && p.2.cells.all V.one) = true then some (.sw d ((st d).ver + 1) len, [(d, ⟨(st d).ver + 1, .rowV sz e (parts.map fun p => p.2)⟩)])
      else none)
    else if len = 0 ∧ parts.isEmpty = true ∧ 0 < sz then some (.lst true sz [], []) else none
  | _ => none

/-- a row that hangs in a cell of a box -/
def nest (b j : Nat) : Nat := 1000 * (b + 1) + j

/-- a cell of a box that is handed over, with the blocks that go with it -/
def movC (st : Nat → Blk) : List V → Option (List V × List Nat)
  | [] => some ([], [])
  | c :: r => (movC st r).bind fun (cs, bs) =>
    match c with
    | .s v => some (.s v :: cs, bs)
    | c => (ownRow st c).bind fun (b, _, sz, e, l) => if l.all V.scal = true then some (.own sz e l :: cs, b :: bs) else none
/-- what is handed over: a row, or a box and the rows that hang in it -/
def movV (st : Nat → Blk) (x : V) : Option (V × List Nat) := match x with
  | .ptr b ver 0 => (boxAt st b ver).bind fun cs => (movC st cs).bind fun (cs', bs) => if (b :: bs).Nodup ∧ cs'.length ≤ 1000 then some (.obx cs', b :: bs) else none
  | x => (ownRow st x).bind fun (b, _, sz, e, l) => if l.all V.scal = true then some (.own sz e l, [b]) else none
/-- numbers, truths and texts, one or some of them -/
def V.scalT : V → Bool
  | .s _ => true
  | .agg l => l.all fun x => match x with | .s _ => true | _ => false
  | .tup l => l.all fun x => match x with | .s _ => true | _ => false
  | _ => false
/-- may a value be handed over? -/
def V.movable : V → Bool
  | .sw .. => true
  | .sp .. => true
  | .ptr .. => true
  | _ => false

/-- what the called function sees of a value lies in none of these blocks -/
def apartV (st : Nat → Blk) (bs : List Nat) : Nat → V → Bool
  | 0, _ => false
  | n + 1, x => match x with
    | .agg l => l.all (apartV st bs n)
    | .tup l => l.all (apartV st bs n)
    | .fn _ l => l.all (apartV st bs n)
    | .sw b _ _ => !(bs.contains b)
    | .sp b _ _ _ _ => !(bs.contains b)
    | .bp b _ _ _ => !(bs.contains b)
    | .ptr b _ _ => !(bs.contains b) && (match (st b).c with | .box cs => cs.all (apartV st bs n) | _ => true)
    | _ => true
def apartL (l B : List Nat) : Bool := l.all fun x => !(B.contains x)

/-- the arguments as the called function sees them; moved: the blocks that become its own -/
def argsV (st : Nat → Blk) : List Bool → List V → Option (List V × List Nat)
  | _, [] => some ([], [])
  | mv, x :: xs => (argsV st mv.tail xs).bind fun (ys, bs) =>
    match mv.headD false && x.movable with
    | true => (movV st x).bind fun (y, b) => if bs = [] then some (y :: ys, b) else none
    | false => (expV st 4 x).bind fun y => some (y :: ys, bs)
/-- what is not handed over names nothing that is -/
def argsApart (st : Nat → Blk) (bs : List Nat) : List Bool → List V → Bool
  | _, [] => true
  | mv, x :: xs => argsApart st bs mv.tail xs && ((mv.headD false && x.movable) || apartV st bs 4 x)

/-- a box that is handed back: the rows in its cells are blocks of one's own then -/
def hang (st : Nat → Blk) (b : Nat) : Nat → List V → List V × List (Nat × Blk)
  | _, [] => ([], [])
  | j, c :: r => match c with
    | .own sz e l => (.sw (nest b j) ((st (nest b j)).ver + 1) l.length :: (hang st b (j + 1) r).1, (nest b j, ⟨(st (nest b j)).ver + 1, .row sz e l⟩) :: (hang st b (j + 1) r).2)
    | c => (c :: (hang st b (j + 1) r).1, (hang st b (j + 1) r).2)
/-- what an argument holds behind the call -/
def backV (st : Nat → Blk) (x : Option V) (out : V) : Option (List (Nat × Blk)) := match x, out with
  | some (.sw b ver n), .own sz e l => if l.length = n ∧ (rowAt st b ver).isSome = true then some [(b, ⟨ver, .row sz e l⟩)] else none
  | some (.ptr b ver 0), .obx cs => if (boxAt st b ver).isSome = true then some ((hang st b 0 cs).2 ++ [(b, ⟨ver, .box (hang st b 0 cs).1⟩)]) else none
  | _, _ => none

def callV (C : Orc) (st : Nat → Blk) (d : Nat) (f : V) (args : List V) : Option (V × List (Nat × Blk)) :=
  match f with
  | .fn g caps => (C g).bind fun sp => (argsV st sp.mv (args ++ caps)).bind fun (ys, bs) => (sp.fn ys).bind fun r =>
    if bs = [] ∨ (argsApart st bs sp.mv (args ++ caps) = true ∧ ys.length ≤ 1000) then
    let gone := bs.map fun b => (b, ⟨(st b).ver, Cont.gone⟩)
    match r with
    | .own sz e l => some (.sw d ((st d).ver + 1) l.length, gone ++ [(d, ⟨(st d).ver + 1, .row sz e l⟩)])
    | .obx cs => some (.ptr d ((st d).ver + 1) 0, gone ++ ((hang st d 0 cs).2 ++ [(d, ⟨(st d).ver + 1, .box (hang st d 0 cs).1⟩)]))
    | .io t r out => (backV st (args ++ caps)[t]? out).map fun u => (r, gone ++ u)
    | r => some (r, gone)
    else none
  | _ => none

/-- a new row of so many zeros -/
def makeV (P : Program) (st : Nat → Blk) (d : Nat) (t : TypeId) (n : Int) : Option (V × List (Nat × Blk)) :=
  match P.underlying t with
  | some (.slice e) => (bytesOf P e).bind fun by_ => (zeroOf P e).bind fun z => if 0 ≤ n ∧ n * by_ ≤ 140737488355328 ∧ n ≤ 1000000 ∧ zOk P e 1 = true ∧ szOf P e = some 1 ∧ z.oneCell' = true then
      some (.sw d ((st d).ver + 1) n.toNat, [(d, ⟨(st d).ver + 1, .row 1 e (List.replicate n.toNat (.s z))⟩)]) else none
  | _ => none

/-- the number of a type's interfaces: a value in one -/
def ifaceV (P : Program) (t : TypeId) : V → Option V
  | .s v => match P.underlying t with
    | some (.interface _) => none
    | some _ => some (.s (.iface t v))
    | none => none
  | _ => none
def assertV (P : Program) (t : TypeId) (ok : Bool) : V → Option V
  | .s .nilIface => match P.underlying t with
    | some (.interface _) => none
    | some _ => if ok then (zeroOf P t).map fun z => .tup [.s z, .s (.bool false)] else none
    | none => none
  | .s (.iface t' v) => match P.underlying t with
    | some (.interface _) => none
    | some _ => if t' = t then (if ok then some (.tup [.s v, .s (.bool true)]) else some (.s v)) else (if ok then (zeroOf P t).map fun z => .tup [.s z, .s (.bool false)] else none)
    | none => none
  | _ => none

def maxV : List V → Option V
  | [.s (.int k x), .s (.int _ y)] => some (.s (.int k (if y > x then y else x)))
  | _ => none
def minV : List V → Option V
  | [.s (.int k x), .s (.int _ y)] => some (.s (.int k (if y < x then y else x)))
  | _ => none

def pickV (c : Bool) (a b : V) : V := match c with
  | true => a
  | false => b
@[simp] theorem pickV_true (a b : V) : pickV true a b = a := rfl
@[simp] theorem pickV_false (a b : V) : pickV false a b = b := rfl

def opV (P : Program) (C : Orc) (E : EqT) (o : Oper) (ρ : Operand → V) (st : Nat → Blk) : Option (V × List (Nat × Blk)) :=
  let d := o.dst.getD 0
  let pure (v : Option V) : Option (V × List (Nat × Blk)) := v.map fun v => (v, [])
  match o.op with
  | .move x | .assign x => pure (some (ρ x))
  | .pick c a b => match ρ c with
    | .s (.bool c) => pure (some (pickV c (ρ a) (ρ b)))
    | _ => none
  | .alloc t => (zeroOf P t).map fun z => (.ptr d ((st d).ver + 1) 0, [(d, ⟨(st d).ver + 1, .box (z.cells.toList.map .s)⟩)])
  | .box _ x => some (.ptr d ((st d).ver + 1) 0, [(d, ⟨(st d).ver + 1, .box (ρ x).cells⟩)])
  | .build t parts => pure ((buildC P t (parts.toList.map fun (i, x) => (i, ρ x))).map .agg)
  | .buildSlice t n parts => if o.dst.isSome then buildSliceV P st d t n (parts.toList.map fun (i, x) => (i, ρ x)) else none
  | .makeSlice t n m => if o.dst.isSome then (match ρ n, ρ m with
      | .s (.int .i64 a), .s (.int .i64 b) => if a = b then makeV P st d t a else none
      | _, _ => none) else none
  | .makeInterface t x => pure (ifaceV P t (ρ x))
  | .typeAssert x _ t ok => pure (assertV P t ok (ρ x))
  | .load t a => pure (loadV P st t (ρ a))
  | .store t a x => if o.dst.isNone then (storeV P st t (ρ a) (ρ x)).map fun u => (.s undef, u) else none
  | .binOp op t x y _ => pure (binV P E op t (ρ x) (ρ y))
  | .unOp op _ x => pure (unV op (ρ x))
  | .convert a b x => pure (convV P st a b (ρ x))
  | .makeFunc (.func f) first caps => if first.size = 0 then pure (some (.fn f (caps.toList.map ρ))) else none
  | .slice t x lo hi none => pure (sliceV P st t (ρ x) (lo.map ρ) (hi.map ρ))
  | .fieldAddr t x k => (fieldV P t k).bind fun off => pure (fieldAddrV st off (ρ x))
  | .nilCheck x => pure (fieldAddrV st 0 (ρ x))
  | .indexAddr t x i => pure (indexAddrV P st t (ρ x) (ρ i))
  | .index t x i => pure (indexV P t (ρ x) (ρ i))
  | .extract x i => match ρ x with
    | .tup l => pure (l[i]?)
    | _ => none
  | .call c => if o.dst.isSome then (match c.callee with
    | .builtin .len => match c.argTypes.toList, c.args.toList with
      | [t], [x] => pure (lenV P st t (ρ x))
      | _, _ => none
    | .builtin .append => match c.argTypes.toList, c.args.toList with
      | [t, u], [x, y] => if t = u then appendV P st d t (ρ x) (ρ y) else none
      | _, _ => none
    | .builtin .max => pure (maxV (c.args.toList.map ρ))
    | .builtin .min => pure (minV (c.args.toList.map ρ))
    | .value f => callV C st d (ρ f) (c.args.toList.map ρ)
    | _ => none) else none
  | _ => none

/-- is the operation wanted? -/
def wants (ops : List Oper) (env : Nat → V) (o : Oper) : Option (Option (Bool × Bool)) :=
  match o.guard with
  | none => some none
  | some (j, b) => match (ops[j]?).bind (·.dst) with
    | some t => match env t with
      | .s (.bool c) => some (some (c, b))
      | .s (.tuple _) => some (some (!b, b))
      | _ => none
    | none => none

def stepV (P : Program) (C : Orc) (E : EqT) (n : Nat) (o : Oper) (s : S) : Option S :=
  (opV P C E o (ev s.env) s.st).bind fun (v, u) => match o.dst with
    | some d => if d < n then some ⟨upd s.env d v, ups s.st u⟩ else none
    | none => some ⟨s.env, ups s.st u⟩

/-- a way parts: what stands behind it is not looked at before it is known where it goes -/
def br (b : Bool) (A B : Prop) : Prop := (b = true → A) ∧ (b = false → B)
@[congr] theorem br_congr {b b' : Bool} {A B : Prop} (h : b = b') : br b A B = br b' A B := by rw [h]
@[simp] theorem br_true (A B : Prop) : br true A B = A := by simp [br]
@[simp] theorem br_false (A B : Prop) : br false A B = B := by simp [br]
theorem br_of {b : Bool} {A B : Prop} (h1 : b = true → A) (h2 : b = false → B) : br b A B := ⟨h1, h2⟩

inductive Ex where
  | normal
  | exit (id : Nat)
  | ret

/-- what is done with a state, if there is one -/
def thenS (x : Option S) (k : S → Prop) : Prop := match x with
  | some s => k s
  | none => False
@[congr] theorem thenS_congr {x x' : Option S} {k : S → Prop} (h : x = x') : thenS x k = thenS x' k := by rw [h]
@[simp] theorem thenS_some (s : S) (k : S → Prop) : thenS (some s) k = k s := rfl
@[simp] theorem thenS_none (k : S → Prop) : thenS none k = False := rfl
/-- the truth that an operation waits for, and the one that it wants; none: it is done in any case -/
def onG (x : Option (Option (Bool × Bool))) (A B : Prop) : Prop := match x with
  | some none => A
  | some (some (b, true)) => br b A B
  | some (some (b, false)) => br b B A
  | none => False
@[congr] theorem onG_congr {x x' : Option (Option (Bool × Bool))} {A B : Prop} (h : x = x') : onG x A B = onG x' A B := by rw [h]
@[simp] theorem onG_any (A B : Prop) : onG (some none) A B = A := rfl
@[simp] theorem onG_yes (b : Bool) (A B : Prop) : onG (some (some (b, true))) A B = br b A B := rfl
@[simp] theorem onG_no (b : Bool) (A B : Prop) : onG (some (some (b, false))) A B = br b B A := rfl
@[simp] theorem onG_none (A B : Prop) : onG none A B = False := rfl
def onB (x : Option Bool) (A B : Prop) : Prop := match x with
  | some b => br b A B
  | none => False
@[congr] theorem onB_congr {x x' : Option Bool} {A B : Prop} (h : x = x') : onB x A B = onB x' A B := by rw [h]
@[simp] theorem onB_some (b : Bool) (A B : Prop) : onB (some b) A B = br b A B := rfl
@[simp] theorem onB_none (A B : Prop) : onB none A B = False := rfl
def asB : V → Option Bool
  | .s (.bool b) => some b
  | _ => none
/-- an operation that is not wanted -/
def passV (n : Nat) (o : Oper) (s : S) : Option S := match o.dst with
  | some d => if d < n then some ⟨upd s.env d (.s undef), s.st⟩ else none
  | none => some s

def awpOps (P : Program) (C : Orc) (E : EqT) (n : Nat) (ops : List Oper) (K : S → Prop) : List Oper → S → Prop
  | [], s => K s
  | o :: r, s => onG (wants ops s.env o) (thenS (stepV P C E n o s) (awpOps P C E n ops K r)) (thenS (passV n o s) (awpOps P C E n ops K r))

/-- the block that a value names -/
def V.ref : V → List Nat
  | .sw b _ _ => [b]
  | .sp b _ _ _ _ => [b]
  | .ptr b _ _ => [b]
  | .rp b _ _ _ _ => [b]
  | .bp b _ _ _ => [b]
  | _ => []
/-- what an operation reads stands in none of these blocks -/
def readsOk (B : List Nat) (op : Op) (ρ : Operand → V) : Bool :=
  B.isEmpty || (match op with
  | .load _ x | .nilCheck x | .fieldAddr _ x _ | .indexAddr _ x _ | .slice _ x _ _ _ | .convert _ _ x => apartL (ρ x).ref B
  | .call c => (match c.callee with
    | .builtin _ => c.args.toList.all fun x => apartL (ρ x).ref B
    | .value f => (ρ f).clo false && c.args.toList.all fun x => (ρ x).clo false
    | _ => false)
  | .move _ | .assign _ | .pick _ _ _ | .build _ _ | .binOp _ _ _ _ _ | .unOp _ _ _ | .makeFunc _ _ _ | .index _ _ _ | .extract _ _ | .makeInterface _ _ | .typeAssert _ _ _ _ => true
  | _ => false)
/-- may the operation turn a block? T: the places of those that may -/
def turns (T : List Nat) (o : Oper) : Bool := match o.dst with
  | some d => T.contains d
  | none => true

/-- T names an alloc that stands in no order with the region's appends by 100000 + its place: they do not touch its box -/
def freeOk (T : List Nat) (op : Op) (ρ : Operand → V) : Bool :=
  T.all fun t => decide (t < 100000) || (match op with
    | .alloc _ => true
    | .call c => (match c.callee with
      | .builtin .append => c.args.toList.all fun x => !((ρ x).ref.contains (t - 100000))
      | _ => false)
    | _ => false)
def isAl (T : List Nat) (o : Oper) : Bool := match o.op, o.dst with
  | .alloc _, some d => T.contains (100000 + d)
  | _, _ => false
def isAp (o : Oper) : Bool := match o.op, o.dst with
  | .call c, some _ => (match c.callee with
    | .builtin .append => true
    | _ => false)
  | _, _ => false
def freeP (T : List Nat) (x y : Oper) : Bool := (isAl T x && isAp y) || (isAp x && isAl T y)
/-- a step in a region that draws its order; B: the blocks that may turn in it, T: the places of the operations that turn them -/
def stepD (P : Program) (C : Orc) (E : EqT) (n : Nat) (B T : List Nat) (o : Oper) (s : S) : Option S :=
  if turns T o = true then
    (match opV P C E o (ev s.env) s.st with
    | some (v, u) => if (freeOk T o.op (ev s.env) && u.all (fun p => B.contains p.1)) = true then (match o.dst with
      | some d => if d < n then some ⟨upd s.env d v, ups s.st u⟩ else none
      | none => some ⟨s.env, ups s.st u⟩) else none
    | none => none)
  else if readsOk B o.op (ev s.env) = true then
    (match opV P C E o (ev s.env) s.st with
    | some (v, []) => (match o.dst with
      | some d => if d < n then some ⟨upd s.env d v, s.st⟩ else none
      | none => some s)
    | _ => none)
  else none

/-- .. the last operation stands behind all others: it may do what it likes -/
def awpOpsD (P : Program) (C : Orc) (E : EqT) (n : Nat) (B T : List Nat) (ops : List Oper) (K : S → Prop) : List Oper → S → Prop
  | [], s => K s
  | [o], s => onG (wants ops s.env o) (thenS (stepV P C E n o s) K) (thenS (passV n o s) K)
  | o :: o' :: r, s => onG (wants ops s.env o) (thenS (stepD P C E n B T o s) (awpOpsD P C E n B T ops K (o' :: r))) (thenS (passV n o s) (awpOpsD P C E n B T ops K (o' :: r)))

/-- what must stand ahead of each operation -/
def ancAll (ops : Array Oper) : List (List Nat) :=
  ops.toList.zipIdx.foldl (fun acc (y, j) => acc ++ [y.after.toList.foldl (fun l e => if Region.binds .any e && decide (e.on < j) then (if l.contains e.on then l else e.on :: l ++ (acc.getD e.on [])) else l) []]) []
/-- of two operations of a region the first one stands ahead, or both may stand in any order -/
def pairOk (A : List (List Nat)) (T : List Nat) (ops : Array Oper) (i j : Nat) : Bool :=
  (A.getD j []).contains i || (match ops[i]?, ops[j]? with
  | some x, some y => decide (j + 1 < ops.size) && !(turns T x && turns T y && !freeP T x y) && x.apart ops y
  | _, _ => true)
def lowOk (ops : Array Oper) : Bool :=
  (List.range ops.size).all fun j => (match ops[j]? with
    | some y => y.after.all fun e => !Region.binds .any e || decide (e.on < j)
    | none => true)
/-- what stands in the lists does stand ahead -/
def ancOk (A : List (List Nat)) (ops : Array Oper) : Bool :=
  (List.range ops.size).all fun j => (A.getD j []).all fun i => (match ops[j]? with
    | some y => y.after.any fun e => Region.binds .any e && decide (e.on < j) && (e.on == i || (A.getD e.on []).contains i)
    | none => false)
def drawOk (T : List Nat) (ops : Array Oper) : Bool :=
  lowOk ops && ancOk (ancAll ops) ops && (let A := ancAll ops; (List.range ops.size).all fun j => ((List.range j).all fun i => pairOk A T ops i j))
def regD (b : Bool) (A : Prop) : Prop := b = true ∧ A
@[congr] theorem regD_congr {b b' : Bool} {A : Prop} (h : b = b') : regD b A = regD b' A := by rw [h]

def Kseq (K : Ex → S → Prop) (y : S → Prop) : Ex → S → Prop
  | .normal, s => y s
  | e, s => K e s
def Kblock (id : Nat) (K : Ex → S → Prop) : Ex → S → Prop
  | .exit i, s => if i = id then K .normal s else K (.exit i) s
  | e, s => K e s

@[congr] theorem awpOps_congr {P : Program} {C : Orc} {E : EqT} {n : Nat} {ops : List Oper} {K : S → Prop} {r : List Oper} {s s' : S} (h : s = s') : awpOps P C E n ops K r s = awpOps P C E n ops K r s' := by rw [h]
@[congr] theorem Kseq_congr {K : Ex → S → Prop} {y : S → Prop} {e e' : Ex} {s s' : S} (he : e = e') (h : s = s') : Kseq K y e s = Kseq K y e' s' := by rw [h, he]
@[congr] theorem Kblock_congr {K : Ex → S → Prop} {id : Nat} {e e' : Ex} {s s' : S} (he : e = e') (h : s = s') : Kblock id K e s = Kblock id K e' s' := by rw [h, he]

/-- a result as its caller sees it -/
def resV (st : Nat → Blk) : Nat → V → Option V
  | 0, _ => none
  | n + 1, x => match x with
    | .s v => some (.s v)
    | .agg l => (l.mapM (resV st n)).map .agg
    | .tup l => (l.mapM (resV st n)).map .tup
    | .lst fr sz l => if fr then some (.lst true sz l) else none
    | .sw b ver _ => (rowAt st b ver).map fun (sz, _, l) => .lst true sz l
    | .sp b ver sz off len => (rowAt st b ver).bind fun (sz', _, l) => if sz' = sz ∧ off + len ≤ l.length then some (.lst true sz ((l.drop off).take len)) else none
    | _ => none
def resT (st : Nat → Blk) (x : V) : Option V :=
  match x with
  | .sw b ver _ => (rowAt st b ver).map fun (sz, e, l) => .own sz e l
  | .ptr b ver 0 => (boxAt st b ver).bind fun cs => (movC st cs).bind fun (cs', bs) => if (b :: bs).Nodup then some (.obx cs') else none
  | x => resV st 4 x

def resL (P : Program) (fn : Func) (s : S) : Option (List V) :=
  fn.results.toList.mapM (m := Option) fun r => match r with
    | .tmp t => if t < fn.ntmps then some (s.env t) else none
    | .cell a t => if a < fn.ntmps then loadV P s.st t (s.env a) else none
def one (vs : List V) : V := match vs with
  | [v] => v
  | vs => .tup vs
def resOf (P : Program) (fn : Func) (s : S) : Option V := (resL P fn s).bind fun vs => resT s.st (one vs)
/-- .. and what stands behind a pointer that was handed over, which is handed back -/
def ioOf (P : Program) (fn : Func) (s : S) (t : Nat) : Option V := (resL P fn s).bind fun vs =>
  if (one vs).scalT = true then
    if (s.st t).ver = 1 then (match (s.st t).c with
    | .box cs => (movC s.st cs).bind fun (cs', bs) => if (t :: bs).Nodup then some (.io t (one vs) (.obx cs')) else none
    | .row sz e l => if l.all V.scal = true then some (.io t (one vs) (.own sz e l)) else none
    | _ => none) else none
  else none

/-- the cells of a box that is handed over, as the function has them -/
def inC (t : Nat) : Nat → List V → List V
  | _, [] => []
  | j, c :: r => (match c with
    | .own _ _ l => .sw (nest t j) 1 l.length
    | c => c) :: inC t (j + 1) r
/-- the state in which a function begins -/
def init (xs : List V) : S :=
  { env := fun t => match xs[t]? with
      | some (.own _ _ l) => .sw t 1 l.length
      | some (.obx _) => .ptr t 1 0
      | some x => x.unfr
      | none => .s undef
    st := fun t => if t < 1000 then (match xs[t]? with
        | some (.own sz e l) => ⟨1, .row sz e l⟩
        | some (.obx cs) => ⟨1, .box (inC t 0 cs)⟩
        | _ => ⟨0, .gone⟩)
      else (match xs[t / 1000 - 1]? with
        | some (.obx cs) => (match cs[t % 1000]? with
          | some (.own sz e l) => ⟨1, .row sz e l⟩
          | _ => ⟨0, .gone⟩)
        | _ => ⟨0, .gone⟩) }

end Go.Proofs.Ytbmgaebhcomjaaa
