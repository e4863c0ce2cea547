/- Shared texts of this seat's proofs, joined: an abstract interpreter of the compiled code, its soundness, contracts of the program's functions. -/
import Derived.Orders
import Derived.Below
import Derived.Laws.StructEq
import Derived.Laws.BytesString
import Derived.Laws.Externs
import Derived.Laws.Slices
import Derived.Laws.Small
import Derived.Laws.Cells
import Derived.Laws.Rows
import Derived.Laws.CopyRow
import Derived.Laws.AppendOwn

/- The definitions of an abstract interpreter for the model's structured code: values without addresses, a heap of named objects, the code with its types resolved. Nothing is claimed here but small laws of the heap. -/
namespace Go.Abs

/-- A scalar: what one cell holds. A pointer is an object's name and a place in it; a slice has no capacity. -/
inductive Sc where
  | junk
  | bool (b : Bool)
  | int (k : IntKind) (n : Int)
  | str (s : List UInt8)
  | nilp
  | ptr (k off : Nat)
  | nils
  | slice (k off len sz : Nat)
  | nilm
  | map (k : Nat)
  | nilf
  | func (f : FuncId) (caps : List (Nat × Nat))
  | nili
  deriving DecidableEq, Repr, Inhabited

/-- What a temporary holds. (raw: a pointer to the begin of a block.) -/
inductive AV where
  | any
  | sc (s : Sc)
  | agg (cs : List Sc)
  | tup (vs : List (Sc ⊕ List Sc))
  | raw (b : Nat)
  deriving DecidableEq, Repr, Inhabited

/-- An object: cells of the call's own; cells that are only read; a map. -/
inductive AObj where
  | cells (vs : List Sc)
  | ro (vs : List Sc)
  | map (k : IntKind) (es : List (Int × Sc))
  deriving DecidableEq, Repr, Inhabited

def AObj.owned : AObj → Bool
  | .ro _ => false
  | _ => true

def find (k : Nat) : List (Nat × AObj) → Option AObj
  | [] => none
  | (j, o) :: r => bif Nat.beq k j then some o else find k r

def put (k : Nat) (o : AObj) : List (Nat × AObj) → List (Nat × AObj)
  | [] => [(k, o)]
  | (j, x) :: r => bif Nat.beq k j then (k, o) :: r else (j, x) :: put k o r

def drop (k : Nat) : List (Nat × AObj) → List (Nat × AObj)
  | [] => []
  | (j, x) :: r => bif Nat.beq k j then drop k r else (j, x) :: drop k r

structure Heap where
  next : Nat
  objs : List (Nat × AObj)
  deriving DecidableEq, Repr, Inhabited

def Heap.get (h : Heap) (k : Nat) : Option AObj := find k h.objs
def Heap.set (h : Heap) (k : Nat) (o : AObj) : Heap := ⟨h.next, Abs.put k o h.objs⟩
def Heap.del (h : Heap) (k : Nat) : Heap := ⟨h.next, Abs.drop k h.objs⟩
def Heap.alloc (h : Heap) (o : AObj) : Heap := ⟨h.next + 1, (h.next, o) :: h.objs⟩

theorem beq_ite {α : Type} (k j : Nat) (x y : α) : (bif Nat.beq k j then x else y) = if k = j then x else y := by
  by_cases h : k = j
  · subst h; simp
  · have : Nat.beq k j = false := by
      cases hb : Nat.beq k j with
      | true => exact absurd (Nat.eq_of_beq_eq_true hb) h
      | false => rfl
    simp [this, h]

theorem find_put (k j : Nat) (o : AObj) (l : List (Nat × AObj)) : find j (put k o l) = if j = k then some o else find j l := by
  induction l with
  | nil => simp [put, find, beq_ite]
  | cons x r ih =>
    obtain ⟨i, x⟩ := x
    simp only [put, beq_ite, find]
    by_cases h : k = i
    · subst h; simp only [if_true, find, beq_ite]
      by_cases hj : j = k <;> simp [hj]
    · simp only [h, if_false, find, beq_ite, ih]
      by_cases hj : j = k
      · subst hj; simp [h]
      · simp [hj]

theorem find_drop (k j : Nat) (l : List (Nat × AObj)) : find j (drop k l) = if j = k then none else find j l := by
  induction l with
  | nil => simp [drop, find]
  | cons x r ih =>
    obtain ⟨i, x⟩ := x
    simp only [drop, beq_ite, find]
    by_cases h : k = i
    · subst h; simp only [if_true, ih]
      by_cases hj : j = k <;> simp [hj]
    · simp only [h, if_false, find, beq_ite, ih]
      by_cases hj : j = k
      · subst hj; simp [h]
      · simp [hj]

theorem Heap.get_set (h : Heap) (k j : Nat) (o : AObj) : (h.set k o).get j = if j = k then some o else h.get j := find_put k j o h.objs
theorem Heap.get_del (h : Heap) (k j : Nat) : (h.del k).get j = if j = k then none else h.get j := find_drop k j h.objs
theorem Heap.get_alloc (h : Heap) (j : Nat) (o : AObj) : (h.alloc o).get j = if j = h.next then some o else h.get j := by
  simp [Heap.alloc, Heap.get, find, beq_ite]
theorem Heap.next_set (h : Heap) (k : Nat) (o : AObj) : (h.set k o).next = h.next := rfl
theorem Heap.next_del (h : Heap) (k : Nat) : (h.del k).next = h.next := rfl
theorem Heap.next_alloc (h : Heap) (o : AObj) : (h.alloc o).next = h.next + 1 := rfl

/-- The temporaries of which something is known. -/
abbrev Env := List (Nat × AV)

def Env.get : Env → Nat → Option AV
  | [], _ => none
  | (j, v) :: r, t => bif Nat.beq t j then some v else Env.get r t

def Env.put : Env → Nat → AV → Env
  | [], t, v => [(t, v)]
  | (j, x) :: r, t, v => bif Nat.beq t j then (t, v) :: r else (j, x) :: Env.put r t v

theorem Env.get_put (e : Env) (t u : Nat) (v : AV) : (e.put t v).get u = if u = t then some v else e.get u := by
  induction e with
  | nil => simp [Env.put, Env.get, beq_ite]
  | cons x r ih =>
    obtain ⟨i, x⟩ := x
    simp only [Env.put, beq_ite, Env.get]
    by_cases h : t = i
    · subst h; simp only [if_true, Env.get, beq_ite]
      by_cases hj : u = t <;> simp [hj]
    · simp only [h, if_false, Env.get, beq_ite, ih]
      by_cases hj : u = t
      · subst hj; simp [h]
      · simp [hj]

def Env.close (outer e : Env) : List Nat → Env
  | [] => outer
  | t :: ts => Env.close (outer.put t ((e.get t).getD .any)) e ts

inductive Opd where
  | tmp (t : Nat)
  | const (v : AV)
  deriving DecidableEq, Repr, Inhabited

def Opd.ev (e : Env) : Opd → Option AV
  | .tmp t => e.get t
  | .const v => some v

def Opd.evs (e : Env) (x : Opd) : Option Sc :=
  match x.ev e with
  | some (.sc s) => some s
  | _ => none

def AV.cells : AV → Option (List Sc)
  | .sc s => some [s]
  | .agg cs => some cs
  | _ => none

def wr (k : IntKind) (n : Int) : Int :=
  match k with
  | .u8 => n % 256
  | .u16 => n % 65536
  | .u32 => n % 4294967296
  | .u64 => n % 18446744073709551616
  | .i8 => if n % 256 ≥ 128 then n % 256 - 256 else n % 256
  | .i16 => if n % 65536 ≥ 32768 then n % 65536 - 65536 else n % 65536
  | .i32 => if n % 4294967296 ≥ 2147483648 then n % 4294967296 - 4294967296 else n % 4294967296
  | .i64 => if n % 18446744073709551616 ≥ 9223372036854775808 then n % 18446744073709551616 - 18446744073709551616 else n % 18446744073709551616

theorem wr_eq (k : IntKind) (n : Int) : wr k n = k.wrap n := by
  cases k <;> simp [wr, IntKind.wrap, IntKind.bits, IntKind.signed]

def bitop (op : BinOp) (k : IntKind) (x y : Int) : Int :=
  let a := BitVec.ofInt k.bits x
  let b := BitVec.ofInt k.bits y
  match op with
  | .and => wr k (a &&& b).toNat
  | .or => wr k (a ||| b).toNat
  | .xor => wr k (a ^^^ b).toNat
  | _ => wr k (a &&& ~~~b).toNat

def intBin (op : BinOp) (k : IntKind) (a : Int) (k' : IntKind) (b : Int) : Option Sc :=
  match op with
  | .shl => if b < 0 then none else some (.int k (wr k (a * 2 ^ (min b.toNat k.bits))))
  | .shr => if b < 0 then none else some (.int k (a.fdiv (2 ^ (min b.toNat k.bits))))
  | .add => if k = k' then some (.int k (wr k (a + b))) else none
  | .sub => if k = k' then some (.int k (wr k (a - b))) else none
  | .mul => if k = k' then some (.int k (wr k (a * b))) else none
  | .quo => if k = k' then if b = 0 then none else some (.int k (wr k (a.tdiv b))) else none
  | .rem => if k = k' then if b = 0 then none else some (.int k (a.tmod b)) else none
  | .and => if k = k' then some (.int k (bitop .and k a b)) else none
  | .or => if k = k' then some (.int k (bitop .or k a b)) else none
  | .xor => if k = k' then some (.int k (bitop .xor k a b)) else none
  | .andNot => if k = k' then some (.int k (bitop .andNot k a b)) else none
  | .eql => if k = k' then some (.bool (a == b)) else none
  | .neq => if k = k' then some (.bool (a != b)) else none
  | .lss => if k = k' then some (.bool (decide (a < b))) else none
  | .leq => if k = k' then some (.bool (decide (a ≤ b))) else none
  | .gtr => if k = k' then some (.bool (decide (a > b))) else none
  | .geq => if k = k' then some (.bool (decide (a ≥ b))) else none

def strBin (op : BinOp) (a b : List UInt8) : Option Sc :=
  match op with
  | .add => if a.length + b.length ≤ 9223372036854775807 then some (.str (a ++ b)) else none
  | .eql => some (.bool (a == b))
  | .neq => some (.bool (!(a == b)))
  | _ => none

/-- Is this value of a pointer's (0), slice's (1), map's (2), function's (3) type nil? -/
def isNil : Nat → Sc → Option Bool
  | 0, .nilp => some true
  | 0, .ptr .. => some false
  | 1, .nils => some true
  | 1, .slice .. => some false
  | 2, .nilm => some true
  | 2, .map _ => some false
  | 3, .nilf => some true
  | 3, .func .. => some false
  | _, _ => none

inductive AOp where
  | mov (x : Opd)
  | pick (c a b : Opd)
  | bin (op : BinOp) (x y : Opd)
  | eqB (neg : Bool) (x y : Opd)
  | eqN (neg : Bool) (kd : Nat) (x : Opd)
  | eqA (neg : Bool) (n : Nat) (x y : Opd)
  | not (x : Opd)
  | neg (x : Opd)
  | conv (k : IntKind) (x : Opd)
  | b2s (x : Opd)
  | minmax (max : Bool) (x y : Opd)
  | extract (x : Opd) (i : Nat)
  | field (x : Opd) (off : Nat) (n : Option Nat)
  | build (zero : List Sc) (parts : List (Nat × Nat × Opd))
  | index (x i : Opd)
  | sliceS (x : Opd) (lo hi : Option Opd)
  | sliceV (sz : Nat) (x : Opd) (lo hi mx : Option Opd)
  | sliceA (n sz : Nat) (x : Opd) (lo hi : Option Opd)
  | nilCheck (x : Opd)
  | fieldAddr (x : Opd) (off : Nat)
  | indexAddr (sz : Nat) (x i : Opd)
  | indexAddrA (n sz : Nat) (x i : Opd)
  | load (n : Option Nat) (x : Opd)
  | store (n : Nat) (x v : Opd)
  | alloc (zero : List Sc)
  | box (v : Opd)
  | buildSlice (zero : List Sc) (len : Nat) (parts : List (Nat × Nat × Opd))
  | makeSlice (zero : List Sc) (bytes : Nat) (len cap : Opd)
  | makeMap (k : IntKind)
  | mkfunc (f : FuncId) (caps : List Opd)
  | lookup (k : IntKind) (zero : Sc) (ok : Bool) (m x : Opd)
  | mapUpdate (k : IntKind) (m x v : Opd)
  | delete (k : IntKind) (m x : Opd)
  | lenM (m : Opd)
  | len (str : Bool) (x : Opd)
  | append (sz bytes : Nat) (s x : Opd)
  | copy (sz : Nat) (d s : Opd)
  | clear (zero : List Sc) (x : Opd)
  | add64 (x y c : Opd)
  | call (f : FuncId) (args : List Opd)
  | callv (f : Opd) (args : List Opd)
  deriving DecidableEq, Repr, Inhabited

def Opd.tmps : Opd → List Nat
  | .tmp t => [t]
  | .const _ => []

def optTmps : Option Opd → List Nat
  | some x => x.tmps
  | none => []

/-- The slots that an operation's operands name. -/
def AOp.tmps : AOp → List Nat
  | .mov x | .not x | .neg x | .conv _ x | .b2s x | .extract x _ | .field x _ _ | .nilCheck x | .fieldAddr x _ | .load _ x | .box x | .eqN _ _ x | .lenM x | .len _ x | .clear _ x => x.tmps
  | .pick a b c | .add64 a b c | .mapUpdate _ a b c => a.tmps ++ (b.tmps ++ c.tmps)
  | .bin _ a b | .eqB _ a b | .eqA _ _ a b | .minmax _ a b | .index a b | .indexAddr _ a b | .indexAddrA _ _ a b | .store _ a b | .makeSlice _ _ a b | .lookup _ _ _ a b | .delete _ a b | .append _ _ a b | .copy _ a b => a.tmps ++ b.tmps
  | .build _ ps | .buildSlice _ _ ps => ps.flatMap fun p => p.2.2.tmps
  | .sliceS x lo hi | .sliceA _ _ x lo hi => x.tmps ++ (optTmps lo ++ optTmps hi)
  | .sliceV _ x lo hi mx => x.tmps ++ (optTmps lo ++ (optTmps hi ++ optTmps mx))
  | .alloc _ | .makeMap _ => []
  | .mkfunc _ l => l.flatMap Opd.tmps
  | .call _ l => l.flatMap Opd.tmps
  | .callv g l => g.tmps ++ l.flatMap Opd.tmps

structure AOper where
  dst : Option Nat
  op : AOp
  guard : Option (Nat × Bool)
  deriving DecidableEq, Repr, Inhabited

/-- An operation of a region that draws its order: its number; those that must have come up ahead of it. -/
structure DOper where
  id : Nat
  op : AOper
  pre : List Nat
  kind : Nat
  deriving DecidableEq, Repr, Inhabited

inductive ACode where
  | skip
  | region (ops : List AOper) (keep : List Nat)
  | regionD (ops : List DOper) (keep : List Nat)
  | seq (a b : ACode)
  | cond (c : Opd) (a b : ACode)
  | block (id : Nat) (c : ACode)
  | loop (c : ACode)
  | exit (id : Nat)
  | ret
  | bad
  deriving Repr, Inhabited

inductive ARes where
  | tmp (t : Nat)
  | cell (t : Nat) (n : Option Nat)
  deriving DecidableEq, Repr, Inhabited

structure AFunc where
  nparams : Nat
  ntmps : Nat
  pers : List Nat
  results : List ARes
  body : ACode
  deriving Repr, Inhabited

/-! ### One operation -/

def mfind (x : Int) : List (Int × Sc) → Option Sc
  | [] => none
  | (y, v) :: r => if x = y then some v else mfind x r

def mput (x : Int) (v : Sc) : List (Int × Sc) → List (Int × Sc)
  | [] => [(x, v)]
  | (y, u) :: r => if x = y then (x, v) :: r else (y, u) :: mput x v r

def mdel (x : Int) : List (Int × Sc) → List (Int × Sc)
  | [] => []
  | (y, u) :: r => if x = y then r else (y, u) :: mdel x r

def splice (vs : List Sc) (off : Nat) (cs : List Sc) : List Sc := vs.take off ++ (cs ++ vs.drop (off + cs.length))

def Heap.read (h : Heap) (k : Nat) : Option (List Sc) :=
  match h.get k with
  | some (.cells vs) | some (.ro vs) => some vs
  | _ => none

/-- n cells from a place on. -/
def Heap.cellsAt (h : Heap) (k off n : Nat) : Option (List Sc) :=
  match h.read k with
  | some vs => if off + n ≤ vs.length then some ((vs.drop off).take n) else none
  | none => none

def Heap.write (h : Heap) (k off : Nat) (cs : List Sc) : Option Heap :=
  match h.get k with
  | some (.cells vs) => if off + cs.length ≤ vs.length then some (h.set k (.cells (splice vs off cs))) else none
  | _ => none

def fillA (cells : List Sc) : List (Nat × Nat × AV) → Option (List Sc)
  | [] => some cells
  | (off, size, v) :: rest =>
    match v.cells with
    | some cs => if cs.length = size ∧ off + size ≤ cells.length then fillA (splice cells off cs) rest else none
    | none => none

def evParts (e : Env) : List (Nat × Nat × Opd) → Option (List (Nat × Nat × AV))
  | [] => some []
  | (off, size, x) :: r =>
    match x.ev e, evParts e r with
    | some v, some l => some ((off, size, v) :: l)
    | _, _ => none

def evAll (e : Env) : List Opd → Option (List AV)
  | [] => some []
  | x :: r =>
    match x.ev e, evAll e r with
    | some v, some l => some (v :: l)
    | _, _ => none

def evPtrs (e : Env) : List Opd → Option (List (Nat × Nat))
  | [] => some []
  | x :: r =>
    match x.evs e, evPtrs e r with
    | some (.ptr k off), some l => some ((k, off) :: l)
    | _, _ => none

/-- An index given by an operand, or what stands for none. -/
def evIdx (e : Env) (none' : Nat) : Option Opd → Option Nat
  | none => some none'
  | some x =>
    match x.evs e with
    | some (.int _ n) => if 0 ≤ n then some n.toNat else none
    | _ => none

def byteOfSc : Sc → Option UInt8
  | .int .u8 n => some (UInt8.ofNat n.toNat)
  | _ => none

def bytesOf : List Sc → Option (List UInt8)
  | [] => some []
  | s :: r =>
    match byteOfSc s, bytesOf r with
    | some b, some l => some (b :: l)
    | _, _ => none

def maxL : Nat := 9223372036854775807

/-- The cells that a slice or a string hands to append or copy: how many elements, the cells. -/
def srcCells (h : Heap) (sz : Nat) (n? : Option Nat) : Sc → Option (Nat × List Sc)
  | .nils => some (0, [])
  | .slice k off len sz' =>
    let n := n?.getD len
    if sz' = sz ∧ n ≤ len then (h.cellsAt k off (n * sz)).map fun cs => (n, cs) else none
  | .str s =>
    let n := n?.getD s.length
    if sz = 1 ∧ n ≤ s.length then some (n, (s.take n).map fun b => .int .u8 b.toNat) else none
  | _ => none

def lenOfSc : Sc → Option Nat
  | .nils => some 0
  | .slice _ _ len _ => some len
  | .str s => some s.length
  | _ => none

/-- The length of a string, of a slice. -/
def lenOfK : Bool → Sc → Option Nat
  | false, .nils => some 0
  | false, .slice _ _ len _ => some len
  | true, .str s => some s.length
  | _, _ => none

def alike : List Sc → List Sc → Option Bool
  | [], [] => some true
  | .int k a :: x, .int k' b :: y => if k = k' then (alike x y).map fun r => a == b && r else none
  | _, _ => none

/-- A part of an aggregate: one cell; n cells. -/
def fieldV (cs : List Sc) (off : Nat) : Option Nat → Option AV
  | none => (cs[off]?).map .sc
  | some n => if off + n ≤ cs.length then some (.agg ((cs.drop off).take n)) else none

/-- What a lookup hands back. -/
def lookV (zero : Sc) (ok : Bool) : Option Sc → AV
  | some v => if ok then .tup [.inl v, .inl (.bool true)] else .sc v
  | none => if ok then .tup [.inl zero, .inl (.bool false)] else .sc zero

def aop (o : AOp) (e : Env) (h : Heap) : Option (AV × Heap) :=
  match o with
  | .mov x => (x.ev e).map fun v => (v, h)
  | .pick c a b =>
    match c.evs e with
    | some (.bool t) => if t then (a.ev e).map fun v => (v, h) else (b.ev e).map fun v => (v, h)
    | _ => none
  | .bin op x y =>
    match x.evs e, y.evs e with
    | some (.int k a), some (.int k' b) => (intBin op k a k' b).map fun s => (.sc s, h)
    | some (.str a), some (.str b) => (strBin op a b).map fun s => (.sc s, h)
    | _, _ => none
  | .eqB neg x y =>
    match x.evs e, y.evs e with
    | some (.bool a), some (.bool b) => some (.sc (.bool (if neg then !(a == b) else a == b)), h)
    | _, _ => none
  | .eqN neg kd x =>
    match x.evs e with
    | some s => (isNil kd s).map fun b => (.sc (.bool (if neg then !b else b)), h)
    | none => none
  | .eqA neg n x y =>
    match x.ev e, y.ev e with
    | some (.agg a), some (.agg b) => if a.length = n then (alike a b).map fun r => (.sc (.bool (if neg then !r else r)), h) else none
    | _, _ => none
  | .not x =>
    match x.evs e with
    | some (.bool b) => some (.sc (.bool !b), h)
    | _ => none
  | .neg x =>
    match x.evs e with
    | some (.int k n) => some (.sc (.int k (wr k (0 - n))), h)
    | _ => none
  | .conv k x =>
    match x.evs e with
    | some (.int _ n) => some (.sc (.int k (wr k n)), h)
    | _ => none
  | .b2s x =>
    match x.evs e with
    | some .nils => some (.sc (.str []), h)
    | some (.slice k off len sz) =>
      if sz = 1 then
        match h.cellsAt k off len with
        | some cs => (bytesOf cs).map fun b => (.sc (.str b), h)
        | none => none
      else none
    | _ => none
  | .minmax mx x y =>
    match x.evs e, y.evs e with
    | some (.int k a), some (.int k' b) => if k = k' then some (.sc (.int k (if mx then (if b > a then b else a) else (if b < a then b else a))), h) else none
    | _, _ => none
  | .extract x i =>
    match x.ev e with
    | some (.tup vs) =>
      match vs[i]? with
      | some (.inl s) => some (.sc s, h)
      | some (.inr cs) => some (.agg cs, h)
      | none => none
    | _ => none
  | .field x off n =>
    match x.ev e with
    | some (.agg cs) => (fieldV cs off n).map fun v => (v, h)
    | _ => none
  | .build zero parts =>
    match evParts e parts with
    | some ps => (fillA zero ps).map fun cs => (.agg cs, h)
    | none => none
  | .index x i =>
    match x.evs e, i.evs e with
    | some (.str s), some (.int _ n) =>
      if 0 ≤ n then (s[n.toNat]?).map fun b => (.sc (.int .u8 b.toNat), h) else none
    | _, _ => none
  | .sliceS x lo hi =>
    match x.evs e with
    | some (.str s) =>
      match evIdx e 0 lo, evIdx e s.length hi with
      | some l, some u => if l ≤ u ∧ u ≤ s.length then some (.sc (.str ((s.drop l).take (u - l))), h) else none
      | _, _ => none
    | _ => none
  | .sliceV sz x lo hi mx =>
    match x.evs e with
    | some .nils =>
      match evIdx e 0 lo, evIdx e 0 hi, evIdx e 0 mx with
      | some 0, some 0, some 0 => some (.sc .nils, h)
      | _, _, _ => none
    | some (.slice k off len sz') =>
      match evIdx e 0 lo, evIdx e len hi, evIdx e len mx with
      | some l, some u, some m => if sz' = sz ∧ l ≤ u ∧ u ≤ m ∧ m ≤ len then some (.sc (.slice k (off + l * sz) (u - l) sz), h) else none
      | _, _, _ => none
    | _ => none
  | .sliceA n sz x lo hi =>
    match x.evs e with
    | some (.ptr k off) =>
      match evIdx e 0 lo, evIdx e n hi, h.read k with
      | some l, some u, some vs => if l ≤ u ∧ u ≤ n ∧ off + n * sz ≤ vs.length ∧ n ≤ maxL then some (.sc (.slice k (off + l * sz) (u - l) sz), h) else none
      | _, _, _ => none
    | _ => none
  | .nilCheck x =>
    match x.evs e with
    | some (.ptr k off) => some (.sc (.ptr k off), h)
    | some (.func f caps) => some (.sc (.func f caps), h)
    | _ => none
  | .fieldAddr x off =>
    match x.evs e with
    | some (.ptr k o) => some (.sc (.ptr k (o + off)), h)
    | _ => none
  | .indexAddr sz x i =>
    match x.evs e, i.evs e with
    | some (.slice k off len sz'), some (.int _ n) => if sz' = sz ∧ 0 ≤ n ∧ n < len then some (.sc (.ptr k (off + n.toNat * sz)), h) else none
    | _, _ => none
  | .indexAddrA n sz x i =>
    match x.evs e, i.evs e with
    | some (.ptr k off), some (.int _ j) => if 0 ≤ j ∧ j < n then some (.sc (.ptr k (off + j.toNat * sz)), h) else none
    | _, _ => none
  | .load n x =>
    match x.evs e with
    | some (.ptr k off) =>
      match n with
      | none =>
        match h.read k with
        | some vs => (vs[off]?).map fun s => (.sc s, h)
        | none => none
      | some n => (h.cellsAt k off n).map fun cs => (.agg cs, h)
    | _ => none
  | .store n x v =>
    match x.evs e, (v.ev e).bind AV.cells with
    | some (.ptr k off), some cs => if cs.length = n then (h.write k off cs).map fun h' => (.any, h') else none
    | _, _ => none
  | .alloc zero => some (.sc (.ptr h.next 0), h.alloc (.cells zero))
  | .box v =>
    match (v.ev e).bind AV.cells with
    | some cs => some (.sc (.ptr h.next 0), h.alloc (.cells cs))
    | none => none
  | .buildSlice zero len parts =>
    match evParts e parts with
    | some ps =>
      if len * zero.length ≤ 16777216 then
        (fillA (List.replicate len zero).flatten ps).map fun cs => (.sc (.slice h.next 0 len zero.length), h.alloc (.cells cs))
      else none
    | none => none
  | .makeSlice zero bytes len cap =>
    match len.evs e, cap.evs e with
    | some (.int .i64 l), some (.int .i64 c) =>
      if 0 ≤ l ∧ l ≤ c ∧ c ≤ 9223372036854775807 ∧ bytes * c ≤ 281474976710656 then
        some (.sc (.slice h.next 0 l.toNat zero.length), h.alloc (.cells (List.replicate c.toNat zero).flatten))
      else none
    | _, _ => none
  | .makeMap k => some (.sc (.map h.next), h.alloc (.map k []))
  | .mkfunc f caps => (evPtrs e caps).map fun l => (.sc (.func f l), h)
  | .lookup k zero ok m x =>
    match m.evs e, x.evs e with
    | some .nilm, some (.int k' _) => if k' = k then some (lookV zero ok none, h) else none
    | some (.map r), some (.int k' n) =>
      match h.get r with
      | some (.map k'' es) =>
        if k' = k ∧ k'' = k then some (lookV zero ok (mfind n es), h) else none
      | _ => none
    | _, _ => none
  | .mapUpdate k m x v =>
    match m.evs e, x.evs e, v.evs e with
    | some (.map r), some (.int k' n), some s =>
      match h.get r with
      | some (.map k'' es) => if k' = k ∧ k'' = k then some (.any, h.set r (.map k (mput n s es))) else none
      | _ => none
    | _, _, _ => none
  | .delete k m x =>
    match m.evs e, x.evs e with
    | some (.map r), some (.int k' n) =>
      match h.get r with
      | some (.map k'' es) => if k' = k ∧ k'' = k then some (.tup [], h.set r (.map k (mdel n es))) else none
      | _ => none
    | _, _ => none
  | .lenM m =>
    match m.evs e with
    | some .nilm => some (.sc (.int .i64 0), h)
    | some (.map r) =>
      match h.get r with
      | some (.map _ es) => some (.sc (.int .i64 es.length), h)
      | _ => none
    | _ => none
  | .len str x =>
    match x.evs e with
    | some s => (lenOfK str s).map fun n => (.sc (.int .i64 n), h)
    | none => none
  | .append sz bytes s x =>
    match s.evs e, (x.evs e).bind (srcCells h sz none) with
    | some .nils, some (m, news) =>
      if m = 0 then some (.sc .nils, h)
      else if m * bytes ≤ 140737488355328 ∧ m ≤ maxL then some (.sc (.slice h.next 0 m sz), h.alloc (.cells news)) else none
    | some (.slice k off n sz'), some (m, news) =>
      match h.get k with
      | some (.cells vs) =>
        if sz' = sz ∧ off + n * sz ≤ vs.length ∧ (n + m) * bytes ≤ 140737488355328 ∧ n + m ≤ maxL then
          some (.sc (.slice h.next 0 (n + m) sz), (h.del k).alloc (.cells ((vs.drop off).take (n * sz) ++ news)))
        else none
      | _ => none
    | _, _ => none
  | .copy sz d s =>
    match d.evs e, s.evs e with
    | some ds, some ss =>
      match lenOfSc ds, lenOfSc ss with
      | some dl, some sl =>
        match srcCells h sz (some (min sl dl)) ss with
        | some (n, cs) =>
          match ds with
          | .slice k off _ sz' => if sz' = sz then (h.write k off cs).map fun h' => (.sc (.int .i64 n), h') else none
          | _ => none
        | none => none
      | _, _ => none
    | _, _ => none
  | .clear zero x =>
    match x.evs e with
    | some .nils => some (.tup [], h)
    | some (.slice k off n sz) =>
      if sz = zero.length then (h.write k off (List.replicate n zero).flatten).map fun h' => (.tup [], h') else none
    | _ => none
  | .add64 x y c =>
    match x.evs e, y.evs e, c.evs e with
    | some (.int .u64 a), some (.int .u64 b), some (.int .u64 d) =>
      if 0 ≤ a ∧ 0 ≤ b ∧ 0 ≤ d ∧ d ≤ 1 then
        some (.tup [.inl (.int .u64 ((a + b + d) % 18446744073709551616)), .inl (.int .u64 ((a + b + d) / 18446744073709551616))], h)
      else none
    | _, _, _ => none
  | .call _ _ => none
  | .callv _ _ => none

end Go.Abs

/- When an abstract value, an abstract heap tells of the model's memory; how the relation is kept when a block is laid or written. -/
namespace Go.Abs
open Go.RowKit

/-- Which block a name stands for; where in it the object begins; how many cells it may have. -/
abbrev Names := Nat → Option (Nat × Nat × Nat)

def Names.le (β β' : Names) : Prop := ∀ k x, β k = some x → β' k = some x
theorem Names.le_refl (β : Names) : β.le β := fun _ _ h => h
theorem Names.le_trans {a b c : Names} (h : a.le b) (k : b.le c) : a.le c := fun i x hx => k i x (h i x hx)

def All2 {α γ : Type} (R : α → γ → Prop) : List α → List γ → Prop
  | [], [] => True
  | a :: l, c :: m => R a c ∧ All2 R l m
  | _, _ => False

theorem All2.ind {α γ : Type} {R : α → γ → Prop} {M : List α → List γ → Prop} (h0 : M [] []) (h1 : ∀ a c l m, R a c → All2 R l m → M l m → M (a :: l) (c :: m)) :
    ∀ (l : List α) (m : List γ), All2 R l m → M l m
  | [], [], _ => h0
  | a :: l, c :: m, h => h1 a c l m h.1 h.2 (All2.ind h0 h1 l m h.2)
  | [], _ :: _, h => h.elim
  | _ :: _, [], h => h.elim

def PtrRel (β : Names) (p : Nat × Nat) (v : Value) : Prop := ∃ b o n, β p.1 = some (b, o, n) ∧ v = .pointer (some ⟨b, o + p.2, none⟩)

def ScRel (β : Names) : Sc → Value → Prop
  | .junk, c => c.oneCell' = true
  | .bool b, c => c = .bool b
  | .int k n, c => c = .int k n
  | .str s, c => c = .string ⟨s.toArray⟩
  | .nilp, c => c = .pointer none
  | .ptr k off, c => PtrRel β (k, off) c
  | .nils, c => c = .slice none 0 0
  | .slice k off len sz, c => ∃ a cap, c = .slice (some a) len cap ∧ len ≤ cap ∧ cap ≤ maxL ∧ (∃ y, β k = some y) ∧
      (cap = 0 ∨ ∃ b o n, β k = some (b, o, n) ∧ a = ⟨b, o + off, none⟩ ∧ off + cap * sz ≤ n)
  | .nilm, c => c = .map none
  | .map k, c => ∃ b o n, β k = some (b, o, n) ∧ c = .map (some b)
  | .nilf, c => c = .nilFunc
  | .func f caps, c => ∃ cs : Array Value, c = .func (.func f) #[] cs ∧ All2 (PtrRel β) caps cs.toList
  | .nili, c => c = .nilIface

abbrev CellsRel (β : Names) : List Sc → List Value → Prop := All2 (ScRel β)

def PartRel (β : Names) : Sc ⊕ List Sc → Value → Prop
  | .inl s, c => ScRel β s c
  | .inr vs, c => ∃ cs : Array Value, c = .agg cs ∧ CellsRel β vs cs.toList

def VRel (β : Names) : AV → Value → Prop
  | .any, _ => True
  | .sc s, c => ScRel β s c
  | .agg vs, c => ∃ cs : Array Value, c = .agg cs ∧ CellsRel β vs cs.toList
  | .tup vs, c => ∃ cs : Array Value, c = .tuple cs ∧ All2 (PartRel β) vs cs.toList
  | .raw b, c => c = .pointer (some ⟨b, 0, none⟩)

theorem forall₂_imp {α γ : Type} {R S : α → γ → Prop} (h : ∀ a c, R a c → S a c) {l : List α} {m : List γ} (hl : All2 R l m) : All2 S l m := by
  exact All2.ind (M := All2 S) trivial (fun a c l m hr _ ih => ⟨h a c hr, ih⟩) l m hl

theorem PtrRel.mono {β β' : Names} (hb : β.le β') {p : Nat × Nat} {c : Value} (h : PtrRel β p c) : PtrRel β' p c := by
  obtain ⟨b, o, n, h1, h2⟩ := h
  exact ⟨b, o, n, hb _ _ h1, h2⟩

theorem ScRel.mono {β β' : Names} (hb : β.le β') {s : Sc} {c : Value} (h : ScRel β s c) : ScRel β' s c := by
  cases s <;> try exact h
  case ptr k off => exact PtrRel.mono hb h
  case slice k off len sz =>
    obtain ⟨a, cap, h1, h2, h3, ⟨y, hy⟩, h4⟩ := h
    refine ⟨a, cap, h1, h2, h3, ⟨y, hb _ _ hy⟩, ?_⟩
    rcases h4 with h4 | ⟨b, o, n, h4, h5⟩
    · exact .inl h4
    · exact .inr ⟨b, o, n, hb _ _ h4, h5⟩
  case map k =>
    obtain ⟨b, o, n, h1, h2⟩ := h
    exact ⟨b, o, n, hb _ _ h1, h2⟩
  case func f caps =>
    obtain ⟨cs, h1, h2⟩ := h
    exact ⟨cs, h1, forall₂_imp (fun _ _ => PtrRel.mono hb) h2⟩

theorem CellsRel.mono {β β' : Names} (hb : β.le β') {l : List Sc} {m : List Value} (h : CellsRel β l m) : CellsRel β' l m :=
  forall₂_imp (fun _ _ => ScRel.mono hb) h

theorem PartRel.mono {β β' : Names} (hb : β.le β') {s : Sc ⊕ List Sc} {c : Value} (h : PartRel β s c) : PartRel β' s c := by
  cases s with
  | inl s => exact ScRel.mono hb h
  | inr l => obtain ⟨cs, h1, h2⟩ := h; exact ⟨cs, h1, CellsRel.mono hb h2⟩

theorem VRel.mono {β β' : Names} (hb : β.le β') {v : AV} {c : Value} (h : VRel β v c) : VRel β' v c := by
  cases v with
  | any => trivial
  | sc s => exact ScRel.mono hb h
  | agg vs => obtain ⟨cs, h1, h2⟩ := h; exact ⟨cs, h1, CellsRel.mono hb h2⟩
  | tup vs => obtain ⟨cs, h1, h2⟩ := h; exact ⟨cs, h1, forall₂_imp (fun _ _ => PartRel.mono hb) h2⟩
  | raw b => exact h

theorem ScRel.oneCell {β : Names} {s : Sc} {c : Value} (h : ScRel β s c) : c.oneCell' = true := by
  cases s <;> simp only [ScRel] at h
  case junk => exact h
  case ptr => obtain ⟨b, o, n, _, rfl⟩ := h; rfl
  case slice => obtain ⟨a, cap, rfl, _⟩ := h; rfl
  case map => obtain ⟨b, o, n, _, rfl⟩ := h; rfl
  case func => obtain ⟨cs, rfl, _⟩ := h; rfl
  all_goals (subst h; rfl)

/-! ### pointwise and by lists -/

theorem forall₂_length {α γ : Type} {R : α → γ → Prop} {l : List α} {m : List γ} (h : All2 R l m) : l.length = m.length := by
  exact All2.ind (R := R) (M := fun l m => l.length = m.length) rfl (fun _ _ _ _ _ _ ih => by simp [ih]) l m h

theorem forall₂_get {α γ : Type} {R : α → γ → Prop} {l : List α} {m : List γ} (h : All2 R l m) : ∀ (i : Nat) (a : α), l[i]? = some a → ∃ c, m[i]? = some c ∧ R a c := by
  refine All2.ind (M := fun l m => ∀ (i : Nat) (a : α), l[i]? = some a → ∃ c, m[i]? = some c ∧ R a c) ?_ ?_ l m h
  · intro i a hi; simp at hi
  · intro a0 c0 l m hac _ ih i a hi
    cases i with
    | zero => simp at hi; subst hi; exact ⟨_, by simp, hac⟩
    | succ i => simp at hi; obtain ⟨c, h1, h2⟩ := ih i a hi; exact ⟨c, by simpa using h1, h2⟩

theorem forall₂_of_get {α γ : Type} {R : α → γ → Prop} : ∀ {l : List α} {m : List γ}, l.length = m.length → (∀ (i : Nat) (a : α), l[i]? = some a → ∃ c, m[i]? = some c ∧ R a c) → All2 R l m
  | [], [], _, _ => trivial
  | [], _ :: _, h, _ => by simp at h
  | _ :: _, [], h, _ => by simp at h
  | a :: l, c :: m, hl, h => by
    refine ⟨?_, forall₂_of_get (by simpa using hl) ?_⟩
    · obtain ⟨c', h1, h2⟩ := h 0 a (by simp)
      simp at h1; subst h1; exact h2
    · intro i x hx
      obtain ⟨c', h1, h2⟩ := h (i + 1) x (by simpa using hx)
      exact ⟨c', by simpa using h1, h2⟩

theorem forall₂_append {α γ : Type} {R : α → γ → Prop} {l l' : List α} {m m' : List γ} (h : All2 R l m) (h' : All2 R l' m') : All2 R (l ++ l') (m ++ m') := by
  exact All2.ind (M := fun l m => All2 R (l ++ l') (m ++ m')) h' (fun a c l m hr _ ih => (show R a c ∧ All2 R (l ++ l') (m ++ m') from ⟨hr, ih⟩)) l m h

/-- From cell o on the row c holds what vs tells. -/
def RowRel (β : Names) (vs : List Sc) (c : Array Value) (o : Nat) : Prop := ∀ (i : Nat) (s : Sc), vs[i]? = some s → ∃ u, c[o + i]? = some u ∧ ScRel β s u

theorem RowRel.mono {β β' : Names} (hb : β.le β') {vs : List Sc} {c : Array Value} {o : Nat} (h : RowRel β vs c o) : RowRel β' vs c o :=
  fun i s hi => let ⟨u, h1, h2⟩ := h i s hi; ⟨u, h1, ScRel.mono hb h2⟩

/-- A map's stamps lie below its clock; no two are one. -/
def BornOk (l : List MapEntry) (clock : Nat) : Prop := (∀ x ∈ l, x.born < clock) ∧ (l.map (·.born)).Nodup

/-- What an object tells of a block. -/
def ORel (β : Names) (B : Nat) (H : Array Obj) (b o n : Nat) : AObj → Prop
  | .cells vs => B ≤ b ∧ ∃ c e, H[b]? = some (.cells c e (0, 0)) ∧ o + n ≤ c.size ∧ vs.length ≤ n ∧ RowRel β vs c o
  | .ro vs => b < B ∧ ∃ c e fr, H[b]? = some (.cells c e fr) ∧ o + n ≤ c.size ∧ vs.length ≤ n ∧ RowRel β vs c o
  | .map k es => B ≤ b ∧ ∃ ents clock, H[b]? = some (.map ents clock) ∧ All2 (fun (p : Int × Sc) (en : MapEntry) => en.key = .int k p.1 ∧ ScRel β p.2 en.val) es ents.toList ∧ BornOk ents.toList clock

theorem ORel.mono {β β' : Names} (hb : β.le β') {B : Nat} {H : Array Obj} {b o n : Nat} {x : AObj} (h : ORel β B H b o n x) : ORel β' B H b o n x := by
  cases x with
  | cells vs => obtain ⟨h0, c, e, h1, h2, h3, h4⟩ := h; exact ⟨h0, c, e, h1, h2, h3, h4.mono hb⟩
  | ro vs => obtain ⟨h0, c, e, fr, h1, h2, h3, h4⟩ := h; exact ⟨h0, c, e, fr, h1, h2, h3, h4.mono hb⟩
  | map k es => obtain ⟨h0, c, e, h1, h2, h3⟩ := h; exact ⟨h0, c, e, h1, forall₂_imp (fun _ _ ⟨a, b⟩ => ⟨a, ScRel.mono hb b⟩) h2, h3⟩

/-- The same block, the same tale. -/
theorem ORel.same {β : Names} {B : Nat} {H H' : Array Obj} {b o n : Nat} {x : AObj} (h : ORel β B H b o n x) (hs : H'[b]? = H[b]?) : ORel β B H' b o n x := by
  cases x with
  | cells vs => obtain ⟨h0, c, e, h1, h2⟩ := h; exact ⟨h0, c, e, hs.trans h1, h2⟩
  | ro vs => obtain ⟨h0, c, e, fr, h1, h2⟩ := h; exact ⟨h0, c, e, fr, hs.trans h1, h2⟩
  | map k es => obtain ⟨h0, c, e, h1, h2⟩ := h; exact ⟨h0, c, e, hs.trans h1, h2⟩

theorem ORel.lt {β : Names} {B : Nat} {H : Array Obj} {b o n : Nat} {x : AObj} (h : ORel β B H b o n x) : b < H.size := by
  cases x with
  | cells vs => obtain ⟨_, c, e, h1, _⟩ := h; exact (Array.getElem?_eq_some_iff.1 h1).1
  | ro vs => obtain ⟨_, c, e, fr, h1, _⟩ := h; exact (Array.getElem?_eq_some_iff.1 h1).1
  | map k es => obtain ⟨_, c, e, h1, _⟩ := h; exact (Array.getElem?_eq_some_iff.1 h1).1

theorem ORel.base {β : Names} {B : Nat} {H : Array Obj} {b o n : Nat} {x : AObj} (h : ORel β B H b o n x) (ho : x.owned = true) : B ≤ b := by
  cases x with
  | cells vs => exact h.1
  | ro vs => simp [AObj.owned] at ho
  | map k es => exact h.1

theorem ORel.ro_lt {β : Names} {B : Nat} {H : Array Obj} {b o n : Nat} {x : AObj} (h : ORel β B H b o n x) (ho : x.owned = false) : b < B := by
  cases x with
  | cells vs => simp [AObj.owned] at ho
  | ro vs => exact h.1
  | map k es => simp [AObj.owned] at ho

/-- **The relation**: which blocks the names stand for; what the objects tell of them; owned objects lie apart, from block B on. -/
structure Rel (B : Nat) (β : Names) (h : Heap) (H : Array Obj) : Prop where
  names : ∀ k x, β k = some x → k < h.next
  objs : ∀ k o, h.get k = some o → ∃ b off n, β k = some (b, off, n) ∧ ORel β B H b off n o
  inj : ∀ k k' o o' b off n b' off' n', h.get k = some o → h.get k' = some o' → o.owned = true → o'.owned = true → β k = some (b, off, n) → β k' = some (b', off', n') → b = b' → k = k'
  base : B ≤ H.size

theorem Rel.wf {B : Nat} {β : Names} {h : Heap} {H : Array Obj} (r : Rel B β h H) {k : Nat} {o : AObj} (hk : h.get k = some o) : k < h.next := by
  obtain ⟨b, off, n, hb, _⟩ := r.objs k o hk
  exact r.names k _ hb

theorem Rel.fresh {B : Nat} {β : Names} {h : Heap} {H : Array Obj} (r : Rel B β h H) : β h.next = none := by
  cases hb : β h.next with
  | none => rfl
  | some x => exact absurd (r.names _ _ hb) (Nat.lt_irrefl _)

/-- A block is written anew. -/
theorem Rel.update {B : Nat} {β : Names} {h : Heap} {H H' : Array Obj} (r : Rel B β h H) {k b off n : Nat} {o o' : AObj} (hk : h.get k = some o) (ho : o.owned = true)
    (hb : β k = some (b, off, n)) (hsz : H.size ≤ H'.size) (hH : ∀ i, i ≠ b → i < H.size → H'[i]? = H[i]?) (hO : ORel β B H' b off n o') : Rel B β (h.set k o') H' := by
  refine ⟨fun j x hx => r.names j x hx, fun j x hx => ?_, fun i i' x x' b1 o1 n1 b2 o2 n2 hx hx' hw hw' h1 h2 he => ?_, Nat.le_trans r.base hsz⟩
  · rw [Heap.get_set] at hx
    by_cases hj : j = k
    · subst hj
      simp at hx; subst hx
      exact ⟨b, off, n, hb, hO⟩
    · rw [if_neg hj] at hx
      obtain ⟨b', off', n', h1, h2⟩ := r.objs j x hx
      refine ⟨b', off', n', h1, h2.same (hH b' ?_ h2.lt)⟩
      intro he
      cases hw : x.owned with
      | true => exact hj (r.inj j k x o b' off' n' b off n hx hk hw ho h1 hb he)
      | false =>
        obtain ⟨b'', off'', n'', g1, g2⟩ := r.objs k o hk
        rw [hb] at g1; simp at g1
        have := h2.ro_lt hw
        have := g2.base ho
        omega
  · rw [Heap.get_set] at hx hx'
    have old : ∀ {j : Nat} {y : AObj}, (if j = k then some o' else h.get j) = some y → y.owned = true → ∃ z, h.get j = some z ∧ z.owned = true := by
      intro j y hy hyo
      by_cases hj : j = k
      · subst hj; exact ⟨o, hk, ho⟩
      · rw [if_neg hj] at hy; exact ⟨y, hy, hyo⟩
    obtain ⟨z, hz, hzo⟩ := old hx hw
    obtain ⟨z', hz', hzo'⟩ := old hx' hw'
    exact r.inj i i' z z' _ _ _ _ _ _ hz hz' hzo hzo' h1 h2 he

def Names.upd (β : Names) (k : Nat) (x : Nat × Nat × Nat) : Names := fun j => if j = k then some x else β j

theorem Names.le_upd {β : Names} {k : Nat} {x : Nat × Nat × Nat} (h : β k = none) : β.le (β.upd k x) := by
  intro j y hy
  unfold Names.upd
  by_cases hj : j = k
  · subst hj; rw [h] at hy; cases hy
  · rw [if_neg hj]; exact hy

/-- A new object, in a block that no other object has. -/
theorem Rel.new {B : Nat} {β : Names} {h : Heap} {H H' : Array Obj} (r : Rel B β h H) {b off n : Nat} {o : AObj} (hsz : H.size ≤ H'.size)
    (hfree : ∀ k x b' off' n', h.get k = some x → β k = some (b', off', n') → b' ≠ b)
    (hH : ∀ i, i ≠ b → i < H.size → H'[i]? = H[i]?) (hO : ORel (β.upd h.next (b, off, n)) B H' b off n o) : Rel B (β.upd h.next (b, off, n)) (h.alloc o) H' := by
  have hle : β.le (β.upd h.next (b, off, n)) := Names.le_upd r.fresh
  refine ⟨fun j x hx => ?_, fun j x hx => ?_, fun i i' x x' b1 o1 n1 b2 o2 n2 hx hx' hw hw' h1 h2 he => ?_, Nat.le_trans r.base hsz⟩
  · unfold Names.upd at hx
    rw [Heap.next_alloc]
    by_cases hj : j = h.next
    · omega
    · rw [if_neg hj] at hx; have := r.names j x hx; omega
  · rw [Heap.get_alloc] at hx
    by_cases hj : j = h.next
    · subst hj
      simp at hx; subst hx
      exact ⟨b, off, n, by simp [Names.upd], hO⟩
    · rw [if_neg hj] at hx
      obtain ⟨b', off', n', h1, h2⟩ := r.objs j x hx
      exact ⟨b', off', n', hle _ _ h1, (h2.mono hle).same (hH b' (hfree j x b' off' n' hx h1) h2.lt)⟩
  · rw [Heap.get_alloc] at hx hx'
    have blk : ∀ {j : Nat} {y : AObj} {b1 o1 n1 : Nat}, (if j = h.next then some o else h.get j) = some y → (β.upd h.next (b, off, n)) j = some (b1, o1, n1) → j ≠ h.next → h.get j = some y ∧ β j = some (b1, o1, n1) ∧ b1 ≠ b := by
      intro j y b1 o1 n1 hy hb1 hj
      rw [if_neg hj] at hy
      simp only [Names.upd, if_neg hj] at hb1
      exact ⟨hy, hb1, hfree j y b1 o1 n1 hy hb1⟩
    by_cases hi : i = h.next
    · by_cases hi' : i' = h.next
      · rw [hi, hi']
      · obtain ⟨_, _, hne⟩ := blk hx' h2 hi'
        simp only [Names.upd, if_pos hi, Option.some.injEq, Prod.mk.injEq] at h1
        omega
    · obtain ⟨g1, g2, hne⟩ := blk hx h1 hi
      by_cases hi' : i' = h.next
      · simp only [Names.upd, if_pos hi', Option.some.injEq, Prod.mk.injEq] at h2
        omega
      · obtain ⟨g3, g4, _⟩ := blk hx' h2 hi'
        exact r.inj i i' x x' _ _ _ _ _ _ g1 g3 hw hw' g2 g4 he

theorem Rel.del {B : Nat} {β : Names} {h : Heap} {H : Array Obj} (r : Rel B β h H) (k : Nat) : Rel B β (h.del k) H := by
  have sub : ∀ {j : Nat} {y : AObj}, (h.del k).get j = some y → h.get j = some y := by
    intro j y hy
    rw [Heap.get_del] at hy
    by_cases hj : j = k
    · rw [if_pos hj] at hy; cases hy
    · rw [if_neg hj] at hy; exact hy
  exact ⟨fun j x hx => r.names j x hx, fun j x hx => r.objs j x (sub hx), fun i i' x x' b1 o1 n1 b2 o2 n2 hx hx' => r.inj i i' x x' b1 o1 n1 b2 o2 n2 (sub hx) (sub hx'), r.base⟩

/-- What is dropped may be dropped; names may be given to more. -/
theorem Rel.weaken {B : Nat} {β : Names} {h h' : Heap} {H : Array Obj} (r : Rel B β h H) (hn : h.next ≤ h'.next) (hs : ∀ k o, h'.get k = some o → h.get k = some o) : Rel B β h' H :=
  ⟨fun j x hx => Nat.lt_of_lt_of_le (r.names j x hx) hn, fun j x hx => r.objs j x (hs _ _ hx), fun i i' x x' b1 o1 n1 b2 o2 n2 hx hx' => r.inj i i' x x' b1 o1 n1 b2 o2 n2 (hs _ _ hx) (hs _ _ hx'), r.base⟩

/-! ### What a step leaves alone -/

/-- The block is an owned object's. -/
def Owned (β : Names) (h : Heap) (b : Nat) : Prop := ∃ k o off n, h.get k = some o ∧ o.owned = true ∧ β k = some (b, off, n)

/-- From one state to another: names stay; what lies below B, and every block that no owned object had, is as it was; an object's block was an object's, or is new. -/
structure Step (B : Nat) (β : Names) (h : Heap) (w : World) (β' : Names) (h' : Heap) (w' : World) : Prop where
  le : β.le β'
  below : Below B w w'
  frame : ∀ b, b < w.heap.size → ¬ Owned β h b → w'.heap[b]? = w.heap[b]?
  own : ∀ b, Owned β' h' b → Owned β h b ∨ w.heap.size ≤ b

theorem Step.refl (B : Nat) (β : Names) (h : Heap) (w : World) : Step B β h w β h w := ⟨β.le_refl, Below.refl _ _, fun _ _ _ => rfl, fun _ hb => .inl hb⟩

theorem Step.trans {B : Nat} {β β' β'' : Names} {h h' h'' : Heap} {w w' w'' : World} (s : Step B β h w β' h' w') (t : Step B β' h' w' β'' h'' w'') : Step B β h w β'' h'' w'' := by
  refine ⟨Names.le_trans s.le t.le, s.below.trans t.below, fun b hb hn => ?_, fun b hb => ?_⟩
  · have hlt : b < w'.heap.size := Nat.lt_of_lt_of_le hb s.below.size
    refine (t.frame b hlt fun ho => ?_).trans (s.frame b hb hn)
    rcases s.own b ho with h1 | h1
    · exact hn h1
    · omega
  · rcases t.own b hb with h1 | h1
    · exact s.own b h1
    · exact .inr (Nat.le_trans s.below.size h1)

/-- Objects may be dropped behind a step. -/
theorem Step.weaken {B : Nat} {β β' : Names} {h h' h'' : Heap} {w w' : World} (s : Step B β h w β' h' w') (hs : ∀ k o, h''.get k = some o → h'.get k = some o) : Step B β h w β' h'' w' :=
  ⟨s.le, s.below, s.frame, fun b ⟨k, o, off, n, h1, h2, h3⟩ => s.own b ⟨k, o, off, n, hs k o h1, h2, h3⟩⟩

/-- A step out of fewer objects. -/
theorem Step.of_less {B : Nat} {β β' : Names} {h0 h h' : Heap} {w w' : World} (s : Step B β h0 w β' h' w') (hs : ∀ k o, h0.get k = some o → h.get k = some o) : Step B β h w β' h' w' := by
  have ho : ∀ b, Owned β h0 b → Owned β h b := fun b ⟨k, o, off, n, h1, h2, h3⟩ => ⟨k, o, off, n, hs k o h1, h2, h3⟩
  exact ⟨s.le, s.below, fun b hb hn => s.frame b hb fun h1 => hn (ho b h1), fun b hb => (s.own b hb).imp (ho b) id⟩

theorem del_less {h : Heap} {k : Nat} : ∀ j o, (h.del k).get j = some o → h.get j = some o := by
  intro j o hj
  rw [Heap.get_del] at hj
  split at hj
  · cases hj
  · exact hj

theorem Owned.lt {B : Nat} {β : Names} {h : Heap} {H : Array Obj} (R : Rel B β h H) {b : Nat} (hb : Owned β h b) : B ≤ b ∧ b < H.size := by
  obtain ⟨k, o, off, n, h1, h2, h3⟩ := hb
  obtain ⟨b', off', n', h4, h5⟩ := R.objs k o h1
  rw [h3] at h4; cases h4
  exact ⟨h5.base h2, h5.lt⟩

/-- An object is turned in its block. -/
theorem Step.update {B : Nat} {β : Names} {h : Heap} {w w' : World} {k b off n : Nat} {o o' : AObj} (hk : h.get k = some o) (ho : o.owned = true) (hb : β k = some (b, off, n))
    (hB : Below B w w') (hH : ∀ i, i ≠ b → i < w.heap.size → w'.heap[i]? = w.heap[i]?) : Step B β h w β (h.set k o') w' := by
  refine ⟨β.le_refl, hB, fun i hi hn => hH i (fun he => hn ⟨k, o, off, n, hk, ho, he ▸ hb⟩) hi, fun i ⟨j, x, of', n', h1, h2, h3⟩ => .inl ?_⟩
  rw [Heap.get_set] at h1
  by_cases hj : j = k
  · subst hj; exact ⟨j, o, of', n', hk, ho, h3⟩
  · rw [if_neg hj] at h1; exact ⟨j, x, of', n', h1, h2, h3⟩

/-- A new object in a new block. -/
theorem Step.new {B : Nat} {β : Names} {h : Heap} {w w' : World} (R : Rel B β h w.heap) {b off n : Nat} {o : AObj} (hb : w.heap.size ≤ b) (hB : Below B w w') (hH : ∀ i, i < w.heap.size → w'.heap[i]? = w.heap[i]?) :
    Step B β h w (β.upd h.next (b, off, n)) (h.alloc o) w' := by
  refine ⟨Names.le_upd R.fresh, hB, fun i hi _ => hH i hi, fun i ⟨j, x, of', n', h1, h2, h3⟩ => ?_⟩
  rw [Heap.get_alloc] at h1
  unfold Names.upd at h3
  by_cases hj : j = h.next
  · rw [if_pos hj] at h3; cases h3; exact .inr hb
  · rw [if_neg hj] at h1 h3; exact .inl ⟨j, x, of', n', h1, h2, h3⟩

/-- An object's block is handed to a new name. -/
theorem Step.move {B : Nat} {β : Names} {h : Heap} {w w' : World} (R : Rel B β h w.heap) {k b off n off' n' : Nat} {o o' : AObj} (hk : h.get k = some o) (ho : o.owned = true) (hb : β k = some (b, off, n))
    (hB : Below B w w') (hH : ∀ i, i ≠ b → i < w.heap.size → w'.heap[i]? = w.heap[i]?) : Step B β h w (β.upd h.next (b, off', n')) ((h.del k).alloc o') w' := by
  refine ⟨Names.le_upd R.fresh, hB, fun i hi hn => hH i (fun he => hn ⟨k, o, off, n, hk, ho, he ▸ hb⟩) hi, fun i ⟨j, x, of', n', h1, h2, h3⟩ => .inl ?_⟩
  rw [Heap.get_alloc, Heap.next_del, Heap.get_del] at h1
  unfold Names.upd at h3
  by_cases hj : j = h.next
  · rw [if_pos hj] at h3; cases h3; exact ⟨k, o, off, n, hk, ho, hb⟩
  · rw [if_neg hj] at h1 h3
    split at h1
    · cases h1
    · exact ⟨j, x, of', n', h1, h2, h3⟩

end Go.Abs

/- The model's structured code brought into the abstract code: a function that resolves the types once; what it does not take becomes 'bad'. -/
namespace Go.Abs

def scOf : Value → Option Sc
  | .bool b => some (.bool b)
  | .int k n => some (.int k n)
  | .string s => some (.str s.data.toList)
  | .pointer none => some .nilp
  | .slice none 0 0 => some .nils
  | .map none => some .nilm
  | .nilFunc => some .nilf
  | .nilIface => some .nili
  | _ => none

def scsOf : List Value → Option (List Sc)
  | [] => some []
  | v :: r =>
    match scOf v, scsOf r with
    | some s, some l => some (s :: l)
    | _, _ => none

def avOf (v : Value) : Option AV :=
  match v with
  | .agg cs => (scsOf cs.toList).map .agg
  | v => (scOf v).map .sc

def opd : Operand → Option Opd
  | .tmp t => some (.tmp t)
  | .const v => (avOf v).map .const
  | .func f => some (.const (.sc (.func f [])))
  | .global _ => none

def opds : List Operand → Option (List Opd)
  | [] => some []
  | x :: r =>
    match opd x, opds r with
    | some y, some l => some (y :: l)
    | _, _ => none

/-- An operand that may be left out: none; some operand. -/
def opdO : Option Operand → Option (Option Opd)
  | none => some none
  | some x => (opd x).map some

def isNilConst : Nat → Operand → Bool
  | 0, .const (.pointer none) => true
  | 1, .const (.slice none 0 0) => true
  | 2, .const (.map none) => true
  | 3, .const .nilFunc => true
  | _, _ => false

def compileNil (neg : Bool) (kd : Nat) (x y : Operand) : Option AOp :=
  if isNilConst kd y then (opd x).map (.eqN neg kd) else if isNilConst kd x then (opd y).map (.eqN neg kd) else none

def op2 (f : Opd → Opd → AOp) (x y : Operand) : Option AOp :=
  match opd x, opd y with
  | some a, some b => some (f a b)
  | _, _ => none

section
variable (P : Program)

def zeroT (t : TypeId) : Option (List Sc) :=
  match P.info? t with
  | some i =>
    match i.zero with
    | some z => scsOf z.cells.toList
    | none => none
  | none => none

def sizeT (t : TypeId) : Option Nat := (P.info? t).map (·.size)
def bytesT (t : TypeId) : Option Nat := (P.info? t).map (·.bytes)

def aggT (t : TypeId) : Option Bool :=
  match P.underlying t with
  | some (.struct _) | some (.array _ _) => some true
  | some _ => some false
  | none => none

def loadN (t : TypeId) : Option (Option Nat) :=
  match aggT P t with
  | some true => (sizeT P t).map some
  | some false => some none
  | none => none

def elemS (t : TypeId) : Option TypeId :=
  match P.underlying t with
  | some (.slice e) => some e
  | _ => none

def keyT (t : TypeId) : Option IntKind :=
  match P.underlying t with
  | some (.map k _) =>
    match P.underlying k with
    | some (.int kk) => some kk
    | _ => none
  | _ => none

def fieldT (t : TypeId) (f : Nat) : Option Field :=
  match P.underlying t with
  | some (.struct fields) => fields[f]?
  | _ => none

/-- All fields are integers of one cell, one behind the other. -/
def intFields : List Field → Nat → Bool
  | [], _ => true
  | f :: r, o => (match P.underlying f.type with | some (.int _) => true | _ => false) && f.offset == o && f.name != "_" && intFields r (o + 1)

def eqAOk (t : TypeId) : Bool :=
  !P.eqGuardType P.depth t && match P.underlying t with
  | some (.struct fields) => intFields P fields.toList 0 && !P.stoodInHeld t
  | some (.array _ e) => (match P.underlying e with | some (.int _) => true | _ => false) && sizeT P e == some 1
  | _ => false

/-- Where the parts of a struct or an array go. -/
def partsAt (place : Nat → Option (Nat × Nat)) : List (Nat × Operand) → Option (List (Nat × Nat × Opd))
  | [] => some []
  | (i, x) :: r =>
    match place i, opd x, partsAt place r with
    | some (off, size), some y, some l => some ((off, size, y) :: l)
    | _, _, _ => none

def placeOf (t : TypeId) (i : Nat) : Option (Nat × Nat) :=
  match P.underlying t with
  | some (.struct fields) =>
    match fields[i]? with
    | some f => (sizeT P f.type).map fun s => (f.offset, s)
    | none => none
  | some (.array _ e) => (sizeT P e).map fun s => (i * s, s)
  | _ => none

/-- All places of a struct's type are known. -/
def placesOk (t : TypeId) : Bool :=
  match P.underlying t with
  | some (.struct fields) => fields.toList.all fun f => (sizeT P f.type).isSome
  | some (.array _ e) => (sizeT P e).isSome
  | _ => false

def okCallee (f : FuncId) : Bool :=
  match P.funcs[f]? with
  | some fn => fn.body.isSome && !(fn.name == "runtime.NumGoroutine")
  | none => false

def isAdd64 (f : FuncId) : Bool :=
  match P.funcs[f]? with
  | some fn => fn.body.isNone && fn.name == "math/bits.Add64"
  | none => false

/-- A slice's or a string's type. -/
def srcOk (u : TypeId) : Bool :=
  match P.underlying u with
  | some (.slice _) | some .string => true
  | _ => false

def compileCall (c : Call) : Option AOp :=
  match c.callee with
  | .value (.func f) =>
    match opds c.args.toList with
    | some as =>
      if okCallee P f then some (.call f as)
      else if isAdd64 P f then (match as with | [x, y, z] => some (.add64 x y z) | _ => none)
      else none
    | none => none
  | .value f =>
    match opd f, opds c.args.toList with
    | some g, some as => some (.callv g as)
    | _, _ => none
  | .builtin b =>
    match b, c.args.toList, c.argTypes.toList with
    | .append, [s, x], [t, u] =>
      match elemS P t, opd s, opd x with
      | some e, some s', some x' =>
        match sizeT P e, bytesT P e, zeroT P e with
        | some sz, some by', some z =>
          if z.length = sz ∧ 0 < sz ∧ srcOk P u = true then some (.append sz by' s' x') else none
        | _, _, _ => none
      | _, _, _ => none
    | .len, [x], [t] =>
      match P.underlying t, opd x with
      | some .string, some y => some (.len true y)
      | some (.slice _), some y => some (.len false y)
      | some (.map _ _), some y => some (.lenM y)
      | _, _ => none
    | .max, [x, y], _ => op2 (.minmax true) x y
    | .min, [x, y], _ => op2 (.minmax false) x y
    | .copy, [d, s], [t, _] =>
      match elemS P t, opd d, opd s with
      | some e, some d', some s' => (sizeT P e).bind fun sz => if 0 < sz then some (.copy sz d' s') else none
      | _, _, _ => none
    | .delete, [m, k], [t, _] =>
      match keyT P t, opd m, opd k with
      | some kk, some m', some k' => some (.delete kk m' k')
      | _, _, _ => none
    | .clear, [x], [t] =>
      match elemS P t, opd x with
      | some e, some x' => (zeroT P e).bind fun z => if 0 < z.length then some (.clear z x') else none
      | _, _ => none
    | _, _, _ => none
  | .invoke _ _ => none

def compileEq (neg : Bool) (op : BinOp) (t : TypeId) (x y : Operand) : Option AOp :=
  match P.underlying t with
  | some (.int _) => op2 (.bin op) x y
  | some .string => op2 (.bin op) x y
  | some .bool => op2 (.eqB neg) x y
  | some (.pointer _) => compileNil neg 0 x y
  | some (.slice _) => compileNil neg 1 x y
  | some (.map _ _) => compileNil neg 2 x y
  | some (.func _ _ _) => compileNil neg 3 x y
  | some (.struct fs) => if eqAOk P t then op2 (.eqA neg fs.size) x y else none
  | some (.array n _) => if eqAOk P t then op2 (.eqA neg n) x y else none
  | _ => none

def compileOp (o : Op) : Option AOp :=
  match o with
  | .move x | .assign x => (opd x).map .mov
  | .pick c a b =>
    match opd c, opd a, opd b with
    | some c', some a', some b' => some (.pick c' a' b')
    | _, _, _ => none
  | .binOp op t x y _ =>
    match op with
    | .eql => compileEq P false op t x y
    | .neq => compileEq P true op t x y
    | _ => op2 (.bin op) x y
  | .unOp .not _ x => (opd x).map .not
  | .unOp .neg _ x => (opd x).map .neg
  | .convert src dst x =>
    match P.underlying src, P.underlying dst, opd x with
    | some _, some (.int k), some y => some (.conv k y)
    | some (.slice e), some .string, some y => (match P.underlying e with | some (.int .u8) => some (.b2s y) | _ => none)
    | _, _, _ => none
  | .makeFunc (.func f) first captured => if first.size = 0 then (opds captured.toList).map (.mkfunc f) else none
  | .makeMap t none => (keyT P t).map .makeMap
  | .makeSlice t l c =>
    match elemS P t, opd l, opd c with
    | some e, some l', some c' =>
      match sizeT P e, bytesT P e, zeroT P e with
      | some sz, some by', some z => if z.length = sz ∧ 0 < sz then some (.makeSlice z by' l' c') else none
      | _, _, _ => none
    | _, _, _ => none
  | .slice t x lo hi mx =>
    match opd x, opdO lo, opdO hi, opdO mx with
    | some x', some lo', some hi', some mx' =>
      match P.underlying t with
      | some .string => (match mx' with | none => some (.sliceS x' lo' hi') | some _ => none)
      | some (.slice e) =>
        match sizeT P e with
        | some sz => (match hi', mx' with | none, some _ => none | _, _ => some (.sliceV sz x' lo' hi' mx'))
        | none => none
      | some (.array n e) =>
        match sizeT P e with
        | some sz => (match mx' with | none => some (.sliceA n sz x' lo' hi') | some _ => none)
        | none => none
      | _ => none
    | _, _, _, _ => none
  | .fieldAddr t x f =>
    match fieldT P t f, opd x with
    | some fd, some x' => (match sizeT P fd.type with | some s => if 0 < s then some (.fieldAddr x' fd.offset) else none | none => none)
    | _, _ => none
  | .field t x f =>
    match fieldT P t f, opd x with
    | some fd, some x' => (loadN P fd.type).map fun n => .field x' fd.offset n
    | _, _ => none
  | .indexAddr t x i =>
    match opd x, opd i with
    | some x', some i' =>
      match P.underlying t with
      | some (.slice e) => (sizeT P e).map fun sz => .indexAddr sz x' i'
      | some (.array n e) => (sizeT P e).map fun sz => .indexAddrA n sz x' i'
      | _ => none
    | _, _ => none
  | .index t x i =>
    match P.underlying t, opd x, opd i with
    | some .string, some x', some i' => some (.index x' i')
    | _, _, _ => none
  | .lookup t x i ok =>
    match keyT P t, opd x, opd i with
    | some kk, some x', some i' =>
      match P.underlying t with
      | some (.map _ e) =>
        match aggT P e, zeroT P e, (P.info? e).bind (·.zero) with
        | some false, some [z], some zv => if zv.oneCell' then some (.lookup kk z ok x' i') else none
        | _, _, _ => none
      | _ => none
    | _, _, _ => none
  | .mapUpdate t m k v | .insert t m k v =>
    match keyT P t, opd m, opd k, opd v with
    | some kk, some m', some k', some v' => some (.mapUpdate kk m' k' v')
    | _, _, _, _ => none
  | .extract x i => (opd x).map fun x' => .extract x' i
  | .nilCheck x => (opd x).map .nilCheck
  | .build t parts =>
    match partsAt (placeOf P t) parts.toList, zeroT P t with
    | some ps, some z => if placesOk P t then some (.build z ps) else none
    | _, _ => none
  | .buildSlice t len parts =>
    match elemS P t with
    | some e =>
      match sizeT P e, zeroT P e with
      | some sz, some z =>
        match partsAt (fun i => some (i * sz, sz)) parts.toList with
        | some ps => if z.length = sz ∧ 0 < sz then some (.buildSlice z len ps) else none
        | none => none
      | _, _ => none
    | none => none
  | .alloc e => (zeroT P e).map .alloc
  | .box _ x => (opd x).map .box
  | .load t x =>
    match loadN P t, opd x with
    | some n, some x' => some (.load n x')
    | _, _ => none
  | .store t x v =>
    match sizeT P t, opd x, opd v with
    | some n, some x', some v' => some (.store n x' v')
    | _, _, _ => none
  | .call c => compileCall P c
  | _ => none

/-- A guard's slot; none: no guard; some none: one that is not understood. -/
def guardOf (ops : Array Oper) (o : Oper) : Option (Option (Nat × Bool)) :=
  match o.guard with
  | none => some none
  | some (j, want) =>
    match (ops[j]?).bind (·.dst) with
    | some t => some (some (t, want))
    | none => none

def compileOper (ops : Array Oper) (o : Oper) : Option AOper :=
  match compileOp P o.op, guardOf ops o with
  | some op, some g => some ⟨o.dst, op, g⟩
  | _, _ => none

def compileOpers (ops : Array Oper) : List Oper → Option (List AOper)
  | [] => some []
  | o :: r =>
    match compileOper P ops o, compileOpers ops r with
    | some x, some l => some (x :: l)
    | _, _ => none

def dsts : List Oper → List Nat
  | [] => []
  | o :: r =>
    match o.dst with
    | some d => d :: dsts r
    | none => dsts r

def keepOf (pers : List Nat) (ops : List Oper) : List Nat := (dsts ops).filter fun t => pers.contains t

/-! ### Regions that draw their order -/

def preds (o : Oper) : List Nat := (o.after.toList.filter fun e => Region.binds .any e).map (·.on)

/-- All that must come up ahead of each operation, directly or through others. -/
def befores : List Oper → List (List Nat) → List (List Nat)
  | [], acc => acc
  | o :: r, acc => befores r (acc ++ [((preds o).flatMap fun j => j :: acc.getD j []).eraseDups])

/-- 0: it leaves the heap alone; 2: it lays a zero variable; 1: any other effect. -/
def kindOf : AOp → Nat
  | .alloc _ => 2
  | .store .. | .box _ | .buildSlice .. | .makeSlice .. | .makeMap _ | .mapUpdate .. | .delete .. | .append .. | .copy .. | .clear .. | .call .. | .callv .. => 1
  | _ => 0

/-- One that hangs on a guard is no plain zero variable. -/
def kindG (o : AOper) : Nat :=
  match kindOf o.op with
  | 2 => if o.guard.isNone then 2 else 1
  | k => k

/-- The numbers in the order in which they are taken: what has no effect as early as it may be, a zero variable as late. -/
def pickD (n : Nat) (pre : List (List Nat)) (kind : List Nat) : Nat → List Nat → List Nat
  | 0, done => done
  | fuel + 1, done =>
    let ready := (List.range n).filter fun i => !done.contains i && (pre.getD i []).all done.contains
    match ready.find? fun i => kind.getD i 1 == 0 with
    | some i => pickD n pre kind fuel (done ++ [i])
    | none =>
      match ready.find? fun i => kind.getD i 1 == 1 with
      | some i => pickD n pre kind fuel (done ++ [i])
      | none =>
        match ready with
        | i :: _ => pickD n pre kind fuel (done ++ [i])
        | [] => done

/-- The slots that an operation looks at. -/
def looksA (o : AOper) : List Nat :=
  o.op.tmps ++ (match o.guard with | some (t, _) => [t] | none => [])

/-- The direct ones among those that must have come up. -/
def directOf (ops : Array Oper) (i : Nat) : List Nat :=
  match ops[i]? with
  | some o => preds o
  | none => []

/-- x is taken ahead of y. -/
def pairOk (x y : DOper) : Bool :=
  x.id != y.id && !x.pre.contains y.id &&
  (match x.op.dst, y.op.dst with
   | some c, some d => c != d
   | _, _ => true) &&
  (y.pre.contains x.id ||
   ((x.kind == 0 || y.kind == 2) &&
    (match x.op.dst with
     | some d => !(looksA y.op).contains d
     | none => true) &&
    (match y.op.dst with
     | some d => !(looksA x.op).contains d
     | none => true)))

def pairsOk : List DOper → Bool
  | [] => true
  | x :: r => r.all (pairOk x) && pairsOk r

def preOf (l : List DOper) (i : Nat) : List Nat :=
  match l.find? fun x => x.id == i with
  | some x => x.pre
  | none => []

/-- What is asked of the order in which the operations are taken. -/
def checkD (ops : Array Oper) (l : List DOper) : Bool :=
  (List.range ops.size).all (fun i => l.any fun x => x.id == i) && pairsOk l &&
  l.all fun x => !x.pre.contains x.id && (directOf ops x.id).all (fun j => x.pre.contains j) && x.pre.all (fun j => decide (j < ops.size)) &&
    x.pre.all fun j => (directOf ops x.id).contains j || (directOf ops x.id).any fun k => (preOf l k).contains j

def compileD (ops : Array Oper) : Option (List DOper) :=
  match compileOpers P ops ops.toList with
  | some l =>
    let pre := befores ops.toList []
    let kind := l.map kindG
    let items := (pickD l.length pre kind l.length []).filterMap fun i => (l[i]?).map fun o => (⟨i, o, pre.getD i [], kind.getD i 1⟩ : DOper)
    if checkD ops items then some items else none
  | none => none

def compileCode (pers : List Nat) : Code → ACode
  | .skip => .skip
  | .region _ ops draw =>
    if draw then
      match compileD P ops with
      | some l => .regionD l (keepOf pers ops.toList)
      | none => .bad
    else
      match compileOpers P ops ops.toList with
      | some l => .region l (keepOf pers ops.toList)
      | none => .bad
  | .seq a b => .seq (compileCode pers a) (compileCode pers b)
  | .cond c a b =>
    match opd c with
    | some x => .cond x (compileCode pers a) (compileCode pers b)
    | none => .bad
  | .block id c => .block id (compileCode pers c)
  | .loop c => .loop (compileCode pers c)
  | .exit id => .exit id
  | .ret => .ret
  | _ => .bad

/-! ### Which slots live on behind their region -/

def opTmps (o : Oper) : List Nat := o.op.operands.toList.filterMap fun | .tmp t => some t | _ => none

/-- A region's slots that are written, that are read. -/
def regionsOf : Code → List (List Nat × List Nat)
  | .region _ ops _ => [(dsts ops.toList, ops.toList.flatMap opTmps)]
  | .seq a b => regionsOf a ++ regionsOf b
  | .cond c a b => ([], (match c with | .tmp t => [t] | _ => [])) :: (regionsOf a ++ regionsOf b)
  | .block _ c | .loop c | .scope c => regionsOf c
  | .rangeFunc f ps a b => (ps.toList, (match f with | .tmp t => [t] | _ => [])) :: (regionsOf a ++ regionsOf b)
  | _ => []

def resultTmp : ResultVar → Nat
  | .tmp t => t
  | .cell t _ => t

def persOf (fn : Func) (c : Code) : List Nat :=
  let rs := (regionsOf c).zipIdx
  let ws := rs.flatMap fun r => (r.1.1.filter fun t => rs.any fun q => q.2 != r.2 && q.1.2.contains t)
  (List.range (fn.params.size + fn.nfree) ++ fn.results.toList.map resultTmp ++ ws).eraseDups

def dstsIn (n : Nat) : Code → Bool
  | .region _ ops _ => (dsts ops.toList).all fun t => t < n
  | .seq a b => dstsIn n a && dstsIn n b
  | .cond _ a b => dstsIn n a && dstsIn n b
  | .block _ c | .loop c | .scope c => dstsIn n c
  | _ => true

def compileRes : List ResultVar → Option (List ARes)
  | [] => some []
  | .tmp t :: r => (compileRes r).map fun l => .tmp t :: l
  | .cell t ty :: r =>
    match loadN P ty, compileRes r with
    | some n, some l => some (.cell t n :: l)
    | _, _ => none

def compileFunc (fn : Func) : Option AFunc :=
  match fn.body, compileRes P fn.results.toList with
  | some c, some rs =>
    let np := fn.params.size + fn.nfree
    let pers := persOf fn c
    if dstsIn fn.ntmps c && (List.range np).all pers.contains && decide (np ≤ fn.ntmps) then some ⟨np, fn.ntmps, pers, rs, compileCode P pers c⟩ else none
  | _, _ => none

end
end Go.Abs

/- What the abstract code does: as a predicate transformer (awp) over what the calls do, and as a function with a bound on rounds and depth (aexec, acall); the function's answer meets the transformer. -/
namespace Go.Abs

/-! ### Names anew -/

def renSc (ρ : Nat → Nat) : Sc → Sc
  | .ptr k off => .ptr (ρ k) off
  | .slice k off len sz => .slice (ρ k) off len sz
  | .map k => .map (ρ k)
  | .func f caps => .func f (caps.map fun p => (ρ p.1, p.2))
  | s => s

def renPart (ρ : Nat → Nat) : Sc ⊕ List Sc → Sc ⊕ List Sc
  | .inl s => .inl (renSc ρ s)
  | .inr l => .inr (l.map (renSc ρ))

def renAV (ρ : Nat → Nat) : AV → AV
  | .any => .any
  | .sc s => .sc (renSc ρ s)
  | .agg l => .agg (l.map (renSc ρ))
  | .tup l => .tup (l.map (renPart ρ))
  | .raw b => .raw b

def renObj (ρ : Nat → Nat) : AObj → AObj
  | .cells l => .cells (l.map (renSc ρ))
  | .ro l => .ro (l.map (renSc ρ))
  | .map k es => .map k (es.map fun p => (p.1, renSc ρ p.2))

/-- The names in it lie below n. -/
def Sc.below (n : Nat) : Sc → Prop
  | .ptr k _ => k < n
  | .slice k _ _ _ => k < n
  | .map k => k < n
  | .func _ caps => ∀ p ∈ caps, p.1 < n
  | _ => True

def partBelow (n : Nat) : Sc ⊕ List Sc → Prop
  | .inl s => s.below n
  | .inr l => ∀ s ∈ l, Sc.below n s

def AV.below (n : Nat) : AV → Prop
  | .sc s => s.below n
  | .agg l => ∀ s ∈ l, Sc.below n s
  | .tup l => ∀ p ∈ l, partBelow n p
  | _ => True

def AObj.below (n : Nat) : AObj → Prop
  | .cells l => ∀ s ∈ l, Sc.below n s
  | .ro l => ∀ s ∈ l, Sc.below n s
  | .map _ es => ∀ p ∈ es, Sc.below n p.2

/-- A heap's names lie below its next one. -/
def WF (h : Heap) : Prop := ∀ k o, h.get k = some o → k < h.next ∧ o.below h.next

/-- The state (v, h) is what one keeps of (v1, h1), the names below h0's next as they were. -/
def Fgt (h0 : Heap) (v1 : AV) (h1 : Heap) (v : AV) (h : Heap) : Prop :=
  ∃ ρ : Nat → Nat, (∀ k, k < h0.next → ρ k = k) ∧ (∀ k, h.next ≤ k → h1.next ≤ ρ k) ∧ v1 = renAV ρ v ∧ (∀ k o, h.get k = some o → h1.get (ρ k) = some (renObj ρ o)) ∧
    (∀ k k' o o', h.get k = some o → h.get k' = some o' → o.owned = true → o'.owned = true → ρ k = ρ k' → k = k')

/-- The same of an environment. -/
def FgtE (h0 : Heap) (e1 : Env) (h1 : Heap) (e : Env) (h : Heap) : Prop :=
  ∃ ρ : Nat → Nat, (∀ k, k < h0.next → ρ k = k) ∧ (∀ k, h.next ≤ k → h1.next ≤ ρ k) ∧ (∀ t v, e.get t = some v → e1.get t = some (renAV ρ v)) ∧ (∀ k o, h.get k = some o → h1.get (ρ k) = some (renObj ρ o)) ∧
    (∀ k k' o o', h.get k = some o → h.get k' = some o' → o.owned = true → o'.owned = true → ρ k = ρ k' → k = k')

inductive AExit where
  | normal
  | exit (id : Nat)
  | ret
  deriving DecidableEq, Repr, Inhabited

/-- What is known of calls: a function, its arguments, the heap, what holds of the answer and the heap behind it. -/
abbrev CallP := FuncId → List AV → Heap → (AV → Heap → Prop) → Prop
abbrev CallF := FuncId → List AV → Heap → Option (AV × Heap)

def capArgs (l : List (Nat × Nat)) : List AV := l.map fun p => .sc (.ptr p.1 p.2)

def bindD (d : Option Nat) (v : AV) (e : Env) : Env :=
  match d with
  | some t => (t, v) :: e
  | none => e

/-- One operation, a call among them. -/
def astep (T : CallP) (o : AOp) (e : Env) (h : Heap) (K : AV → Heap → Prop) : Prop :=
  match o with
  | .call f args =>
    match evAll e args with
    | some vs => T f vs h K
    | none => False
  | .callv g args =>
    match g.evs e, evAll e args with
    | some (.func f caps), some vs => T f (vs ++ capArgs caps) h K
    | _, _ => False
  | o =>
    match aop o e h with
    | some (v, h') => K v h'
    | none => False

/-- Is it to be carried out? -/
def wantedA (g : Option (Nat × Bool)) (e : Env) : Option Bool :=
  match g with
  | none => some true
  | some (t, want) =>
    match e.get t with
    | some (.sc (.bool b)) => some (b == want)
    | some (.tup []) => some false
    | _ => none

def aops (T : CallP) : List AOper → (Env → Heap → Prop) → Env → Heap → Prop
  | [], K, e, h => K e h
  | o :: r, K, e, h =>
    match wantedA o.guard e with
    | some true => astep T o.op e h fun v h' => aops T r K (bindD o.dst v e) h'
    | some false => aops T r K (bindD o.dst (.tup []) e) h
    | none => False

/-- Something that was read, to be read again behind an effect that may come ahead of it. -/
structure Pend where
  id : Nat
  op : AOp
  env : Env
  val : AV

def stillSame (ps : List Pend) (h : Heap) : Prop := ∀ p ∈ ps, (aop p.op p.env h).map (·.1) = some p.val

def aopsD (T : CallP) : List DOper → List Pend → (Env → Heap → Prop) → Env → Heap → Prop
  | [], _, K, e, h => K e h
  | o :: r, ps, K, e, h =>
    match wantedA o.op.guard e with
    | some true =>
      if o.kind ≠ 0 then
        astep T o.op.op e h fun v h' =>
          let ps' := ps.filter fun p => !o.pre.contains p.id
          stillSame ps' h' ∧ aopsD T r ps' K (bindD o.op.dst v e) h'
      else
        match aop o.op.op e h with
        | some (v, _) => aopsD T r (⟨o.id, o.op.op, e, v⟩ :: ps) K (bindD o.op.dst v e) h
        | none => False
    | some false => aopsD T r ps K (bindD o.op.dst (.tup []) e) h
    | none => False

def awp (T : CallP) (hb : Heap) : ACode → (AExit → Env → Heap → Prop) → Env → Heap → Prop
  | .skip, Q, e, h => Q .normal e h
  | .region ops keep, Q, e, h => aops T ops (fun e' h' => Q .normal (Env.close e e' keep) h') e h
  | .regionD ops keep, Q, e, h => aopsD T ops [] (fun e' h' => Q .normal (Env.close e e' keep) h') e h
  | .seq a b, Q, e, h => awp T hb a (fun x e' h' => match x with | .normal => awp T hb b Q e' h' | x => Q x e' h') e h
  | .cond c a b, Q, e, h =>
    match c.evs e with
    | some (.bool t) => (t = true → awp T hb a Q e h) ∧ (t = false → awp T hb b Q e h)
    | _ => False
  | .block id c, Q, e, h => awp T hb c (fun x e' h' => match x with | .exit i => if i = id then Q .normal e' h' else Q (.exit i) e' h' | x => Q x e' h') e h
  | .loop c, Q, e, h => ∃ (Inv : Nat → Env → Heap → Prop) (n : Nat), (∃ e0 h0, FgtE hb e h e0 h0 ∧ Inv n e0 h0) ∧
      ∀ n e1 h1, Inv n e1 h1 → WF h1 → awp T hb c (fun x e' h' => match x with | .normal => ∃ m, m < n ∧ ∃ e'' h'', FgtE hb e' h' e'' h'' ∧ Inv m e'' h'' | x => Q x e' h') e1 h1
  | .exit id, Q, e, h => Q (.exit id) e h
  | .ret, Q, e, h => Q .ret e h
  | .bad, _, _, _ => False

def resOf (e : Env) (h : Heap) : List ARes → Option (List (Sc ⊕ List Sc))
  | [] => some []
  | .tmp t :: r =>
    match e.get t, resOf e h r with
    | some (.sc s), some l => some (.inl s :: l)
    | some (.agg cs), some l => some (.inr cs :: l)
    | _, _ => none
  | .cell t n :: r =>
    match e.get t, resOf e h r with
    | some (.sc (.ptr k off)), some l =>
      match n with
      | none =>
        match h.read k with
        | some vs =>
          match vs[off]? with
          | some s => some (.inl s :: l)
          | none => none
        | none => none
      | some n =>
        match h.cellsAt k off n with
        | some cs => some (.inr cs :: l)
        | none => none
    | _, _ => none

def resVal : List (Sc ⊕ List Sc) → AV
  | [.inl s] => .sc s
  | [.inr cs] => .agg cs
  | l => .tup l

def initEnv (args : List AV) : Env := args.zipIdx.map fun p => (p.2, p.1)

/-! ### The function -/

def stepX (C : CallF) (o : AOp) (e : Env) (h : Heap) : Option (AV × Heap) :=
  match o with
  | .call f args =>
    match evAll e args with
    | some vs => C f vs h
    | none => none
  | .callv g args =>
    match g.evs e, evAll e args with
    | some (.func f caps), some vs => C f (vs ++ capArgs caps) h
    | _, _ => none
  | o => aop o e h

def opsX (C : CallF) : List AOper → Env → Heap → Option (Env × Heap)
  | [], e, h => some (e, h)
  | o :: r, e, h =>
    match wantedA o.guard e with
    | some true =>
      match stepX C o.op e h with
      | some (v, h') => opsX C r (bindD o.dst v e) h'
      | none => none
    | some false => opsX C r (bindD o.dst (.tup []) e) h
    | none => none

def stillX (ps : List Pend) (h : Heap) : Bool :=
  ps.all fun p =>
    match aop p.op p.env h with
    | some (v, _) => decide (v = p.val)
    | none => false

def opsDX (C : CallF) : List DOper → List Pend → Env → Heap → Option (Env × Heap)
  | [], _, e, h => some (e, h)
  | o :: r, ps, e, h =>
    match wantedA o.op.guard e with
    | some true =>
      if o.kind ≠ 0 then
        match stepX C o.op.op e h with
        | some (v, h') =>
          let ps' := ps.filter fun p => !o.pre.contains p.id
          if stillX ps' h' then opsDX C r ps' (bindD o.op.dst v e) h' else none
        | none => none
      else
        match aop o.op.op e h with
        | some (v, _) => opsDX C r (⟨o.id, o.op.op, e, v⟩ :: ps) (bindD o.op.dst v e) h
        | none => none
    | some false => opsDX C r ps (bindD o.op.dst (.tup []) e) h
    | none => none

def iterX (f : Env → Heap → Option (AExit × Env × Heap)) : Nat → Env → Heap → Option (AExit × Env × Heap)
  | 0, _, _ => none
  | n + 1, e, h =>
    match f e h with
    | some (.normal, e', h') => iterX f n e' h'
    | r => r

def aexec (C : CallF) (n : Nat) : ACode → Env → Heap → Option (AExit × Env × Heap)
  | .skip, e, h => some (.normal, e, h)
  | .region ops keep, e, h =>
    match opsX C ops e h with
    | some (e', h') => some (.normal, Env.close e e' keep, h')
    | none => none
  | .regionD ops keep, e, h =>
    match opsDX C ops [] e h with
    | some (e', h') => some (.normal, Env.close e e' keep, h')
    | none => none
  | .seq a b, e, h =>
    match aexec C n a e h with
    | some (.normal, e', h') => aexec C n b e' h'
    | r => r
  | .cond c a b, e, h =>
    match c.evs e with
    | some (.bool true) => aexec C n a e h
    | some (.bool false) => aexec C n b e h
    | _ => none
  | .block id c, e, h =>
    match aexec C n c e h with
    | some (.exit i, e', h') => if i = id then some (.normal, e', h') else some (.exit i, e', h')
    | r => r
  | .loop c, e, h => iterX (aexec C n c) n e h
  | .exit id, e, h => some (.exit id, e, h)
  | .ret, e, h => some (.ret, e, h)
  | .bad, _, _ => none

def retX (af : AFunc) : Option (AExit × Env × Heap) → Option (AV × Heap)
  | some (.exit _, _, _) => none
  | some (_, e, h) => (resOf e h af.results).map fun l => (resVal l, h)
  | none => none

end Go.Abs

/- Operations that leave the heap alone: what the model computes is what the abstract operation tells. -/
namespace Go.Abs
open Go.RowKit
set_option linter.unusedSimpArgs false

theorem scOf_rel {β : Names} {v : Value} {s : Sc} (h : scOf v = some s) : ScRel β s v := by
  unfold scOf at h
  split at h <;> first | (cases h; rfl) | cases h

theorem scsOf_rel {β : Names} : ∀ {l : List Value} {m : List Sc}, scsOf l = some m → CellsRel β m l
  | [], m, h => by cases h; trivial
  | v :: r, m, h => by
    simp only [scsOf] at h
    split at h
    · rename_i s l h1 h2
      cases h
      exact ⟨scOf_rel h1, scsOf_rel h2⟩
    · cases h

theorem avOf_rel {β : Names} {v : Value} {x : AV} (h : avOf v = some x) : VRel β x v := by
  unfold avOf at h
  split at h
  · rename_i cs
    simp only [Option.map_eq_some_iff] at h
    obtain ⟨l, h1, rfl⟩ := h
    exact ⟨cs, rfl, scsOf_rel h1⟩
  · simp only [Option.map_eq_some_iff] at h
    obtain ⟨s, h1, rfl⟩ := h
    exact scOf_rel h1

structure EnvRel (N : Nat) (β : Names) (e : Env) (tmps : Array Value) : Prop where
  size : tmps.size = N
  rel : ∀ t v, e.get t = some v → ∃ c, tmps[t]? = some c ∧ VRel β v c

theorem EnvRel.mono {N : Nat} {β β' : Names} (hb : β.le β') {e : Env} {tmps : Array Value} (h : EnvRel N β e tmps) : EnvRel N β' e tmps :=
  ⟨h.size, fun t v hv => let ⟨c, h1, h2⟩ := h.rel t v hv; ⟨c, h1, VRel.mono hb h2⟩⟩

section
variable {N : Nat} {β : Names} {e : Env} {a : Act}

theorem opd_ev {x : Operand} {y : Opd} {v : AV} (he : EnvRel N β e a.tmps) (hx : opd x = some y) (hv : y.ev e = some v) : VRel β v (a.eval x) := by
  cases x with
  | tmp t =>
    simp only [opd, Option.some.injEq] at hx; subst hx
    obtain ⟨c, h1, h2⟩ := he.rel t v hv
    have : a.eval (.tmp t) = c := by simp [Act.eval, Array.getD_eq_getD_getElem?, h1]
    rw [this]; exact h2
  | const u =>
    simp only [opd, Option.map_eq_some_iff] at hx
    obtain ⟨z, h1, rfl⟩ := hx
    simp only [Opd.ev, Option.some.injEq] at hv; subst hv
    exact avOf_rel h1
  | func f =>
    simp only [opd, Option.some.injEq] at hx; subst hx
    simp only [Opd.ev, Option.some.injEq] at hv; subst hv
    exact ⟨#[], rfl, trivial⟩
  | global g => cases hx

theorem opd_evs {x : Operand} {y : Opd} {s : Sc} (he : EnvRel N β e a.tmps) (hx : opd x = some y) (hv : y.evs e = some s) : ScRel β s (a.eval x) := by
  unfold Opd.evs at hv
  split at hv
  · rename_i s' h1
    cases hv
    exact opd_ev he hx h1
  · cases hv

theorem opds_ev : ∀ {l : List Operand} {m : List Opd} {vs : List AV}, EnvRel N β e a.tmps → opds l = some m → evAll e m = some vs → All2 (VRel β) vs (l.map a.eval)
  | [], m, vs, _, h, hv => by cases h; cases hv; trivial
  | x :: r, m, vs, he, h, hv => by
    simp only [opds] at h
    split at h
    · rename_i y l h1 h2
      cases h
      simp only [evAll] at hv
      split at hv
      · rename_i v l' h3 h4
        cases hv
        exact ⟨opd_ev he h1 h3, opds_ev he h2 h4⟩
      · cases hv
    · cases h

end

/-- What is to be shown of an operation that may turn the heap. -/
def Ok (B : Nat) (β : Names) (h : Heap) (v : AV) (h' : Heap) (w : World) (r : Result Value) : Prop :=
  ∃ c w' β', r = .ok c w' ∧ VRel β' v c ∧ Rel B β' h' w'.heap ∧ Step B β h w β' h' w'

theorem Ok.pure {B : Nat} {β : Names} {v : AV} {h : Heap} {w : World} {r : Result Value} {c : Value} (R : Rel B β h w.heap) (hr : r = .ok c w) (hv : VRel β v c) : Ok B β h v h w r :=
  ⟨c, w, β, hr, hv, R, Step.refl _ _ _ _⟩

/-- The same of an operation, whatever it yields. -/
def OkN (B : Nat) (β : Names) (h : Heap) (v : AV) (h' : Heap) (w : World) (r : Result Next) : Prop :=
  ∃ c w' β', (r = .ok (.value c) w' ∨ r = .ok .skip w' ∧ c = undef) ∧ VRel β' v c ∧ Rel B β' h' w'.heap ∧ Step B β h w β' h' w'

theorem OkN.of_v {B : Nat} {β : Names} {v : AV} {h h' : Heap} {P : Program} {w : World} {s : Sem Value} (hk : Ok B β h v h' w (s.run P w)) :
    OkN B β h v h' w ((do pure (.value (← s)) : Sem Next).run P w) := by
  obtain ⟨c, w', β', hr, hv, R, hB⟩ := hk
  exact ⟨c, w', β', .inl (by simp [hr]), hv, R, hB⟩

section
variable {P : Program} {w : World} {β : Names}

def plain : Sc → Value
  | .bool b => .bool b
  | .int k n => .int k n
  | .str s => .string ⟨s.toArray⟩
  | _ => undef

theorem run_bin_int {op : BinOp} {t : TypeId} {k k' : IntKind} {a b : Int} {s : Sc} (h : intBin op k a k' b = some s) :
    (binOp op t (.int k a) (.int k' b)).run P w = .ok (plain s) w ∧ ScRel β s (plain s) := by
  cases op <;> simp only [intBin] at h
  case shl =>
    split at h
    · cases h
    · cases h
      rename_i hb
      exact ⟨by simp [binOp, Op.shift, hb, wr_eq, plain], rfl⟩
  case shr =>
    split at h
    · cases h
    · cases h
      rename_i hb
      exact ⟨by simp [binOp, Op.shift, hb, plain], rfl⟩
  case quo =>
    split at h
    · subst_vars
      split at h
      · cases h
      · cases h
        rename_i hb
        exact ⟨by simp [binOp, Op.intDiv, hb, wr_eq, plain], rfl⟩
    · cases h
  case rem =>
    split at h
    · subst_vars
      split at h
      · cases h
      · cases h
        rename_i hb
        exact ⟨by simp [binOp, Op.intDiv, hb, plain], rfl⟩
    · cases h
  all_goals
    split at h
    · subst_vars
      cases h
      refine ⟨?_, rfl⟩
      first
        | (simp [binOp, Op.intArith, wr_eq, plain]; done)
        | (simp [binOp, Op.intCmp, plain]; done)
        | (simp [binOp, Op.intBits, bitop, wr_eq, plain]; done)
    · cases h

theorem bytes_append (a b : List UInt8) : (⟨a.toArray⟩ ++ ⟨b.toArray⟩ : ByteArray) = ⟨(a ++ b).toArray⟩ := by
  apply ByteArray.ext
  simp

theorem bytes_size (a : List UInt8) : (⟨a.toArray⟩ : ByteArray).size = a.length := by simp [ByteArray.size]

theorem run_bin_str {op : BinOp} {t : TypeId} {a b : List UInt8} {s : Sc} (h : strBin op a b = some s) :
    (binOp op t (.string ⟨a.toArray⟩) (.string ⟨b.toArray⟩)).run P w = .ok (plain s) w ∧ ScRel β s (plain s) := by
  cases op <;> simp only [strBin] at h
  case add =>
    split at h
    · cases h
      rename_i hl
      refine ⟨?_, rfl⟩
      have h1 : ¬ (9223372036854775807 < ((a.length : Int) + (b.length : Int))) := by omega
      simp [binOp, Op.stringOp, bytes_size, h1, plain, bytes_append]
    · cases h
  case eql => cases h; exact ⟨by simp [binOp, Op.stringOp, plain], rfl⟩
  case neq => cases h; exact ⟨by simp [binOp, Op.stringOp, plain], rfl⟩
  all_goals cases h

end
end Go.Abs

/- More operations that leave the heap alone: equality, conversion, parts of aggregates and strings. -/
namespace Go.Abs
open Go.RowKit
set_option linter.unusedSimpArgs false

section
variable {P : Program} {w : World} {β : Names}

/-- The type's kind, as isNil counts them; the nil of that kind. -/
def KindOf (P : Program) (t : TypeId) : Nat → Prop
  | 0 => ∃ e, P.underlying t = some (.pointer e)
  | 1 => ∃ e, P.underlying t = some (.slice e)
  | 2 => ∃ k e, P.underlying t = some (.map k e)
  | _ => ∃ p r v, P.underlying t = some (.func p r v)

def nilOf : Nat → Value
  | 0 => .pointer none
  | 1 => .slice none 0 0
  | 2 => .map none
  | _ => .nilFunc

theorem run_eqIn {kd : Nat} {t : TypeId} (ht : KindOf P t kd) {s : Sc} {c : Value} (hs : ScRel β s c) {b : Bool} (hn : isNil kd s = some b) (d : Nat) :
    (Op.equalIn (d + 1) t c (nilOf kd)).run P w = .ok b w ∧ (Op.equalIn (d + 1) t (nilOf kd) c).run P w = .ok b w := by
  unfold isNil at hn
  split at hn <;> cases hn
  · obtain ⟨e, ht⟩ := ht; subst hs
    simp [nilOf, Op.equalIn, run_underlying ht]
  · obtain ⟨e, ht⟩ := ht; obtain ⟨b, o, n, _, rfl⟩ := hs
    simp [nilOf, Op.equalIn, run_underlying ht]
  · obtain ⟨e, ht⟩ := ht; subst hs
    simp [nilOf, Op.equalIn, run_underlying ht]
  · obtain ⟨e, ht⟩ := ht; obtain ⟨a, cap, rfl, _⟩ := hs
    simp [nilOf, Op.equalIn, run_underlying ht]
  · obtain ⟨k, e, ht⟩ := ht; subst hs
    simp [nilOf, Op.equalIn, run_underlying ht]
  · obtain ⟨k, e, ht⟩ := ht; obtain ⟨b, o, n, _, rfl⟩ := hs
    simp [nilOf, Op.equalIn, run_underlying ht]
  · obtain ⟨p, r, v, ht⟩ := ht; subst hs
    simp [nilOf, Op.equalIn, run_underlying ht]
  · obtain ⟨p, r, v, ht⟩ := ht; obtain ⟨cs, rfl, _⟩ := hs
    simp [nilOf, Op.equalIn, run_underlying ht]

theorem run_eqN {kd : Nat} {t : TypeId} (ht : KindOf P t kd) {s : Sc} {c : Value} (hs : ScRel β s c) {b : Bool} (hn : isNil kd s = some b) :
    (binOp .eql t c (nilOf kd)).run P w = .ok (.bool b) w ∧ (binOp .neq t c (nilOf kd)).run P w = .ok (.bool !b) w ∧
    (binOp .eql t (nilOf kd) c).run P w = .ok (.bool b) w ∧ (binOp .neq t (nilOf kd) c).run P w = .ok (.bool !b) w := by
  obtain ⟨h1, h2⟩ := run_eqIn (w := w) ht hs hn 9999
  unfold isNil at hn
  split at hn <;> cases hn
  · subst hs; simp only [nilOf] at *; simp [binOp, Op.equal, Op.maxDepth, h1]
  · obtain ⟨b, o, n, _, rfl⟩ := hs; simp only [nilOf] at *; simp [binOp, Op.equal, Op.maxDepth, h1, h2]
  · subst hs; simp only [nilOf] at *; simp [binOp, Op.equal, Op.maxDepth, h1]
  · obtain ⟨a, cap, rfl, _⟩ := hs; simp only [nilOf] at *; simp [binOp, Op.equal, Op.maxDepth, h1, h2]
  · subst hs; simp only [nilOf] at *; simp [binOp, Op.equal, Op.maxDepth, h1]
  · obtain ⟨b, o, n, _, rfl⟩ := hs; simp only [nilOf] at *; simp [binOp, Op.equal, Op.maxDepth, h1, h2]
  · subst hs; simp only [nilOf] at *; simp [binOp, Op.equal, Op.maxDepth, h1]
  · obtain ⟨cs, rfl, _⟩ := hs; simp only [nilOf] at *; simp [binOp, Op.equal, Op.maxDepth, h1, h2]

theorem run_isAgg {t : TypeId} {b : Bool} (h : aggT P t = some b) : (isAgg t).run P w = .ok b w := by
  unfold aggT at h
  unfold isAgg
  simp only [Sem.run_bind]
  cases hu : P.underlying t with
  | none => rw [hu] at h; cases h
  | some d =>
    rw [hu] at h
    simp only [run_underlying hu, Result.andThen_ok]
    cases d <;> simp_all

theorem run_sizeOf {t : TypeId} {n : Nat} (h : sizeT P t = some n) : (sizeOf t).run P w = .ok n w := by
  unfold sizeT at h
  simp only [Option.map_eq_some_iff] at h
  obtain ⟨i, h1, rfl⟩ := h
  simp [sizeOf, typeInfo, h1]

/-- A cell's value out of an aggregate. -/
theorem cells_get {xs : List Sc} {cs : Array Value} (h : CellsRel β xs cs.toList) {i : Nat} {s : Sc} (hi : xs[i]? = some s) : ∃ c, cs[i]? = some c ∧ ScRel β s c := by
  obtain ⟨c, h1, h2⟩ := forall₂_get h i s hi
  exact ⟨c, by simpa using h1, h2⟩

theorem alike_cons {x : Sc} {xs : List Sc} {ys : List Sc} {r : Bool} (h : alike (x :: xs) ys = some r) :
    ∃ k a b ys' r', x = .int k a ∧ ys = .int k b :: ys' ∧ alike xs ys' = some r' ∧ r = (a == b && r') := by
  cases ys with
  | nil => cases x <;> simp [alike] at h
  | cons y ys =>
    cases x <;> try (simp [alike] at h; done)
    rename_i k a
    cases y <;> try (simp [alike] at h; done)
    rename_i k' b
    simp only [alike] at h
    split at h
    · subst_vars
      simp only [Option.map_eq_some_iff] at h
      obtain ⟨r', h3, rfl⟩ := h
      exact ⟨_, a, b, ys, r', rfl, rfl, h3, rfl⟩
    · cases h

/-- Integers side by side, field by field. -/
theorem run_eqFields {d : Nat} {xs ys : Array Value} : ∀ {fs : List Field} {o : Nat} {us vs : List Sc} {r : Bool}, intFields P fs o = true →
    (∀ i s, us[i]? = some s → ∃ c, xs[o + i]? = some c ∧ ScRel β s c) → (∀ i s, vs[i]? = some s → ∃ c, ys[o + i]? = some c ∧ ScRel β s c) →
    us.length = fs.length → alike us vs = some r → (Op.eqFields (d + 1) xs ys fs).run P w = .ok r w
  | [], o, us, vs, r, _, _, _, hl, ha => by
    cases us with
    | nil => cases vs with
      | nil => simp [alike] at ha; subst ha; simp [Op.eqFields]
      | cons _ _ => simp [alike] at ha
    | cons _ _ => simp at hl
  | f :: fs, o, us, vs, r, hf, hx, hy, hl, ha => by
    cases us with
    | nil => simp at hl
    | cons u us =>
      obtain ⟨k, a, b, vs', r', rfl, rfl, h3, rfl⟩ := alike_cons ha
      simp only [intFields, Bool.and_eq_true, beq_iff_eq, bne_iff_ne, ne_eq] at hf
      obtain ⟨⟨⟨h4, h5⟩, h6⟩, h7⟩ := hf
      obtain ⟨kk, hk⟩ : ∃ kk, P.underlying f.type = some (.int kk) := by
        split at h4
        · rename_i kk hk; exact ⟨kk, hk⟩
        · cases h4
      obtain ⟨c1, g1, g2⟩ := hx 0 _ rfl
      obtain ⟨c2, g3, g4⟩ := hy 0 _ rfl
      simp only [ScRel, Nat.add_zero] at g1 g2 g3 g4
      subst g2 g4
      have hag : (isAgg f.type).run P w = .ok false w := run_isAgg (by simp [aggT, hk])
      have ih := run_eqFields (d := d) (xs := xs) (ys := ys) (fs := fs) (o := o + 1) (us := us) (vs := vs') (r := r') h7
        (fun i s hs => by obtain ⟨c, q1, q2⟩ := hx (i + 1) s (by simpa using hs); exact ⟨c, by rwa [show o + 1 + i = o + (i + 1) by omega], q2⟩)
        (fun i s hs => by obtain ⟨c, q1, q2⟩ := hy (i + 1) s (by simpa using hs); exact ⟨c, by rwa [show o + 1 + i = o + (i + 1) by omega], q2⟩)
        (by simpa using hl) h3
      have hp1 : (part f.type xs f.offset).run P w = .ok (.int k a) w := by simp [part, hag, h5, g1]
      have hp2 : (part f.type ys f.offset).run P w = .ok (.int k b) w := by simp [part, hag, h5, g3]
      simp only [Op.eqFields, ne_eq, h6, not_false_eq_true, if_true, Sem.run_bind, hp1, hp2, Result.andThen_ok, run_equalIn_int w d f.type k kk a b hk, Sem.run_ite, Sem.run_pure, ih]
      cases hab : (a == b) <;> simp

theorem run_forIn_range {n : Nat} {xs ys : Array Value} {elem : TypeId} {kk : IntKind} {d : Nat} (hk : P.underlying elem = some (.int kk)) (hs : sizeT P elem = some 1) :
    ∀ {us vs : List Sc} {o : Nat} {r : Bool}, o + us.length = n → (∀ i s, us[i]? = some s → ∃ c, xs[o + i]? = some c ∧ ScRel β s c) → (∀ i s, vs[i]? = some s → ∃ c, ys[o + i]? = some c ∧ ScRel β s c) →
    alike us vs = some r →
    (forIn (List.range' o us.length) ((none, ()) : Option Bool × PUnit) fun i _ => do
      if !(← Op.equalIn (d + 1) elem (← part elem xs (i * 1)) (← part elem ys (i * 1))) then pure (ForInStep.done (some false, ())) else pure (ForInStep.yield (none, ()))).run P w =
      .ok (if r then (none, ()) else (some false, ())) w
  | [], vs, o, r, _, _, _, ha => by
    cases vs with
    | nil => simp [alike] at ha; subst ha; simp
    | cons _ _ => simp [alike] at ha
  | u :: us, vs, o, r, hl, hx, hy, ha => by
    obtain ⟨k, a, b, vs', r', rfl, rfl, h3, rfl⟩ := alike_cons ha
    obtain ⟨c1, g1, g2⟩ := hx 0 _ rfl
    obtain ⟨c2, g3, g4⟩ := hy 0 _ rfl
    simp only [ScRel, Nat.add_zero] at g1 g2 g3 g4
    subst g2 g4
    have hag : (isAgg elem).run P w = .ok false w := run_isAgg (by simp [aggT, hk])
    have ih := run_forIn_range (n := n) (d := d) (xs := xs) (ys := ys) hk hs (us := us) (vs := vs') (o := o + 1) (r := r') (by simp at hl; omega)
      (fun i s hs => by obtain ⟨c, q1, q2⟩ := hx (i + 1) s (by simpa using hs); exact ⟨c, by rwa [show o + 1 + i = o + (i + 1) by omega], q2⟩)
      (fun i s hs => by obtain ⟨c, q1, q2⟩ := hy (i + 1) s (by simpa using hs); exact ⟨c, by rwa [show o + 1 + i = o + (i + 1) by omega], q2⟩) h3
    have hp1 : (part elem xs o).run P w = .ok (.int k a) w := by simp [part, hag, g1]
    have hp2 : (part elem ys o).run P w = .ok (.int k b) w := by simp [part, hag, g3]
    simp only [List.length_cons, List.range'_succ, List.forIn_cons, Nat.mul_one, Sem.run_bind, hp1, hp2, Result.andThen_ok, run_equalIn_int w d elem k kk a b hk, Sem.run_ite, Sem.run_pure]
    simp only [Nat.mul_one] at ih
    cases hab : (a == b)
    · simp
    · simpa using ih

theorem run_eqArr {t e : TypeId} {kk : IntKind} {xs ys : Array Value} {us vs : List Sc} {r : Bool} (d : Nat)
    (hu : P.underlying t = some (.array us.length e)) (hk : P.underlying e = some (.int kk)) (hs : sizeT P e = some 1)
    (hx : CellsRel β us xs.toList) (hy : CellsRel β vs ys.toList) (ha : alike us vs = some r) :
    (Op.equalIn (d + 1 + 1) t (.agg xs) (.agg ys)).run P w = .ok r w := by
  have key := run_forIn_range (w := w) (β := β) (n := us.length) (d := d) (xs := xs) (ys := ys) hk hs (us := us) (vs := vs) (o := 0) (r := r) (by simp) (fun i s hs => by simpa using cells_get hx hs) (fun i s hs => by simpa using cells_get hy hs) ha
  rw [Op.equalIn]
  simp only [Sem.run_bind, run_underlying hu, Result.andThen_ok, run_sizeOf hs]
  simp only [Std.Legacy.Range.forIn_eq_forIn_range', Std.Legacy.Range.size, Nat.sub_zero, Nat.add_sub_cancel, Nat.div_one, key]
  cases r <;> simp

theorem run_eqA {t : TypeId} {n : Nat} {xs ys : Array Value} {us vs : List Sc} {r : Bool} (hok : eqAOk P t = true)
    (hn : (∃ fs, P.underlying t = some (.struct fs) ∧ fs.size = n) ∨ ∃ e, P.underlying t = some (.array n e))
    (hx : CellsRel β us xs.toList) (hy : CellsRel β vs ys.toList) (hl : us.length = n) (ha : alike us vs = some r) :
    (Op.equal t (.agg xs) (.agg ys)).run P w = .ok r w := by
  unfold eqAOk at hok
  rw [Bool.and_eq_true] at hok
  obtain ⟨_, hok⟩ := hok
  rcases hn with ⟨fs, hu, hfs⟩ | ⟨e, hu⟩
  · rw [hu] at hok
    simp only [Bool.and_eq_true, Bool.not_eq_true'] at hok
    have hf : P.fieldsOf t = fs := by simp [Program.fieldsOf, hu]
    have := run_equalIn_struct (P := P) w 9999 t xs ys (by rw [hf, hu]) hok.2
    show (Op.equalIn (9999 + 1) t (.agg xs) (.agg ys)).run P w = _
    rw [this, hf]
    exact run_eqFields (d := 9998) (o := 0) hok.1 (fun i s hs => by simpa using cells_get hx hs) (fun i s hs => by simpa using cells_get hy hs) (by simpa [hfs] using hl) ha
  · rw [hu] at hok
    simp only [Bool.and_eq_true, beq_iff_eq] at hok
    obtain ⟨kk, hk⟩ : ∃ kk, P.underlying e = some (.int kk) := by
      have h4 := hok.1
      split at h4
      · rename_i kk hk; exact ⟨kk, hk⟩
      · cases h4
    subst hl
    exact run_eqArr 9998 hu hk hok.2 hx hy ha

end
end Go.Abs

/- Operations that read memory, and the parts of values: what the model reads is what the abstract heap tells. -/
namespace Go.Abs
open Go.RowKit
set_option linter.unusedSimpArgs false

theorem choose_list {β : Names} {Q : Nat → Value → Prop} : ∀ {cs : List Sc} {o : Nat}, (∀ i s, cs[i]? = some s → ∃ u, Q (o + i) u ∧ ScRel β s u) →
    ∃ us : List Value, CellsRel β cs us ∧ ∀ i u, us[i]? = some u → Q (o + i) u
  | [], o, _ => ⟨[], trivial, fun i u h => by simp at h⟩
  | s :: cs, o, h => by
    obtain ⟨u, h1, h2⟩ := h 0 s rfl
    obtain ⟨us, h3, h4⟩ := choose_list (β := β) (Q := Q) (cs := cs) (o := o + 1) (fun i s hs => by
      obtain ⟨u, g1, g2⟩ := h (i + 1) s (by simpa using hs)
      exact ⟨u, by rwa [show o + 1 + i = o + (i + 1) by omega], g2⟩)
    refine ⟨u :: us, ⟨h2, h3⟩, fun i u' hu => ?_⟩
    cases i with
    | zero => simp at hu; subst hu; exact h1
    | succ i => rw [show o + (i + 1) = o + 1 + i by omega]; exact h4 i u' (by simpa using hu)

theorem addr_add (b o j : Nat) : (⟨b, o, none⟩ : Addr).add j = ⟨b, o + j, none⟩ := by
  unfold Addr.add; split <;> simp_all

section
variable {P : Program} {w : World} {β : Names} {B : Nat} {h : Heap}

theorem Rel.readAt (R : Rel B β h w.heap) {k : Nat} {vs : List Sc} (hr : h.read k = some vs) :
    ∃ b o n, β k = some (b, o, n) ∧ vs.length ≤ n ∧ ∀ i s, vs[i]? = some s → ∃ u, w.cell? ⟨b, o + i, none⟩ = some u ∧ ScRel β s u := by
  unfold Heap.read at hr
  split at hr
  · rename_i vs' hk
    cases hr
    obtain ⟨b, o, n, h1, _, c, e, h2, h3, h4, h5⟩ := R.objs k _ hk
    refine ⟨b, o, n, h1, h4, fun i s hs => ?_⟩
    obtain ⟨u, g1, g2⟩ := h5 i s hs
    exact ⟨u, by rw [cell_of_row w b (o + i) c e (0, 0) h2]; exact g1, g2⟩
  · rename_i vs' hk
    cases hr
    obtain ⟨b, o, n, h1, _, c, e, fr, h2, h3, h4, h5⟩ := R.objs k _ hk
    refine ⟨b, o, n, h1, h4, fun i s hs => ?_⟩
    obtain ⟨u, g1, g2⟩ := h5 i s hs
    exact ⟨u, by rw [cell_of_row w b (o + i) c e fr h2]; exact g1, g2⟩
  · cases hr

theorem Rel.cells (R : Rel B β h w.heap) {k off m : Nat} {cs : List Sc} (hr : h.cellsAt k off m = some cs) :
    ∃ b o n, β k = some (b, o, n) ∧ off + m ≤ n ∧ cs.length = m ∧ ∃ us : List Value, us.length = m ∧ CellsRel β cs us ∧ ∀ j v, us[j]? = some v → w.cell? ((⟨b, o + off, none⟩ : Addr).add j) = some v := by
  unfold Heap.cellsAt at hr
  split at hr
  · rename_i vs hk
    split at hr
    · cases hr
      rename_i hle
      obtain ⟨b, o, n, h1, h2, h3⟩ := R.readAt hk
      have hlen : ((vs.drop off).take m).length = m := by simp; omega
      obtain ⟨us, g1, g2⟩ := choose_list (β := β) (Q := fun i u => w.cell? ⟨b, o + off + i, none⟩ = some u) (cs := (vs.drop off).take m) (o := 0) (fun i s hs => by
        rw [List.getElem?_take] at hs
        split at hs
        · rw [List.getElem?_drop] at hs
          obtain ⟨u, q1, q2⟩ := h3 (off + i) s hs
          exact ⟨u, by rw [show o + off + (0 + i) = o + (off + i) by omega]; exact q1, q2⟩
        · cases hs)
      refine ⟨b, o, n, h1, by omega, hlen, us, by rw [← forall₂_length g1, hlen], g1, fun j v hv => ?_⟩
      rw [addr_add]
      have := g2 j v hv
      rwa [Nat.zero_add] at this
    · cases hr
  · cases hr

theorem run_loadCells_rel (R : Rel B β h w.heap) {k off m : Nat} {cs : List Sc} (hr : h.cellsAt k off m = some cs) :
    ∃ b o n, β k = some (b, o, n) ∧ off + m ≤ n ∧ cs.length = m ∧ ∃ us : List Value, us.length = m ∧ CellsRel β cs us ∧ (loadCells ⟨b, o + off, none⟩ m).run P w = .ok us.toArray w := by
  obtain ⟨b, o, n, h1, h2, h2', us, h3, h4, h5⟩ := R.cells hr
  refine ⟨b, o, n, h1, h2, h2', us, h3, h4, ?_⟩
  rw [← h3]
  exact run_loadCells_list w _ us h5

/-- Two looks at one name. -/
theorem names_eq {k : Nat} {b o n b' o' n' : Nat} (h1 : β k = some (b, o, n)) (h2 : β k = some (b', o', n')) : b = b' ∧ o = o' ∧ n = n' := by
  rw [h1] at h2; simp at h2; exact h2

theorem run_load_scalar (R : Rel B β h w.heap) {t : TypeId} (hn : loadN P t = some none) {k off : Nat} {vs : List Sc} {s : Sc} (hr : h.read k = some vs) (hs : vs[off]? = some s) {c : Value} (hc : ScRel β (.ptr k off) c) :
    ∃ u, (Instr.loadAt t c).run P w = .ok u w ∧ ScRel β s u := by
  obtain ⟨b, o, n, h1, h2, h3⟩ := R.readAt hr
  obtain ⟨b', o', n', g1, rfl⟩ := hc
  obtain ⟨rfl, rfl, rfl⟩ := names_eq h1 g1
  obtain ⟨u, q1, q2⟩ := h3 off s hs
  have hag : (isAgg t).run P w = .ok false w := by
    unfold loadN at hn
    split at hn
    · simp only [Option.map_eq_some_iff] at hn; obtain ⟨_, _, hn⟩ := hn; cases hn
    · rename_i h4; exact run_isAgg h4
    · cases hn
  refine ⟨u, ?_, q2⟩
  simp [Instr.loadAt, Instr.sureAddr, loadVar, hag, q1]

theorem loadN_some {t : TypeId} {n : Nat} (hn : loadN P t = some (some n)) : aggT P t = some true ∧ sizeT P t = some n := by
  unfold loadN at hn
  split at hn
  · rename_i h4
    simp only [Option.map_eq_some_iff] at hn
    obtain ⟨m, h5, h6⟩ := hn
    cases h6
    exact ⟨h4, h5⟩
  · cases hn
  · cases hn

theorem run_load_agg (R : Rel B β h w.heap) {t : TypeId} {m : Nat} (hn : loadN P t = some (some m)) {k off : Nat} {cs : List Sc} (hr : h.cellsAt k off m = some cs) {c : Value} (hc : ScRel β (.ptr k off) c) :
    ∃ u, (Instr.loadAt t c).run P w = .ok u w ∧ VRel β (.agg cs) u := by
  obtain ⟨b, o, n, h1, h2, _, us, h3, h4, h5⟩ := run_loadCells_rel (P := P) R hr
  obtain ⟨b', o', n', g1, rfl⟩ := hc
  obtain ⟨rfl, rfl, rfl⟩ := names_eq h1 g1
  obtain ⟨ha, hs⟩ := loadN_some hn
  refine ⟨.agg us.toArray, ?_, us.toArray, rfl, by simpa using h4⟩
  simp [Instr.loadAt, Instr.sureAddr, loadVar, run_isAgg ha, run_sizeOf hs, h5]

/-- A field's value, a part of an array. -/
theorem run_part {t : TypeId} {n : Option Nat} (hn : loadN P t = some n) {xs : List Sc} {cs : Array Value} (hx : CellsRel β xs cs.toList) {off : Nat} {v : AV}
    (hv : fieldV xs off n = some v) :
    ∃ u, (part t cs off).run P w = .ok u w ∧ VRel β v u := by
  cases n with
  | none =>
    simp only [fieldV, Option.map_eq_some_iff] at hv
    obtain ⟨s, h1, rfl⟩ := hv
    obtain ⟨u, h2, h3⟩ := cells_get hx h1
    have hag : (isAgg t).run P w = .ok false w := by
      unfold loadN at hn
      split at hn
      · simp only [Option.map_eq_some_iff] at hn; obtain ⟨_, _, hn⟩ := hn; cases hn
      · rename_i h4; exact run_isAgg h4
      · cases hn
    exact ⟨u, by simp [part, hag, h2], h3⟩
  | some n =>
    simp only [fieldV] at hv
    split at hv
    · cases hv
      rename_i hle
      obtain ⟨ha, hs⟩ := loadN_some hn
      refine ⟨_, by simp [part, run_isAgg ha, run_sizeOf hs]; rfl, _, rfl, ?_⟩
      have hlen := forall₂_length hx
      simp only [Array.length_toList] at hlen
      apply forall₂_of_get
      · simp; omega
      · intro i s hi
        rw [List.getElem?_take] at hi
        split at hi
        · rw [List.getElem?_drop] at hi
          obtain ⟨u, q1, q2⟩ := cells_get hx hi
          refine ⟨u, ?_, q2⟩
          rw [Array.getElem?_toList, Array.getElem?_extract]
          have : off + i < cs.size := by
            have := (Array.getElem?_eq_some_iff.1 q1).1; exact this
          rw [if_pos (by omega)]
          exact q1
        · cases hi
    · cases hv

theorem run_indexAddr {t e : TypeId} {sz : Nat} (ht : P.underlying t = some (.slice e)) (hs : sizeT P e = some sz) {k off len : Nat} {kk : IntKind} {n : Int} (h0 : 0 ≤ n) (h1 : n < len) {c : Value} (hc : ScRel β (.slice k off len sz) c) :
    ∃ u, (Instr.indexAt t c (.int kk n)).run P w = .ok u w ∧ ScRel β (.ptr k (off + n.toNat * sz)) u := by
  obtain ⟨a, cap, rfl, g1, g2, _, g3⟩ := hc
  have hcap : cap ≠ 0 := by omega
  obtain ⟨b, o, m, g4, rfl, g5⟩ := g3.resolve_left hcap
  refine ⟨_, ?_, b, o, m, g4, rfl⟩
  have h1' : n < (len : Int) := h1
  simp [Instr.indexAt, asIntOf, run_underlying ht, h0, h1', run_sizeOf hs, addr_add, Nat.add_assoc]

theorem run_indexAddrA {t e : TypeId} {sz m : Nat} (ht : P.underlying t = some (.array m e)) (hs : sizeT P e = some sz) {k off : Nat} {kk : IntKind} {n : Int} (h0 : 0 ≤ n) (h1 : n < m) {c : Value} (hc : ScRel β (.ptr k off) c) :
    ∃ u, (Instr.indexAt t c (.int kk n)).run P w = .ok u w ∧ ScRel β (.ptr k (off + n.toNat * sz)) u := by
  obtain ⟨b, o, q, g4, rfl⟩ := hc
  refine ⟨_, ?_, b, o, q, g4, rfl⟩
  simp [Instr.indexAt, asIntOf, run_underlying ht, h0, h1, run_sizeOf hs, addr_add, Instr.sureAddr, Nat.add_assoc]

theorem run_fieldAddr {t : TypeId} {f : Nat} {fd : Field} {s : Nat} (ht : fieldT P t f = some fd) (hs : sizeT P fd.type = some s) (h0 : 0 < s) {k off : Nat} {c : Value} (hc : ScRel β (.ptr k off) c) :
    ∃ u, (Instr.fieldAt t c f).run P w = .ok u w ∧ ScRel β (.ptr k (off + fd.offset)) u := by
  obtain ⟨b, o, q, g4, rfl⟩ := hc
  refine ⟨_, ?_, b, o, q, g4, rfl⟩
  unfold fieldT at ht
  split at ht
  · rename_i fs hu
    have hs0 : s ≠ 0 := by omega
    simp [Instr.fieldAt, run_underlying hu, ht, Instr.sureAddr, fieldPlace, run_sizeOf hs, hs0, addr_add, Nat.add_assoc]
  · cases ht

theorem run_field {t : TypeId} {f : Nat} {fd : Field} {n : Option Nat} (ht : fieldT P t f = some fd) (hn : loadN P fd.type = some n) {xs : List Sc} {c : Value} (hc : VRel β (.agg xs) c) {v : AV}
    (hv : fieldV xs fd.offset n = some v) :
    ∃ u, (Instr.field t c f).run P w = .ok u w ∧ VRel β v u := by
  obtain ⟨cs, rfl, hx⟩ := hc
  obtain ⟨u, h1, h2⟩ := run_part (w := w) hn hx hv
  refine ⟨u, ?_, h2⟩
  unfold fieldT at ht
  split at ht
  · rename_i fs hu
    simp [Instr.field, run_underlying hu, ht, asAgg, h1]
  · cases ht

theorem run_extract {vs : List (Sc ⊕ List Sc)} {i : Nat} {p : Sc ⊕ List Sc} (hp : vs[i]? = some p) {c : Value} (hc : VRel β (.tup vs) c) : ∃ u, (Instr.extract c i).run P w = .ok u w ∧ PartRel β p u := by
  obtain ⟨cs, rfl, hx⟩ := hc
  obtain ⟨u, h1, h2⟩ := forall₂_get hx i p hp
  exact ⟨u, by simp [Instr.extract, show cs[i]? = some u by simpa using h1], h2⟩

theorem run_index_str {t : TypeId} (ht : P.underlying t = some .string) {s : List UInt8} {kk : IntKind} {n : Int} (h0 : 0 ≤ n) {b : UInt8} (hb : s[n.toNat]? = some b) :
    (Instr.index t (.string ⟨s.toArray⟩) (.int kk n)).run P w = .ok (.int .u8 b.toNat) w := by
  have h1 : (⟨s.toArray⟩ : ByteArray)[n.toNat]? = some b := by
    have hl : n.toNat < s.length := by
      rcases Nat.lt_or_ge n.toNat s.length with h | h
      · exact h
      · rw [List.getElem?_eq_none h] at hb; cases hb
    rw [ByteArray.getElem?_lt' _ _ (by rw [bytes_size]; exact hl)]
    rw [List.getElem?_eq_getElem hl] at hb
    cases hb
    rfl
  simp [Instr.index, asIntOf, run_underlying ht, h0, h1]

theorem run_conv {src dst : TypeId} {d : TypeDesc} {k k' : IntKind} {n : Int} (hs : P.underlying src = some d) (hd : P.underlying dst = some (.int k)) :
    (convert src dst (.int k' n)).run P w = .ok (.int k (wr k n)) w := by
  simp only [convert, Sem.run_bind, run_underlying hs, run_underlying hd, Result.andThen_ok]
  cases d <;> simp [Conv.intToInt, wr_eq]

theorem run_minmax {ts : Array TypeId} {t : TypeId} {k : IntKind} {x y : Int} :
    (Builtin.max_ ts t #[.int k x, .int k y]).run P w = .ok (.int k (if y > x then y else x)) w ∧ (Builtin.min_ ts t #[.int k x, .int k y]).run P w = .ok (.int k (if y < x then y else x)) w :=
  ⟨run_max_int2 w ts t k k x y, run_min_int2 w ts t k k x y⟩

end
end Go.Abs

/- Slicing, strings out of bytes, aggregates built of parts, lookups in maps: the model's results are the abstract ones. -/
namespace Go.Abs
open Go.RowKit
set_option linter.unusedSimpArgs false

/-- An index that was given, or what stands for none. -/
def IdxRel (d : Nat) (ov : Option Value) (l : Nat) : Prop := (ov = none ∧ l = d) ∨ ∃ k n, ov = some (.int k n) ∧ 0 ≤ n ∧ l = n.toNat

section
variable {P : Program} {w : World} {β : Names} {B : Nat} {h : Heap}

theorem evIdx_rel {N : Nat} {e : Env} {a : Act} {d : Nat} {x : Option Operand} {y : Option Opd} {l : Nat} (he : EnvRel N β e a.tmps) (hx : opdO x = some y) (hv : evIdx e d y = some l) : IdxRel d (x.map a.eval) l := by
  cases x with
  | none =>
    simp only [opdO, Option.some.injEq] at hx; subst hx
    simp only [evIdx, Option.some.injEq] at hv; subst hv
    exact .inl ⟨rfl, rfl⟩
  | some x =>
    simp only [opdO, Option.map_eq_some_iff] at hx
    obtain ⟨z, h1, rfl⟩ := hx
    simp only [evIdx] at hv
    split at hv
    · rename_i k n hs
      split at hv
      · cases hv
        rename_i h0
        have := opd_evs he h1 hs
        simp only [ScRel] at this
        exact .inr ⟨k, n, by simp [this], h0, rfl⟩
      · cases hv
    · cases hv

theorem run_bound {d : Nat} {v : Value} {l y : Nat} {code : BoundsCode} (h : IdxRel d (some v) l) (hl : l ≤ y) : (Instr.sliceBound v y code).run P w = .ok l w := by
  rcases h with ⟨h, _⟩ | ⟨k, n, h, h0, rfl⟩
  · cases h
  · cases h
    exact run_sliceBound (w := w) k n y code h0 (by omega)

theorem run_bounds {isSlice : Bool} {len cap : Nat} {low high max : Option Value} {l u m : Nat} (hl : IdxRel 0 low l) (hu : IdxRel len high u) (hm : IdxRel cap max m)
    (h1 : l ≤ u) (h2 : u ≤ m) (h3 : m ≤ cap) (h4 : max.isSome = true → high.isSome = true) : (Instr.sliceBounds isSlice len cap low high max).run P w = .ok (l, u, m) w := by
  unfold Instr.sliceBounds
  cases max with
  | none =>
    have hm' : m = cap := by rcases hm with ⟨_, h⟩ | ⟨_, _, h, _⟩; exact h; cases h
    subst hm'
    cases high with
    | none =>
      have hu' : u = len := by rcases hu with ⟨_, h⟩ | ⟨_, _, h, _⟩; exact h; cases h
      subst hu'
      cases low with
      | none =>
        have hl' : l = 0 := by rcases hl with ⟨_, h⟩ | ⟨_, _, h, _⟩; exact h; cases h
        subst hl'
        simp
      | some lv => simp [run_bound hl h1]
    | some hv =>
      cases low with
      | none =>
        have hl' : l = 0 := by rcases hl with ⟨_, h⟩ | ⟨_, _, h, _⟩; exact h; cases h
        subst hl'
        simp [run_bound hu h2]
      | some lv => simp [run_bound hl h1, run_bound hu h2]
  | some mv =>
    cases high with
    | none => simp at h4
    | some hv =>
      cases low with
      | none =>
        have hl' : l = 0 := by rcases hl with ⟨_, h⟩ | ⟨_, _, h, _⟩; exact h; cases h
        subst hl'
        simp [run_bound hu h2, run_bound hm h3]
      | some lv => simp [run_bound hl h1, run_bound hu h2, run_bound hm h3]

theorem bytes_extract (s : List UInt8) (l u : Nat) : (⟨s.toArray⟩ : ByteArray).extract l u = ⟨((s.drop l).take (u - l)).toArray⟩ := by
  apply ByteArray.ext
  simp [ByteArray.data_extract]

theorem run_sliceS {t : TypeId} (ht : P.underlying t = some .string) {s : List UInt8} {low high : Option Value} {l u : Nat} (hl : IdxRel 0 low l) (hu : IdxRel s.length high u) (h1 : l ≤ u) (h2 : u ≤ s.length) :
    (Instr.sliceAt t (.string ⟨s.toArray⟩) low high none).run P w = .ok (.string ⟨((s.drop l).take (u - l)).toArray⟩) w := by
  have hb := run_bounds (P := P) (w := w) (isSlice := false) (max := none) (m := s.length) hl hu (.inl ⟨rfl, rfl⟩) h1 h2 (Nat.le_refl _) (by simp)
  simp [Instr.sliceAt, Instr.slice, run_underlying ht, bytes_size, hb, bytes_extract]

theorem run_sliceV_nil {t e : TypeId} {sz : Nat} (ht : P.underlying t = some (.slice e)) (hs : sizeT P e = some sz) {low high max : Option Value} (hl : IdxRel 0 low 0) (hu : IdxRel 0 high 0) (hm : IdxRel 0 max 0) (h4 : max.isSome = true → high.isSome = true) :
    (Instr.sliceAt t (.slice none 0 0) low high max).run P w = .ok (.slice none 0 0) w := by
  have hb := run_bounds (P := P) (w := w) (isSlice := true) hl hu hm (Nat.le_refl _) (Nat.le_refl _) (Nat.le_refl _) h4
  simp [Instr.sliceAt, Instr.slice, run_underlying ht, hb, run_sizeOf hs]

theorem run_sliceV {t e : TypeId} {sz : Nat} (ht : P.underlying t = some (.slice e)) (hs : sizeT P e = some sz) {k off len : Nat} {c : Value} (hc : ScRel β (.slice k off len sz) c) {low high max : Option Value} {l u m : Nat}
    (hl : IdxRel 0 low l) (hu : IdxRel len high u) (hm : IdxRel len max m) (h1 : l ≤ u) (h2 : u ≤ m) (h3 : m ≤ len) (h4 : max.isSome = true → high.isSome = true) :
    ∃ r, (Instr.sliceAt t c low high max).run P w = .ok r w ∧ ScRel β (.slice k (off + l * sz) (u - l) sz) r := by
  obtain ⟨a, cap, rfl, g1, g2, g0, g3⟩ := hc
  obtain ⟨m', hm', hm1, hm2⟩ : ∃ m', IdxRel cap max m' ∧ u ≤ m' ∧ m' ≤ cap := by
    rcases hm with ⟨rfl, rfl⟩ | ⟨kk, n, rfl, h0, rfl⟩
    · exact ⟨cap, .inl ⟨rfl, rfl⟩, by omega, by omega⟩
    · exact ⟨n.toNat, .inr ⟨kk, n, rfl, h0, rfl⟩, h2, by omega⟩
  have hb := run_bounds (P := P) (w := w) (isSlice := true) hl hu hm' h1 hm1 hm2 h4
  refine ⟨_, by simp [Instr.sliceAt, Instr.slice, run_underlying ht, hb, run_sizeOf hs]; rfl, ?_⟩
  by_cases he : m' = l
  · refine ⟨a, m' - l, by simp [he], by omega, by omega, g0, .inl (by omega)⟩
  · obtain ⟨b, o, n, q1, rfl, q3⟩ := g3.resolve_left (by omega)
    refine ⟨⟨b, o + off + l * sz, none⟩, m' - l, by simp [he, addr_add], by omega, by omega, g0, .inr ⟨b, o, n, q1, by simp [Nat.add_assoc], ?_⟩⟩
    have : l * sz + (m' - l) * sz = m' * sz := by rw [← Nat.add_mul]; congr 1; omega
    have : m' * sz ≤ cap * sz := Nat.mul_le_mul_right _ hm2
    omega

theorem run_sliceA (R : Rel B β h w.heap) {t e : TypeId} {sz n : Nat} (ht : P.underlying t = some (.array n e)) (hs : sizeT P e = some sz) {k off : Nat} {c : Value} (hc : ScRel β (.ptr k off) c) {vs : List Sc} (hr : h.read k = some vs) (hfit : off + n * sz ≤ vs.length)
    {low high : Option Value} {l u : Nat} (hl : IdxRel 0 low l) (hu : IdxRel n high u) (h1 : l ≤ u) (h2 : u ≤ n) (hn : n ≤ maxL) :
    ∃ r, (Instr.sliceAt t c low high none).run P w = .ok r w ∧ ScRel β (.slice k (off + l * sz) (u - l) sz) r := by
  obtain ⟨b, o, m, q1, rfl⟩ := hc
  obtain ⟨b', o', m', q2, q3, _⟩ := R.readAt hr
  obtain ⟨rfl, rfl, rfl⟩ := names_eq q1 q2
  have hb := run_bounds (P := P) (w := w) (isSlice := false) (max := none) (m := n) hl hu (.inl ⟨rfl, rfl⟩) h1 h2 (Nat.le_refl _) (by simp)
  refine ⟨_, by simp [Instr.sliceAt, Instr.sureAddr, run_underlying ht, hb, run_sizeOf hs]; rfl, ?_⟩
  by_cases he : n = l
  · exact ⟨⟨b, o + off, none⟩, n - l, by simp [he], by omega, by omega, ⟨_, q1⟩, .inl (by omega)⟩
  · refine ⟨⟨b, o + off + l * sz, none⟩, n - l, by simp [he, addr_add], by omega, by omega, ⟨_, q1⟩, .inr ⟨b, o, m, q1, by simp [Nat.add_assoc], ?_⟩⟩
    have : l * sz + (n - l) * sz = n * sz := by rw [← Nat.add_mul]; congr 1; omega
    omega

theorem bytes_values : ∀ {cs : List Sc} {us : List Value} {bs : List UInt8}, bytesOf cs = some bs → CellsRel β cs us → ∃ ns : List Int, us = ns.map (Value.int .u8) ∧ bs = ns.map fun n => UInt8.ofNat n.toNat
  | [], us, bs, h, hr => by
    cases us with
    | nil => cases h; exact ⟨[], rfl, rfl⟩
    | cons _ _ => exact hr.elim
  | s :: cs, us, bs, h, hr => by
    cases us with
    | nil => exact hr.elim
    | cons u us =>
      obtain ⟨h1, h2⟩ := hr
      simp only [bytesOf] at h
      split at h
      · rename_i b l hb hl
        cases h
        obtain ⟨ns, rfl, rfl⟩ := bytes_values hl h2
        unfold byteOfSc at hb
        split at hb
        · rename_i n
          cases hb
          simp only [ScRel] at h1; subst h1
          exact ⟨n :: ns, rfl, rfl⟩
        · cases hb
      · cases h

theorem foldl_push : ∀ (ns : List Int) (s : List UInt8), ns.foldl (fun r n => r.push (UInt8.ofNat n.toNat)) (⟨s.toArray⟩ : ByteArray) = ⟨(s ++ ns.map fun n => UInt8.ofNat n.toNat).toArray⟩
  | [], s => by simp
  | n :: ns, s => by
    have : (⟨s.toArray⟩ : ByteArray).push (UInt8.ofNat n.toNat) = ⟨(s ++ [UInt8.ofNat n.toNat]).toArray⟩ := by
      apply ByteArray.ext; simp
    simp only [List.foldl_cons, this, foldl_push ns, List.map_cons, List.append_assoc, List.singleton_append]

theorem run_b2s (R : Rel B β h w.heap) {src dst e : TypeId} (hs : P.underlying src = some (.slice e)) (he : P.underlying e = some (.int .u8)) (hd : P.underlying dst = some .string)
    {k off len : Nat} {c : Value} (hc : ScRel β (.slice k off len 1) c) {cs : List Sc} (hr : h.cellsAt k off len = some cs) {bs : List UInt8} (hb : bytesOf cs = some bs) :
    (convert src dst c).run P w = .ok (.string ⟨bs.toArray⟩) w := by
  obtain ⟨a, cap, rfl, g1, g2, _, g3⟩ := hc
  rw [run_convert_bytes_string w src dst e _ _ _ hs he hd]
  obtain ⟨b, o, n, h1, h2, h2', us, h3, h4, h5⟩ := run_loadCells_rel (P := P) R hr
  obtain ⟨ns, rfl, rfl⟩ := bytes_values hb h4
  have hl : (loadCells a len).run P w = .ok (ns.map (Value.int .u8)).toArray w := by
    rcases g3 with rfl | ⟨b', o', n', q1, rfl, _⟩
    · have : len = 0 := by omega
      subst this
      have : ns = [] := by simpa using h3
      subst this
      simp [loadCells, loadCellsFrom]
    · obtain ⟨rfl, rfl, rfl⟩ := names_eq h1 q1
      exact h5
  rw [run_bytesToString w a len cap ns hl]
  have := foldl_push ns []
  simp only [List.nil_append] at this
  have he : (⟨([] : List UInt8).toArray⟩ : ByteArray) = ByteArray.empty := rfl
  rw [he] at this
  rw [this]

theorem run_b2s_nil {src dst e : TypeId} (hs : P.underlying src = some (.slice e)) (he : P.underlying e = some (.int .u8)) (hd : P.underlying dst = some .string) :
    (convert src dst (.slice none 0 0)).run P w = .ok (.string ⟨([] : List UInt8).toArray⟩) w := by
  rw [run_convert_bytes_string w src dst e _ _ _ hs he hd]
  simp [Conv.bytesToString]
  rfl

/-! ### aggregates out of parts -/

theorem fold_set (cs : List Value) : ∀ (off : Nat) (c : Array Value) (j : Nat), off + j + cs.length ≤ c.size →
    ((cs.zipIdx j).foldl (fun (a : Array Value) (p : Value × Nat) => a.setIfInBounds (off + p.2) p.1) c).toList = c.toList.take (off + j) ++ (cs ++ c.toList.drop (off + j + cs.length)) := by
  induction cs with
  | nil => intro off c j _; simp
  | cons v cs ih =>
    intro off c j hl
    simp only [List.zipIdx_cons, List.foldl_cons]
    rw [ih off _ (j + 1) (by simp at hl ⊢; omega)]
    simp only [List.length_cons] at hl
    have hlt : off + j < c.toList.length := by simp; omega
    simp only [Array.toList_setIfInBounds, List.length_cons]
    rw [List.take_set, List.drop_set]
    have h1 : off + (j + 1) = off + j + 1 := by omega
    rw [h1]
    rw [if_pos (by omega), List.take_succ_eq_append_getElem hlt, List.set_append_right _ _ (by simp; omega)]
    simp only [List.length_take, List.append_assoc, List.cons_append]
    rw [show min (off + j) c.toList.length = off + j by omega]
    simp only [Nat.sub_self, List.set_cons_zero, List.nil_append]
    rw [show off + j + 1 + cs.length = off + j + (cs.length + 1) by omega]
    simp

theorem splice_rel {xs : List Sc} {us : List Value} (hx : CellsRel β xs us) {cs : List Sc} {vs : List Value} (hc : CellsRel β cs vs) (off : Nat) (hl : off + cs.length ≤ xs.length) :
    CellsRel β (splice xs off cs) (us.take off ++ (vs ++ us.drop (off + vs.length))) := by
  have hlen := forall₂_length hx
  have hlen2 := forall₂_length hc
  unfold splice
  have ht : CellsRel β (xs.take off) (us.take off) := by
    apply forall₂_of_get (by simp; omega)
    intro i s hi
    rw [List.getElem?_take] at hi ⊢
    split at hi
    · rename_i hlt; rw [if_pos hlt]; exact forall₂_get hx i s hi
    · cases hi
  have hd : CellsRel β (xs.drop (off + cs.length)) (us.drop (off + vs.length)) := by
    apply forall₂_of_get (by simp; omega)
    intro i s hi
    rw [List.getElem?_drop] at hi ⊢
    rw [← hlen2]
    exact forall₂_get hx _ s hi
  exact forall₂_append ht (forall₂_append hc hd)

theorem vcells {v : AV} {cs : List Sc} (hc : v.cells = some cs) {c : Value} (hv : VRel β v c) : CellsRel β cs c.cells.toList := by
  cases v with
  | any => cases hc
  | raw => cases hc
  | tup => cases hc
  | sc s =>
    simp only [AV.cells, Option.some.injEq] at hc; subst hc
    have h1 : ScRel β s c := hv
    have h2 := h1.oneCell
    have : c.cells = #[c] := by cases c <;> first | rfl | (simp [Value.oneCell'] at h2)
    rw [this]
    exact ⟨h1, trivial⟩
  | agg xs =>
    simp only [AV.cells, Option.some.injEq] at hc; subst hc
    obtain ⟨us, rfl, h1⟩ := hv
    exact h1

theorem fill_rel {place : Nat → Option (Nat × Nat)} : ∀ {parts : List (Nat × Value)} {ps : List (Nat × Nat × AV)} {xs : List Sc} {c : Array Value} {ys : List Sc},
    All2 (fun (p : Nat × Nat × AV) (q : Nat × Value) => place q.1 = some (p.1, p.2.1) ∧ VRel β p.2.2 q.2) ps parts → CellsRel β xs c.toList → fillA xs ps = some ys →
    ∃ c', Instr.fill place c parts = some c' ∧ CellsRel β ys c'.toList
  | [], ps, xs, c, ys, h, hx, hf => by
    cases ps with
    | nil => cases hf; exact ⟨c, rfl, hx⟩
    | cons _ _ => exact h.elim
  | (i, v) :: parts, ps, xs, c, ys, h, hx, hf => by
    cases ps with
    | nil => exact h.elim
    | cons p ps =>
      obtain ⟨off, size, av⟩ := p
      obtain ⟨⟨h1, h2⟩, h3⟩ := h
      simp only [fillA] at hf
      split at hf
      · rename_i cs hcs
        split at hf
        · rename_i hle
          obtain ⟨rfl, hle⟩ := hle
          have hcv := vcells hcs h2
          have hl1 := forall₂_length hcv
          have hl2 := forall₂_length hx
          simp only [Array.length_toList] at hl1 hl2
          simp only [Instr.fill, h1]
          rw [if_neg (by simp; omega)]
          refine fill_rel h3 ?_ hf
          have := fold_set v.cells.toList off c 0 (by simp; omega)
          rw [← Array.foldl_toList, Array.toList_zipIdx]
          rw [this]
          simp only [Nat.add_zero]
          exact splice_rel hx hcv off hle
        · cases hf
      · cases hf

theorem run_zero {t : TypeId} {z : List Sc} (hz : zeroT P t = some z) : ∃ v, (zeroValue t).run P w = .ok v w ∧ CellsRel β z v.cells.toList := by
  unfold zeroT at hz
  split at hz
  · rename_i i hi
    split at hz
    · rename_i v hv
      exact ⟨v, by simp [zeroValue, typeInfo, hi, hv], scsOf_rel hz⟩
    · cases hz
  · cases hz

end
end Go.Abs

/- Operations that lay or write memory: behind them the abstract heap, turned as the operation says, tells of the model's memory again. -/
namespace Go.Abs
open Go.RowKit
set_option linter.unusedSimpArgs false

section
variable {P : Program} {w : World} {β : Names} {B : Nat} {h : Heap}

theorem below_heap {B : Nat} {w w' : World} (h1 : w'.os = w.os) (h2 : w'.tape = w.tape) (h3 : w'.output = w.output) (h4 : w.heap.size ≤ w'.heap.size) (h5 : ∀ i, i < B → w'.heap[i]? = w.heap[i]?) : Below B w w' := ⟨h1, h2, h3, h4, h5⟩

theorem below_setRow {B g : Nat} (w : World) (cs : Array Value) (hg : B ≤ g) : Below B w (w.setRow g cs) :=
  ⟨rfl, rfl, rfl, by simp, fun i hi => setRow_other w g i cs (by omega)⟩

theorem row_of_cells {cs : List Sc} {c : Array Value} {us : List Value} {o : Nat} (hu : CellsRel β cs us) (hc : ∀ i u, us[i]? = some u → c[o + i]? = some u) : RowRel β cs c o :=
  fun i s hs => let ⟨u, h1, h2⟩ := forall₂_get hu i s hs; ⟨u, hc i u h1, h2⟩

/-- Cells are written into an object. -/
theorem write_rel (R : Rel B β h w.heap) {k off : Nat} {cs : List Sc} {h' : Heap} (hw : h.write k off cs = some h') {us : List Value} (hu : CellsRel β cs us) :
    ∃ b o n, β k = some (b, o, n) ∧ off + cs.length ≤ n ∧ ∃ w', (storeCells ⟨b, o + off, none⟩ us).run P w = .ok () w' ∧ Rel B β h' w'.heap ∧ Step B β h w β h' w' := by
  unfold Heap.write at hw
  split at hw
  · rename_i vs hk
    split at hw
    · cases hw
      rename_i hle
      obtain ⟨b, o, n, h1, h0, c, e, h2, h3, h4, h5⟩ := R.objs k _ hk
      have hlen := forall₂_length hu
      refine ⟨b, o, n, h1, by omega, _, run_storeCells_at P b (o + off) e us 0 c w h2 (by omega) (fun v hv => ?_), ?_, Step.update hk rfl h1 (below_setRow w _ h0) fun i hi _ => setRow_other w b i _ hi⟩
      · obtain ⟨i, hi⟩ := List.mem_iff_getElem?.1 hv
        have hi' : i < cs.length := by
          have := (List.getElem?_eq_some_iff.1 hi).1; omega
        obtain ⟨u, q1, q2⟩ := forall₂_get hu i cs[i] (by simp)
        rw [hi] at q1; cases q1
        exact q2.oneCell
      · refine R.update hk rfl h1 (by simp) (fun i hi _ => setRow_other w b i _ hi) ⟨h0, _, e, setRow_heap w b c _ e (0, 0) h2, ?_, ?_, ?_⟩
        · simp only [Nat.add_zero, List.size_toArray, List.length_append, List.length_take, List.length_drop, Array.length_toList]; omega
        · simp only [splice, List.length_append, List.length_take, List.length_drop]; omega
        · intro i s hs
          simp only [splice] at hs
          simp only [Nat.add_zero, List.getElem?_toArray, List.append_assoc, List.size_toArray]
          by_cases hi : i < off
          · rw [List.getElem?_append_left (by simp; omega), List.getElem?_take, if_pos hi] at hs
            obtain ⟨u, q1, q2⟩ := h5 i s hs
            refine ⟨u, ?_, q2⟩
            rw [List.getElem?_append_left (by simp; omega), List.getElem?_take, if_pos (by omega)]
            simpa using q1
          · rw [List.getElem?_append_right (by simp; omega)] at hs
            simp only [List.length_take, show min off vs.length = off by omega] at hs
            by_cases hi2 : i - off < cs.length
            · rw [List.getElem?_append_left (by omega)] at hs
              obtain ⟨u, q1, q2⟩ := forall₂_get hu _ s hs
              refine ⟨u, ?_, q2⟩
              rw [List.getElem?_append_right (by simp; omega), List.length_take, show min (o + off) c.toList.length = o + off by simp; omega, show o + i - (o + off) = i - off by omega, List.getElem?_append_left (by omega)]
              exact q1
            · rw [List.getElem?_append_right (by omega), List.getElem?_drop] at hs
              rw [show off + cs.length + (i - off - cs.length) = i by omega] at hs
              obtain ⟨u, q1, q2⟩ := h5 i s hs
              refine ⟨u, ?_, q2⟩
              rw [List.getElem?_append_right (by simp; omega), List.length_take, show min (o + off) c.toList.length = o + off by simp; omega, show o + i - (o + off) = i - off by omega, List.getElem?_append_right (by omega), List.getElem?_drop,
                show o + off + us.length + (i - off - us.length) = o + i by omega]
              simpa using q1
    · cases hw
  · cases hw

theorem run_store (R : Rel B β h w.heap) {t : TypeId} {n : Nat} (ht : sizeT P t = some n) {k off : Nat} {c : Value} (hc : ScRel β (.ptr k off) c) {cs : List Sc} {v : AV} (hvc : v.cells = some cs) (hn : cs.length = n) {u : Value} (hu : VRel β v u)
    {h' : Heap} (hw : h.write k off cs = some h') : ∃ w', (Instr.storeAt t c u).run P w = .ok () w' ∧ Rel B β h' w'.heap ∧ Step B β h w β h' w' := by
  obtain ⟨b, o, m, h1, _, w', h2, h3, h4⟩ := write_rel (P := P) R hw (vcells hvc hu)
  obtain ⟨b', o', m', q1, rfl⟩ := hc
  obtain ⟨rfl, rfl, rfl⟩ := names_eq h1 q1
  have hl := forall₂_length (vcells hvc hu)
  simp only [Array.length_toList] at hl
  have hsz : ¬ u.cells.size ≠ n := by omega
  refine ⟨w', ?_, h3, h4⟩
  simp [Instr.storeAt, Instr.sureAddr, storeVar, run_sizeOf ht, hsz, h2]

/-- A new row of cells. -/
theorem alloc_rel (R : Rel B β h w.heap) {cs : List Sc} {c : Array Value} (e : TypeId) (hl : cs.length ≤ c.size) (hr : RowRel β cs c 0) :
    ∃ β', β' h.next = some (w.heap.size, 0, c.size) ∧ Rel B β' (h.alloc (.cells cs)) (w.alloc (.cells c e)).heap ∧ Step B β h w β' (h.alloc (.cells cs)) (w.alloc (.cells c e)) := by
  have hle : β.le (β.upd h.next (w.heap.size, 0, c.size)) := Names.le_upd R.fresh
  refine ⟨β.upd h.next (w.heap.size, 0, c.size), by simp [Names.upd], ?_, Step.new R (Nat.le_refl _) ((Below.refl _ _).alloc R.base _) fun i hi => heap_alloc_old w _ i hi⟩
  refine R.new (by simp) (fun k x b' off' n' hk hb => ?_) (fun i _ hi => heap_alloc_old w _ i hi) ⟨R.base, c, e, heap_alloc_new w _, by omega, hl, hr.mono hle⟩
  obtain ⟨b, off, n, h1, h2⟩ := R.objs k x hk
  obtain ⟨rfl, rfl, rfl⟩ := names_eq h1 hb
  have := h2.lt
  omega

theorem run_box (R : Rel B β h w.heap) {e : TypeId} {cs : List Sc} {v : AV} (hvc : v.cells = some cs) {u : Value} (hu : VRel β v u) :
    Ok B β h (.sc (.ptr h.next 0)) (h.alloc (.cells cs)) w ((Instr.box e u).run P w) := by
  have hv := vcells hvc hu
  have hl := forall₂_length hv
  simp only [Array.length_toList] at hl
  obtain ⟨β', h2, h3, h4⟩ := alloc_rel (c := u.cells) R e (by omega) (row_of_cells hv (fun i x hx => by simpa using hx))
  exact ⟨.pointer (some ⟨w.heap.size, 0, none⟩), w.alloc (.cells u.cells e), β', by simp [Instr.box, newVar, newRow], ⟨w.heap.size, 0, _, h2, rfl⟩, h3, h4⟩

theorem run_alloc (R : Rel B β h w.heap) {e : TypeId} {z : List Sc} (hz : zeroT P e = some z) :
    Ok B β h (.sc (.ptr h.next 0)) (h.alloc (.cells z)) w ((Instr.alloc e true (.tuple #[])).run P w) := by
  obtain ⟨u, h0, hv⟩ := run_zero (w := w) (β := β) hz
  have hl := forall₂_length hv
  simp only [Array.length_toList] at hl
  obtain ⟨β', h2, h3, h4⟩ := alloc_rel (c := u.cells) R e (by omega) (row_of_cells hv (fun i x hx => by simpa using hx))
  exact ⟨.pointer (some ⟨w.heap.size, 0, none⟩), w.alloc (.cells u.cells e), β', by simp [Instr.alloc, newVar, newRow, h0], ⟨w.heap.size, 0, _, h2, rfl⟩, h3, h4⟩

/-- The zero cells of n elements. -/
theorem flat_zero {z : List Sc} {c : Array Value} (hz : CellsRel β z c.toList) (n : Nat) : CellsRel β (List.replicate n z).flatten ((Array.range (n * c.size)).map fun i => c[i % c.size]!).toList := by
  have hl := forall₂_length hz
  simp only [Array.length_toList] at hl
  apply forall₂_of_get
  · simp [hl]
  · intro i s hs
    have hz0 : 0 < c.size := by
      rcases Nat.eq_zero_or_pos c.size with h0 | h0
      · have hzn : z = [] := List.eq_nil_of_length_eq_zero (by omega)
        subst hzn
        simp at hs
      · exact h0
    have hi : i < n * c.size := by
      have := (List.getElem?_eq_some_iff.1 hs).1
      simpa [hl] using this
    have key : ∀ (n i : Nat), i < n * z.length → (List.replicate n z).flatten[i]? = z[i % z.length]? := by
      intro n
      induction n with
      | zero => intro i hi; simp at hi
      | succ n ih =>
        intro i hi
        rw [List.replicate_succ, List.flatten_cons]
        by_cases hlt : i < z.length
        · rw [List.getElem?_append_left hlt, Nat.mod_eq_of_lt hlt]
        · rw [List.getElem?_append_right (by omega), ih (i - z.length) (by rw [Nat.succ_mul] at hi; omega)]
          congr 1
          conv => rhs; rw [show i = (i - z.length) + z.length by omega]
          simp
    rw [key n i (by rw [hl]; exact hi)] at hs
    obtain ⟨u, h1, h2⟩ := cells_get hz hs
    refine ⟨u, ?_, h2⟩
    rw [hl] at h1
    have hm : i % c.size < c.size := Nat.mod_lt _ hz0
    simp only [Array.toList_map, Array.toList_range, List.getElem?_map, List.getElem?_range, hi]
    simp only [Option.map_some, Option.some.injEq]
    rw [getElem!_pos c (i % c.size) hm]
    rw [Array.getElem?_eq_getElem hm] at h1
    exact Option.some.inj h1

end
end Go.Abs

/- Maps and slices that the call makes: their operations in the model and in the abstract heap. -/
namespace Go.Abs
open Go.RowKit
set_option linter.unusedSimpArgs false

def EntRel (β : Names) (k : IntKind) (p : Int × Sc) (en : MapEntry) : Prop := en.key = .int k p.1 ∧ ScRel β p.2 en.val

section
variable {P : Program} {w : World} {β : Names} {B : Nat} {h : Heap}

theorem find_none {k kk : IntKind} {n : Int} : ∀ {es : List (Int × Sc)} {ents : List MapEntry} (i : Nat), All2 (EntRel β k) es ents → mfind n es = none → Instr.findNow (.int kk) (.int k n) ents i = some none
  | [], [], _, _, _ => rfl
  | [], _ :: _, _, h, _ => h.elim
  | _ :: _, [], _, h, _ => h.elim
  | (y, v) :: es, en :: ents, i, h, hm => by
    obtain ⟨⟨h1, h2⟩, h3⟩ := h
    simp only [mfind] at hm
    split at hm
    · cases hm
    · rename_i hne
      simp only at h1
      have hny : (n == y) = false := by simpa using hne
      simp [Instr.findNow, h1, Instr.sameNow, hny, find_none (i + 1) h3 hm]

theorem mput_none {k : IntKind} {n : Int} {s : Sc} : ∀ {es : List (Int × Sc)}, mfind n es = none → mput n s es = es ++ [(n, s)]
  | [], _ => rfl
  | (y, v) :: es, hm => by
    simp only [mfind] at hm
    split at hm
    · cases hm
    · rename_i hne
      simp [mput, hne, mput_none (k := k) hm]

theorem mdel_none {n : Int} : ∀ {es : List (Int × Sc)}, mfind n es = none → mdel n es = es
  | [], _ => rfl
  | (y, v) :: es, hm => by
    simp only [mfind] at hm
    split at hm
    · cases hm
    · rename_i hne
      simp [mdel, hne, mdel_none hm]

theorem find_some {k kk : IntKind} {n : Int} {v : Sc} : ∀ {es : List (Int × Sc)} {ents : List MapEntry} (i : Nat), All2 (EntRel β k) es ents → mfind n es = some v →
    ∃ j en, Instr.findNow (.int kk) (.int k n) ents i = some (some (i + j, en.val)) ∧ ents[j]? = some en ∧ en.key = .int k n ∧ ScRel β v en.val ∧
      (∀ (s : Sc) (f : MapEntry → MapEntry), EntRel β k (n, s) (f en) → All2 (EntRel β k) (mput n s es) (ents.modify j f)) ∧ All2 (EntRel β k) (mdel n es) (ents.eraseIdx j)
  | [], [], _, _, hm => by cases hm
  | [], _ :: _, _, h, _ => h.elim
  | _ :: _, [], _, h, _ => h.elim
  | (y, u) :: es, en :: ents, i, h, hm => by
    obtain ⟨⟨h1, h2⟩, h3⟩ := h
    simp only at h1 h2
    simp only [mfind] at hm
    split at hm
    · rename_i he
      cases hm
      subst he
      exact ⟨0, en, by simp [Instr.findNow, h1, Instr.sameNow], rfl, h1, h2, fun s f hf => by simp only [mput, if_true]; exact ⟨hf, h3⟩, by simpa [mdel] using h3⟩
    · rename_i hne
      obtain ⟨j, en', g1, g2, g3, g4, g5, g6⟩ := find_some (kk := kk) (i + 1) h3 hm
      refine ⟨j + 1, en', ?_, by simpa using g2, g3, g4, fun s f hf => ?_, ?_⟩
      · simp only [Instr.findNow, h1, Instr.sameNow, if_true]
        have : (n == y) = false := by simpa using hne
        rw [this]
        simp only [g1]
        congr 3
        omega
      · simp only [mput, if_neg hne]
        exact ⟨⟨h1, h2⟩, g5 s f hf⟩
      · simp only [mdel, if_neg hne]
        exact ⟨⟨h1, h2⟩, g6⟩

theorem keyT_some {t : TypeId} {kk : IntKind} (ht : keyT P t = some kk) : ∃ k e, P.underlying t = some (.map k e) ∧ P.underlying k = some (.int kk) := by
  unfold keyT at ht
  split at ht
  · rename_i k e hu
    split at ht
    · rename_i kk' hk
      cases ht
      exact ⟨k, e, hu, hk⟩
    · cases ht
  · cases ht

theorem run_checkKey {k : TypeId} {kk k' : IntKind} {n : Int} (hk : P.underlying k = some (.int kk)) (b : Bool) : (Instr.checkKey b 10000 k (.int k' n)).run P w = .ok () w := by
  show (Instr.checkKey b (9999 + 1) k (.int k' n)).run P w = .ok () w
  rw [Instr.checkKey]
  simp [run_underlying hk]

theorem run_findKey {k : TypeId} {kk k' : IntKind} {n : Int} {es : List MapEntry} {r : Option (Nat × Value)} (hk : P.underlying k = some (.int kk)) (hr : Instr.findNow (.int kk) (.int k' n) es 0 = some r) :
    (Instr.findKey k (.int k' n) es).run P w = .ok r w := by
  simp [Instr.findKey, run_underlying hk, hr]

theorem map_block (R : Rel B β h w.heap) {r : Nat} {k : IntKind} {es : List (Int × Sc)} (hr : h.get r = some (.map k es)) {c : Value} (hc : ScRel β (.map r) c) :
    ∃ b o n ents clock, β r = some (b, o, n) ∧ c = .map (some b) ∧ B ≤ b ∧ w.heap[b]? = some (.map ents clock) ∧ All2 (EntRel β k) es ents.toList ∧ BornOk ents.toList clock := by
  obtain ⟨b, o, n, h1, rfl⟩ := hc
  obtain ⟨b', o', n', h2, h3, ents, clock, h4, h5⟩ := R.objs r _ hr
  obtain ⟨rfl, rfl, rfl⟩ := names_eq h1 h2
  exact ⟨b, o, n, ents, clock, h1, rfl, h3, h4, h5⟩

theorem run_getMap {b : Nat} {ents : Array MapEntry} {clock : Nat} (hb : w.heap[b]? = some (.map ents clock)) : (getObj b).run P w = .ok (.map ents clock) w := by
  simp [getObj, Sem.run, hb]

theorem run_setMap {b : Nat} {ents : Array MapEntry} {clock : Nat} (o : Obj) (hb : w.heap[b]? = some (.map ents clock)) : (setObj b o).run P w = .ok () { w with heap := w.heap.setIfInBounds b o } := by
  simp [setObj, Sem.run, hb]

theorem BornOk.push {l : List MapEntry} {clock : Nat} (hb : BornOk l clock) (k v : Value) : BornOk (l ++ [⟨k, v, clock⟩]) (clock + 1) := by
  refine ⟨fun x hx => ?_, ?_⟩
  · rcases List.mem_append.1 hx with hx | hx
    · have := hb.1 x hx; omega
    · rw [List.mem_singleton] at hx; subst hx; exact Nat.lt_succ_self _
  · rw [List.map_append]
    refine List.nodup_append.2 ⟨hb.2, by simp, ?_⟩
    intro a ha c hc he
    simp only [List.map_cons, List.map_nil, List.mem_singleton] at hc
    obtain ⟨x, hx, rfl⟩ := List.mem_map.1 ha
    have := hb.1 x hx
    omega

theorem BornOk.modify {l : List MapEntry} {clock : Nat} (hb : BornOk l clock) {f : MapEntry → MapEntry} (hf : ∀ e, (f e).born = e.born) (j : Nat) : BornOk (l.modify j f) clock := by
  have hm : (l.modify j f).map (·.born) = l.map (·.born) := by
    apply List.ext_getElem?
    intro i
    simp only [List.getElem?_map, List.getElem?_modify]
    cases l[i]? with
    | none => simp
    | some e => by_cases hj : j = i <;> simp [hj, hf]
  refine ⟨fun x hx => ?_, by rw [hm]; exact hb.2⟩
  have : x.born ∈ (l.modify j f).map (·.born) := List.mem_map_of_mem hx
  rw [hm] at this
  obtain ⟨y, hy, he⟩ := List.mem_map.1 this
  rw [← he]; exact hb.1 y hy

theorem BornOk.sub {l l' : List MapEntry} {clock : Nat} (hb : BornOk l clock) (hs : l'.Sublist l) : BornOk l' clock :=
  ⟨fun x hx => hb.1 x (hs.subset hx), (hs.map _).nodup hb.2⟩

theorem eraseIdx_sub {α : Type} (l : List α) (j : Nat) : (l.eraseIdx j).Sublist l := List.eraseIdx_sublist l j

/-- A map's object is laid anew. -/
theorem map_set (R : Rel B β h w.heap) {r : Nat} {k k' : IntKind} {es es' : List (Int × Sc)} (hr : h.get r = some (.map k es)) {b o n : Nat} (hb : β r = some (b, o, n)) {ents' : Array MapEntry} {clock' : Nat}
    (hx : All2 (EntRel β k') es' ents'.toList) (hbo : BornOk ents'.toList clock') : Rel B β (h.set r (.map k' es')) (w.heap.setIfInBounds b (.map ents' clock')) ∧ Step B β h w β (h.set r (.map k' es')) { w with heap := w.heap.setIfInBounds b (.map ents' clock') } := by
  obtain ⟨b', o', n', h2, h3, ents, clock, h4, h5⟩ := R.objs r _ hr
  obtain ⟨rfl, rfl, rfl⟩ := names_eq hb h2
  have hlt : b < w.heap.size := (Array.getElem?_eq_some_iff.1 h4).1
  refine ⟨R.update hr rfl hb (by simp) (fun i hi _ => by rw [Array.getElem?_setIfInBounds_ne (Ne.symm hi)]) ⟨h3, ents', clock', by simp [hlt], hx, hbo⟩, Step.update hr rfl hb ⟨rfl, rfl, rfl, by simp, fun i hi => ?_⟩ fun i hi _ => Array.getElem?_setIfInBounds_ne (Ne.symm hi)⟩
  exact Array.getElem?_setIfInBounds_ne (by omega)

theorem run_lookup {t : TypeId} {kk : IntKind} (ht : keyT P t = some kk) {e k0 : TypeId} (hu : P.underlying t = some (.map k0 e)) {z : Sc} {zv : Value} (hz : (zeroValue e).run P w = .ok zv w) (hzr : ScRel β z zv)
    {c : Value} {n : Int} {res : Option Sc} {ok : Bool}
    (hc : (c = .map none ∧ res = none) ∨ ∃ b ents clock es, c = .map (some b) ∧ w.heap[b]? = some (.map ents clock) ∧ All2 (EntRel β kk) es ents.toList ∧ res = mfind n es) :
    ∃ u, (Instr.lookup t c (.int kk n) ok).run P w = .ok u w ∧
      VRel β (lookV z ok res) u := by
  obtain ⟨k, e', hu', hk⟩ := keyT_some ht
  rw [hu] at hu'; cases hu'
  rcases hc with ⟨rfl, rfl⟩ | ⟨b, ents, clock, es, rfl, hb, hes, rfl⟩
  · have hf : (Instr.findKey k0 (.int kk n) []).run P w = .ok none w := run_findKey hk rfl
    refine ⟨if ok then .tuple #[zv, .bool false] else zv, ?_, ?_⟩
    · simp [Instr.lookup, run_underlying hu, run_checkKey hk, hf, hz]
    · cases ok
      · exact hzr
      · exact ⟨_, rfl, hzr, rfl, trivial⟩
  · cases hm : mfind n es with
    | none =>
      have hf : (Instr.findKey k0 (.int kk n) ents.toList).run P w = .ok none w := run_findKey hk (find_none 0 hes hm)
      refine ⟨if ok then .tuple #[zv, .bool false] else zv, ?_, ?_⟩
      · simp [Instr.lookup, run_underlying hu, run_getMap hb, run_checkKey hk, hf, hz]
      · cases ok
        · exact hzr
        · exact ⟨_, rfl, hzr, rfl, trivial⟩
    | some v =>
      obtain ⟨j, en, g1, _, _, g4, _⟩ := find_some (kk := kk) 0 hes hm
      have hf : (Instr.findKey k0 (.int kk n) ents.toList).run P w = .ok (some (0 + j, en.val)) w := run_findKey hk g1
      refine ⟨if ok then .tuple #[en.val, .bool true] else en.val, ?_, ?_⟩
      · simp [Instr.lookup, run_underlying hu, run_getMap hb, run_checkKey hk, hf]
      · cases ok
        · exact g4
        · exact ⟨_, rfl, g4, rfl, trivial⟩

theorem run_keyStays {k : IntKind} {n : Int} : (Instr.keyThatStays (.int k n) (.int k n)).run P w = .ok (.int k n) w := by
  simp [Instr.keyThatStays, Instr.sameBits]

theorem run_mapUpdate (R : Rel B β h w.heap) {t : TypeId} {kk : IntKind} (ht : keyT P t = some kk) {r : Nat} {es : List (Int × Sc)} (hr : h.get r = some (.map kk es)) {c : Value} (hc : ScRel β (.map r) c) {n : Int} {s : Sc} {u : Value} (hu : ScRel β s u) :
    ∃ w', (Instr.mapUpdate t c (.int kk n) u).run P w = .ok () w' ∧ Rel B β (h.set r (.map kk (mput n s es))) w'.heap ∧ Step B β h w β (h.set r (.map kk (mput n s es))) w' := by
  obtain ⟨b, o, m, ents, clock, h1, rfl, h2, hb, hes, hbo⟩ := map_block R hr hc
  obtain ⟨k, e, hut, hk⟩ := keyT_some ht
  cases hm : mfind n es with
  | none =>
    have hf : (Instr.findKey k (.int kk n) ents.toList).run P w = .ok none w := run_findKey hk (find_none 0 hes hm)
    have hx : All2 (EntRel β kk) (mput n s es) (ents.push ⟨.int kk n, u, clock⟩).toList := by
      rw [mput_none (k := kk) hm, Array.toList_push]
      exact forall₂_append hes ⟨⟨rfl, hu⟩, trivial⟩
    obtain ⟨g1, g2⟩ := map_set (clock' := clock + 1) R hr h1 hx (by rw [Array.toList_push]; exact hbo.push _ _)
    exact ⟨_, by simp [Instr.mapUpdate, run_underlying hut, run_getMap hb, run_checkKey hk, hf, run_setMap _ hb], g1, g2⟩
  | some v =>
    obtain ⟨j, en, q1, q2, q3, q4, q5, _⟩ := find_some (kk := kk) 0 hes hm
    have hf : (Instr.findKey k (.int kk n) ents.toList).run P w = .ok (some (0 + j, en.val)) w := run_findKey hk q1
    have hen : ents[j]? = some en := by simpa using q2
    have hx : All2 (EntRel β kk) (mput n s es) (ents.modify j fun e => { e with key := .int kk n, val := u }).toList := by
      rw [Array.toList_modify]
      exact q5 s _ ⟨rfl, hu⟩
    obtain ⟨g1, g2⟩ := map_set (clock' := clock) R hr h1 hx (by rw [Array.toList_modify]; exact BornOk.modify hbo (f := fun e => { e with key := .int kk n, val := u }) (fun _ => rfl) _)
    exact ⟨_, by simp [Instr.mapUpdate, run_underlying hut, run_getMap hb, run_checkKey hk, hf, run_setMap _ hb, hen, q3, run_keyStays], g1, g2⟩

theorem run_delete (R : Rel B β h w.heap) {t : TypeId} {ts : Array TypeId} {ty : TypeId} (hts : ts[0]? = some t) {kk : IntKind} (ht : keyT P t = some kk) {r : Nat} {es : List (Int × Sc)} (hr : h.get r = some (.map kk es)) {c : Value} (hc : ScRel β (.map r) c) {n : Int} :
    ∃ w', (Builtin.delete_ ts ty #[c, .int kk n]).run P w = .ok (.tuple #[]) w' ∧ Rel B β (h.set r (.map kk (mdel n es))) w'.heap ∧ Step B β h w β (h.set r (.map kk (mdel n es))) w' := by
  obtain ⟨b, o, m, ents, clock, h1, rfl, h2, hb, hes, hbo⟩ := map_block R hr hc
  obtain ⟨k, e, hut, hk⟩ := keyT_some ht
  cases hm : mfind n es with
  | none =>
    have hf : (Instr.findKey k (.int kk n) ents.toList).run P w = .ok none w := run_findKey hk (find_none 0 hes hm)
    have hx : All2 (EntRel β kk) (mdel n es) ents.toList := by rw [mdel_none hm]; exact hes
    obtain ⟨g1, g2⟩ := map_set (clock' := clock) R hr h1 hx hbo
    exact ⟨_, by simp [Builtin.delete_, hts, run_underlying hut, run_getMap hb, run_checkKey hk, hf, run_setMap _ hb], g1, g2⟩
  | some v =>
    obtain ⟨j, en, q1, q2, q3, q4, _, q6⟩ := find_some (kk := kk) 0 hes hm
    have hf : (Instr.findKey k (.int kk n) ents.toList).run P w = .ok (some (0 + j, en.val)) w := run_findKey hk q1
    have hx : All2 (EntRel β kk) (mdel n es) (ents.eraseIdxIfInBounds j).toList := by
      have hj : j < ents.size := by
        have := (List.getElem?_eq_some_iff.1 q2).1; simpa using this
      rw [Array.eraseIdxIfInBounds, dif_pos hj, Array.toList_eraseIdx]
      exact q6
    obtain ⟨g1, g2⟩ := map_set (clock' := clock) R hr h1 hx (hbo.sub (by have hj : j < ents.size := by { have := (List.getElem?_eq_some_iff.1 q2).1; simpa using this }; rw [Array.eraseIdxIfInBounds, dif_pos hj, Array.toList_eraseIdx]; exact eraseIdx_sub _ _))
    exact ⟨_, by simp [Builtin.delete_, hts, run_underlying hut, run_getMap hb, run_checkKey hk, hf, run_setMap _ hb], g1, g2⟩

theorem run_lenM (R : Rel B β h w.heap) {t k e : TypeId} {ts : Array TypeId} {ty : TypeId} (hts : ts[0]? = some t) (hut : P.underlying t = some (.map k e)) {r : Nat} {kk : IntKind} {es : List (Int × Sc)} (hr : h.get r = some (.map kk es)) {c : Value} (hc : ScRel β (.map r) c) :
    (Builtin.len_ ts ty #[c]).run P w = .ok (.int .i64 es.length) w := by
  obtain ⟨b, o, m, ents, clock, h1, rfl, h2, hb, hes, hbo⟩ := map_block R hr hc
  have := forall₂_length hes
  simp [Builtin.len_, hts, run_underlying hut, run_getMap hb, goInt, this]

theorem run_makeMap (R : Rel B β h w.heap) (t : TypeId) (k : IntKind) : Ok B β h (.sc (.map h.next)) (h.alloc (.map k [])) w ((Instr.makeMap t none).run P w) := by
  refine ⟨.map (some w.heap.size), w.alloc (.map #[] 0), β.upd h.next (w.heap.size, 0, 0), by simp [Instr.makeMap], ⟨w.heap.size, 0, 0, by simp [Names.upd], rfl⟩, ?_, Step.new R (Nat.le_refl _) ((Below.refl _ _).alloc R.base _) fun i hi => heap_alloc_old w _ i hi⟩
  refine R.new (by simp) (fun k' x b' off' n' hk hb => ?_) (fun i _ hi => heap_alloc_old w _ i hi) ⟨R.base, #[], 0, heap_alloc_new w _, trivial, by simp [BornOk]⟩
  obtain ⟨b, off, n, h1, h2⟩ := R.objs k' x hk
  obtain ⟨rfl, rfl, rfl⟩ := names_eq h1 hb
  have := h2.lt
  omega

end
end Go.Abs

/- Slices: made, built, appended to, copied, cleared; closures; a sum with carry: in the model and in the abstract heap. -/
namespace Go.Abs
open Go.RowKit
set_option linter.unusedSimpArgs false

section
variable {P : Program} {w : World} {β : Names} {B : Nat} {h : Heap}

theorem toList_get {c : Array Value} {i : Nat} {x : Value} (hx : c.toList[i]? = some x) : c[0 + i]? = some x := by
  rw [Nat.zero_add]; rwa [Array.getElem?_toList] at hx

theorem elemS_some {t e : TypeId} (ht : elemS P t = some e) : P.underlying t = some (.slice e) := by
  unfold elemS at ht
  split at ht
  · rename_i e' hu; cases ht; exact hu
  · cases ht

theorem zero_size {e : TypeId} {z : List Sc} {sz : Nat} (hz : zeroT P e = some z) (_hs : sizeT P e = some sz) (hl : z.length = sz) : ∃ v, (∀ w, (zeroValue e).run P w = .ok v w) ∧ CellsRel β z v.cells.toList ∧ v.cells.size = sz := by
  unfold zeroT at hz
  split at hz
  · rename_i i hi
    split at hz
    · rename_i v hv
      have h1 : CellsRel β z v.cells.toList := scsOf_rel hz
      refine ⟨v, fun w => by simp [zeroValue, typeInfo, hi, hv], h1, ?_⟩
      have := forall₂_length h1
      simp only [Array.length_toList] at this
      omega
    · cases hz
  · cases hz

theorem run_buildSlice (R : Rel B β h w.heap) {t e : TypeId} (ht : elemS P t = some e) {sz len : Nat} {z : List Sc} (hs : sizeT P e = some sz) (hz : zeroT P e = some z) (hzl : z.length = sz) (h0 : 0 < sz) (hm : len * sz ≤ 16777216) (hml : len ≤ maxL)
    {parts : Array (Nat × Value)} {ps : List (Nat × Nat × AV)} (hp : All2 (fun (p : Nat × Nat × AV) (q : Nat × Value) => (some (q.1 * sz, sz) : Option (Nat × Nat)) = some (p.1, p.2.1) ∧ VRel β p.2.2 q.2) ps parts.toList)
    {cs : List Sc} (hf : fillA (List.replicate len z).flatten ps = some cs) (hcl : cs.length = len * sz) :
    Ok B β h (.sc (.slice h.next 0 len sz)) (h.alloc (.cells cs)) w ((Instr.buildSlice t len parts).run P w) := by
  obtain ⟨v, hv, hvr, hvs⟩ := zero_size (β := β) hz hs hzl
  have hu := elemS_some ht
  subst hvs
  obtain ⟨c, hc1, hc2⟩ : ∃ c, Instr.fill (fun i => some (i * v.cells.size, v.cells.size)) ((Array.range (len * v.cells.size)).map fun i => v.cells[i % v.cells.size]!) parts.toList = some c ∧ CellsRel β cs c.toList := by
    refine fill_rel hp ?_ hf
    exact flat_zero hvr len
  have hlen := forall₂_length hc2
  simp only [Array.length_toList] at hlen
  obtain ⟨β', h2, h3, h4⟩ := alloc_rel (c := c) R e (by omega) (row_of_cells hc2 (fun i x hx => toList_get hx))
  refine ⟨.slice (some ⟨w.heap.size, 0, none⟩) len len, w.alloc (.cells c e), β', ?_, ⟨_, len, rfl, Nat.le_refl _, hml, ⟨_, h2⟩, .inr ⟨w.heap.size, 0, c.size, h2, rfl, by omega⟩⟩, h3, h4⟩
  have hm' : ¬ (len * v.cells.size > 2 ^ 24) := by omega
  by_cases hz0 : len * v.cells.size = 0
  · have hl0 : len = 0 := by
      rcases Nat.mul_eq_zero.1 hz0 with h5 | h5
      · exact h5
      · omega
    subst hl0
    simp only [Nat.zero_mul, Array.range_zero', Array.map_empty] at hc1
    simp [Instr.buildSlice, run_underlying hu, run_sizeOf hs, hc1, newRow, Array.range_zero']
  · simp [Instr.buildSlice, run_underlying hu, run_sizeOf hs, hm', hz0, hv, hc1, newRow]

theorem run_makeSlice (R : Rel B β h w.heap) {t e : TypeId} (ht : elemS P t = some e) {sz by' : Nat} {z : List Sc} (hs : sizeT P e = some sz) (hb : bytesT P e = some by') (hz : zeroT P e = some z) (hzl : z.length = sz) (h0 : 0 < sz)
    {l c : Int} (hl0 : 0 ≤ l) (hlc : l ≤ c) (hc : c ≤ 9223372036854775807) (hby : by' * c ≤ 281474976710656) :
    Ok B β h (.sc (.slice h.next 0 l.toNat sz)) (h.alloc (.cells (List.replicate c.toNat z).flatten)) w ((Instr.makeSlice t (.int .i64 l) (.int .i64 c)).run P w) := by
  obtain ⟨v, hv, hvr, hvs⟩ := zero_size (β := β) hz hs hzl
  have hu := elemS_some ht
  have hflat := flat_zero hvr c.toNat
  have hlen := forall₂_length hflat
  simp only [Array.length_toList] at hlen
  have hcs : ((Array.range (c.toNat * v.cells.size)).map fun i => v.cells[i % v.cells.size]!).size = c.toNat * sz := by simp [hvs]
  obtain ⟨β', h2, h3, h4⟩ := alloc_rel (c := (Array.range (c.toNat * v.cells.size)).map fun i => v.cells[i % v.cells.size]!) R e (by omega) (row_of_cells hflat (fun i x hx => toList_get hx))
  rw [hcs] at h2
  refine ⟨.slice (some ⟨w.heap.size, 0, none⟩) l.toNat c.toNat, _, β', ?_, ⟨_, c.toNat, rfl, by omega, by simp only [maxL]; omega, ⟨_, h2⟩, .inr ⟨w.heap.size, 0, _, h2, rfl, by omega⟩⟩, h3, h4⟩
  obtain ⟨i, hi, hib⟩ : ∃ i, P.info? e = some i ∧ i.bytes = by' := by
    unfold bytesT at hb
    simp only [Option.map_eq_some_iff] at hb
    exact hb
  have wl : IntKind.i64.wrap l = l := by rw [← wr_eq]; simp only [wr]; split <;> omega
  have wc : IntKind.i64.wrap c = c := by rw [← wr_eq]; simp only [wr]; split <;> omega
  have t1 : ¬ c < 0 := by omega
  have t2 : ¬ l < 0 := by omega
  have t3 : ¬ c < l := by omega
  have t4 : ¬ ((281474976710656 : Int) < by' * c) := by omega
  by_cases hz0 : c.toNat * sz = 0
  · have hc0 : c.toNat = 0 := by
      rcases Nat.mul_eq_zero.1 hz0 with h5 | h5
      · exact h5
      · omega
    simp [Instr.makeSlice, run_underlying hu, asInt, asIntOf, typeInfo, hi, hib, wl, wc, t1, t2, t3, t4, run_sizeOf hs, hc0, newRow, Array.range_zero']
  · simp [Instr.makeSlice, run_underlying hu, asInt, asIntOf, typeInfo, hi, hib, wl, wc, t1, t2, t3, t4, run_sizeOf hs, hz0, hv, hvs, newRow]

theorem run_build {t : TypeId} {z : List Sc} (hz : zeroT P t = some z) (hok : placesOk P t = true) {parts : Array (Nat × Value)} {ps : List (Nat × Nat × AV)}
    (hp : All2 (fun (p : Nat × Nat × AV) (q : Nat × Value) => placeOf P t q.1 = some (p.1, p.2.1) ∧ VRel β p.2.2 q.2) ps parts.toList) {cs : List Sc} (hf : fillA z ps = some cs) :
    ∃ u, (Instr.build t parts).run P w = .ok u w ∧ VRel β (.agg cs) u := by
  obtain ⟨v, hv, hvr⟩ := run_zero (w := w) (β := β) hz
  obtain ⟨c, hc1, hc2⟩ := fill_rel hp hvr hf
  refine ⟨.agg c, ?_, c, rfl, hc2⟩
  unfold placesOk at hok
  split at hok
  · rename_i fs hu
    have hpl : ∀ (l : List Field) (w : World), (l.all fun f => (sizeT P f.type).isSome) = true → (l.mapM (m := Sem) fun f => do pure (f.offset, ← sizeOf f.type)).run P w = .ok (l.map fun f => (f.offset, (sizeT P f.type).getD 0)) w := by
      intro l
      induction l with
      | nil => intro w _; simp
      | cons f l ih =>
        intro w ha
        simp only [List.all_cons, Bool.and_eq_true] at ha
        obtain ⟨s, hs⟩ := Option.isSome_iff_exists.1 ha.1
        have h5 := ih w ha.2
        simp only [bind_pure_comp] at h5
        simp [List.mapM_cons, run_sizeOf hs, h5, hs]
    have hpl' := hpl fs.toList w hok
    have hplace : (fun i => (fs.toList.map fun f => (f.offset, (sizeT P f.type).getD 0)).toArray[i]?) = placeOf P t := by
      funext i
      simp only [placeOf, hu, List.getElem?_toArray, List.getElem?_map, Array.getElem?_toList]
      cases hi : fs[i]? with
      | none => simp
      | some f =>
        have hmem : f ∈ fs.toList := by
          have := (Array.getElem?_eq_some_iff.1 hi).2
          rw [← this]; simp
        obtain ⟨s, hs⟩ := Option.isSome_iff_exists.1 (List.all_eq_true.1 hok f hmem)
        simp [hs]
    have hmap : (fs.mapM (m := Sem) fun f => do pure (f.offset, ← sizeOf f.type)).run P w = .ok (fs.toList.map fun f => (f.offset, (sizeT P f.type).getD 0)).toArray w := by
      rw [Array.mapM_eq_mapM_toList]
      rw [Sem.run_map, hpl']
      rfl
    simp only [Instr.build, Sem.run_bind, hv, Result.andThen_ok, run_underlying hu, hmap]
    rw [hplace, hc1]
    simp
  · rename_i n e hu
    obtain ⟨s, hs⟩ := Option.isSome_iff_exists.1 hok
    have hplace : (fun i => (some (i * s, s) : Option (Nat × Nat))) = placeOf P t := by
      funext i; simp [placeOf, hu, hs]
    simp only [Instr.build, Sem.run_bind, hv, Result.andThen_ok, run_underlying hu, run_sizeOf hs]
    rw [hplace, hc1]
    simp
  · cases hok

/-! ### append, copy, clear -/

/-- What an appended or copied operand hands over: as many cells as asked for, in any world with this heap. -/
theorem src_rel (R : Rel B β h w.heap) {sz : Nat} {n? : Option Nat} {s : Sc} {m : Nat} {cs : List Sc} (hs : srcCells h sz n? s = some (m, cs)) {c : Value} (hc : ScRel β s c) :
    ∃ us : List Value, CellsRel β cs us ∧ us.length = m * sz ∧ (∀ w' : World, w'.heap = w.heap → (Builtin.firstCells sz m c).run P w' = .ok us.toArray w') ∧
      (n? = none → ∀ w' : World, (Builtin.lenOf c).run P w' = .ok m w') := by
  unfold srcCells at hs
  split at hs
  · cases hs
    simp only [ScRel] at hc; subst hc
    exact ⟨[], trivial, by simp, fun w' _ => by simp [Builtin.firstCells], fun _ w' => by simp [Builtin.lenOf]⟩
  · rename_i k off len sz'
    dsimp only at hs
    split at hs
    · rename_i hle
      simp only [Option.map_eq_some_iff, Prod.mk.injEq] at hs
      obtain ⟨cs', h1, rfl, rfl⟩ := hs
      obtain ⟨a, cap, rfl, g1, g2, _, g3⟩ := hc
      obtain ⟨b, o, q, h2, h3, h3', us, h4, h5, h6⟩ := R.cells h1
      refine ⟨us, h5, h4, fun w' hw => ?_, fun hn w' => by subst hn; simp [Builtin.lenOf]⟩
      rcases g3 with rfl | ⟨b', o', q', q1, rfl, _⟩
      · have : n?.getD len = 0 := by omega
        rw [this] at h4 ⊢
        have hus : us = [] := List.eq_nil_of_length_eq_zero (by simpa using h4)
        subst hus
        simp [Builtin.firstCells, loadCells, loadCellsFrom]
      · obtain ⟨rfl, rfl, rfl⟩ := names_eq h2 q1
        have := run_loadCells_list (P := P) w' ⟨b, o + off, none⟩ us (fun j v hv => by
          have := h6 j v hv
          rw [World.cell?_of_block (w := w) (w' := w') (by rw [hw])]
          exact this)
        rw [h4] at this
        simpa [Builtin.firstCells] using this
    · cases hs
  · rename_i s
    dsimp only at hs
    split at hs
    · rename_i hle
      cases hs
      simp only [ScRel] at hc; subst hc
      obtain ⟨rfl, hle⟩ := hle
      refine ⟨(s.take (n?.getD s.length)).map fun b => .int .u8 b.toNat, ?_, by simp; omega, fun w' _ => ?_, fun hn w' => by subst hn; simp [Builtin.lenOf, bytes_size]⟩
      · apply forall₂_of_get (by simp)
        intro i x hx
        simp only [List.getElem?_map, Option.map_eq_some_iff] at hx ⊢
        obtain ⟨b, h1, rfl⟩ := hx
        exact ⟨_, ⟨b, h1, rfl⟩, rfl⟩
      · simp [Builtin.firstCells, bytes_extract]
    · cases hs
  · cases hs

theorem info_of {e : TypeId} {sz by' : Nat} {z : List Sc} (hs : sizeT P e = some sz) (hb : bytesT P e = some by') (hz : zeroT P e = some z) : ∃ i zv, P.info? e = some i ∧ i.size = sz ∧ i.bytes = by' ∧ i.zero = some zv ∧ scsOf zv.cells.toList = some z := by
  unfold zeroT at hz
  unfold sizeT at hs
  unfold bytesT at hb
  split at hz
  · rename_i i hi
    split at hz
    · rename_i zv hv
      simp only [hi, Option.map_some, Option.some.injEq] at hs hb
      exact ⟨i, zv, hi, hs, hb, hv, hz⟩
    · cases hz
  · cases hz

theorem run_append_fits {t u ty e : TypeId} {i : TypeInfo} (ht : P.underlying t = some (.slice e)) (hu : srcOk P u = true) (hi : P.info? e = some i) {base : Option Addr} {n cap m : Nat} {x : Value} {us : List Value}
    (hlen : ∀ w' : World, (Builtin.lenOf x).run P w' = .ok m w') (hf : (Builtin.firstCells i.size m x).run P w = .ok us.toArray w) (hroom : n + m ≤ cap) {w' : World}
    (hst : match base with | some a => (storeCells (a.add (n * i.size)) us).run P w = .ok () w' | none => w' = w) :
    (Builtin.append_ #[t, u] ty #[.slice base n cap, x]).run P w = .ok (.slice base (n + m) cap) w' := by
  unfold srcOk at hu
  cases base with
  | none =>
    simp only at hst; subst hst
    split at hu
    · rename_i e' hu'; simp [Builtin.append_, run_underlying ht, run_underlying hu', sizeOf, typeInfo, hi, hlen, hroom, hf]
    · rename_i hu'; simp [Builtin.append_, run_underlying ht, run_underlying hu', sizeOf, typeInfo, hi, hlen, hroom, hf]
    · cases hu
  | some a =>
    simp only at hst
    split at hu
    · rename_i e' hu'; simp [Builtin.append_, run_underlying ht, run_underlying hu', sizeOf, typeInfo, hi, hlen, hroom, hf, hst]
    · rename_i hu'; simp [Builtin.append_, run_underlying ht, run_underlying hu', sizeOf, typeInfo, hi, hlen, hroom, hf, hst]
    · cases hu

theorem run_append_grows {t u ty e : TypeId} {i : TypeInfo} {z : Value} (ht : P.underlying t = some (.slice e)) (hu : srcOk P u = true) (hi : P.info? e = some i) (hz : i.zero = some z) {base : Option Addr} {n cap m : Nat} {x : Value} {os us : List Value}
    (hlen : ∀ w' : World, (Builtin.lenOf x).run P w' = .ok m w') (hf : (Builtin.firstCells i.size m x).run P w.drew = .ok us.toArray w.drew) (ho : (Builtin.firstCells i.size n (.slice base n cap)).run P w.drew = .ok os.toArray w.drew)
    (hroom : cap < n + m) (h63 : n + m ≤ maxL) (hby : (n + m) * i.bytes ≤ 140737488355328) :
    (Builtin.append_ #[t, u] ty #[.slice base n cap, x]).run P w =
      .ok (.slice (some ⟨w.heap.size, 0, none⟩) (n + m) (grownCap w (n + m) cap e)) (w.drew.alloc (.cells (os.toArray ++ us.toArray ++ Builtin.zeroCells z.cells (grownCap w (n + m) cap e - (n + m))) e)) := by
  have hn : ¬ (n + m ≤ cap) := by omega
  have h63' : ¬ (9223372036854775807 < ((n : Int) + (m : Int))) := by simp only [maxL] at h63; omega
  have hfit := growslice_fits (old := cap) hroom hby
  have h48' : ¬ (281474976710656 < Builtin.nextslicecap (n + m) cap * i.bytes) := by omega
  unfold srcOk at hu
  split at hu
  · rename_i e' hu'
    simp [Builtin.append_, run_underlying ht, run_underlying hu', sizeOf, typeInfo, zeroValue, hi, hz, hlen, hn, h63', h48', Question.forced, hf, ho, newRow, grownCap]
    congr 2
    apply Array.ext'
    simp [List.append_assoc]
  · rename_i hu'
    simp [Builtin.append_, run_underlying ht, run_underlying hu', sizeOf, typeInfo, zeroValue, hi, hz, hlen, hn, h63', h48', Question.forced, hf, ho, newRow, grownCap]
    congr 2
    apply Array.ext'
    simp [List.append_assoc]
  · cases hu

theorem zeroCells_size (z : Array Value) (n : Nat) : (Builtin.zeroCells z n).size = n * z.size := by simp [Builtin.zeroCells]

/-- Behind an append that grew: a new row. -/
theorem append_new (R : Rel B β h w.heap) {e : TypeId} {zc : Array Value} {cs : List Sc} {us : List Value} (hu : CellsRel β cs us) {n nc sz : Nat} (hcl : cs.length = n * sz) (hz : zc.size = sz) (hn : n ≤ nc) (hnc : nc ≤ maxL) :
    ∃ β', VRel β' (.sc (.slice h.next 0 n sz)) (.slice (some ⟨w.heap.size, 0, none⟩) n nc) ∧ 
      Rel B β' (h.alloc (.cells cs)) (w.drew.alloc (.cells (us.toArray ++ Builtin.zeroCells zc (nc - n)) e)).heap ∧ Step B β h w β' (h.alloc (.cells cs)) (w.drew.alloc (.cells (us.toArray ++ Builtin.zeroCells zc (nc - n)) e)) := by
  have hl := forall₂_length hu
  have hsz : (us.toArray ++ Builtin.zeroCells zc (nc - n)).size = nc * sz := by
    simp only [Array.size_append, List.size_toArray, zeroCells_size, hz, ← hl, hcl]
    rw [← Nat.add_mul]; congr 1; omega
  obtain ⟨β', h2, h3, h4⟩ := alloc_rel (w := w.drew) (c := us.toArray ++ Builtin.zeroCells zc (nc - n)) R e (by rw [hsz, hcl]; exact Nat.mul_le_mul_right _ hn) (row_of_cells hu (fun i x hx => by
    have hi : i < us.length := (List.getElem?_eq_some_iff.1 hx).1
    rw [Nat.zero_add, Array.getElem?_append_left (by simpa using hi)]
    simpa using hx))
  rw [hsz] at h2
  exact ⟨β', ⟨_, nc, rfl, hn, hnc, ⟨_, h2⟩, .inr ⟨w.heap.size, 0, _, h2, rfl, by omega⟩⟩, h3, h4.le, ((Below.refl B w).drew).trans h4.below, h4.frame, h4.own⟩

theorem run_append_nils (R : Rel B β h w.heap) {t u ty e : TypeId} {sz by' : Nat} {z : List Sc} (ht : elemS P t = some e) (hu : srcOk P u = true) (hs : sizeT P e = some sz) (hb : bytesT P e = some by') (hz : zeroT P e = some z) (hzl : z.length = sz)
    {s : Sc} {m : Nat} {cs : List Sc} (hsrc : srcCells h sz none s = some (m, cs)) {c : Value} (hc : ScRel β s c) (h1 : m * by' ≤ 140737488355328) (h2 : m ≤ maxL) :
    Ok B β h (if m = 0 then .sc .nils else .sc (.slice h.next 0 m sz)) (if m = 0 then h else h.alloc (.cells cs)) w ((Builtin.append_ #[t, u] ty #[.slice none 0 0, c]).run P w) := by
  obtain ⟨i, zv, hi, rfl, rfl, hzv, hzc⟩ := info_of hs hb hz
  obtain ⟨us, g1, g2, g3, g4⟩ := src_rel (P := P) R hsrc hc
  have hut := elemS_some ht
  have hl := forall₂_length g1
  by_cases hm : m = 0
  · subst hm
    have hus : us = [] := List.eq_nil_of_length_eq_zero (by simpa using g2)
    subst hus
    have := run_append_fits (w := w) (w' := w) (ty := ty) (base := none) (n := 0) (cap := 0) hut hu hi (g4 rfl) (g3 w rfl) (Nat.le_refl _) rfl
    simp only [if_true]
    exact Ok.pure R this rfl
  · rw [if_neg hm, if_neg hm]
    have hzs : zv.cells.size = i.size := by
      have := forall₂_length (scsOf_rel (β := β) hzc)
      simp only [Array.length_toList] at this; omega
    have key := run_append_grows (w := w) (ty := ty) (base := none) (n := 0) (cap := 0) (os := []) hut hu hi hzv (g4 rfl) (g3 w.drew rfl) (by simp [Builtin.firstCells]) (by omega) (by omega) (by simpa using h1)
    simp only [Nat.zero_add, List.nil_append] at key
    obtain ⟨β', q1, q3, q4⟩ := append_new (e := e) R g1 (n := m) (nc := grownCap w m 0 e) (by rw [hl, g2]) hzs (grownCap_ge w m 0 e) (grownCap_le_maxLen w m 0 e h2)
    refine ⟨_, _, β', ?_, q1, q3, q4⟩
    rw [key]
    simp

theorem run_append_slice (R : Rel B β h w.heap) {t u ty e : TypeId} {sz by' : Nat} {z : List Sc} (ht : elemS P t = some e) (hu : srcOk P u = true) (hs : sizeT P e = some sz) (hb : bytesT P e = some by') (hz : zeroT P e = some z) (hzl : z.length = sz) (hsz0 : 0 < sz)
    {s : Sc} {m : Nat} {cs : List Sc} (hsrc : srcCells h sz none s = some (m, cs)) {c : Value} (hc : ScRel β s c) {k off n : Nat} {vs : List Sc} (hk : h.get k = some (.cells vs)) {d : Value} (hd : ScRel β (.slice k off n sz) d) (hfit : off + n * sz ≤ vs.length)
    (h1 : (n + m) * by' ≤ 140737488355328) (h2 : n + m ≤ maxL) :
    Ok B β h (.sc (.slice h.next 0 (n + m) sz)) ((h.del k).alloc (.cells ((vs.drop off).take (n * sz) ++ cs))) w ((Builtin.append_ #[t, u] ty #[d, c]).run P w) := by
  obtain ⟨i, zv, hi, rfl, rfl, hzv, hzc⟩ := info_of hs hb hz
  obtain ⟨us, g1, g2, g3, g4⟩ := src_rel (P := P) R hsrc hc
  have hut := elemS_some ht
  have hl := forall₂_length g1
  obtain ⟨a, cap, rfl, d1, d2, _, d3⟩ := hd
  have hcells : h.cellsAt k off (n * i.size) = some ((vs.drop off).take (n * i.size)) := by
    simp [Heap.cellsAt, Heap.read, hk, hfit]
  obtain ⟨b, o, q, e1, e2, e2', os, e3, e4, e5⟩ := R.cells hcells
  obtain ⟨b', o', q', f1, f0, cur, el, f2, f3, f4, f5⟩ := R.objs k _ hk
  obtain ⟨rfl, rfl, rfl⟩ := names_eq e1 f1
  have hfresh : (h.del k).next = h.next := rfl
  by_cases hroom : n + m ≤ cap
  · by_cases hm0 : n + m = 0
    · -- nothing is there, nothing comes
      have hn : n = 0 := by omega
      have hm : m = 0 := by omega
      subst hn hm
      have hus : us = [] := List.eq_nil_of_length_eq_zero (by simpa using g2)
      subst hus
      have hcs : cs = [] := List.eq_nil_of_length_eq_zero (by rw [hl]; rfl)
      subst hcs
      have hrun := run_append_fits (w := w) (w' := w) (ty := ty) (base := some a) (n := 0) (cap := cap) hut hu hi (g4 rfl) (g3 w rfl) hroom (by simp [storeCells])
      refine ⟨_, w, β.upd h.next (b, o + off, q - off), hrun, ⟨a, cap, by simp, by omega, d2, ⟨(b, o + off, q - off), by simp [Names.upd]⟩, ?_⟩, ?_, Step.move R hk rfl e1 (Below.refl _ _) fun _ _ _ => rfl⟩
      · rcases d3 with d3 | ⟨b2, o2, n2, q1, q2, q3⟩
        · exact .inl d3
        · obtain ⟨rfl, rfl, rfl⟩ := names_eq e1 q1
          exact .inr ⟨b, o + off, q - off, by simp [Names.upd], by simpa using q2, by omega⟩
      · have R' := R.del k
        refine R'.new (h := h.del k) (by simp) (fun k' x b1 o1 n1 hx hb1 he => ?_) (fun _ _ _ => rfl) ⟨f0, cur, el, f2, by omega, by simp, fun i s hs => by simp at hs⟩
        rw [Heap.get_del] at hx
        split at hx
        · cases hx
        · rename_i hne
          obtain ⟨b3, o3, n3, p1, p2⟩ := R.objs k' x hx
          obtain ⟨rfl, rfl, rfl⟩ := names_eq hb1 p1
          cases hw : x.owned with
          | true => exact hne (R.inj k' k x _ _ _ _ _ _ _ hx hk hw rfl hb1 e1 he)
          | false => have := p2.ro_lt hw; omega
    · -- in place
      obtain ⟨b2, o2, n2, q1, rfl, q3⟩ := d3.resolve_left (by omega)
      obtain ⟨rfl, rfl, rfl⟩ := names_eq e1 q1
      have hcap : n * i.size + m * i.size ≤ cap * i.size := by rw [← Nat.add_mul]; exact Nat.mul_le_mul_right _ hroom
      have hone : ∀ v ∈ us, v.oneCell' = true := fun v hv => by
        obtain ⟨j, hj⟩ := List.mem_iff_getElem?.1 hv
        have hj' : j < cs.length := by have := (List.getElem?_eq_some_iff.1 hj).1; omega
        obtain ⟨u', p1, p2⟩ := forall₂_get g1 j cs[j] (by simp)
        rw [hj] at p1; cases p1
        exact p2.oneCell
      have hst := run_storeCells_at P b (o + off + n * i.size) el us 0 cur w f2 (by rw [g2]; omega) hone
      have hrun := run_append_fits (w := w) (ty := ty) (base := some ⟨b, o + off, none⟩) (n := n) (cap := cap) hut hu hi (g4 rfl) (g3 w rfl) hroom (by simp only [addr_add]; exact hst)
      have hle : β.le (β.upd h.next (b, o + off, q - off)) := Names.le_upd R.fresh
      refine ⟨_, _, β.upd h.next (b, o + off, q - off), hrun, ⟨_, cap, rfl, hroom, d2, ⟨(b, o + off, q - off), by simp [Names.upd]⟩, .inr ⟨b, o + off, q - off, by simp [Names.upd], by simp, by omega⟩⟩, ?_, Step.move R hk rfl e1 (below_setRow w _ f0) fun j hj _ => setRow_other w b j _ hj⟩
      have R' := R.del k
      have hsize : (cur.toList.take (o + off + n * i.size) ++ us ++ cur.toList.drop (o + off + n * i.size + us.length)).toArray.size = cur.size := by
        simp only [List.size_toArray, List.length_append, List.length_take, List.length_drop, Array.length_toList, g2]; omega
      refine R'.new (h := h.del k) (by simp) (fun k' x b1 o1 n1 hx hb1 he => ?_) (fun j hj _ => setRow_other w b j _ hj) ⟨f0, _, el, setRow_heap w b cur _ el (0, 0) f2, ?_, ?_, ?_⟩
      · rw [Heap.get_del] at hx
        split at hx
        · cases hx
        · rename_i hne
          obtain ⟨b3, o3, n3, p1, p2⟩ := R.objs k' x hx
          obtain ⟨rfl, rfl, rfl⟩ := names_eq hb1 p1
          cases hw : x.owned with
          | true => exact hne (R.inj k' k x _ _ _ _ _ _ _ hx hk hw rfl hb1 e1 he)
          | false => have := p2.ro_lt hw; omega
      · simp only [Nat.add_zero]; rw [hsize]; omega
      · rw [List.length_append, e2', hl, g2]; omega
      · refine row_of_cells (us := os ++ us) (forall₂_append (CellsRel.mono hle e4) (CellsRel.mono hle g1)) (fun j x hx => ?_)
        simp only [Nat.add_zero, List.getElem?_toArray]
        by_cases hj : j < n * i.size
        · rw [List.getElem?_append_left (by omega)] at hx
          have h3 := e5 j x hx
          rw [addr_add, cell_of_row w b _ cur el (0, 0) f2] at h3
          have hjl : o + off + j < cur.size := (Array.getElem?_eq_some_iff.1 h3).1
          rw [List.append_assoc, List.getElem?_append_left (by simp; omega), List.getElem?_take, if_pos (by omega)]
          simpa using h3
        · rw [List.getElem?_append_right (by omega), e3] at hx
          have hjl : j - n * i.size < us.length := (List.getElem?_eq_some_iff.1 hx).1
          rw [List.append_assoc, List.getElem?_append_right (by simp; omega), List.length_take, show min (o + off + n * i.size) cur.toList.length = o + off + n * i.size by simp; omega,
            show o + off + j - (o + off + n * i.size) = j - n * i.size by omega, List.getElem?_append_left hjl]
          exact hx
  · -- a new row
    have hzs : zv.cells.size = i.size := by
      have := forall₂_length (scsOf_rel (β := β) hzc)
      simp only [Array.length_toList] at this; omega
    have hos : (Builtin.firstCells i.size n (.slice (some a) n cap)).run P w.drew = .ok os.toArray w.drew := by
      rcases d3 with rfl | ⟨b2, o2, n2, q1, rfl, q3⟩
      · have hn : n = 0 := by omega
        subst hn
        have : os = [] := List.eq_nil_of_length_eq_zero (by simpa using e3)
        subst this
        simp [Builtin.firstCells, loadCells, loadCellsFrom]
      · obtain ⟨rfl, rfl, rfl⟩ := names_eq e1 q1
        have := run_loadCells_list (P := P) w.drew ⟨b, o + off, none⟩ os e5
        rw [e3] at this
        simpa [Builtin.firstCells] using this
    have key := run_append_grows (w := w) (ty := ty) (base := some a) (n := n) (cap := cap) (os := os) hut hu hi hzv (g4 rfl) (g3 w.drew rfl) hos (by omega) h2 h1
    obtain ⟨β', q1, q3, q4⟩ := append_new (e := e) (R.del k) (cs := (vs.drop off).take (n * i.size) ++ cs) (us := os ++ us) (forall₂_append e4 g1) (n := n + m) (nc := grownCap w (n + m) cap e)
      (by rw [List.length_append, e2', hl, g2, Nat.add_mul]) hzs (grownCap_ge w (n + m) cap e) (grownCap_le_maxLen w (n + m) cap e h2)
    refine ⟨_, _, β', ?_, q1, q3, q4.of_less del_less⟩
    rw [key]
    simp

end
end Go.Abs

/- Every operation that the abstract interpreter takes: what the model does is what the abstract operation tells. -/
namespace Go.Abs
open Go.RowKit
set_option linter.unusedSimpArgs false

section
variable {P : Program} {w : World} {β : Names} {B : Nat} {h : Heap}

theorem run_copy {t u ty e : TypeId} {sz : Nat} (R : Rel B β h w.heap) (ht : elemS P t = some e) (hs : sizeT P e = some sz) {k off dl sl : Nat} {d c : Value} (hd : ScRel β (.slice k off dl sz) d) {s : Sc} (hc : ScRel β s c) (hsl : lenOfSc s = some sl)
    {n : Nat} {cs : List Sc} (hsrc : srcCells h sz (some (min sl dl)) s = some (n, cs)) {h' : Heap} (hw : h.write k off cs = some h') :
    Ok B β h (.sc (.int .i64 n)) h' w ((Builtin.copy_ #[t, u] ty #[d, c]).run P w) := by
  obtain ⟨us, g1, g2, g3, _⟩ := src_rel (P := P) R hsrc hc
  have hut := elemS_some ht
  have hn : n = min sl dl := by
    unfold srcCells at hsrc
    split at hsrc
    · simp only [lenOfSc, Option.some.injEq] at hsl; subst hsl; cases hsrc; simp
    · dsimp only at hsrc
      split at hsrc
      · simp only [Option.map_eq_some_iff, Prod.mk.injEq] at hsrc; obtain ⟨_, _, h1, _⟩ := hsrc; simpa using h1.symm
      · cases hsrc
    · dsimp only at hsrc
      split at hsrc
      · cases hsrc; simp
      · cases hsrc
    · cases hsrc
  obtain ⟨b, o, q, h1, h1', w', h2, h3, h4⟩ := write_rel (P := P) R hw g1
  obtain ⟨a, cap, rfl, d1, d2, _, d3⟩ := hd
  have hlen : (Builtin.lenOf c).run P w = .ok sl w := by
    unfold lenOfSc at hsl
    split at hsl <;> cases hsl
    · simp only [ScRel] at hc; subst hc; simp [Builtin.lenOf]
    · obtain ⟨a', cap', rfl, _⟩ := hc; simp [Builtin.lenOf]
    · simp only [ScRel] at hc; subst hc; simp [Builtin.lenOf, bytes_size]
  have hst : (storeCells a us).run P w = .ok () w' := by
    rcases d3 with rfl | ⟨b2, o2, n2, q1, rfl, q3⟩
    · have hn0 : n = 0 := by rw [hn]; omega
      subst hn0
      have : us = [] := List.eq_nil_of_length_eq_zero (by simpa using g2)
      subst this
      simp only [storeCells] at h2 ⊢
      exact h2
    · obtain ⟨rfl, rfl, rfl⟩ := names_eq h1 q1
      exact h2
  have hf := g3 w rfl
  rw [hn] at hf
  refine ⟨.int .i64 n, w', β, ?_, rfl, h3, h4⟩
  simp [Builtin.copy_, run_underlying hut, hlen, run_sizeOf hs, Nat.min_def] at hf ⊢
  simp [hf, hst, goInt, hn, Nat.min_def]

theorem run_clear {t ty e : TypeId} (R : Rel B β h w.heap) (ht : elemS P t = some e) {z : List Sc} (hz : zeroT P e = some z) {k off n : Nat} {d : Value} (hd : ScRel β (.slice k off n z.length) d) {h' : Heap} (hw : h.write k off (List.replicate n z).flatten = some h') :
    Ok B β h (.tup []) h' w ((Builtin.clear_ #[t] ty #[d]).run P w) := by
  obtain ⟨v, hv, hvr⟩ := run_zero (w := w) (β := β) hz
  have hut := elemS_some ht
  have hfl : CellsRel β (List.replicate n z).flatten (Builtin.zeroCells v.cells n).toList := flat_zero hvr n
  obtain ⟨b, o, q, h1, h1', w', h2, h3, h4⟩ := write_rel (P := P) R hw hfl
  obtain ⟨a, cap, rfl, d1, d2, _, d3⟩ := hd
  refine ⟨.tuple #[], w', β, ?_, ⟨#[], rfl, trivial⟩, h3, h4⟩
  cases n with
  | zero =>
    simp only [Builtin.zeroCells, Nat.zero_mul, Array.range_zero', Array.map_empty] at h2
    have : w' = w := by simpa [storeCells] using h2.symm
    subst this
    simp [Builtin.clear_, run_underlying hut]
  | succ n =>
    obtain ⟨b2, o2, n2, q1, rfl, q3⟩ := d3.resolve_left (by omega)
    obtain ⟨rfl, rfl, rfl⟩ := names_eq h1 q1
    simp [Builtin.clear_, run_underlying hut, hv, h2]

theorem evPtrs_rel {N : Nat} {e : Env} {a : Act} (he : EnvRel N β e a.tmps) : ∀ {l : List Operand} {m : List Opd} {ps : List (Nat × Nat)}, opds l = some m → evPtrs e m = some ps → All2 (PtrRel β) ps (l.map a.eval)
  | [], m, ps, h, hv => by cases h; cases hv; trivial
  | x :: r, m, ps, h, hv => by
    simp only [opds] at h
    split at h
    · rename_i y l h1 h2
      cases h
      simp only [evPtrs] at hv
      split at hv
      · rename_i k off l' h3 h4
        cases hv
        exact ⟨opd_evs he h1 h3, evPtrs_rel he h2 h4⟩
      · cases hv
    · cases h

theorem parts_rel {N : Nat} {e : Env} {a : Act} (he : EnvRel N β e a.tmps) {place : Nat → Option (Nat × Nat)} : ∀ {l : List (Nat × Operand)} {m : List (Nat × Nat × Opd)} {ps : List (Nat × Nat × AV)},
    partsAt place l = some m → evParts e m = some ps → All2 (fun (p : Nat × Nat × AV) (q : Nat × Value) => place q.1 = some (p.1, p.2.1) ∧ VRel β p.2.2 q.2) ps (l.map fun (i, x) => (i, a.eval x))
  | [], m, ps, h, hv => by cases h; cases hv; trivial
  | (i, x) :: r, m, ps, h, hv => by
    simp only [partsAt] at h
    split at h
    · rename_i off size y l h1 h2 h3
      cases h
      simp only [evParts] at hv
      split at hv
      · rename_i v l' h4 h5
        cases hv
        exact ⟨⟨h1, opd_ev he h2 h4⟩, parts_rel he h3 h5⟩
      · cases hv
    · cases h

end

/-- What is asked of a program besides. -/
structure ProgOk (P : Program) : Prop where
  mixed : P.follows .mixedOrders = true
  add64 : ∀ f fn, P.funcs[f]? = some fn → isAdd64 P f = true → Extern.findNext fn = none ∧ Extern.find fn = some add64Entry

section
variable {P : Program} {w : World} {β : Names} {B : Nat} {h h' : Heap} {N : Nat} {e : Env} {a : Act} {v : AV} {ao : AOp}

theorem op2_some {f : Opd → Opd → AOp} {x y : Operand} (hc : op2 f x y = some ao) : ∃ x' y', opd x = some x' ∧ opd y = some y' ∧ ao = f x' y' := by
  unfold op2 at hc
  split at hc
  · rename_i a b h1 h2; cases hc; exact ⟨a, b, h1, h2, rfl⟩
  · cases hc

theorem evs_ev {x : Opd} {s : Sc} (hx : x.evs e = some s) : x.ev e = some (.sc s) := by
  unfold Opd.evs at hx
  split at hx
  · rename_i s' h1; cases hx; exact h1
  · cases hx

/-- A binary operation on integers or strings. -/
theorem sound_bin (R : Rel B β h w.heap) (he : EnvRel N β e a.tmps) {op : BinOp} {t : TypeId} {x y : Operand} {x' y' : Opd} (hx : opd x = some x') (hy : opd y = some y') (ha : aop (.bin op x' y') e h = some (v, h')) :
    Ok B β h v h' w ((do eqGuard op t x y (a.eval x) (a.eval y); binOp op t (a.eval x) (a.eval y) : Sem Value).run P w) := by
  simp only [aop] at ha
  split at ha
  · rename_i k n k' m h1 h2
    simp only [Option.map_eq_some_iff, Prod.mk.injEq] at ha
    obtain ⟨s, h3, rfl, rfl⟩ := ha
    have e1 : a.eval x = .int k n := opd_evs he hx h1
    have e2 : a.eval y = .int k' m := opd_evs he hy h2
    rw [e1, e2]
    obtain ⟨h4, h5⟩ := run_bin_int (P := P) (w := w) (β := β) (t := t) h3
    exact Ok.pure R (by rw [eqGuard_at_int]; simpa using h4) h5
  · rename_i s1 s2 h1 h2
    simp only [Option.map_eq_some_iff, Prod.mk.injEq] at ha
    obtain ⟨s, h3, rfl, rfl⟩ := ha
    have e1 : a.eval x = .string ⟨s1.toArray⟩ := opd_evs he hx h1
    have e2 : a.eval y = .string ⟨s2.toArray⟩ := opd_evs he hy h2
    rw [e1, e2]
    obtain ⟨h4, h5⟩ := run_bin_str (P := P) (w := w) (β := β) (t := t) h3
    exact Ok.pure R (by rw [eqGuard_at_string]; simpa using h4) h5
  · cases ha

theorem guard_nil {op : BinOp} {t : TypeId} {x y : Operand} {kd : Nat} {c d : Value} (h1 : c = nilOf kd ∨ ∃ s, ScRel β s c ∧ (isNil kd s).isSome = true) : eqGuard op t x y c d = pure () := by
  rcases h1 with rfl | ⟨s, h1, h2⟩
  · unfold nilOf; split
    · apply eqGuard_at_pointer
    · apply eqGuard_at_slice
    · apply eqGuard_at_map
    · apply eqGuard_at_nilFunc
  · unfold isNil at h2
    split at h2
    · simp only [ScRel] at h1; subst h1; apply eqGuard_at_pointer
    · obtain ⟨b, o, n, _, rfl⟩ := h1; apply eqGuard_at_pointer
    · simp only [ScRel] at h1; subst h1; apply eqGuard_at_slice
    · obtain ⟨a, cap, rfl, _⟩ := h1; apply eqGuard_at_slice
    · simp only [ScRel] at h1; subst h1; apply eqGuard_at_map
    · obtain ⟨b, o, n, _, rfl⟩ := h1; apply eqGuard_at_map
    · simp only [ScRel] at h1; subst h1; apply eqGuard_at_nilFunc
    · obtain ⟨cs, rfl, _⟩ := h1; apply eqGuard_at_func
    · cases h2

theorem nilConst_eval {kd : Nat} {y : Operand} (hy : isNilConst kd y = true) : a.eval y = nilOf kd := by
  unfold isNilConst at hy
  split at hy <;> first | rfl | cases hy

theorem sound_eqN (R : Rel B β h w.heap) (he : EnvRel N β e a.tmps) {neg : Bool} {kd : Nat} {t : TypeId} {x y : Operand} (ht : KindOf P t kd) (hc : compileNil neg kd x y = some ao) (ha : aop ao e h = some (v, h')) :
    Ok B β h v h' w ((do eqGuard (if neg then .neq else .eql) t x y (a.eval x) (a.eval y); binOp (if neg then .neq else .eql) t (a.eval x) (a.eval y) : Sem Value).run P w) := by
  unfold compileNil at hc
  split at hc
  · rename_i hy
    simp only [Option.map_eq_some_iff] at hc
    obtain ⟨x', h1, rfl⟩ := hc
    simp only [aop] at ha
    split at ha
    · rename_i s h2
      simp only [Option.map_eq_some_iff, Prod.mk.injEq] at ha
      obtain ⟨b, h3, rfl, rfl⟩ := ha
      have hs := opd_evs he h1 h2
      obtain ⟨g1, g2, _, _⟩ := run_eqN (w := w) ht hs h3
      rw [nilConst_eval hy]
      cases neg
      · exact Ok.pure (c := .bool b) R (by rw [guard_nil (β := β) (kd := kd) (.inr ⟨s, hs, by simp [h3]⟩)]; simpa using g1) rfl
      · exact Ok.pure (c := .bool !b) R (by rw [guard_nil (β := β) (kd := kd) (.inr ⟨s, hs, by simp [h3]⟩)]; simpa using g2) rfl
    · cases ha
  · split at hc
    · rename_i hy
      simp only [Option.map_eq_some_iff] at hc
      obtain ⟨x', h1, rfl⟩ := hc
      simp only [aop] at ha
      split at ha
      · rename_i s h2
        simp only [Option.map_eq_some_iff, Prod.mk.injEq] at ha
        obtain ⟨b, h3, rfl, rfl⟩ := ha
        have hs := opd_evs he h1 h2
        obtain ⟨_, _, g1, g2⟩ := run_eqN (w := w) ht hs h3
        rw [nilConst_eval hy]
        cases neg
        · exact Ok.pure (c := .bool b) R (by rw [guard_nil (β := β) (kd := kd) (.inl rfl)]; simpa using g1) rfl
        · exact Ok.pure (c := .bool !b) R (by rw [guard_nil (β := β) (kd := kd) (.inl rfl)]; simpa using g2) rfl
      · cases ha
    · cases hc

theorem sound_eq (R : Rel B β h w.heap) (he : EnvRel N β e a.tmps) {neg : Bool} {t : TypeId} {x y : Operand} (hc : compileEq P neg (if neg then .neq else .eql) t x y = some ao) (ha : aop ao e h = some (v, h')) :
    Ok B β h v h' w ((do eqGuard (if neg then .neq else .eql) t x y (a.eval x) (a.eval y); binOp (if neg then .neq else .eql) t (a.eval x) (a.eval y) : Sem Value).run P w) := by
  unfold compileEq at hc
  split at hc
  · obtain ⟨x', y', h1, h2, rfl⟩ := op2_some hc
    exact sound_bin R he h1 h2 ha
  · obtain ⟨x', y', h1, h2, rfl⟩ := op2_some hc
    exact sound_bin R he h1 h2 ha
  · rename_i hu
    obtain ⟨x', y', h1, h2, rfl⟩ := op2_some hc
    simp only [aop] at ha
    split at ha
    · rename_i b1 b2 h3 h4
      cases ha
      have e1 : a.eval x = .bool b1 := opd_evs he h1 h3
      have e2 : a.eval y = .bool b2 := opd_evs he h2 h4
      rw [e1, e2, eqGuard_at_bool]
      cases neg
      · exact Ok.pure (c := .bool (b1 == b2)) R (by simpa using run_eql_bool w t b1 b2 hu) rfl
      · exact Ok.pure (c := .bool !(b1 == b2)) R (by simpa using run_neq_bool w t b1 b2 hu) rfl
    · cases ha
  · rename_i e' hu
    exact sound_eqN R he (kd := 0) ⟨e', hu⟩ hc ha
  · rename_i e' hu
    exact sound_eqN R he (kd := 1) ⟨e', hu⟩ hc ha
  · rename_i k e' hu
    exact sound_eqN R he (kd := 2) ⟨k, e', hu⟩ hc ha
  · rename_i p r va hu
    exact sound_eqN R he (kd := 3) ⟨p, r, va, hu⟩ hc ha
  all_goals first
    | (cases hc; done)
    | skip
  all_goals
    rename_i hu
    split at hc
    · rename_i hok
      obtain ⟨x', y', h1, h2, rfl⟩ := op2_some hc
      simp only [aop] at ha
      split at ha
      · rename_i us vs h3 h4
        split at ha
        · rename_i hlen
          simp only [Option.map_eq_some_iff, Prod.mk.injEq] at ha
          obtain ⟨r, h5, rfl, rfl⟩ := ha
          obtain ⟨xs, e1, hx⟩ := opd_ev he h1 h3
          obtain ⟨ys, e2, hy⟩ := opd_ev he h2 h4
          rw [e1, e2]
          have hg : P.eqGuardType P.depth t = false := by
            unfold eqAOk at hok
            rw [Bool.and_eq_true] at hok
            simpa using hok.1
          have key : (Op.equal t (.agg xs) (.agg ys)).run P w = .ok r w :=
            run_eqA hok (by first | exact .inl ⟨_, hu, rfl⟩ | exact .inr ⟨_, hu⟩) hx hy hlen h5
          cases neg
          · exact Ok.pure (c := .bool r) R (by simp [eqGuard, hg, binOp, key]) rfl
          · exact Ok.pure (c := .bool !r) R (by simp [eqGuard, hg, binOp, key]) rfl
        · cases ha
      · cases ha
    · cases hc

end
end Go.Abs
