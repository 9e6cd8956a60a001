/- Parts of the proof that a law of the program holds: the abstract run of the model. -/
import Derived.Calls
import Derived.Scope
import Derived.Orders
import Derived.Below
import Derived.KernelRfl
import Derived.Laws.AppendOwn
import Derived.Laws.CopyRow
import Derived.Laws.StructEq
import Derived.Laws.BytesString
import Derived.Room.AppendOwn
import Derived.ChangeKeysEq
import Derived.Laws.Cover3
import Derived.Laws.Tables
import Derived.Laws.Slices
import Derived.Laws.MakeOwn
import Derived.Lib.ConvBytes
import Derived.Room.AppendAsks
/- Abstract values, the tree of questions, and the abstract run of the model's Code: definitions alone. -/
namespace Go.Ab
open Go

/-- Data without addresses: what one cell holds. A slice: is it nil; how many cells an element has; its elements' cells. -/
inductive D where
  | bool (b : Bool)
  | int (k : IntKind) (n : Int)
  | str (s : ByteArray)
  | nilPtr
  | nilFunc
  | nilIface
  | nilMap
  | func (f : FuncId)
  | slice (isNil : Bool) (sz : Nat) (xs : List (List D))

/-- What one slot, or cell, holds: data; a pointer to a cell of an object; to an element of a row; to cells that stay; a row of one's own; a closure; an interface value; a struct's cells; several values; nothing known. -/
inductive A where
  | d (x : D)
  | ptr (id off : Nat)
  | pel (id i off : Nat)
  | pdat (cells : List D)
  | own (id : Nat)
  | clo (f : FuncId) (first captured : List A)
  | ifc (t : TypeId) (v : A)
  | agg (cs : List A)
  | tup (vs : List A)
  | top

/-- An object: cells; a row (nb: nil as long as it is empty; e: the elements' type; sz: an element's cells); a string's iterator; nothing. -/
inductive Ob where
  | cells (cs : List A)
  | row (nb : Bool) (e : TypeId) (sz : Nat) (xs : List (List D))
  | iter (s : ByteArray) (pos : Nat)
  | dead

structure St where
  env : List A
  heap : List Ob

inductive Ex where
  | normal
  | exit (id : Nat)
  | ret

def undefA : A := .tup []

/-- The tree of questions. -/
inductive Tr (α : Type) where
  | ret (x : α)
  | fail
  | q (b : Bool) (k : Bool → Tr α)
  | chk (b : Bool) (k : Tr α)
  | opt (o : Option (List D)) (k : List D → Tr α)
  | call (f : FuncId) (args : List A) (H : List Ob) (k : A → List Ob → Tr α)
  | loop (body : Code) (s : St) (k : Ex → St → Tr α)

mutual
/-- Objects' numbers renamed; a number that has no new one: nothing is known. -/
def A.mapId (f : Nat → Option Nat) : A → A
  | .d x => .d x
  | .ptr id off => match f id with | some j => .ptr j off | none => .top
  | .pel id i off => match f id with | some j => .pel j i off | none => .top
  | .pdat cs => .pdat cs
  | .own id => match f id with | some j => .own j | none => .top
  | .clo g a b => .clo g (A.mapIdL f a) (A.mapIdL f b)
  | .ifc t v => .ifc t (A.mapId f v)
  | .agg cs => .agg (A.mapIdL f cs)
  | .tup vs => .tup (A.mapIdL f vs)
  | .top => .top
def A.mapIdL (f : Nat → Option Nat) : List A → List A
  | [] => []
  | a :: as => A.mapId f a :: A.mapIdL f as
end

mutual
def A.refs : A → List Nat
  | .ptr id _ => [id]
  | .pel id _ _ => [id]
  | .own id => [id]
  | .clo _ a b => A.refsL a ++ A.refsL b
  | .ifc _ v => A.refs v
  | .agg cs => A.refsL cs
  | .tup vs => A.refsL vs
  | _ => []
def A.refsL : List A → List Nat
  | [] => []
  | a :: as => A.refs a ++ A.refsL as
end

mutual
/-- The rows of one's own that a value holds. -/
def A.owns : A → List Nat
  | .own id => [id]
  | .clo _ a b => A.ownsL a ++ A.ownsL b
  | .ifc _ v => A.owns v
  | .agg cs => A.ownsL cs
  | .tup vs => A.ownsL vs
  | _ => []
def A.ownsL : List A → List Nat
  | [] => []
  | a :: as => A.owns a ++ A.ownsL as
end

mutual
/-- Rows of one's own become data. -/
def A.frz (H : List Ob) : A → A
  | .d x => .d x
  | .ptr id off => .ptr id off
  | .pel id i off => .pel id i off
  | .pdat cs => .pdat cs
  | .own id => match H[id]? with | some (.row nb _ sz xs) => .d (.slice (nb && xs.isEmpty) sz xs) | _ => .top
  | .clo g a b => .clo g (A.frzL H a) (A.frzL H b)
  | .ifc t v => .ifc t (A.frz H v)
  | .agg cs => .agg (A.frzL H cs)
  | .tup vs => .tup (A.frzL H vs)
  | .top => .top
def A.frzL (H : List Ob) : List A → List A
  | [] => []
  | a :: as => A.frz H a :: A.frzL H as
end

def Ob.mapId (f : Nat → Option Nat) : Ob → Ob
  | .cells cs => .cells (A.mapIdL f cs)
  | o => o
def Ob.refs : Ob → List Nat
  | .cells cs => A.refsL cs
  | _ => []

/-- The objects that can be reached: breadth first, each once. -/
def reach (H : List Ob) : Nat → List Nat → List Nat → List Nat
  | 0, _, seen => seen.reverse
  | _ + 1, [], seen => seen.reverse
  | n + 1, i :: todo, seen =>
    if seen.contains i then reach H n todo seen
    else match H[i]? with
      | some o => reach H n (todo ++ o.refs) (i :: seen)
      | none => reach H n todo seen

/-- A number's place in a list. -/
def placeOf : List Nat → Nat → Option Nat
  | [], _ => none
  | j :: js, i => if Nat.beq j i then some 0 else (placeOf js i).map (· + 1)

/-- The objects of some numbers, renamed by their places there. -/
def pack (H : List Ob) (ids : List Nat) : List Ob := ids.map fun i => ((H[i]?).getD .dead).mapId (placeOf ids)
/-- Objects put back at their numbers. -/
def putBack : List Ob → List Nat → List Ob → List Ob
  | H, i :: is, o :: os => putBack (H.set i o) is os
  | H, _, _ => H
/-- The numbers that the objects of a part get: those that it was made of, then new ones. -/
def backIds (ids : List Nat) (from_ n : Nat) : List Nat := ids ++ (List.range (n - ids.length)).map (from_ + ·)
def unpack (H : List Ob) (ids : List Nat) (Hs : List Ob) : List Ob :=
  let back := backIds ids H.length Hs.length
  putBack (H ++ List.replicate (Hs.length - ids.length) .dead) back (Hs.map (·.mapId (back[·]?)))

/-- Rows that became data are dead. -/
def kill (H : List Ob) : List Nat → List Ob
  | [] => H
  | i :: is => match H[i]? with
    | some (.row _ _ _ _) => kill (H.set i .dead) is
    | _ => kill H is

def A.cellsOf : A → List A
  | .agg cs => cs
  | a => [a]
/-- A value that is cells: nothing unknown, not several values. -/
def A.plain : A → Bool
  | .tup _ => false
  | .top => false
  | _ => true
/-- One cell's value. -/
def A.cellOk : A → Bool
  | .agg _ => false
  | .tup _ => false
  | .top => false
  | _ => true
def ofVal : Value → A
  | .bool b => .d (.bool b)
  | .int k n => .d (.int k n)
  | .string s => .d (.str s)
  | .pointer none => .d .nilPtr
  | .slice none 0 0 => .d (.slice true 0 [])
  | .nilFunc => .d .nilFunc
  | .nilIface => .d .nilIface
  | .map none => .d .nilMap
  | _ => .top
def ofVal1 : Value → A
  | .agg cs => .agg (cs.toList.map ofVal)
  | v => ofVal v

def isAggB (P : Program) (t : TypeId) : Option Bool :=
  match P.underlying t with
  | some (.struct _) => some true
  | some (.array _ _) => some true
  | some _ => some false
  | none => none
/-- Cells as a value of a type. -/
def asVal (P : Program) (t : TypeId) (cs : List A) : Option A :=
  match isAggB P t with
  | some true => some (.agg cs)
  | some false => match cs with | [x] => some x | _ => none
  | none => none
def optK {α β : Type} (o : Option β) (k : β → Tr α) : Tr α := match o with | some x => k x | none => .fail

def getC (sz : Nat) (xs : List (List D)) (i : Int) : Option (List D) :=
  if 0 ≤ i then (match xs[i.toNat]? with | some c => (if c.length = sz then some c else none) | none => none) else none

def toD : A → Option D
  | .d x => some x
  | _ => none
def toDs : List A → Option (List D)
  | [] => some []
  | a :: as => match toD a with
    | some x => (toDs as).map (x :: ·)
    | none => none
def chunk (sz : Nat) : Nat → List D → List (List D)
  | 0, _ => []
  | n + 1, xs => xs.take sz :: chunk sz n (xs.drop sz)

def fillA (place : Nat → Option (Nat × Nat)) (cells : List A) : List (Nat × A) → Option (List A)
  | [] => some cells
  | (i, v) :: rest =>
    match place i with
    | none => none
    | some (off, size) =>
      if v.plain && v.cellsOf.length == size && Nat.ble (off + size) cells.length then fillA place (cells.take off ++ v.cellsOf ++ cells.drop (off + size)) rest else none

def zeroCellsA (P : Program) (t : TypeId) : Option (List A) :=
  match P.info? t with
  | some i => match i.zero with | some v => some (v.cells.toList.map ofVal) | none => none
  | none => none
/-- The zeros of some elements. -/
def zeroRow (n : Nat) (z : List A) : List A := (List.range (n * z.length)).map fun j => z.getD (j % z.length) .top
def fieldOf (P : Program) (t : TypeId) (f : Nat) : Option Field :=
  match P.underlying t with
  | some (.struct fs) => fs[f]?
  | _ => none
def elemOfSlice (P : Program) (t : TypeId) : Option TypeId :=
  match P.underlying t with
  | some (.slice e) => some e
  | _ => none

def eqFields (P : Program) (eq : TypeId → A → A → Option Bool) (xs ys : List A) : List Field → Option Bool
  | [] => some true
  | f :: fs =>
    if f.name == "_" then none else
    if Nat.ble (f.offset + P.cellsOf f.type) xs.length && Nat.ble (f.offset + P.cellsOf f.type) ys.length then
      match asVal P f.type ((xs.drop f.offset).take (P.cellsOf f.type)), asVal P f.type ((ys.drop f.offset).take (P.cellsOf f.type)) with
      | some x, some y =>
        match eq f.type x y, eqFields P eq xs ys fs with
        | some a, some b => some (a && b)
        | _, _ => none
      | _, _ => none
    else none
/-- Equality, as far as it is told: by a type. -/
def eqA (P : Program) (H : List Ob) : Nat → TypeId → A → A → Option Bool
  | 0, _, _, _ => none
  | n + 1, t, x, y =>
    match P.underlying t with
    | some .bool => match x, y with | .d (.bool a), .d (.bool b) => some (a == b) | _, _ => none
    | some (.int _) => match x, y with | .d (.int k a), .d (.int k' b) => if k = k' then some (a == b) else none | _, _ => none
    | some .string => match x, y with | .d (.str a), .d (.str b) => some (a.toList == b.toList) | _, _ => none
    | some (.pointer _) => match x, y with
      | .d .nilPtr, .d .nilPtr => some true
      | .ptr _ _, .d .nilPtr => some false
      | .pdat _, .d .nilPtr => some false
      | .d .nilPtr, .ptr _ _ => some false
      | _, _ => none
    | some (.func _ _ _) => match x, y with
      | .d .nilFunc, .d .nilFunc => some true
      | .d (.func _), .d .nilFunc => some false
      | .clo _ _ _, .d .nilFunc => some false
      | _, _ => none
    | some (.slice _) => match x, y with
      | .d (.slice a _ _), .d (.slice true _ _) => some a
      | .own id, .d (.slice true _ _) => match H[id]? with | some (.row nb _ _ xs) => some (nb && xs.isEmpty) | _ => none
      | _, _ => none
    | some (.struct fs) => match x, y with
      | .agg xs, .agg ys => if P.stoodInHeld t then none else eqFields P (eqA P H n) xs ys fs.toList
      | _, _ => none
    | _ => none

/-- Structs with interfaces among their fields are kept out. -/
def eqPlain (P : Program) (t : TypeId) (x : A) : Bool :=
  match x with
  | .agg _ => !P.eqGuardType P.depth t
  | _ => true

def intOp (op : BinOp) (k : IntKind) (a b : Int) : Option D :=
  match op with
  | .add => some (.int k (k.wrap (a + b)))
  | .sub => some (.int k (k.wrap (a - b)))
  | .mul => some (.int k (k.wrap (a * b)))
  | .and => some (.int k (k.wrap (BitVec.ofInt k.bits a &&& BitVec.ofInt k.bits b).toNat))
  | .or => some (.int k (k.wrap (BitVec.ofInt k.bits a ||| BitVec.ofInt k.bits b).toNat))
  | .xor => some (.int k (k.wrap (BitVec.ofInt k.bits a ^^^ BitVec.ofInt k.bits b).toNat))
  | .andNot => some (.int k (k.wrap (BitVec.ofInt k.bits a &&& ~~~BitVec.ofInt k.bits b).toNat))
  | .eql => some (.bool (a == b))
  | .neq => some (.bool (a != b))
  | .lss => some (.bool (decide (a < b)))
  | .leq => some (.bool (decide (a ≤ b)))
  | .gtr => some (.bool (decide (a > b)))
  | .geq => some (.bool (decide (a ≥ b)))
  | _ => none
def strOp (op : BinOp) (a b : ByteArray) : Option D :=
  match op with
  | .eql => some (.bool (a.toList == b.toList))
  | .neq => some (.bool (!(a.toList == b.toList)))
  | .lss => some (.bool (Op.bytesLess a.toList b.toList))
  | .leq => some (.bool (Op.bytesLess a.toList b.toList || a.toList == b.toList))
  | .gtr => some (.bool (!(Op.bytesLess a.toList b.toList || a.toList == b.toList)))
  | .geq => some (.bool (!Op.bytesLess a.toList b.toList))
  | _ => none

def binA {α : Type} (P : Program) (H : List Ob) (op : BinOp) (t : TypeId) (x y : A) (k : A → Tr α) : Tr α :=
  match x, y with
  | .d (.int ka a), .d (.int kb b) =>
    match op with
    | .shl => .chk (decide (0 ≤ b)) (k (.d (.int ka (ka.wrap (a * 2 ^ (min b.toNat ka.bits))))))
    | .shr => .chk (decide (0 ≤ b)) (k (.d (.int ka (a.fdiv (2 ^ (min b.toNat ka.bits))))))
    | .quo => if ka = kb then .chk (b != 0) (k (.d (.int ka (ka.wrap (a.tdiv b))))) else .fail
    | .rem => if ka = kb then .chk (b != 0) (k (.d (.int ka (a.tmod b)))) else .fail
    | op => if ka = kb then optK (intOp op ka a b) fun x => k (.d x) else .fail
  | .d (.str a), .d (.str b) =>
    match op with
    | .add => .chk (decide (((a.size + b.size : Nat) : Int) ≤ IntKind.i64.max)) (k (.d (.str (a ++ b))))
    | op => optK (strOp op a b) fun x => k (.d x)
  | x, y =>
    match op with
    | .eql => if eqPlain P t x then optK (eqA P H 64 t x y) fun b => k (.d (.bool b)) else .fail
    | .neq => if eqPlain P t x then optK (eqA P H 64 t x y) fun b => k (.d (.bool (!b))) else .fail
    | _ => .fail

/-- Cells at a pointer. -/
def loadA {α : Type} (H : List Ob) (p : A) (n : Nat) (k : List A → Tr α) : Tr α :=
  match p with
  | .ptr id off => match H[id]? with
    | some (.cells cs) => if Nat.ble (off + n) cs.length then k ((cs.drop off).take n) else .fail
    | _ => .fail
  | .pel id i off => match H[id]? with
    | some (.row _ _ sz xs) => if Nat.ble (off + n) sz then .opt (getC sz xs i) fun c => k (((c.drop off).take n).map .d) else .fail
    | _ => .fail
  | .pdat cs => if Nat.ble n cs.length then k ((cs.take n).map .d) else .fail
  | _ => .fail
def storeA {α : Type} (H : List Ob) (p : A) (vs : List A) (k : List Ob → Tr α) : Tr α :=
  match p with
  | .ptr id off => match H[id]? with
    | some (.cells cs) => if Nat.ble (off + vs.length) cs.length then k (H.set id (.cells (cs.take off ++ vs ++ cs.drop (off + vs.length)))) else .fail
    | _ => .fail
  | .pel id i off => match H[id]? with
    | some (.row nb e sz xs) =>
      match toDs vs with
      | some ds => if Nat.ble (off + ds.length) sz then .opt (getC sz xs i) fun c => k (H.set id (.row nb e sz (xs.set i (c.take off ++ ds ++ c.drop (off + ds.length))))) else .fail
      | none => .fail
    | _ => .fail
  | _ => .fail

def bytesD (s : ByteArray) : List (List D) := s.toList.map fun b => [.int .u8 b.toNat]
def byteOfD : List D → UInt8
  | [.int .u8 n] => UInt8.ofNat n.toNat
  | _ => 0
def isByte : List D → Bool
  | [.int .u8 _] => true
  | _ => false
def strOfD (xs : List (List D)) : ByteArray := ⟨(xs.map byteOfD).toArray⟩

/-- A slice's elements, whosever it is. -/
def elemsOf (H : List Ob) : A → Option (Bool × Nat × List (List D))
  | .d (.slice isNil sz xs) => some (isNil, sz, xs)
  | .own id => match H[id]? with | some (.row nb _ sz xs) => some (nb && xs.isEmpty, sz, xs) | _ => none
  | _ => none

/-- May rows of this element type be made: its zero is told, and of its size; it has cells, and bytes. -/
def growOk (P : Program) (e : TypeId) : Bool :=
  match P.info? e with
  | some i => match i.zero with
    | some z => Nat.beq z.cells.size i.size && Nat.blt 0 i.size && Nat.blt 0 i.bytes && Nat.ble i.bytes 2048
    | none => false
  | none => false
/-- Is it another row than this one? -/
def apartFrom (id : Nat) : A → Bool
  | .own j => !Nat.beq id j
  | _ => true

def callA {α : Type} (P : Program) (keep : List FuncId) (f : FuncId) (args : List A) (H : List Ob) (k : A → List Ob → Tr α) : Tr α :=
  match P.funcs[f]? with
  | some fn =>
    if fn.body.isSome && !(fn.name == "runtime.NumGoroutine") then
      let os := if keep.contains f then [] else A.ownsL args
      let args1 := if keep.contains f then args else A.frzL H args
      let H1 := kill H os
      let ids := reach H1 1000 (A.refsL args1) []
      .call f (A.mapIdL (placeOf ids) args1) (pack H1 ids) fun r Hs => k (r.mapId ((backIds ids H1.length Hs.length)[·]?)) (unpack H1 ids Hs)
    else .fail
  | none => .fail

def builtinA {α : Type} (P : Program) (b : Builtin) (ts : Array TypeId) (args : List A) (H : List Ob) (k : A → List Ob → Tr α) : Tr α :=
  match b, args with
  | .len, [.d (.str s)] => match ts[0]? with
    | some t => match P.underlying t with | some .string => k (.d (.int .i64 s.size)) H | _ => .fail
    | none => .fail
  | .len, [x] => match ts[0]? with
    | some t => match P.underlying t with
      | some (.slice _) => match elemsOf H x with | some (_, _, xs) => k (.d (.int .i64 xs.length)) H | none => .fail
      | some (.array n _) => k (.d (.int .i64 n)) H
      | _ => .fail
    | none => .fail
  | .append, [s, x] => match ts[0]?, ts[1]? with
    | some t, some u =>
      match elemOfSlice P t, P.underlying u with
      | some e, some (.slice _) =>
        match elemsOf H x with
        | some (_, sz', ys) =>
          if Nat.beq t u && growOk P e && (Nat.beq sz' (P.cellsOf e) || ys.isEmpty) then
            match s with
            | .own id => match H[id]? with
              | some (.row nb e' sz xs) => if Nat.beq e e' && Nat.beq sz (P.cellsOf e) && apartFrom id x then .chk (decide (xs.length + ys.length ≤ 68719476736)) (k (.own H.length) ((H.set id .dead) ++ [.row nb e' sz (xs ++ ys)])) else .fail
              | _ => .fail
            | .d (.slice true _ _) => .chk (decide (ys.length ≤ 68719476736)) (k (.own H.length) (H ++ [.row true e (P.cellsOf e) ys]))
            | _ => .fail
          else .fail
        | none => .fail
      | some e, some .string =>
        match x with
        | .d (.str str) =>
          if growOk P e && Nat.beq (P.cellsOf e) 1 then
            match s with
            | .own id => match H[id]? with
              | some (.row nb e' sz xs) => if Nat.beq e e' && Nat.beq sz (P.cellsOf e) then .chk (decide (xs.length + (bytesD str).length ≤ 68719476736)) (k (.own H.length) ((H.set id .dead) ++ [.row nb e' sz (xs ++ bytesD str)])) else .fail
              | _ => .fail
            | .d (.slice true _ _) => .chk (decide ((bytesD str).length ≤ 68719476736)) (k (.own H.length) (H ++ [.row true e (P.cellsOf e) (bytesD str)]))
            | _ => .fail
          else .fail
        | _ => .fail
      | _, _ => .fail
    | _, _ => .fail
  | .max, [.d (.int ka a), .d (.int kb b)] => if ka = kb then k (.d (.int ka (if b > a then b else a))) H else .fail
  | .min, [.d (.int ka a), .d (.int kb b)] => if ka = kb then k (.d (.int ka (if b < a then b else a))) H else .fail
  | _, _ => .fail

/-- An operand that is a bound. -/
def boundOf (o : Option A) (d : Int) : Option Int := match o with | none => some d | some (.d (.int _ l)) => some l | _ => none
def sliceA {α : Type} (P : Program) (t : TypeId) (x : A) (lo hi : Option A) (k : A → Tr α) : Tr α :=
  match x with
  | .d (.str s) =>
    match P.underlying t, boundOf lo 0, boundOf hi s.size with
    | some .string, some l, some h => .chk (decide (0 ≤ l ∧ l ≤ h ∧ h ≤ s.size)) (k (.d (.str (s.extract l.toNat h.toNat))))
    | _, _, _ => .fail
  | .d (.slice isNil sz xs) =>
    match elemOfSlice P t, boundOf lo 0, boundOf hi xs.length with
    | some e, some l, some h =>
      if Nat.blt 0 (P.cellsOf e) && (Nat.beq sz (P.cellsOf e) || isNil) then .chk (decide (0 ≤ l ∧ l ≤ h ∧ h ≤ xs.length)) (k (.d (.slice isNil sz ((xs.take h.toNat).drop l.toNat)))) else .fail
    | _, _, _ => .fail
  | _ => .fail

/-- One operation: its operands' values, the objects. -/
def xop {α : Type} (P : Program) (keep : List FuncId) (o : Oper) (args : List A) (H : List Ob) (k : A → List Ob → Tr α) : Tr α :=
  match o.op with
  | .move _ => match args with | [x] => k x H | _ => .fail
  | .assign _ => match args with | [x] => k x H | _ => .fail
  | .pick _ _ _ => match args with
    | [.d (.bool t), a, b] =>
      match a, b with
      | .d (.bool x), .d (.bool y) => k (.d (.bool (cond t x y))) H
      | a, b => match t with | true => k a H | false => k b H
    | _ => .fail
  | .alloc e => match args with | [] => optK (zeroCellsA P e) fun cs => k (.ptr H.length 0) (H ++ [.cells cs]) | _ => .fail
  | .box _ _ => match args with | [x] => if x.plain then k (.ptr H.length 0) (H ++ [.cells x.cellsOf]) else .fail | _ => .fail
  | .build t parts =>
    match P.info? t, P.underlying t with
    | some it, some (.array _ e) =>
      match it.zero, P.info? e with
      | some z, some ie => optK (fillA (fun i => some (i * ie.size, ie.size)) (z.cells.toList.map ofVal) ((parts.toList.map (·.1)).zip args)) fun cs => k (.agg cs) H
      | _, _ => .fail
    | some it, some (.struct fs) =>
      match it.zero, fs.toList.mapM (fun f => (P.info? f.type).map fun i => (f.offset, i.size)) with
      | some z, some places => optK (fillA (places[·]?) (z.cells.toList.map ofVal) ((parts.toList.map (·.1)).zip args)) fun cs => k (.agg cs) H
      | _, _ => .fail
    | _, _ => .fail
  | .buildSlice t n parts =>
    match elemOfSlice P t with
    | some e =>
      match zeroCellsA P e with
      | some z =>
        if Nat.beq z.length (P.cellsOf e) && growOk P e && Nat.ble (n * z.length) (2 ^ 24) && Nat.ble (n * P.bytesOf e) roomBytes then
          match fillA (fun i => some (i * P.cellsOf e, P.cellsOf e)) (zeroRow n z) ((parts.toList.map (·.1)).zip args) with
          | some cs => match toDs cs with
            | some ds => k (.own H.length) (H ++ [.row false e (P.cellsOf e) (chunk (P.cellsOf e) n ds)])
            | none => .fail
          | none => .fail
        else .fail
      | none => .fail
    | none => .fail
  | .load t _ => match args with | [p] => loadA H p (P.cellsOf t) fun cs => optK (asVal P t cs) fun v => k v H | _ => .fail
  | .store t _ _ => match args with
    | [p, v] => if v.plain && Nat.beq v.cellsOf.length (P.cellsOf t) && Nat.blt 0 (P.cellsOf t) && v.cellsOf.all A.cellOk then storeA H p v.cellsOf fun H' => k undefA H' else .fail
    | _ => .fail
  | .nilCheck _ => match args with
    | [.ptr id off] => k (.ptr id off) H
    | [.pel id i off] => k (.pel id i off) H
    | [.pdat cs] => k (.pdat cs) H
    | [.clo f a b] => k (.clo f a b) H
    | [.d (.func f)] => k (.d (.func f)) H
    | [.ifc t v] => k (.ifc t v) H
    | _ => .fail
  | .binOp op t _ _ _ => match args with | [x, y] => binA P H op t x y fun v => k v H | _ => .fail
  | .unOp op _ _ => match op, args with
    | .not, [.d (.bool b)] => k (.d (.bool (!b))) H
    | .neg, [.d (.int ka a)] => k (.d (.int ka (ka.wrap (0 - a)))) H
    | .xor, [.d (.int ka a)] => k (.d (.int ka (ka.wrap (BitVec.ofInt ka.bits (if ka.signed then -1 else ka.max) ^^^ BitVec.ofInt ka.bits a).toNat))) H
    | _, _ => .fail
  | .convert src dst _ => match args with
    | [.d (.int _ a)] => match P.underlying src, P.underlying dst with
      | some _, some (.int kd) => k (.d (.int kd (kd.wrap a))) H
      | _, _ => .fail
    | [.d (.str s)] => match P.underlying src, P.underlying dst with
      | some .string, some (.slice e) => match P.underlying e with
        | some (.int .u8) => k (.d (.slice false 1 (bytesD s))) H
        | _ => .fail
      | some _, some .string => k (.d (.str s)) H
      | _, _ => .fail
    | [x] => match elemsOf H x, P.underlying src, P.underlying dst with
      | some (_, sz, xs), some (.slice e), some .string => match P.underlying e with
        | some (.int .u8) => if Nat.beq sz 1 || xs.isEmpty then .chk (xs.all isByte) (k (.d (.str (strOfD xs))) H) else .fail
        | _ => .fail
      | _, _, _ => .fail
    | _ => .fail
  | .makeInterface t _ => match args with
    | [x] => match P.underlying t with
      | some (.interface _) => .fail
      | some _ => k (.ifc t x) H
      | none => .fail
    | _ => .fail
  | .makeFunc fn first captured => match fn with
    | .func f => match args with
      | [] => k (.d (.func f)) H
      | as => if Nat.beq as.length (first.size + captured.size) then k (.clo f (as.take first.size) (as.drop first.size)) H else .fail
    | _ => .fail
  | .slice t _ lo hi mx =>
    match mx with
    | some _ =>
      match lo, hi, args with
      | none, some _, [x, .d (.int _ h), .d (.int _ m)] =>
        if h == 0 && m == 0 then
          match elemOfSlice P t, elemsOf H x with
          | some e, some (isNil, _, _) => if Nat.blt 0 (P.cellsOf e) then k (.own H.length) (H ++ [.row isNil e (P.cellsOf e) []]) else .fail
          | _, _ => .fail
        else .fail
      | _, _, _ => .fail
    | none =>
      match lo, hi, args with
      | none, none, [x] => sliceA P t x none none fun v => k v H
      | some _, none, [x, l] => sliceA P t x (some l) none fun v => k v H
      | none, some _, [x, h] => sliceA P t x none (some h) fun v => k v H
      | some _, some _, [x, l, h] => sliceA P t x (some l) (some h) fun v => k v H
      | _, _, _ => .fail
  | .fieldAddr s _ f => match args with
    | [p] => optK (fieldOf P s f) fun fd => if Nat.blt 0 (P.cellsOf fd.type) then
        match p with
        | .ptr id off => k (.ptr id (off + fd.offset)) H
        | .pel id i off => k (.pel id i (off + fd.offset)) H
        | .pdat cs => if Nat.blt fd.offset cs.length then k (.pdat (cs.drop fd.offset)) H else .fail
        | _ => .fail
      else .fail
    | _ => .fail
  | .field s _ f => match args with
    | [.agg cs] => optK (fieldOf P s f) fun fd => if Nat.ble (fd.offset + P.cellsOf fd.type) cs.length then optK (asVal P fd.type ((cs.drop fd.offset).take (P.cellsOf fd.type))) fun v => k v H else .fail
    | _ => .fail
  | .indexAddr t _ _ => match args with
    | [x, .d (.int _ i)] => match P.underlying t with
      | some (.slice e) => match x with
        | .d (.slice isNil sz xs) => if Nat.blt 0 (P.cellsOf e) && (Nat.beq sz (P.cellsOf e) || isNil) then .opt (getC (P.cellsOf e) xs i) fun c => k (.pdat c) H else .fail
        | .own id => match H[id]? with
          | some (.row _ _ sz xs) => if Nat.blt 0 (P.cellsOf e) && Nat.beq sz (P.cellsOf e) then .chk (decide (0 ≤ i ∧ i < xs.length)) (k (.pel id i.toNat 0) H) else .fail
          | _ => .fail
        | _ => .fail
      | _ => .fail
    | _ => .fail
  | .index t _ _ => match args with
    | [.d (.str s), .d (.int _ i)] => match P.underlying t with
      | some .string => .chk (decide (0 ≤ i ∧ i < s.size)) (k (.d (.int .u8 (s.toList.getD i.toNat 0).toNat)) H)
      | _ => .fail
    | [.agg cs, .d (.int _ i)] => match P.underlying t with
      | some (.array n e) => if Nat.beq cs.length (n * P.cellsOf e) then .chk (decide (0 ≤ i ∧ i < n)) (optK (asVal P e ((cs.drop (i.toNat * P.cellsOf e)).take (P.cellsOf e))) fun v => k v H) else .fail
      | _ => .fail
    | _ => .fail
  | .range t _ => match args with
    | [.d (.str s)] => match P.underlying t with
      | some .string => k (.ptr H.length 0) (H ++ [.iter s 0])
      | _ => .fail
    | _ => .fail
  | .next _ isString => match isString, args with
    | true, [.ptr id 0] => match H[id]? with
      | some (.iter s pos) => .q (decide (pos < s.size)) fun b => match b with
        | true => k (.tup [.d (.bool true), .d (.int .i64 pos), .d (.int .i32 (Utf8.decode s pos).1)]) (H.set id (.iter s (pos + (Utf8.decode s pos).2)))
        | false => k (.tup [.d (.bool false)]) H
      | _ => .fail
    | _, _ => .fail
  | .typeAssert _ _ asserted ok => match args with
    | [.ifc t v] => match P.underlying asserted with
      | some (.interface _) => .fail
      | some _ =>
        if Nat.beq t asserted then k (if ok then .tup [v, .d (.bool true)] else v) H
        else if ok then (match P.info? asserted with
          | some i => match i.zero with | some z => k (.tup [ofVal1 z, .d (.bool false)]) H | none => .fail
          | none => .fail) else .fail
      | none => .fail
    | _ => .fail
  | .extract _ i => match args with | [.tup vs] => optK vs[i]? fun v => k v H | _ => .fail
  | .call c => match c.callee with
    | .value _ => match args with
      | .d (.func f) :: as => callA P keep f as H k
      | .clo f first cap :: as => callA P keep f (first ++ as ++ cap) H k
      | _ => .fail
    | .builtin b => builtinA P b c.argTypes args H k
    | .invoke _ _ => .fail
  | _ => .fail

def evA (env : List A) : Operand → A
  | .tmp t => env.getD t undefA
  | .const v => ofVal1 v
  | .global _ => .top
  | .func f => .d (.func f)
def putA (env : List A) (dst : Option Tmp) (v : A) : List A := match dst with | some d => env.set d v | none => env

/-- The slot of an operation of a region. -/
def dstOf (ops : Array Oper) (j : Nat) : Option Tmp := (ops[j]?).bind (·.dst)

/-- A region in the order of its text. -/
def runOps {α : Type} (P : Program) (keep : List FuncId) (ops : Array Oper) : List Oper → St → (St → Tr α) → Tr α
  | [], s, k => k s
  | o :: rest, s, k =>
    match o.guard with
    | none => xop P keep o (o.op.operands.toList.map (evA s.env)) s.heap fun v H => runOps P keep ops rest ⟨putA s.env o.dst v, H⟩ k
    | some (j, want) =>
      match dstOf ops j with
      | some d =>
        match s.env.getD d undefA with
        | .d (.bool t) => .q t fun b =>
          let env := s.env.set d (.d (.bool b))
          match b, want with
          | true, true => xop P keep o (o.op.operands.toList.map (evA env)) s.heap fun v H => runOps P keep ops rest ⟨putA env o.dst v, H⟩ k
          | false, false => xop P keep o (o.op.operands.toList.map (evA env)) s.heap fun v H => runOps P keep ops rest ⟨putA env o.dst v, H⟩ k
          | _, _ => runOps P keep ops rest ⟨putA env o.dst undefA, s.heap⟩ k
        | .tup _ => runOps P keep ops rest ⟨putA s.env o.dst undefA, s.heap⟩ k
        | _ => .fail
      | none => .fail

/-- Operations whose objects stay as they are. -/
def quietOp : Op → Bool
  | .move _ | .assign _ | .pick _ _ _ | .build _ _ | .load _ _ | .nilCheck _ | .binOp _ _ _ _ _ | .unOp _ _ _ | .makeInterface _ _ | .makeFunc _ _ _
  | .slice _ _ _ _ none | .fieldAddr _ _ _ | .field _ _ _ | .indexAddr _ _ _ | .index _ _ _ | .typeAssert _ _ _ _ | .extract _ _ => true
  | _ => false

/-- What an operation of a region touched, and wrote. -/
structure Foot where
  touched : List Nat
  wrote : List Nat

/-- An operation at the objects that its operands reach, the others put aside. -/
def xopF {α : Type} (P : Program) (keep : List FuncId) (o : Oper) (args : List A) (H : List Ob) (k : A → List Ob → Foot → Tr α) : Tr α :=
  let ids := reach H 1000 (A.refsL args) []
  xop P keep o (A.mapIdL (placeOf ids) args) (pack H ids) fun v Hs =>
    let back := backIds ids H.length Hs.length
    if quietOp o.op then k (v.mapId (back[·]?)) H ⟨ids, []⟩ else k (v.mapId (back[·]?)) (unpack H ids Hs) ⟨back, back⟩

def runDrawOps {α : Type} (P : Program) (keep : List FuncId) (ops : Array Oper) : List Oper → St → List Foot → (St → List Foot → Tr α) → Tr α
  | [], s, fs, k => k s fs.reverse
  | o :: rest, s, fs, k =>
    match o.guard with
    | none => xopF P keep o (o.op.operands.toList.map (evA s.env)) s.heap fun v H f => runDrawOps P keep ops rest ⟨putA s.env o.dst v, H⟩ (f :: fs) k
    | some (j, want) =>
      match dstOf ops j with
      | some d =>
        match s.env.getD d undefA with
        | .d (.bool t) => .q t fun b =>
          let env := s.env.set d (.d (.bool b))
          match b, want with
          | true, true => xopF P keep o (o.op.operands.toList.map (evA env)) s.heap fun v H f => runDrawOps P keep ops rest ⟨putA env o.dst v, H⟩ (f :: fs) k
          | false, false => xopF P keep o (o.op.operands.toList.map (evA env)) s.heap fun v H f => runDrawOps P keep ops rest ⟨putA env o.dst v, H⟩ (f :: fs) k
          | _, _ => runDrawOps P keep ops rest ⟨putA env o.dst undefA, s.heap⟩ (⟨[], []⟩ :: fs) k
        | .tup _ => runDrawOps P keep ops rest ⟨putA s.env o.dst undefA, s.heap⟩ (⟨[], []⟩ :: fs) k
        | _ => .fail
      | none => .fail

/-- The operations that come ahead of one, by the edges. -/
def aheadOf (acc : List (List Nat)) (o : Oper) : List Nat :=
  o.after.toList.flatMap fun e => if Region.binds .any e then e.on :: (acc.getD e.on []) else []
def aheads : List Oper → List (List Nat) → List (List Nat)
  | [], acc => acc
  | o :: os, acc => aheads os (acc ++ [aheadOf acc o])
def meets (xs ys : List Nat) : Bool := xs.any fun x => ys.any fun y => Nat.beq x y
def clash (f g : Foot) : Bool := meets f.wrote g.touched || meets g.wrote f.touched
/-- No two operations that may come in either order clash. -/
def drawOk (as : List (List Nat)) (fs : List Foot) : Bool :=
  (List.range fs.length).all fun j => (List.range j).all fun i =>
    (as.getD j []).any (Nat.beq i ·) || !clash (fs.getD i ⟨[], []⟩) (fs.getD j ⟨[], []⟩)
/-- The form of a region that draws: edges lead back; each slot is written once, and by none that need not come ahead of who reads it. -/
def slotsRead (ops : Array Oper) (o : Oper) : List Nat :=
  (o.op.operands.toList.filterMap fun | .tmp t => some t | _ => none) ++
  (match o.guard with | some (j, _) => (dstOf ops j).toList | none => [])
def formOk (ops : Array Oper) : Bool :=
  let l := ops.toList
  let as := aheads l []
  (List.range l.length).all fun j =>
    match l[j]? with
    | none => false
    | some oj =>
      (oj.after.toList.all fun e => !Region.binds .any e || Nat.blt e.on j) &&
      (List.range l.length).all fun i =>
        match l[i]? with
        | none => false
        | some oi => match oi.dst with
          | none => true
          | some d => (Nat.beq i j || !(oj.dst == some d)) && (!(slotsRead ops oj).contains d || (as.getD j []).any (Nat.beq i ·))

def run {α : Type} (P : Program) (keep : List FuncId) : Code → St → (Ex → St → Tr α) → Tr α
  | .skip, s, k => k .normal s
  | .label _, s, k => k .normal s
  | .region _ ops draw, s, k => match draw with
    | true => match formOk ops with
      | true => runDrawOps P keep ops ops.toList s [] fun s' fs => match drawOk (aheads ops.toList []) fs with | true => k .normal s' | false => .fail
      | false => .fail
    | false => runOps P keep ops ops.toList s (k .normal)
  | .seq a b, s, k => run P keep a s fun e s' => match e with | .normal => run P keep b s' k | .exit i => k (.exit i) s' | .ret => k .ret s'
  | .cond c a b, s, k => match evA s.env c with
    | .d (.bool t) => .q t fun t => match t with | true => run P keep a s k | false => run P keep b s k
    | _ => .fail
  | .block id c, s, k => run P keep c s fun e s' => match e with
    | .exit i => match Nat.beq i id with | true => k .normal s' | false => k (.exit i) s'
    | .normal => k .normal s'
    | .ret => k .ret s'
  | .loop c, s, k => .loop c s k
  | .exit id, s, k => k (.exit id) s
  | .scope c, s, k => run P keep c s k
  | .ret, s, k => k .ret s
  | _, _, _ => .fail

def resA {α : Type} (P : Program) (s : St) : List ResultVar → (List A → Tr α) → Tr α
  | [], k => k []
  | .tmp t :: rs, k => resA P s rs fun vs => k (s.env.getD t undefA :: vs)
  | .cell a t :: rs, k => loadA s.heap (s.env.getD a undefA) (P.cellsOf t) fun cs => optK (asVal P t cs) fun v => resA P s rs fun vs => k (v :: vs)
def oneOf : List A → A
  | [x] => x
  | vs => .tup vs
def listEq : List Nat → List Nat → Bool
  | [], [] => true
  | x :: xs, y :: ys => Nat.beq x y && listEq xs ys
  | _, _ => false
/-- Slots of which nothing is known any more. -/
def forget (env : List A) : List Nat → List A
  | [] => env
  | i :: is => forget (env.set i .top) is
/-- The objects that the first n, and the slots, still reach; the others go. -/
def canonIds (n0 : Nat) (s : St) : List Nat := reach s.heap 1000 (List.range n0 ++ A.refsL s.env) []
def canon (n0 : Nat) (s : St) : St := ⟨A.mapIdL (placeOf (canonIds n0 s)) s.env, pack s.heap (canonIds n0 s)⟩
def canonOk (n0 : Nat) (s : St) : Bool := listEq ((canonIds n0 s).take n0) (List.range n0)
/-- All rows become data. -/
def Ob.frz (H : List Ob) : Ob → Ob
  | .cells cs => .cells (A.frzL H cs)
  | o => o
def frzH (H : List Ob) : List Ob := kill (H.map (Ob.frz H)) (List.range H.length)
def endVal (fz : Nat) (H : List Ob) (r : A) : A := match fz with | 0 => r | _ => A.frz H r
def endHeap (fz : Nat) (H : List Ob) (r : A) : List Ob := match fz with | 0 => H | 1 => kill H (A.owns r) | _ => frzH H
def finish (P : Program) (fz : Nat) (n0 : Nat) (rs : List ResultVar) (s : St) : Tr (A × List Ob) :=
  resA P s rs fun vs =>
    let r := oneOf vs
    let r' := endVal fz s.heap r
    let H' := endHeap fz s.heap r
    let c : St := ⟨[r'], H'⟩
    if canonOk n0 c then .ret (A.mapId (placeOf (canonIds n0 c)) r', pack H' (canonIds n0 c)) else .fail
/-- A function's run. -/
def runFn (P : Program) (keep : List FuncId) (fz : Nat) (fn : Func) (args : List A) (H : List Ob) : Tr (A × List Ob) :=
  match fn.body with
  | none => .fail
  | some c => run P keep c ⟨args ++ List.replicate (fn.ntmps - args.length) undefA, H⟩ fun e s => match e with
    | .exit _ => .fail
    | _ => finish P fz H.length fn.results.toList s
end Go.Ab
/- What abstract values stand for: definitions, and that they stand as long as nothing of theirs is written. -/
set_option linter.unusedVariables false
namespace Go.Ab
open Go Go.RowKit

/-- Where an object lies: its block; how many elements (a row's); an element's cells; the capacity; is it nil. -/
structure Loc where
  b : Nat
  n : Nat
  sz : Nat
  cap : Nat
  nil : Bool
  adr : Option Addr

/-- A row without a block: it is empty; nil, or an empty slice of somebody's. -/
def NilOk (l : Loc) (nb : Bool) (xs : List (List D)) : Prop := (l.nil = true → xs = [] ∧ l.adr.isNone = nb) ∧ (l.nil = false → (nb && xs.isEmpty) = false)
theorem NilOk.block {l : Loc} {nb : Bool} {xs : List (List D)} (h : NilOk l nb xs) (hx : xs ≠ []) : l.nil = false := by
  cases hh : l.nil with
  | false => rfl
  | true => exact absurd (h.1 hh).1 hx

mutual
/-- A value is this datum: F: blocks in which no data may lie. -/
def DRep (w : World) (F : Nat → Prop) : D → Value → Prop
  | .bool b, v => v = .bool b
  | .int k n, v => v = .int k n
  | .str s, v => v = .string s
  | .nilPtr, v => v = .pointer none
  | .nilFunc, v => v = .nilFunc
  | .nilIface, v => v = .nilIface
  | .nilMap, v => v = .map none
  | .func f, v => v = .func (.func f) #[] #[]
  | .slice isNil sz xs, v =>
    (isNil = true ∧ xs = [] ∧ v = .slice none 0 0) ∨
    (isNil = false ∧ ∃ a cap, v = .slice (some a) xs.length cap ∧ xs.length ≤ cap ∧ (∀ x ∈ xs, x.length = sz) ∧ (xs = [] ∨ ∃ b off, a = ⟨b, off, none⟩ ∧ ¬ F b ∧ b < w.heap.size ∧ RowsRep w F b sz off xs))
def CellsRep (w : World) (F : Nat → Prop) (b : Nat) : Nat → List D → Prop
  | _, [] => True
  | off, x :: xs => (∃ v, w.cell? ⟨b, off, none⟩ = some v ∧ DRep w F x v) ∧ CellsRep w F b (off + 1) xs
def RowsRep (w : World) (F : Nat → Prop) (b sz : Nat) : Nat → List (List D) → Prop
  | _, [] => True
  | off, c :: cs => CellsRep w F b off c ∧ RowsRep w F b sz (off + sz) cs
end

mutual
def Rep (m : List Loc) (w : World) (F : Nat → Prop) : A → Value → Prop
  | .d x, v => DRep w F x v
  | .ptr id off, v => ∃ l, m[id]? = some l ∧ v = .pointer (some ⟨l.b, off, none⟩)
  | .pel id i off, v => ∃ l, m[id]? = some l ∧ v = .pointer (some ⟨l.b, i * l.sz + off, none⟩)
  | .pdat cs, v => ∃ b off, v = .pointer (some ⟨b, off, none⟩) ∧ ¬ F b ∧ b < w.heap.size ∧ CellsRep w F b off cs
  | .own id, v => ∃ l, m[id]? = some l ∧ ((l.nil = true ∧ v = .slice l.adr 0 0) ∨ (l.nil = false ∧ v = .slice (some ⟨l.b, 0, none⟩) l.n l.cap))
  | .clo f a c, v => ∃ va vc : Array Value, v = .func (.func f) va vc ∧ RepL m w F a va.toList ∧ RepL m w F c vc.toList
  | .ifc t x, v => ∃ u, v = .iface t u ∧ Rep m w F x u
  | .agg cs, v => ∃ vs : Array Value, v = .agg vs ∧ RepL m w F cs vs.toList
  | .tup xs, v => ∃ vs : Array Value, v = .tuple vs ∧ RepL m w F xs vs.toList
  | .top, _ => True
def RepL (m : List Loc) (w : World) (F : Nat → Prop) : List A → List Value → Prop
  | [], vs => vs = []
  | a :: as, vs => ∃ v vs', vs = v :: vs' ∧ Rep m w F a v ∧ RepL m w F as vs'
end

def ObOk (P : Program) (m : List Loc) (w : World) (F : Nat → Prop) (l : Loc) : Ob → Prop
  | .cells cs => l.nil = false ∧ ∃ c e, w.heap[l.b]? = some (.cells c e (0, 0)) ∧ RepL m w F cs c.toList
  | .row nb e sz xs => l.sz = sz ∧ l.n = xs.length ∧ NilOk l nb xs ∧ (∀ x ∈ xs, x.length = sz) ∧
      (l.nil = false → ∃ cur, w.heap[l.b]? = some (.cells cur e (0, 0)) ∧ l.n ≤ l.cap ∧ l.cap ≤ maxLen ∧ cur.size = l.cap * sz ∧ True ∧ RowsRep w F l.b sz 0 xs)
  | .iter s pos => l.nil = false ∧ w.heap[l.b]? = some (.stringIter s pos)
  | .dead => True
def Ob.live : Ob → Bool
  | .dead => false
  | _ => true

/-- The blocks that live objects lie in. -/
def Owned (m : List Loc) (H : List Ob) (b : Nat) : Prop := ∃ (i : Nat) (o : Ob) (l : Loc), H[i]? = some o ∧ m[i]? = some l ∧ o.live = true ∧ l.nil = false ∧ l.b = b
def FF (X : Nat → Prop) (m : List Loc) (H : List Ob) (b : Nat) : Prop := X b ∨ Owned m H b

/-- A world holds the objects; what lay there when the law was called is as it was; X: blocks of others. -/
structure Conc (P : Program) (w0 : World) (X : Nat → Prop) (m : List Loc) (H : List Ob) (w : World) : Prop where
  below : Below w0.heap.size w0 w
  len : m.length = H.length
  xlt : ∀ b, X b → b < w.heap.size
  obj : ∀ (i : Nat) (o : Ob) (l : Loc), H[i]? = some o → m[i]? = some l → ObOk P m w (FF X m H) l o
  own : ∀ (i : Nat) (o : Ob) (l : Loc), H[i]? = some o → m[i]? = some l → o.live = true → l.nil = false → w0.heap.size ≤ l.b ∧ l.b < w.heap.size ∧ ¬ X l.b
  sep : ∀ (i j : Nat) (o p : Ob) (l k : Loc), H[i]? = some o → m[i]? = some l → o.live = true → l.nil = false → H[j]? = some p → m[j]? = some k → p.live = true → k.nil = false → l.b = k.b → i = j

/-- What a run may have changed: its own objects' blocks, and new ones. The first n objects lie where they lay. -/
structure Ext (n : Nat) (m : List Loc) (H : List Ob) (w : World) (m' : List Loc) (H' : List Ob) (w' : World) : Prop where
  pre : ∀ i, i < n → m'[i]? = m[i]?
  os : w'.os = w.os
  tape : w'.tape = w.tape
  output : w'.output = w.output
  size : w.heap.size ≤ w'.heap.size
  blk : ∀ b, b < w.heap.size → ¬ Owned m H b → w'.heap[b]? = w.heap[b]?
  own : ∀ b, Owned m' H' b → Owned m H b ∨ w.heap.size ≤ b

theorem Ext.refl (n : Nat) (m : List Loc) (H : List Ob) (w : World) : Ext n m H w m H w :=
  ⟨fun _ _ => rfl, rfl, rfl, rfl, Nat.le_refl _, fun _ _ _ => rfl, fun _ h => .inl h⟩
theorem Ext.trans {n : Nat} {m m1 m2 : List Loc} {H H1 H2 : List Ob} {w w1 w2 : World} (h : Ext n m H w m1 H1 w1) (g : Ext n m1 H1 w1 m2 H2 w2) : Ext n m H w m2 H2 w2 where
  pre := fun i hi => (g.pre i hi).trans (h.pre i hi)
  os := g.os.trans h.os
  tape := g.tape.trans h.tape
  output := g.output.trans h.output
  size := Nat.le_trans h.size g.size
  blk := fun b hb hn => by
    have h1 : ¬ Owned m1 H1 b := fun ho => (h.own b ho).elim hn (fun h' => by omega)
    rw [g.blk b (Nat.lt_of_lt_of_le hb h.size) h1, h.blk b hb hn]
  own := fun b ho => (g.own b ho).elim (fun h1 => h.own b h1) (fun h1 => .inr (Nat.le_trans h.size h1))
theorem Ext.mono {n n' : Nat} {m m' : List Loc} {H H' : List Ob} {w w' : World} (h : Ext n m H w m' H' w') (hn : n' ≤ n) : Ext n' m H w m' H' w' :=
  { h with pre := fun i hi => h.pre i (Nat.lt_of_lt_of_le hi hn) }

/-- Data stand in a world that has their blocks as they were. -/
def Stays (w : World) (F : Nat → Prop) (w' : World) (F' : Nat → Prop) : Prop :=
  w.heap.size ≤ w'.heap.size ∧ ∀ b, b < w.heap.size → ¬ F b → w'.heap[b]? = w.heap[b]? ∧ ¬ F' b

theorem cell_of_heap {w w' : World} {b off : Nat} (h : w'.heap[b]? = w.heap[b]?) : w'.cell? ⟨b, off, none⟩ = w.cell? ⟨b, off, none⟩ := by
  simp only [World.cell?, h]

/- The cells of a row of one's own: its block may be forbidden, but it is as it was. -/
mutual
theorem DRep.stays {w w' : World} {F F' : Nat → Prop} (h : Stays w F w' F') : ∀ (x : D) (v : Value), DRep w F x v → DRep w' F' x v
  | .bool _, _, hx => hx
  | .int _ _, _, hx => hx
  | .str _, _, hx => hx
  | .nilPtr, _, hx => hx
  | .nilFunc, _, hx => hx
  | .nilIface, _, hx => hx
  | .nilMap, _, hx => hx
  | .func _, _, hx => hx
  | .slice isNil sz xs, v, hx => by
    rcases hx with hx | ⟨h1, a, cap, h2, h2', h3, h4⟩
    · exact .inl hx
    · refine .inr ⟨h1, a, cap, h2, h2', h3, ?_⟩
      rcases h4 with h4 | ⟨b, off, h5, h6, h7, h8⟩
      · exact .inl h4
      · exact .inr ⟨b, off, h5, (h.2 b h7 h6).2, Nat.lt_of_lt_of_le h7 h.1, RowsRep.stays h b sz (h.2 b h7 h6).1 off xs h8⟩
theorem CellsRep.stays {w w' : World} {F F' : Nat → Prop} (h : Stays w F w' F') (b : Nat) (hb : w'.heap[b]? = w.heap[b]?) : ∀ (off : Nat) (xs : List D), CellsRep w F b off xs → CellsRep w' F' b off xs
  | _, [], _ => trivial
  | off, x :: xs, hx => by
    obtain ⟨⟨v, h1, h2⟩, h3⟩ := hx
    exact ⟨⟨v, by rw [cell_of_heap hb]; exact h1, DRep.stays h x v h2⟩, CellsRep.stays h b hb (off + 1) xs h3⟩
theorem RowsRep.stays {w w' : World} {F F' : Nat → Prop} (h : Stays w F w' F') (b sz : Nat) (hb : w'.heap[b]? = w.heap[b]?) : ∀ (off : Nat) (xs : List (List D)), RowsRep w F b sz off xs → RowsRep w' F' b sz off xs
  | _, [], _ => trivial
  | off, c :: cs, hx => ⟨CellsRep.stays h b hb off c hx.1, RowsRep.stays h b sz hb (off + sz) cs hx.2⟩
end

mutual
theorem Rep.stays {m m' : List Loc} {w w' : World} {F F' : Nat → Prop} (h : Stays w F w' F') (hm : ∀ (i : Nat) (l : Loc), m[i]? = some l → m'[i]? = some l) : ∀ (a : A) (v : Value), Rep m w F a v → Rep m' w' F' a v
  | .d x, v, hx => DRep.stays h x v hx
  | .ptr _ _, _, ⟨l, h1, h2⟩ => ⟨l, hm _ _ h1, h2⟩
  | .pel _ _ _, _, ⟨l, h1, h2⟩ => ⟨l, hm _ _ h1, h2⟩
  | .pdat cs, _, ⟨b, off, h1, h2, h3, h4⟩ => ⟨b, off, h1, (h.2 b h3 h2).2, Nat.lt_of_lt_of_le h3 h.1, CellsRep.stays h b (h.2 b h3 h2).1 off cs h4⟩
  | .own _, _, ⟨l, h1, h2⟩ => ⟨l, hm _ _ h1, h2⟩
  | .clo _ a c, _, ⟨va, vc, h1, h2, h3⟩ => ⟨va, vc, h1, RepL.stays h hm a _ h2, RepL.stays h hm c _ h3⟩
  | .ifc _ x, _, ⟨u, h1, h2⟩ => ⟨u, h1, Rep.stays h hm x u h2⟩
  | .agg cs, _, ⟨vs, h1, h2⟩ => ⟨vs, h1, RepL.stays h hm cs _ h2⟩
  | .tup xs, _, ⟨vs, h1, h2⟩ => ⟨vs, h1, RepL.stays h hm xs _ h2⟩
  | .top, _, _ => trivial
theorem RepL.stays {m m' : List Loc} {w w' : World} {F F' : Nat → Prop} (h : Stays w F w' F') (hm : ∀ (i : Nat) (l : Loc), m[i]? = some l → m'[i]? = some l) : ∀ (as : List A) (vs : List Value), RepL m w F as vs → RepL m' w' F' as vs
  | [], _, hx => hx
  | a :: as, _, ⟨v, vs', h1, h2, h3⟩ => ⟨v, vs', h1, Rep.stays h hm a v h2, RepL.stays h hm as vs' h3⟩
end

mutual
/-- Numbers renamed. -/
theorem Rep.mapId {m m' : List Loc} {w : World} {F : Nat → Prop} {f : Nat → Option Nat} (hf : ∀ (i j : Nat) (l : Loc), f i = some j → m[i]? = some l → m'[j]? = some l) : ∀ (a : A) (v : Value), Rep m w F a v → Rep m' w F (a.mapId f) v
  | .d x, v, hx => by simpa only [A.mapId, Rep] using hx
  | .ptr id off, v, ⟨l, h1, h2⟩ => by
    simp only [A.mapId]
    cases hj : f id with
    | none => trivial
    | some j => exact ⟨l, hf id j l hj h1, h2⟩
  | .pel id i off, v, ⟨l, h1, h2⟩ => by
    simp only [A.mapId]
    cases hj : f id with
    | none => trivial
    | some j => exact ⟨l, hf id j l hj h1, h2⟩
  | .pdat cs, v, hx => by simpa only [A.mapId, Rep] using hx
  | .own id, v, ⟨l, h1, h2⟩ => by
    simp only [A.mapId]
    cases hj : f id with
    | none => trivial
    | some j => exact ⟨l, hf id j l hj h1, h2⟩
  | .clo g a c, v, ⟨va, vc, h1, h2, h3⟩ => by simp only [A.mapId]; exact ⟨va, vc, h1, RepL.mapId hf a _ h2, RepL.mapId hf c _ h3⟩
  | .ifc t x, v, ⟨u, h1, h2⟩ => by simp only [A.mapId]; exact ⟨u, h1, Rep.mapId hf x u h2⟩
  | .agg cs, v, ⟨vs, h1, h2⟩ => by simp only [A.mapId]; exact ⟨vs, h1, RepL.mapId hf cs _ h2⟩
  | .tup xs, v, ⟨vs, h1, h2⟩ => by simp only [A.mapId]; exact ⟨vs, h1, RepL.mapId hf xs _ h2⟩
  | .top, v, _ => by simp only [A.mapId]; trivial
theorem RepL.mapId {m m' : List Loc} {w : World} {F : Nat → Prop} {f : Nat → Option Nat} (hf : ∀ (i j : Nat) (l : Loc), f i = some j → m[i]? = some l → m'[j]? = some l) : ∀ (as : List A) (vs : List Value), RepL m w F as vs → RepL m' w F (A.mapIdL f as) vs
  | [], _, hx => by simpa only [A.mapIdL, RepL] using hx
  | a :: as, _, ⟨v, vs', h1, h2, h3⟩ => by simp only [A.mapIdL]; exact ⟨v, vs', h1, Rep.mapId hf a v h2, RepL.mapId hf as vs' h3⟩
end

theorem RepL.length {m : List Loc} {w : World} {F : Nat → Prop} : ∀ (as : List A) (vs : List Value), RepL m w F as vs → as.length = vs.length
  | [], _, hx => by simp only [RepL] at hx; simp [hx]
  | a :: as, _, ⟨v, vs', h1, h2, h3⟩ => by simp [h1, RepL.length as vs' h3]
theorem RepL.at_ {m : List Loc} {w : World} {F : Nat → Prop} : ∀ (as : List A) (vs : List Value), RepL m w F as vs → ∀ (j : Nat) (a : A), as[j]? = some a → ∃ v, vs[j]? = some v ∧ Rep m w F a v
  | [], _, _, j, a, ha => by simp at ha
  | a0 :: as, _, ⟨v, vs', h1, h2, h3⟩, j, a, ha => by
    subst h1
    cases j with
    | zero => simp at ha; subst ha; exact ⟨v, by simp, h2⟩
    | succ j => simp at ha; simpa using RepL.at_ as vs' h3 j a ha
theorem RepL.of_at {m : List Loc} {w : World} {F : Nat → Prop} : ∀ (as : List A) (vs : List Value), as.length = vs.length → (∀ (j : Nat) (a : A) (v : Value), as[j]? = some a → vs[j]? = some v → Rep m w F a v) → RepL m w F as vs
  | [], vs, hl, _ => by simp only [RepL]; exact List.length_eq_zero_iff.1 hl.symm
  | a :: as, [], hl, _ => by simp at hl
  | a :: as, v :: vs, hl, h => ⟨v, vs, rfl, h 0 a v rfl rfl, RepL.of_at as vs (by simpa using hl) fun j a' v' ha hv => h (j + 1) a' v' (by simpa using ha) (by simpa using hv)⟩
theorem RepL.append {m : List Loc} {w : World} {F : Nat → Prop} {as bs : List A} {vs us : List Value} (h : RepL m w F as vs) (g : RepL m w F bs us) : RepL m w F (as ++ bs) (vs ++ us) := by
  induction as generalizing vs with
  | nil => simp only [RepL] at h; subst h; exact g
  | cons a as ih =>
    obtain ⟨v, vs', h1, h2, h3⟩ := h
    subst h1
    exact ⟨v, vs' ++ us, rfl, h2, ih h3⟩
theorem RepL.take {m : List Loc} {w : World} {F : Nat → Prop} : ∀ (n : Nat) {as : List A} {vs : List Value}, RepL m w F as vs → RepL m w F (as.take n) (vs.take n)
  | 0, _, _, _ => by simp [RepL]
  | n + 1, [], _, h => by simp only [RepL] at h; subst h; simp [RepL]
  | n + 1, a :: as, _, ⟨v, vs', h1, h2, h3⟩ => by subst h1; exact ⟨v, vs'.take n, by simp, h2, RepL.take n h3⟩
theorem RepL.drop {m : List Loc} {w : World} {F : Nat → Prop} : ∀ (n : Nat) {as : List A} {vs : List Value}, RepL m w F as vs → RepL m w F (as.drop n) (vs.drop n)
  | 0, _, _, h => h
  | n + 1, [], _, h => by simp only [RepL] at h; subst h; simp [RepL]
  | n + 1, a :: as, _, ⟨v, vs', h1, h2, h3⟩ => by subst h1; exact RepL.drop n h3
theorem RepL.set {m : List Loc} {w : World} {F : Nat → Prop} : ∀ (i : Nat) {as : List A} {vs : List Value} {a : A} {v : Value}, RepL m w F as vs → Rep m w F a v → RepL m w F (as.set i a) (vs.set i v)
  | _, [], _, _, _, h, _ => by simp only [RepL] at h; subst h; simp [RepL]
  | 0, a0 :: as, _, a, v, ⟨v0, vs', h1, h2, h3⟩, g => by subst h1; exact ⟨v, vs', rfl, g, h3⟩
  | i + 1, a0 :: as, _, a, v, ⟨v0, vs', h1, h2, h3⟩, g => by subst h1; exact ⟨v0, _, rfl, h2, RepL.set i h3 g⟩

end Go.Ab
/- Reading: the operations that leave the world as it is. -/
set_option linter.unusedVariables false
set_option linter.unusedSimpArgs false
namespace Go.Ab
open Go Go.RowKit

section
variable {P : Program} {w0 : World}

/-! ### Cells and rows -/
theorem rows_at {w : World} {F : Nat → Prop} {b sz : Nat} : ∀ (xs : List (List D)) (off i : Nat) (c : List D), RowsRep w F b sz off xs → xs[i]? = some c → CellsRep w F b (off + i * sz) c
  | [], _, _, _, _, hi => by simp at hi
  | x :: xs, off, 0, c, h, hi => by simp at hi; subst hi; simpa using h.1
  | x :: xs, off, i + 1, c, h, hi => by
    have := rows_at xs (off + sz) i c h.2 (by simpa using hi)
    rwa [show off + (i + 1) * sz = off + sz + i * sz by rw [Nat.add_mul]; omega]
theorem cells_drop {w : World} {F : Nat → Prop} {b : Nat} : ∀ (n : Nat) (xs : List D) (off : Nat), CellsRep w F b off xs → CellsRep w F b (off + n) (xs.drop n)
  | 0, xs, off, h => by simpa using h
  | n + 1, [], off, h => by simp only [List.drop_nil]; trivial
  | n + 1, x :: xs, off, h => by
    have := cells_drop n xs (off + 1) h.2
    rwa [show off + (n + 1) = off + 1 + n by omega]
theorem cells_take {w : World} {F : Nat → Prop} {b : Nat} : ∀ (n : Nat) (xs : List D) (off : Nat), CellsRep w F b off xs → CellsRep w F b off (xs.take n)
  | 0, xs, off, h => by simp only [List.take_zero]; trivial
  | n + 1, [], off, h => by simp only [List.take_nil]; trivial
  | n + 1, x :: xs, off, h => ⟨h.1, cells_take n xs (off + 1) h.2⟩
theorem cells_append {w : World} {F : Nat → Prop} {b : Nat} : ∀ (xs ys : List D) (off : Nat), CellsRep w F b off xs → CellsRep w F b (off + xs.length) ys → CellsRep w F b off (xs ++ ys)
  | [], ys, off, _, h => by simpa using h
  | x :: xs, ys, off, h, g => ⟨h.1, cells_append xs ys (off + 1) h.2 (by rwa [show off + 1 + xs.length = off + (x :: xs).length by simp; omega])⟩
/-- Cells as a list of values. -/
theorem cells_vals {w : World} {F : Nat → Prop} {m : List Loc} {b : Nat} : ∀ (xs : List D) (off : Nat), CellsRep w F b off xs → ∃ vs : List Value, vs.length = xs.length ∧ RepL m w F (xs.map .d) vs ∧ ∀ (j : Nat) (v : Value), vs[j]? = some v → w.cell? ⟨b, off + j, none⟩ = some v
  | [], off, _ => ⟨[], rfl, rfl, fun j v hv => by simp at hv⟩
  | x :: xs, off, ⟨⟨v, hc, hd⟩, h2⟩ => by
    obtain ⟨vs, hl, hr, ha⟩ := cells_vals (m := m) xs (off + 1) h2
    refine ⟨v :: vs, by simp [hl], ⟨v, vs, rfl, hd, hr⟩, fun j u hu => ?_⟩
    cases j with
    | zero => simp at hu; subst hu; simpa using hc
    | succ j =>
      have := ha j u (by simpa using hu)
      rwa [show off + 1 + j = off + (j + 1) by omega] at this
theorem cells_of_vals {w : World} {F : Nat → Prop} {m : List Loc} {b : Nat} : ∀ (xs : List D) (off : Nat) (vs : List Value), RepL m w F (xs.map .d) vs → (∀ (j : Nat) (v : Value), vs[j]? = some v → w.cell? ⟨b, off + j, none⟩ = some v) → CellsRep w F b off xs
  | [], _, _, _, _ => trivial
  | x :: xs, off, vs, hr, ha => by
    obtain ⟨v, vs', rfl, h1, h2⟩ := hr
    exact ⟨⟨v, by simpa using ha 0 v rfl, h1⟩, cells_of_vals xs (off + 1) vs' h2 fun j u hu => by
      have := ha (j + 1) u (by simpa using hu)
      rwa [show off + (j + 1) = off + 1 + j by omega] at this⟩
theorem rows_flat {w : World} {F : Nat → Prop} {b sz : Nat} : ∀ (xs : List (List D)) (off : Nat), (∀ x ∈ xs, x.length = sz) → (RowsRep w F b sz off xs ↔ CellsRep w F b off xs.flatten)
  | [], off, _ => by simp [RowsRep, CellsRep]
  | x :: xs, off, h => by
    have hx : x.length = sz := h x (by simp)
    have ih := rows_flat (w := w) (F := F) (b := b) xs (off + sz) fun y hy => h y (by simp [hy])
    constructor
    · rintro ⟨h1, h2⟩
      simp only [List.flatten_cons]
      exact cells_append x xs.flatten off h1 (by rw [hx]; exact ih.1 h2)
    · intro h1
      simp only [List.flatten_cons] at h1
      refine ⟨?_, ih.2 ?_⟩
      · have := cells_take x.length _ off h1
        simpa using this
      · have := cells_drop x.length _ off h1
        simpa [hx] using this
theorem flat_len {sz : Nat} : ∀ (xs : List (List D)), (∀ x ∈ xs, x.length = sz) → xs.flatten.length = xs.length * sz
  | [], _ => by simp
  | x :: xs, h => by
    rw [List.flatten_cons, List.length_append, flat_len xs fun y hy => h y (by simp [hy]), h x (by simp), List.length_cons, Nat.add_mul]
    omega

theorem getC_some {sz : Nat} {xs : List (List D)} {i : Int} {c : List D} (h : getC sz xs i = some c) : 0 ≤ i ∧ xs[i.toNat]? = some c ∧ c.length = sz ∧ i.toNat < xs.length := by
  unfold getC at h
  split at h
  · rename_i h0
    split at h
    · rename_i c' hc
      split at h
      · rename_i hl
        simp only [Option.some.injEq] at h
        subst h
        exact ⟨h0, hc, hl, (List.getElem?_eq_some_iff.1 hc).1⟩
      · simp at h
    · simp at h
  · simp at h

/-! ### One cell, and a variable -/
theorem drep_one {w : World} {F : Nat → Prop} {x : D} {v : Value} (h : DRep w F x v) : v.oneCell' = true ∧ v.cells = #[v] := by
  cases x with
  | slice n s xs =>
    rcases h with ⟨_, _, rfl⟩ | ⟨_, a, cap, rfl, _⟩ <;> exact ⟨rfl, rfl⟩
  | _ => simp only [DRep] at h; subst h; exact ⟨rfl, rfl⟩
theorem rep_one {m : List Loc} {w : World} {F : Nat → Prop} {a : A} {v : Value} (h : Rep m w F a v) (hp : a.plain = true) : (a.cellsOf = [a] ∧ v.oneCell' = true ∧ v.cells = #[v]) ∨ ∃ cs vs, a = .agg cs ∧ v = .agg vs ∧ RepL m w F cs vs.toList := by
  cases a with
  | d x => exact .inl ⟨rfl, drep_one h⟩
  | ptr id off => obtain ⟨l, _, rfl⟩ := h; exact .inl ⟨rfl, rfl, rfl⟩
  | pel id i off => obtain ⟨l, _, rfl⟩ := h; exact .inl ⟨rfl, rfl, rfl⟩
  | pdat cs => obtain ⟨b, off, rfl, _⟩ := h; exact .inl ⟨rfl, rfl, rfl⟩
  | own id => obtain ⟨l, _, h⟩ := h; rcases h with ⟨_, rfl⟩ | ⟨_, rfl⟩ <;> exact .inl ⟨rfl, rfl, rfl⟩
  | clo f b c => obtain ⟨va, vc, rfl, _⟩ := h; exact .inl ⟨rfl, rfl, rfl⟩
  | ifc t x => obtain ⟨u, rfl, _⟩ := h; exact .inl ⟨rfl, rfl, rfl⟩
  | agg cs => obtain ⟨vs, rfl, hr⟩ := h; exact .inr ⟨cs, vs, rfl, rfl, hr⟩
  | tup vs => simp [A.plain] at hp
  | top => simp [A.plain] at hp
/-- A value's cells. -/
theorem rep_cells {m : List Loc} {w : World} {F : Nat → Prop} {a : A} {v : Value} (h : Rep m w F a v) (hp : a.plain = true) : RepL m w F a.cellsOf v.cells.toList := by
  rcases rep_one h hp with ⟨h1, _, h3⟩ | ⟨cs, vs, rfl, rfl, hr⟩
  · rw [h1, h3]; exact ⟨v, [], rfl, h, rfl⟩
  · exact hr

theorem info_of_underlying {t : TypeId} {d : TypeDesc} (h : P.underlying t = some d) : ∃ i, P.info? t = some i := by
  unfold Program.underlying at h
  cases hi : P.info? t with
  | none => rw [hi] at h; simp at h
  | some i => exact ⟨i, rfl⟩
theorem run_isAggA {t : TypeId} {b : Bool} (h : isAggB P t = some b) (w : World) : (isAgg t).run P w = .ok b w := by
  unfold isAggB at h
  cases hu : P.underlying t with
  | none => rw [hu] at h; simp at h
  | some d =>
    rw [hu] at h
    unfold isAgg
    rw [Sem.run_bind, run_underlying hu]
    cases d <;> simp at h <;> subst h <;> rfl
theorem asVal_agg {t : TypeId} {cs : List A} {v : A} (h : asVal P t cs = some v) : ∃ b, isAggB P t = some b ∧ ((b = true ∧ v = .agg cs) ∨ (b = false ∧ cs = [v])) := by
  unfold asVal at h
  split at h
  · rename_i hb
    exact ⟨true, hb, .inl ⟨rfl, by simpa using h.symm⟩⟩
  · rename_i hb
    split at h
    · exact ⟨false, hb, .inr ⟨rfl, by simp at h; simp [h]⟩⟩
    · simp at h
  · simp at h
theorem info_of_agg {t : TypeId} {b : Bool} (h : isAggB P t = some b) : ∃ i, P.info? t = some i := by
  unfold isAggB at h
  cases hu : P.underlying t with
  | none => rw [hu] at h; simp at h
  | some d => exact info_of_underlying hu

/-- A variable is loaded. -/
theorem run_loadVarA {m : List Loc} {w : World} {F : Nat → Prop} {t : TypeId} {cs : List A} {v : A} (hv : asVal P t cs = some v) (hl : cs.length = P.cellsOf t) {vs : List Value} (hr : RepL m w F cs vs)
    {b off : Nat} (hc : ∀ (j : Nat) (u : Value), vs[j]? = some u → w.cell? ⟨b, off + j, none⟩ = some u) : ∃ u, (loadVar t ⟨b, off, none⟩).run P w = .ok u w ∧ Rep m w F v u := by
  obtain ⟨bb, hb, hcase⟩ := asVal_agg hv
  obtain ⟨i, hi⟩ := info_of_agg hb
  rcases hcase with ⟨rfl, rfl⟩ | ⟨rfl, rfl⟩
  · refine ⟨.agg vs.toArray, ?_, ⟨vs.toArray, rfl, by simpa using hr⟩⟩
    have hlen : vs.length = P.cellsOf t := by rw [← RepL.length _ _ hr, hl]
    have hload := run_loadCells_list (P := P) w ⟨b, off, none⟩ vs (fun j u hu => by rw [Addr.add_lit]; exact hc j u hu)
    unfold loadVar
    rw [Sem.run_bind, run_isAggA hb]
    simp only [Result.andThen_ok, if_true, Sem.run_bind, run_sizeOf w hi, ← hlen, hload, Sem.run_pure]
  · obtain ⟨u, us, rfl, h1, h2⟩ := hr
    simp only [RepL] at h2
    subst h2
    refine ⟨u, ?_, h1⟩
    have hcell := hc 0 u rfl
    simp only [Nat.add_zero] at hcell
    unfold loadVar
    rw [Sem.run_bind, run_isAggA hb]
    simp [hcell]

/-- A part of a struct's cells. -/
theorem run_partA {m : List Loc} {w : World} {F : Nat → Prop} {t : TypeId} {cs : List A} {off : Nat} {v : A} (hv : asVal P t ((cs.drop off).take (P.cellsOf t)) = some v) (hl : off + P.cellsOf t ≤ cs.length) {vs : Array Value} (hr : RepL m w F cs vs.toList) :
    ∃ u, (part t vs off).run P w = .ok u w ∧ Rep m w F v u := by
  obtain ⟨bb, hb, hcase⟩ := asVal_agg hv
  obtain ⟨i, hi⟩ := info_of_agg hb
  have hr2 := RepL.take (P.cellsOf t) (RepL.drop off hr)
  rcases hcase with ⟨rfl, rfl⟩ | ⟨rfl, h1⟩
  · refine ⟨.agg (vs.extract off (off + P.cellsOf t)), ?_, ⟨_, rfl, ?_⟩⟩
    · unfold part
      rw [Sem.run_bind, run_isAggA hb]
      simp only [Result.andThen_ok, if_true, Sem.run_bind, run_sizeOf w hi, Sem.run_pure]
    · have : (vs.extract off (off + P.cellsOf t)).toList = (vs.toList.drop off).take (P.cellsOf t) := by
        rw [Array.toList_extract, List.extract_eq_take_drop]
        congr 1
        omega
      rw [this]; exact hr2
  · rw [h1] at hr2
    obtain ⟨u, us, h2, h3, h4⟩ := hr2
    simp only [RepL] at h4
    subst h4
    have hat : vs[off]? = some u := by
      have h5 : ((vs.toList.drop off).take (P.cellsOf t))[0]? = some u := by rw [h2]; rfl
      rw [List.getElem?_take, List.getElem?_drop] at h5
      split at h5
      · simpa using h5
      · simp at h5
    refine ⟨u, ?_, h3⟩
    unfold part
    rw [Sem.run_bind, run_isAggA hb]
    simp [hat]
end
end Go.Ab
/- What a tree promises; what an operation does; the operations that leave the world as it is. -/
set_option linter.unusedVariables false
set_option linter.unusedSimpArgs false
namespace Go.Ab
open Go Go.RowKit

section
variable (P : Program) (w0 : World)

/-- THE CONTRACT of a function, abstractly: called with these values over these objects, it returns that value, and the objects are so then. -/
def AEv (f : FuncId) (args : List A) (H : List Ob) (r : A) (H' : List Ob) : Prop :=
  ∀ (X : Nat → Prop) (m : List Loc) (w : World) (vs : List Value), Conc P w0 X m H w → RepL m w (FF X m H) args vs →
    Calls P f vs.toArray w fun e w' => match e with
      | .returned v => ∃ m', Ext H.length m H w m' H' w' ∧ Conc P w0 X m' H' w' ∧ Rep m' w' (FF X m' H') r v
      | .panicked _ => False
      | .outgrown => False

/-- Where a run of code may end. -/
def Post (n0 : Nat) (X : Nat → Prop) (m : List Loc) (H : List Ob) (w : World) (J : Ex → St → Prop) : Exit → Act → World → Prop :=
  fun e a' w' =>
    let at_ (x : Ex) : Prop := ∃ s' m', J x s' ∧ Ext n0 m H w m' s'.heap w' ∧ Conc P w0 X m' s'.heap w' ∧ RepL m' w' (FF X m' s'.heap) s'.env a'.tmps.toList ∧ a'.defers = []
    match e with
    | .outgrown => False
    | .normal => at_ .normal
    | .exit id => at_ (.exit id)
    | .ret => at_ .ret
    | _ => False

/-- A piece of code, from an abstract state on, comes to J. -/
def ACode (n0 : Nat) (c : Code) (s : St) (J : Ex → St → Prop) : Prop :=
  ∀ (X : Nat → Prop) (m : List Loc) (w : World) (a : Act), Conc P w0 X m s.heap w → RepL m w (FF X m s.heap) s.env a.tmps.toList → a.defers = [] → n0 ≤ m.length →
    c.wp P (Post P w0 n0 X m s.heap w J) a w

/-- WHAT A TREE PROMISES. -/
def wp (n0 : Nat) {α : Type} : Tr α → (α → Prop) → Prop
  | .ret x, Q => Q x
  | .fail, _ => False
  | .q b k, Q => (b = true → wp n0 (k true) Q) ∧ (b = false → wp n0 (k false) Q)
  | .chk b k, Q => b = true ∧ wp n0 k Q
  | .opt o k, Q => ∃ c, o = some c ∧ wp n0 (k c) Q
  | .call f args H k, Q => ∃ r H', AEv P w0 f args H r H' ∧ wp n0 (k r H') Q
  | .loop body s k, Q => ∃ J, ACode P w0 n0 (.loop body) s J ∧ ∀ e s', J e s' → wp n0 (k e s') Q

/-- An operation, its operands' values told. -/
def OpOk (o : Oper) (args : List A) (H : List Ob) (v : A) (H' : List Ob) : Prop :=
  ∀ (X : Nat → Prop) (m : List Loc) (w : World) (a : Act), Conc P w0 X m H w → RepL m w (FF X m H) args (o.op.operands.toList.map a.eval) →
    ∀ (next : Act → World → Prop) (Q : Exit → Act → World → Prop),
      (∀ m' w' v', Ext H.length m H w m' H' w' → Conc P w0 X m' H' w' → Rep m' w' (FF X m' H') v v' → next (a.put o.dst v') w') →
      o.wp P a w next Q
end

section
variable {P : Program} {w0 : World} {n0 : Nat}

theorem wp_mono {α : Type} {Q Q' : α → Prop} (h : ∀ x, Q x → Q' x) : ∀ (t : Tr α), wp P w0 n0 t Q → wp P w0 n0 t Q'
  | .ret x, hx => h x hx
  | .q b k, ⟨h1, h2⟩ => ⟨fun e => wp_mono h (k true) (h1 e), fun e => wp_mono h (k false) (h2 e)⟩
  | .chk b k, ⟨h1, h2⟩ => ⟨h1, wp_mono h k h2⟩
  | .opt o k, ⟨c, h1, h2⟩ => ⟨c, h1, wp_mono h (k c) h2⟩
  | .call f args H k, ⟨r, H', h1, h2⟩ => ⟨r, H', h1, wp_mono h (k r H') h2⟩
  | .loop body s k, ⟨J, h1, h2⟩ => ⟨J, h1, fun e s' hj => wp_mono h (k e s') (h2 e s' hj)⟩

theorem Post.mono {X : Nat → Prop} {m : List Loc} {H : List Ob} {w : World} {J J' : Ex → St → Prop} (h : ∀ e s, J e s → J' e s) {e : Exit} {a : Act} {w' : World} (hp : Post P w0 n0 X m H w J e a w') : Post P w0 n0 X m H w J' e a w' := by
  cases e with
  | normal => obtain ⟨s', m', h1, h2⟩ := hp; exact ⟨s', m', h _ _ h1, h2⟩
  | exit id => obtain ⟨s', m', h1, h2⟩ := hp; exact ⟨s', m', h _ _ h1, h2⟩
  | ret => obtain ⟨s', m', h1, h2⟩ := hp; exact ⟨s', m', h _ _ h1, h2⟩
  | outgrown => exact hp
  | goto l => exact hp
  | panic ch => exact hp
theorem ACode.mono {c : Code} {s : St} {J J' : Ex → St → Prop} (h : ACode P w0 n0 c s J) (hj : ∀ e s, J e s → J' e s) : ACode P w0 n0 c s J' :=
  fun X m w a h1 h2 h3 h4 => Go.wp_mono (h X m w a h1 h2 h3 h4) fun _ _ _ hp => Post.mono hj hp
theorem Post.before {X : Nat → Prop} {m m1 : List Loc} {H H1 : List Ob} {w w1 : World} {J : Ex → St → Prop} (h : Ext n0 m H w m1 H1 w1) {e : Exit} {a : Act} {w' : World} (hp : Post P w0 n0 X m1 H1 w1 J e a w') : Post P w0 n0 X m H w J e a w' := by
  cases e with
  | normal => obtain ⟨s', m', h1, h2, h3⟩ := hp; exact ⟨s', m', h1, h.trans h2, h3⟩
  | exit id => obtain ⟨s', m', h1, h2, h3⟩ := hp; exact ⟨s', m', h1, h.trans h2, h3⟩
  | ret => obtain ⟨s', m', h1, h2, h3⟩ := hp; exact ⟨s', m', h1, h.trans h2, h3⟩
  | outgrown => exact hp
  | goto l => exact hp
  | panic ch => exact hp

/-- An operation that yields a value. -/
theorem OpOk.of_run {o : Oper} {args : List A} {H H' : List Ob} {v : A}
    (h : ∀ (X : Nat → Prop) (m : List Loc) (w : World) (a : Act), Conc P w0 X m H w → RepL m w (FF X m H) args (o.op.operands.toList.map a.eval) →
      ∃ m' w' v', (execOp a.eval o).run P w = .ok (.value v') w' ∧ Ext H.length m H w m' H' w' ∧ Conc P w0 X m' H' w' ∧ Rep m' w' (FF X m' H') v v') : OpOk P w0 o args H v H' := by
  intro X m w a hc hr next Q hn
  obtain ⟨m', w', v', h1, h2, h3, h4⟩ := h X m w a hc hr
  unfold Oper.wp
  rw [h1]
  exact hn m' w' v' h2 h3 h4
/-- One that leaves all as it is. -/
def OpQ (P : Program) (w0 : World) (o : Oper) (args : List A) (H : List Ob) (v : A) : Prop :=
  ∀ (X : Nat → Prop) (m : List Loc) (w : World) (a : Act), Conc P w0 X m H w → RepL m w (FF X m H) args (o.op.operands.toList.map a.eval) →
      ∃ v', (execOp a.eval o).run P w = .ok (.value v') w ∧ Rep m w (FF X m H) v v'
theorem OpOk.of_quiet {o : Oper} {args : List A} {H : List Ob} {v : A} (h : OpQ P w0 o args H v) : OpOk P w0 o args H v H :=
  .of_run fun X m w a hc hr =>
    let ⟨v', h1, h2⟩ := h X m w a hc hr
    ⟨m, w, v', h1, Ext.refl _ _ _ _, hc, h2⟩

theorem repL_one {m : List Loc} {w : World} {F : Nat → Prop} {x : A} {vs : List Value} (h : RepL m w F [x] vs) : ∃ v, vs = [v] ∧ Rep m w F x v := by
  obtain ⟨v, us, rfl, h1, h2⟩ := h
  simp only [RepL] at h2
  subst h2
  exact ⟨v, rfl, h1⟩
theorem repL_two {m : List Loc} {w : World} {F : Nat → Prop} {x y : A} {vs : List Value} (h : RepL m w F [x, y] vs) : ∃ u v, vs = [u, v] ∧ Rep m w F x u ∧ Rep m w F y v := by
  obtain ⟨u, us, rfl, h1, h2⟩ := h
  obtain ⟨v, rfl, h3⟩ := repL_one h2
  exact ⟨u, v, rfl, h1, h3⟩
theorem repL_three {m : List Loc} {w : World} {F : Nat → Prop} {x y z : A} {vs : List Value} (h : RepL m w F [x, y, z] vs) : ∃ u v t, vs = [u, v, t] ∧ Rep m w F x u ∧ Rep m w F y v ∧ Rep m w F z t := by
  obtain ⟨u, us, rfl, h1, h2⟩ := h
  obtain ⟨v, t, rfl, h3, h4⟩ := repL_two h2
  exact ⟨u, v, t, rfl, h1, h3, h4⟩

/-- What an operation's tree tells. -/
abbrev Told (P : Program) (w0 : World) (n0 : Nat) {α : Type} (o : Oper) (args : List A) (H : List Ob) (k : A → List Ob → Tr α) (Q : α → Prop) : Prop :=
  ∃ v H', OpOk P w0 o args H v H' ∧ (quietOp o.op = true → H' = H ∧ OpQ P w0 o args H v) ∧ wp P w0 n0 (k v H') Q
theorem Told.quiet {P : Program} {w0 : World} {n0 : Nat} {α : Type} {o : Oper} {args : List A} {H : List Ob} {k : A → List Ob → Tr α} {Q : α → Prop} {v : A} (h1 : OpQ P w0 o args H v) (h : wp P w0 n0 (k v H) Q) : Told P w0 n0 o args H k Q :=
  ⟨v, H, .of_quiet h1, fun _ => ⟨rfl, h1⟩, h⟩

variable {α : Type} {Q : α → Prop} {keep : List FuncId}

theorem wp_optK {β : Type} {o : Option β} {k : β → Tr α} (h : wp P w0 n0 (optK o k) Q) : ∃ x, o = some x ∧ wp P w0 n0 (k x) Q := by
  cases o with
  | none => exact h.elim
  | some x => exact ⟨x, rfl, h⟩

theorem told_move {dst type pos after guard} {x0 : Operand} {args : List A} {H : List Ob} {k : A → List Ob → Tr α}
    (h : wp P w0 n0 (xop P keep ⟨dst, .move x0, type, pos, after, guard⟩ args H k) Q) : Told P w0 n0 ⟨dst, .move x0, type, pos, after, guard⟩ args H k Q := by
  unfold xop at h
  dsimp only at h
  split at h
  · rename_i x
    refine Told.quiet (v := x) (fun X m w a hc hr => ?_) h
    obtain ⟨v, hv, h1⟩ := repL_one hr
    simp [Op.operands] at hv
    exact ⟨v, by simp [execOp, hv], h1⟩
  · exact h.elim
theorem told_assign {dst type pos after guard} {x0 : Operand} {args : List A} {H : List Ob} {k : A → List Ob → Tr α}
    (h : wp P w0 n0 (xop P keep ⟨dst, .assign x0, type, pos, after, guard⟩ args H k) Q) : Told P w0 n0 ⟨dst, .assign x0, type, pos, after, guard⟩ args H k Q := by
  unfold xop at h
  dsimp only at h
  split at h
  · rename_i x
    refine Told.quiet (v := x) (fun X m w a hc hr => ?_) h
    obtain ⟨v, hv, h1⟩ := repL_one hr
    simp [Op.operands] at hv
    exact ⟨v, by simp [execOp, hv], h1⟩
  · exact h.elim
theorem told_pick {dst type pos after guard} {c0 a0 b0 : Operand} {args : List A} {H : List Ob} {k : A → List Ob → Tr α}
    (h : wp P w0 n0 (xop P keep ⟨dst, .pick c0 a0 b0, type, pos, after, guard⟩ args H k) Q) : Told P w0 n0 ⟨dst, .pick c0 a0 b0, type, pos, after, guard⟩ args H k Q := by
  unfold xop at h
  dsimp only at h
  split at h
  · rename_i t x y
    split at h
    · rename_i p q
      refine Told.quiet (v := _) (fun X m w a hc hr => ?_) h
      obtain ⟨u, v, z, hv, h1, h2, h3⟩ := repL_three hr
      simp [Op.operands] at hv
      obtain ⟨e1, e2, e3⟩ := hv
      simp only [Rep, DRep] at h1 h2 h3
      subst h1 h2 h3
      refine ⟨.bool (cond t p q), ?_, by simp [Rep, DRep]⟩
      cases t <;> simp [execOp, e1, e2, e3, asBool]
    · cases t with
      | true =>
        refine Told.quiet (v := x) (fun X m w a hc hr => ?_) h
        obtain ⟨u, v, z, hv, h1, h2, h3⟩ := repL_three hr
        simp [Op.operands] at hv
        obtain ⟨e1, e2, e3⟩ := hv
        simp only [Rep, DRep] at h1
        subst h1
        exact ⟨v, by simp [execOp, e1, e2, asBool], h2⟩
      | false =>
        refine Told.quiet (v := y) (fun X m w a hc hr => ?_) h
        obtain ⟨u, v, z, hv, h1, h2, h3⟩ := repL_three hr
        simp [Op.operands] at hv
        obtain ⟨e1, e2, e3⟩ := hv
        simp only [Rep, DRep] at h1
        subst h1
        exact ⟨z, by simp [execOp, e1, e3, asBool], h3⟩
  · exact h.elim
theorem told_nilCheck {dst type pos after guard} {x0 : Operand} {args : List A} {H : List Ob} {k : A → List Ob → Tr α}
    (h : wp P w0 n0 (xop P keep ⟨dst, .nilCheck x0, type, pos, after, guard⟩ args H k) Q) : Told P w0 n0 ⟨dst, .nilCheck x0, type, pos, after, guard⟩ args H k Q := by
  unfold xop at h
  dsimp only at h
  split at h
  case h_7 => exact h.elim
  all_goals
    refine Told.quiet (v := _) (fun X m w a hc hr => ?_) h
    obtain ⟨v, hv, h1⟩ := repL_one hr
    simp [Op.operands] at hv
    have h1' := h1
    simp only [Rep, DRep] at h1
    first
      | (obtain ⟨l, hl, rfl⟩ := h1; exact ⟨_, by simp [execOp, hv], h1'⟩)
      | (obtain ⟨b, off, rfl, _⟩ := h1; exact ⟨_, by simp [execOp, hv], h1'⟩)
      | (obtain ⟨va, vc, rfl, _⟩ := h1; exact ⟨_, by simp [execOp, hv], h1'⟩)
      | (obtain ⟨u, rfl, _⟩ := h1; exact ⟨_, by simp [execOp, hv], h1'⟩)
      | (subst h1; exact ⟨_, by simp [execOp, hv], h1'⟩)
end
end Go.Ab
/- Reading, further: loads, fields, elements. -/
set_option linter.unusedVariables false
set_option linter.unusedSimpArgs false
namespace Go.Ab
open Go Go.RowKit
section
variable {P : Program} {w0 : World} {n0 : Nat} {α : Type} {Q : α → Prop} {keep : List FuncId}

theorem cell_of_cells {w : World} {b off : Nat} {c : Array Value} {e : TypeId} {fr : Nat × Nat} (h : w.heap[b]? = some (.cells c e fr)) : w.cell? ⟨b, off, none⟩ = c[off]? := by
  simp [World.cell?, h]

theorem loadA_told {H : List Ob} {p : A} {n : Nat} {k : List A → Tr α} (h : wp P w0 n0 (loadA H p n k) Q) :
    ∃ cs, wp P w0 n0 (k cs) Q ∧ cs.length = n ∧ ∀ (X : Nat → Prop) (m : List Loc) (w : World) (v : Value), Conc P w0 X m H w → Rep m w (FF X m H) p v →
      ∃ b off vs, v = .pointer (some ⟨b, off, none⟩) ∧ RepL m w (FF X m H) cs vs ∧ ∀ (j : Nat) (u : Value), vs[j]? = some u → w.cell? ⟨b, off + j, none⟩ = some u := by
  unfold loadA at h
  split at h
  · rename_i id off
    split at h
    · rename_i cs0 hid
      split at h
      · rename_i hle
        have hle := Nat.le_of_ble_eq_true hle
        refine ⟨_, h, by simp; omega, fun X m w v hc hr => ?_⟩
        obtain ⟨l, hl, rfl⟩ := hr
        obtain ⟨_, c, e, hb, hrc⟩ := hc.obj _ _ _ hid hl
        refine ⟨l.b, off, (c.toList.drop off).take n, rfl, RepL.take n (RepL.drop off hrc), fun j u hu => ?_⟩
        rw [cell_of_cells hb]
        rw [List.getElem?_take] at hu
        split at hu
        · simpa [List.getElem?_drop] using hu
        · simp at hu
      · exact h.elim
    · exact h.elim
  · rename_i id i off
    split at h
    · rename_i nb e sz xs hid
      split at h
      · rename_i hle
        have hle := Nat.le_of_ble_eq_true hle
        obtain ⟨c, hg, h⟩ := h
        obtain ⟨_, hx, hlen, hlt⟩ := getC_some hg
        simp only [Int.toNat_natCast] at hx hlt
        refine ⟨_, h, by simp; omega, fun X m w v hc hr => ?_⟩
        obtain ⟨l, hl, rfl⟩ := hr
        obtain ⟨h1, h2, h3, h4, h5⟩ := hc.obj _ _ _ hid hl
        have hnil : l.nil = false := h3.block (by rintro rfl; simp at hx)
        obtain ⟨cur, hb, _, _, _, _, hrows⟩ := h5 hnil
        have hcell := cells_take n _ _ (cells_drop off c _ (rows_at xs 0 i c hrows hx))
        obtain ⟨vs, hvl, hvr, hva⟩ := cells_vals (m := m) _ _ hcell
        refine ⟨l.b, i * l.sz + off, vs, rfl, hvr, fun j u hu => ?_⟩
        have := hva j u hu
        rw [h1]
        rwa [Nat.zero_add] at this
      · exact h.elim
    · exact h.elim
  · rename_i cs
    split at h
    · rename_i hle
      have hle := Nat.le_of_ble_eq_true hle
      refine ⟨_, h, by simp; omega, fun X m w v hc hr => ?_⟩
      obtain ⟨b, off, rfl, _, _, hcell⟩ := hr
      obtain ⟨vs, hvl, hvr, hva⟩ := cells_vals (m := m) _ _ (cells_take n _ _ hcell)
      exact ⟨b, off, vs, rfl, hvr, hva⟩
    · exact h.elim
  · exact h.elim

theorem told_load {dst type pos after guard} {t : TypeId} {x0 : Operand} {args : List A} {H : List Ob} {k : A → List Ob → Tr α}
    (h : wp P w0 n0 (xop P keep ⟨dst, .load t x0, type, pos, after, guard⟩ args H k) Q) : Told P w0 n0 ⟨dst, .load t x0, type, pos, after, guard⟩ args H k Q := by
  unfold xop at h
  dsimp only at h
  split at h
  · rename_i p
    obtain ⟨cs, h, hl, hload⟩ := loadA_told h
    obtain ⟨v, hv, h⟩ := wp_optK h
    refine Told.quiet (v := v) (fun X m w a hc hr => ?_) h
    obtain ⟨u, hu, h1⟩ := repL_one hr
    simp [Op.operands] at hu
    obtain ⟨b, off, vs, rfl, h2, h3⟩ := hload X m w u hc h1
    obtain ⟨z, h4, h5⟩ := run_loadVarA hv hl h2 h3
    exact ⟨z, by simp [execOp, hu, Instr.loadAt, Instr.sureAddr, h4], h5⟩
  · exact h.elim

theorem fieldOf_some {s : TypeId} {f : Nat} {fd : Field} (h : fieldOf P s f = some fd) : ∃ fs : Array Field, P.underlying s = some (.struct fs) ∧ fs[f]? = some fd := by
  unfold fieldOf at h
  split at h
  · rename_i fs hu
    exact ⟨fs, hu, h⟩
  · simp at h
theorem info_of_cells {t : TypeId} (h : 0 < P.cellsOf t) : ∃ i, P.info? t = some i := by
  unfold Program.cellsOf at h
  cases hi : P.info? t with
  | none => rw [hi] at h; simp at h
  | some i => exact ⟨i, rfl⟩
theorem run_fieldAtA {s : TypeId} {f : Nat} {fd : Field} (h : fieldOf P s f = some fd) (hp : 0 < P.cellsOf fd.type) (w : World) (b off : Nat) :
    (Instr.fieldAt s (.pointer (some ⟨b, off, none⟩)) f).run P w = .ok (.pointer (some ⟨b, off + fd.offset, none⟩)) w := by
  obtain ⟨fs, hu, hf⟩ := fieldOf_some h
  obtain ⟨i, hi⟩ := info_of_cells hp
  have hne : P.cellsOf fd.type ≠ 0 := by omega
  simp [Instr.fieldAt, run_underlying hu, hf, Instr.sureAddr, fieldPlace, run_sizeOf w hi, hne, Addr.add_lit]

theorem told_fieldAddr {dst type pos after guard} {s : TypeId} {f : Nat} {x0 : Operand} {args : List A} {H : List Ob} {k : A → List Ob → Tr α}
    (h : wp P w0 n0 (xop P keep ⟨dst, .fieldAddr s x0 f, type, pos, after, guard⟩ args H k) Q) : Told P w0 n0 ⟨dst, .fieldAddr s x0 f, type, pos, after, guard⟩ args H k Q := by
  unfold xop at h
  dsimp only at h
  split at h
  · rename_i p
    obtain ⟨fd, hf, h⟩ := wp_optK h
    split at h
    · rename_i hp
      have hp := Nat.le_of_ble_eq_true hp
      split at h
      · rename_i id off
        refine Told.quiet (v := _) (fun X m w a hc hr => ?_) h
        obtain ⟨u, hu, l, hl, rfl⟩ := repL_one hr
        simp [Op.operands] at hu
        exact ⟨_, by simp [execOp, hu, run_fieldAtA hf hp], l, hl, rfl⟩
      · rename_i id i off
        refine Told.quiet (v := _) (fun X m w a hc hr => ?_) h
        obtain ⟨u, hu, l, hl, rfl⟩ := repL_one hr
        simp [Op.operands] at hu
        refine ⟨.pointer (some ⟨l.b, _, none⟩), by simp only [execOp, hu, Sem.run_bind, run_fieldAtA hf hp]; rfl, l, hl, ?_⟩
        rw [Nat.add_assoc]
      · rename_i cs
        split at h
        · refine Told.quiet (v := _) (fun X m w a hc hr => ?_) h
          obtain ⟨u, hu, b, off, rfl, h1, h2, h3⟩ := repL_one hr
          simp [Op.operands] at hu
          exact ⟨_, by simp [execOp, hu, run_fieldAtA hf hp], b, off + fd.offset, rfl, h1, h2, cells_drop _ _ _ h3⟩
        · exact h.elim
      · exact h.elim
    · exact h.elim
  · exact h.elim

theorem told_field {dst type pos after guard} {s : TypeId} {f : Nat} {x0 : Operand} {args : List A} {H : List Ob} {k : A → List Ob → Tr α}
    (h : wp P w0 n0 (xop P keep ⟨dst, .field s x0 f, type, pos, after, guard⟩ args H k) Q) : Told P w0 n0 ⟨dst, .field s x0 f, type, pos, after, guard⟩ args H k Q := by
  unfold xop at h
  dsimp only at h
  split at h
  · rename_i cs
    obtain ⟨fd, hf, h⟩ := wp_optK h
    split at h
    · rename_i hle
      have hle := Nat.le_of_ble_eq_true hle
      obtain ⟨v, hv, h⟩ := wp_optK h
      refine Told.quiet (v := v) (fun X m w a hc hr => ?_) h
      obtain ⟨u, hu, vs, rfl, h1⟩ := repL_one hr
      simp [Op.operands] at hu
      obtain ⟨fs, hu2, hf2⟩ := fieldOf_some hf
      obtain ⟨z, h4, h5⟩ := run_partA (P := P) hv hle h1
      exact ⟨z, by simp [execOp, hu, Instr.field, run_underlying hu2, hf2, asAgg, h4], h5⟩
    · exact h.elim
  · exact h.elim

theorem told_indexAddr {dst type pos after guard} {t : TypeId} {x0 i0 : Operand} {args : List A} {H : List Ob} {k : A → List Ob → Tr α}
    (h : wp P w0 n0 (xop P keep ⟨dst, .indexAddr t x0 i0, type, pos, after, guard⟩ args H k) Q) : Told P w0 n0 ⟨dst, .indexAddr t x0 i0, type, pos, after, guard⟩ args H k Q := by
  unfold xop at h
  dsimp only at h
  split at h
  · rename_i x ki i
    split at h
    · rename_i e hu
      split at h
      · rename_i isNil sz xs
        split at h
        · rename_i hsz
          obtain ⟨hpos, hsz⟩ := Bool.and_eq_true _ _ |>.mp hsz
          have hpos := info_of_cells (P := P) (Nat.le_of_ble_eq_true hpos)
          obtain ⟨c, hg, h⟩ := h
          obtain ⟨h0, hx, hlen, hlt⟩ := getC_some hg
          refine Told.quiet (v := _) (fun X m w a hc hr => ?_) h
          obtain ⟨u, v, huv, h1, h2⟩ := repL_two hr
          simp [Op.operands] at huv
          obtain ⟨e1, e2⟩ := huv
          simp only [Rep, DRep] at h2
          subst h2
          rcases h1 with ⟨_, rfl, _⟩ | ⟨hn, ad, cap, rfl, hcap, hlens, hcase⟩
          · simp at hx
          · rcases hcase with rfl | ⟨b, off, rfl, hF, hb, hrows⟩
            · simp at hx
            · have hsz' : sz = P.cellsOf e := by
                rcases Bool.or_eq_true _ _ |>.mp hsz with h' | h'
                · exact Nat.eq_of_beq_eq_true h'
                · rw [hn] at h'; exact absurd h' (by simp)
              obtain ⟨ie, hie⟩ := hpos
              refine ⟨.pointer (some ⟨b, off + i.toNat * P.cellsOf e, none⟩), ?_, b, _, rfl, hF, hb, ?_⟩
              · have hi : 0 ≤ i ∧ i < xs.length := ⟨h0, by omega⟩
                simp [execOp, e1, e2, Instr.indexAt, asIntOf, run_underlying hu, hi, run_sizeOf w hie, Addr.add_lit]
              · rw [← hsz']; exact rows_at xs off i.toNat c hrows hx
        · exact h.elim
      · rename_i id
        split at h
        · rename_i nb e' sz xs hid
          split at h
          · rename_i hsz
            obtain ⟨hpos, hsz⟩ := Bool.and_eq_true _ _ |>.mp hsz
            have hpos := info_of_cells (P := P) (Nat.le_of_ble_eq_true hpos)
            have hsz := Nat.eq_of_beq_eq_true hsz
            obtain ⟨hb, h⟩ := h
            have hb := of_decide_eq_true hb
            refine Told.quiet (v := _) (fun X m w a hc hr => ?_) h
            obtain ⟨u, v, huv, h1, h2⟩ := repL_two hr
            simp [Op.operands] at huv
            obtain ⟨e1, e2⟩ := huv
            simp only [Rep, DRep] at h2
            subst h2
            obtain ⟨l, hl, hcase⟩ := h1
            obtain ⟨h3, h4, h5, h6, h7⟩ := hc.obj _ _ _ hid hl
            have hnil : l.nil = false := h5.block (by rintro rfl; simp at hb; omega)
            rw [hnil] at hcase
            rcases hcase with ⟨hh, _⟩ | ⟨_, rfl⟩
            · simp at hh
            · obtain ⟨ie, hie⟩ := hpos
              refine ⟨.pointer (some ⟨l.b, i.toNat * l.sz + 0, none⟩), ?_, l, hl, rfl⟩
              have hi : 0 ≤ i ∧ i < (l.n : Int) := by rw [h4]; exact hb
              simp [execOp, e1, e2, Instr.indexAt, asIntOf, run_underlying hu, hi, run_sizeOf w hie, Addr.add_lit, h3, hsz]
          · exact h.elim
        · exact h.elim
      · exact h.elim
    · exact h.elim
  · exact h.elim
end
end Go.Ab
/- Reckoning: operators, equality. -/
set_option linter.unusedVariables false
set_option linter.unusedSimpArgs false
namespace Go.Ab
open Go Go.RowKit
section
variable {P : Program} {w0 : World} {n0 : Nat} {α : Type} {Q : α → Prop} {keep : List FuncId}

theorem eqA_run {X : Nat → Prop} {m : List Loc} {H : List Ob} {w : World} (hc : Conc P w0 X m H w) : ∀ (n d : Nat), n ≤ d → ∀ (t : TypeId) (x y : A) (b : Bool) (u v : Value), eqA P H n t x y = some b → Rep m w (FF X m H) x u → Rep m w (FF X m H) y v →
    (Op.equalIn d t u v).run P w = .ok b w := by
  intro n
  induction n with
  | zero => intro d _ t x y b u v h; simp [eqA] at h
  | succ n ih =>
    intro d hd t x y b u v h hx hy
    obtain ⟨d, rfl⟩ : ∃ d', d = d' + 1 := ⟨d - 1, by omega⟩
    unfold eqA at h
    split at h
    · rename_i hu
      split at h
      · simp only [Rep, DRep] at hx hy
        subst hx hy
        simp only [Option.some.injEq] at h
        subst h
        exact run_equalIn_bool' w d t _ _ hu
      · simp at h
    · rename_i hu
      split at h
      · split at h
        · rename_i hk
          subst hk
          simp only [Rep, DRep] at hx hy
          subst hx hy
          simp only [Option.some.injEq] at h
          subst h
          exact run_equalIn_int w d t _ _ _ _ hu
        · simp at h
      · simp at h
    · rename_i hu
      split at h
      · simp only [Rep, DRep] at hx hy
        subst hx hy
        simp only [Option.some.injEq] at h
        subst h
        exact run_equalIn_string w d t _ _ hu
      · simp at h
    · rename_i hu
      split at h
      · simp only [Rep, DRep] at hx hy
        subst hx hy
        simp only [Option.some.injEq] at h
        subst h
        simp [Op.equalIn, run_underlying hu]
      · simp only [Rep, DRep] at hx hy
        obtain ⟨l, _, rfl⟩ := hx
        subst hy
        simp only [Option.some.injEq] at h
        subst h
        simp [Op.equalIn, run_underlying hu]
      · simp only [Rep, DRep] at hx hy
        obtain ⟨b', off, rfl, _⟩ := hx
        subst hy
        simp only [Option.some.injEq] at h
        subst h
        simp [Op.equalIn, run_underlying hu]
      · simp only [Rep, DRep] at hx hy
        obtain ⟨l, _, rfl⟩ := hy
        subst hx
        simp only [Option.some.injEq] at h
        subst h
        simp [Op.equalIn, run_underlying hu]
      · simp at h
    · rename_i hu
      split at h
      · simp only [Rep, DRep] at hx hy
        subst hx hy
        simp only [Option.some.injEq] at h
        subst h
        simp [Op.equalIn, run_underlying hu]
      · simp only [Rep, DRep] at hx hy
        subst hx hy
        simp only [Option.some.injEq] at h
        subst h
        simp [Op.equalIn, run_underlying hu]
      · simp only [Rep, DRep] at hx hy
        obtain ⟨va, vc, rfl, _⟩ := hx
        subst hy
        simp only [Option.some.injEq] at h
        subst h
        simp [Op.equalIn, run_underlying hu]
      · simp at h
    · rename_i hu
      split at h
      · simp only [Rep, DRep] at hx hy
        simp at hy
        obtain ⟨_, rfl⟩ := hy
        simp only [Option.some.injEq] at h
        subst h
        rcases hx with ⟨rfl, _, rfl⟩ | ⟨rfl, a, cap, rfl, _⟩
        · simp [Op.equalIn, run_underlying hu]
        · simp [Op.equalIn, run_underlying hu]
      · rename_i id
        simp only [Rep, DRep] at hx hy
        simp at hy
        obtain ⟨_, rfl⟩ := hy
        split at h
        · rename_i nb e sz xs hid
          simp only [Option.some.injEq] at h
          subst h
          obtain ⟨l, hl, hcase⟩ := hx
          obtain ⟨h1, h2, h3, _⟩ := hc.obj _ _ _ hid hl
          rcases hcase with ⟨h4, rfl⟩ | ⟨h4, rfl⟩
          · obtain ⟨e1, e2⟩ := h3.1 h4
            subst e1
            rw [← e2]
            cases l.adr <;> simp [Op.equalIn, run_underlying hu]
          · rw [h3.2 h4]; simp [Op.equalIn, run_underlying hu]
        · simp at h
      · simp at h
    · rename_i fs hu
      split at h
      · rename_i xs ys
        split at h
        · simp at h
        · rename_i hst
          have hst : P.stoodInHeld t = false := by simpa using hst
          obtain ⟨us, rfl, hxs⟩ := hx
          obtain ⟨vs, rfl, hys⟩ := hy
          have hfo : P.fieldsOf t = fs := by simp [Program.fieldsOf, hu]
          rw [run_equalIn_struct w d t us vs (by rw [hfo]; exact hu) hst, hfo]
          clear hu hfo
          generalize fs.toList = l at h
          induction l generalizing b with
          | nil =>
            simp only [eqFields, Option.some.injEq] at h
            subst h
            simp [Op.eqFields]
          | cons f l ihl =>
            unfold eqFields at h
            split at h
            · simp at h
            · rename_i hname
              split at h
              · rename_i hle
                obtain ⟨hle1, hle2⟩ := Bool.and_eq_true _ _ |>.mp hle
                have hle1 := Nat.le_of_ble_eq_true hle1
                have hle2 := Nat.le_of_ble_eq_true hle2
                split at h
                · rename_i x' y' hx' hy'
                  split at h
                  · rename_i p q hp hq
                    simp only [Option.some.injEq] at h
                    subst h
                    obtain ⟨u', hu1, hu2⟩ := run_partA (P := P) hx' hle1 hxs
                    obtain ⟨v', hv1, hv2⟩ := run_partA (P := P) hy' hle2 hys
                    have he := ih d (by omega) f.type x' y' p u' v' hp hu2 hv2
                    have hne : f.name ≠ "_" := by simpa using hname
                    simp only [Op.eqFields, ne_eq, hne, not_false_eq_true, if_true, Sem.run_bind, hu1, Result.andThen_ok, hv1, he]
                    cases p with
                    | false => simp
                    | true => simpa using ihl q hq
                  · simp at h
                · simp at h
              · simp at h
      · simp at h
    · simp at h

theorem eqA_shape {m : List Loc} {H : List Ob} {w : World} {F : Nat → Prop} {n : Nat} {t : TypeId} {x y : A} {b : Bool} (h : eqA P H n t x y = some b) {u : Value} (hx : Rep m w F x u) : u ≠ .nilIface ∧ ∀ us, u = .agg us → ∃ cs, x = .agg cs := by
  cases x with
  | d x0 => cases x0 with
    | nilIface =>
      exfalso
      cases n with
      | zero => simp [eqA] at h
      | succ n => unfold eqA at h; split at h <;> first | (split at h <;> simp_all; done) | simp at h
    | slice n s xs => rcases hx with ⟨_, _, rfl⟩ | ⟨_, a, cap, rfl, _⟩ <;> simp
    | _ => simp only [Rep, DRep] at hx; subst hx; simp
  | ptr id off => obtain ⟨l, _, rfl⟩ := hx; simp
  | pel id i off => obtain ⟨l, _, rfl⟩ := hx; simp
  | pdat cs => obtain ⟨b, off, rfl, _⟩ := hx; simp
  | own id => obtain ⟨l, _, hx⟩ := hx; rcases hx with ⟨_, rfl⟩ | ⟨_, rfl⟩ <;> simp
  | clo f b c => obtain ⟨va, vc, rfl, _⟩ := hx; simp
  | ifc t' x' => obtain ⟨u, rfl, _⟩ := hx; simp
  | agg cs => exact ⟨by obtain ⟨vs, rfl, _⟩ := hx; simp, fun _ _ => ⟨cs, rfl⟩⟩
  | tup vs => obtain ⟨us, rfl, _⟩ := hx; simp
  | top =>
    exfalso
    cases n with
    | zero => simp [eqA] at h
    | succ n => unfold eqA at h; split at h <;> first | (split at h <;> simp_all; done) | simp at h

theorem run_eqGuardA {t : TypeId} {u v : Value} (op : BinOp) (p q : Operand) (w : World) (hi : u ≠ .nilIface) (ha : ∀ xs, u = .agg xs → P.eqGuardType P.depth t = false) : (eqGuard op t p q u v).run P w = .ok () w := by
  by_cases hs : ∃ xs, u = .agg xs
  · obtain ⟨xs, rfl⟩ := hs
    have := ha xs rfl
    by_cases hs2 : ∃ ys, v = .agg ys
    · obtain ⟨ys, rfl⟩ := hs2
      exact run_eqGuard_agg w op t p q xs ys this
    · unfold eqGuard
      cases op <;> simp <;> cases v <;> simp at hs2 <;> simp
  · unfold eqGuard
    cases op <;> simp <;> cases u <;> simp at hs hi <;> simp

/-- Equality of two values, by '=='. -/
theorem run_eqlA {X : Nat → Prop} {m : List Loc} {H : List Ob} {w : World} (hc : Conc P w0 X m H w) {t : TypeId} {x y : A} {b : Bool} {u v : Value} (h : eqA P H 64 t x y = some b) (hp : eqPlain P t x = true) (hx : Rep m w (FF X m H) x u) (hy : Rep m w (FF X m H) y v)
    (hni : ∀ k a, u ≠ .int k a) (hns : ∀ s, u ≠ .string s) (hnf : (∀ k a, u ≠ .float k a) ∧ ∀ k a c, u ≠ .complex k a c) (op : BinOp) (p q : Operand) :
    (eqGuard op t p q u v).run P w = .ok () w ∧ (binOp .eql t u v).run P w = .ok (.bool b) w ∧ (binOp .neq t u v).run P w = .ok (.bool (!b)) w := by
  obtain ⟨h1, h2⟩ := eqA_shape h hx
  have he := eqA_run hc 64 10000 (by omega) t x y b u v h hx hy
  refine ⟨run_eqGuardA op p q w h1 fun xs hxs => ?_, ?_, ?_⟩
  · obtain ⟨cs, rfl⟩ := h2 xs hxs
    simpa [eqPlain] using hp
  · have : binOp .eql t u v = (do pure (.bool (← Op.equal t u v))) := by
      unfold binOp
      cases u <;> first | rfl | exact absurd rfl (hni _ _) | exact absurd rfl (hns _) | exact absurd rfl (hnf.1 _ _) | exact absurd rfl (hnf.2 _ _ _)
    rw [this]
    simp [Op.equal, Op.maxDepth, he]
  · have : binOp .neq t u v = (do pure (.bool (!(← Op.equal t u v)))) := by
      unfold binOp
      cases u <;> first | rfl | exact absurd rfl (hni _ _) | exact absurd rfl (hns _) | exact absurd rfl (hnf.1 _ _) | exact absurd rfl (hnf.2 _ _ _)
    rw [this]
    simp [Op.equal, Op.maxDepth, he]
end
end Go.Ab
/- Reckoning, further: the operations. -/
set_option linter.unusedVariables false
set_option linter.unusedSimpArgs false
namespace Go.Ab
open Go Go.RowKit
section
variable {P : Program} {w0 : World} {n0 : Nat} {α : Type} {Q : α → Prop} {keep : List FuncId}

theorem run_intOp {op : BinOp} {ka : IntKind} {a b : Int} {x : D} (h : intOp op ka a b = some x) (t : TypeId) (w : World) : ∃ v, (binOp op t (.int ka a) (.int ka b)).run P w = .ok v w ∧ ∀ F, DRep w F x v := by
  cases op <;> simp only [intOp, Option.some.injEq, reduceCtorEq] at h <;> subst h <;> refine ⟨_, by simp [binOp, Op.intArith, Op.intBits, Op.intCmp]; rfl, fun F => ?_⟩ <;> simp [DRep]
theorem run_strOp {op : BinOp} {a b : ByteArray} {x : D} (h : strOp op a b = some x) (t : TypeId) (w : World) : ∃ v, (binOp op t (.string a) (.string b)).run P w = .ok v w ∧ ∀ F, DRep w F x v := by
  cases op <;> simp only [strOp, Option.some.injEq, reduceCtorEq] at h <;> subst h <;> refine ⟨_, by simp [binOp, Op.stringOp]; rfl, fun F => ?_⟩ <;> simp [DRep]
theorem run_eqGuard_one {u v : Value} (op : BinOp) (t : TypeId) (p q : Operand) (w : World) (h : u.oneCell' = true) (hn : u ≠ .nilIface) : (eqGuard op t p q u v).run P w = .ok () w :=
  run_eqGuardA op p q w hn fun xs hx => by subst hx; simp [Value.oneCell'] at h

theorem eqA_int {H : List Ob} {n : Nat} {t : TypeId} {y : A} {b : Bool} (k : IntKind) (a : Int) (h : eqA P H n t (.d (.int k a)) y = some b) : ∃ k' c, y = .d (.int k' c) := by
  cases n with
  | zero => simp [eqA] at h
  | succ n =>
    unfold eqA at h
    split at h <;> first | (split at h <;> first | exact ⟨_, _, rfl⟩ | simp_all; done) | simp at h
theorem eqA_str {H : List Ob} {n : Nat} {t : TypeId} {y : A} {b : Bool} (s : ByteArray) (h : eqA P H n t (.d (.str s)) y = some b) : ∃ c, y = .d (.str c) := by
  cases n with
  | zero => simp [eqA] at h
  | succ n =>
    unfold eqA at h
    split at h <;> first | (split at h <;> first | exact ⟨_, rfl⟩ | simp_all; done) | simp at h

theorem told_binOp {dst type pos after guard} {op : BinOp} {t yt : TypeId} {x0 y0 : Operand} {args : List A} {H : List Ob} {k : A → List Ob → Tr α}
    (h : wp P w0 n0 (xop P keep ⟨dst, .binOp op t x0 y0 yt, type, pos, after, guard⟩ args H k) Q) : Told P w0 n0 ⟨dst, .binOp op t x0 y0 yt, type, pos, after, guard⟩ args H k Q := by
  unfold xop at h
  dsimp only at h
  split at h
  · rename_i x y
    unfold binA at h
    split at h
    · rename_i ka a kb b
      -- a plain operator on numbers
      have plain : ∀ (v : Value) (r : A), (∀ w, (binOp op t (.int ka a) (.int kb b)).run P w = .ok v w) → (∀ m w F, Rep m w F r v) → OpQ P w0 ⟨dst, .binOp op t x0 y0 yt, type, pos, after, guard⟩ [.d (.int ka a), .d (.int kb b)] H r := by
        intro v r hv hr X m w ac hc hrr
        obtain ⟨u1, u2, hu, h1, h2⟩ := repL_two hrr
        simp [Op.operands] at hu
        obtain ⟨e1, e2⟩ := hu
        simp only [Rep, DRep] at h1 h2
        subst h1 h2
        exact ⟨v, by simp [execOp, e1, e2, run_eqGuard_one op t x0 y0 w (u := .int ka a) rfl (by simp), hv w], hr m w _⟩
      split at h
      · obtain ⟨hb, h⟩ := h
        have hb := of_decide_eq_true hb
        have hb' : ¬ b < 0 := by omega
        exact Told.quiet (plain _ _ (fun w => by simp [binOp, Op.shift, hb']; rfl) (fun m w F => by simp [Rep, DRep])) h
      · obtain ⟨hb, h⟩ := h
        have hb := of_decide_eq_true hb
        have hb' : ¬ b < 0 := by omega
        exact Told.quiet (plain _ _ (fun w => by simp [binOp, Op.shift, hb']; rfl) (fun m w F => by simp [Rep, DRep])) h
      · split at h
        · rename_i hk
          subst hk
          obtain ⟨hb, h⟩ := h
          have hb' : ¬ b = 0 := by simpa using hb
          exact Told.quiet (plain _ _ (fun w => by simp [binOp, Op.intDiv, hb']; rfl) (fun m w F => by simp [Rep, DRep])) h
        · exact h.elim
      · split at h
        · rename_i hk
          subst hk
          obtain ⟨hb, h⟩ := h
          have hb' : ¬ b = 0 := by simpa using hb
          exact Told.quiet (plain _ _ (fun w => by simp [binOp, Op.intDiv, hb']; rfl) (fun m w F => by simp [Rep, DRep])) h
        · exact h.elim
      · split at h
        · rename_i hk
          subst hk
          obtain ⟨x, hx, h⟩ := wp_optK h
          refine Told.quiet (v := _) (fun X m w ac hc hrr => ?_) h
          obtain ⟨u1, u2, hu, h1, h2⟩ := repL_two hrr
          simp [Op.operands] at hu
          obtain ⟨e1, e2⟩ := hu
          simp only [Rep, DRep] at h1 h2
          subst h1 h2
          obtain ⟨v, hv, hd⟩ := run_intOp (P := P) hx t w
          exact ⟨v, by simp [execOp, e1, e2, run_eqGuard_one op t x0 y0 w (u := .int ka a) rfl (by simp), hv], hd _⟩
        · exact h.elim
    · rename_i a b
      split at h
      · obtain ⟨hb, h⟩ := h
        have hb := of_decide_eq_true hb
        refine Told.quiet (v := _) (fun X m w ac hc hrr => ?_) h
        obtain ⟨u1, u2, hu, h1, h2⟩ := repL_two hrr
        simp [Op.operands] at hu
        obtain ⟨e1, e2⟩ := hu
        simp only [Rep, DRep] at h1 h2
        subst h1 h2
        have hmx : IntKind.i64.max = 9223372036854775807 := by decide
        rw [hmx] at hb
        have hb' : ((a.size : Int) + (b.size : Int)) ≤ 9223372036854775807 := by push_cast at hb; omega
        exact ⟨.string (a ++ b), by simp [execOp, e1, e2, run_eqGuard_one .add t x0 y0 w (u := .string a) rfl (by simp), binOp, Op.stringOp, hb'], by simp [Rep, DRep]⟩
      · obtain ⟨x, hx, h⟩ := wp_optK h
        refine Told.quiet (v := _) (fun X m w ac hc hrr => ?_) h
        obtain ⟨u1, u2, hu, h1, h2⟩ := repL_two hrr
        simp [Op.operands] at hu
        obtain ⟨e1, e2⟩ := hu
        simp only [Rep, DRep] at h1 h2
        subst h1 h2
        obtain ⟨v, hv, hd⟩ := run_strOp (P := P) hx t w
        exact ⟨v, by simp [execOp, e1, e2, run_eqGuard_one op t x0 y0 w (u := .string a) rfl (by simp), hv], hd _⟩
    · rename_i hni hns
      have apart : ∀ {X : Nat → Prop} {m : List Loc} {w : World} (b : Bool) (u : Value), eqA P H 64 t x y = some b → Rep m w (FF X m H) x u → (∀ k a, u ≠ .int k a) ∧ (∀ s, u ≠ .string s) ∧ (∀ k a, u ≠ .float k a) ∧ ∀ k a c, u ≠ .complex k a c := by
        intro X m w b u he hx
        have hxi := fun k a (hk : x = .d (.int k a)) => eqA_int (P := P) (H := H) (n := 64) (t := t) (y := y) (b := b) k a (hk ▸ he)
        have hxs := fun s (hk : x = .d (.str s)) => eqA_str (P := P) (H := H) (n := 64) (t := t) (y := y) (b := b) s (hk ▸ he)
        cases x with
        | d x0 => cases x0 with
          | int k a => obtain ⟨k', c, rfl⟩ := hxi k a rfl; exact absurd rfl (hni _ _ _ _ rfl)
          | str s => obtain ⟨c, rfl⟩ := hxs s rfl; exact absurd rfl (hns _ _ rfl)
          | slice n s xs => rcases hx with ⟨_, _, rfl⟩ | ⟨_, a, cap, rfl, _⟩ <;> simp
          | _ => simp only [Rep, DRep] at hx; subst hx; simp
        | ptr id off => obtain ⟨l, _, rfl⟩ := hx; simp
        | pel id i off => obtain ⟨l, _, rfl⟩ := hx; simp
        | pdat cs => obtain ⟨b, off, rfl, _⟩ := hx; simp
        | own id => obtain ⟨l, _, hx⟩ := hx; rcases hx with ⟨_, rfl⟩ | ⟨_, rfl⟩ <;> simp
        | clo f b c => obtain ⟨va, vc, rfl, _⟩ := hx; simp
        | ifc t' x' => obtain ⟨u, rfl, _⟩ := hx; simp
        | agg cs => obtain ⟨vs, rfl, _⟩ := hx; simp
        | tup vs => obtain ⟨us, rfl, _⟩ := hx; simp
        | top => exact absurd he (by
            intro he
            unfold eqA at he
            split at he <;> first | (split at he <;> simp_all; done) | simp at he)
      split at h
      · split at h
        · rename_i hp
          obtain ⟨b, he, h⟩ := wp_optK h
          refine Told.quiet (v := _) (fun X m w ac hc hrr => ?_) h
          obtain ⟨u1, u2, hu, h1, h2⟩ := repL_two hrr
          simp [Op.operands] at hu
          obtain ⟨e1, e2⟩ := hu
          obtain ⟨a1, a2, a3, a4⟩ := apart b u1 he h1
          obtain ⟨g1, g2, g3⟩ := run_eqlA hc he hp h1 h2 a1 a2 ⟨a3, a4⟩ .eql x0 y0
          exact ⟨.bool b, by simp [execOp, e1, e2, g1, g2], by simp [Rep, DRep]⟩
        · exact h.elim
      · split at h
        · rename_i hp
          obtain ⟨b, he, h⟩ := wp_optK h
          refine Told.quiet (v := _) (fun X m w ac hc hrr => ?_) h
          obtain ⟨u1, u2, hu, h1, h2⟩ := repL_two hrr
          simp [Op.operands] at hu
          obtain ⟨e1, e2⟩ := hu
          obtain ⟨a1, a2, a3, a4⟩ := apart b u1 he h1
          obtain ⟨g1, g2, g3⟩ := run_eqlA hc he hp h1 h2 a1 a2 ⟨a3, a4⟩ .neq x0 y0
          exact ⟨.bool (!b), by simp [execOp, e1, e2, g1, g3], by simp [Rep, DRep]⟩
        · exact h.elim
      · exact h.elim
  · exact h.elim
end
end Go.Ab
/- Making values. -/
set_option linter.unusedVariables false
set_option linter.unusedSimpArgs false
namespace Go.Ab
open Go Go.RowKit
section
variable {P : Program} {w0 : World} {n0 : Nat} {α : Type} {Q : α → Prop} {keep : List FuncId}

theorem ofVal_rep (m : List Loc) (w : World) (F : Nat → Prop) (v : Value) : Rep m w F (ofVal v) v := by
  unfold ofVal
  split <;> simp [Rep, DRep]
theorem ofVals_rep (m : List Loc) (w : World) (F : Nat → Prop) : ∀ (vs : List Value), RepL m w F (vs.map ofVal) vs
  | [] => rfl
  | v :: vs => ⟨v, vs, rfl, ofVal_rep m w F v, ofVals_rep m w F vs⟩
theorem ofVal1_rep (m : List Loc) (w : World) (F : Nat → Prop) (v : Value) : Rep m w F (ofVal1 v) v := by
  unfold ofVal1
  split
  · rename_i cs
    exact ⟨cs, rfl, ofVals_rep m w F cs.toList⟩
  · exact ofVal_rep m w F v

theorem fold_set (vs : List Value) : ∀ (off i : Nat) (cells : Array Value), off + i + vs.length ≤ cells.size →
    ((vs.zipIdx i).foldl (fun (cs : Array Value) (p : Value × Nat) => cs.setIfInBounds (off + p.2) p.1) cells).toList = cells.toList.take (off + i) ++ vs ++ cells.toList.drop (off + i + vs.length) := by
  induction vs with
  | nil => intro off i cells h; simp
  | cons v vs ih =>
    intro off i cells h
    simp only [List.length_cons] at h
    simp only [List.zipIdx_cons, List.foldl_cons]
    rw [ih off (i + 1) _ (by simp; omega)]
    simp only [Array.toList_setIfInBounds, List.length_cons]
    have hlt : off + i < cells.toList.length := by rw [Array.length_toList]; omega
    have hmin : min (off + i) cells.toList.length = off + i := Nat.min_eq_left (Nat.le_of_lt hlt)
    rw [show off + (i + 1) = off + i + 1 by omega]
    rw [List.take_set, List.drop_set]
    rw [if_pos (by omega)]
    rw [List.take_succ_eq_append_getElem hlt]
    rw [List.set_append]
    simp only [List.length_take, hmin, Nat.lt_irrefl, if_false, Nat.sub_self, List.set_cons_zero]
    simp only [List.append_assoc, List.singleton_append, List.cons_append, List.nil_append]
    rw [show off + i + 1 + vs.length = off + i + (vs.length + 1) by omega]

theorem fill_rep {m : List Loc} {w : World} {F : Nat → Prop} {place : Nat → Option (Nat × Nat)} : ∀ (idx : List Nat) (args : List A) (vals : List Value) (cs cs' : List A) (cells : Array Value),
    RepL m w F cs cells.toList → RepL m w F args vals → idx.length = args.length → fillA place cs (idx.zip args) = some cs' → ∃ cells', Instr.fill place cells (idx.zip vals) = some cells' ∧ RepL m w F cs' cells'.toList
  | [], [], _, cs, cs', cells, hc, ha, _, h => by
    simp only [RepL] at ha
    subst ha
    simp [fillA] at h
    subst h
    exact ⟨cells, rfl, hc⟩
  | [], a :: as, _, _, _, _, _, _, hl, _ => by simp at hl
  | i :: is, [], _, _, _, _, _, _, hl, _ => by simp at hl
  | i :: is, a :: as, _, cs, cs', cells, hc, ⟨v, vs, rfl, hv, hvs⟩, hl, h => by
    simp only [List.zip_cons_cons, fillA] at h
    split at h
    · simp at h
    · rename_i off size hp
      split at h
      · rename_i hcond
        simp only [Bool.and_eq_true, beq_iff_eq] at hcond
        obtain ⟨⟨h1, h2⟩, h3⟩ := hcond
        have h3 := Nat.le_of_ble_eq_true h3
        have hcells := rep_cells hv h1
        have hlen : v.cells.size = size := by
          have := RepL.length _ _ hcells
          simp at this
          omega
        have hcl : cs.length = cells.size := by have := RepL.length _ _ hc; simpa using this
        simp only [List.zip_cons_cons, Instr.fill, hp]
        rw [if_neg (by simp only [hlen, ne_eq, not_true_eq_false, Bool.false_eq_true, decide_false, Bool.false_or]; simp; omega)]
        refine fill_rep is as vs _ cs' _ ?_ hvs (by simpa using hl) h
        have hset := fold_set v.cells.toList off 0 cells (by simp; omega)
        have harr : (Array.foldl (fun (cs : Array Value) (x : Value × Nat) => match x with | (c, j) => cs.setIfInBounds (off + j) c) cells v.cells.zipIdx) = ((v.cells.toList.zipIdx 0).foldl (fun (cs : Array Value) (p : Value × Nat) => cs.setIfInBounds (off + p.2) p.1) cells) := by
          rw [← Array.foldl_toList]
          simp [Array.toList_zipIdx]
        rw [harr, hset]
        simp only [Nat.add_zero, Array.length_toList]
        rw [hlen]
        exact RepL.append (RepL.append (RepL.take off hc) hcells) (RepL.drop (off + size) hc)
      · simp at h

theorem zip_args (parts : List (Nat × Operand)) (ρ : Operand → Value) : (parts.map (·.1)).zip ((parts.map (·.2)).map ρ) = parts.map fun (i, x) => (i, ρ x) := by
  induction parts with
  | nil => rfl
  | cons p ps ih => simp only [List.map_cons, List.zip_cons_cons, ih]

theorem told_build {dst type pos after guard} {t : TypeId} {parts : Array (Nat × Operand)} {args : List A} {H : List Ob} {k : A → List Ob → Tr α}
    (h : wp P w0 n0 (xop P keep ⟨dst, .build t parts, type, pos, after, guard⟩ args H k) Q) : Told P w0 n0 ⟨dst, .build t parts, type, pos, after, guard⟩ args H k Q := by
  unfold xop at h
  dsimp only at h
  have fin : ∀ (place : Nat → Option (Nat × Nat)) (z : Value) (cs : List A), fillA place (z.cells.toList.map ofVal) ((parts.toList.map (·.1)).zip args) = some cs →
      (∀ vs : List (Nat × Value), P.built t vs = Instr.fill place z.cells vs) → OpQ P w0 ⟨dst, .build t parts, type, pos, after, guard⟩ args H (.agg cs) := by
    intro place z cs hf hb X m w a hc hr
    have hops : (Op.build t parts).operands.toList.map a.eval = (parts.toList.map (·.2)).map a.eval := by simp [Op.operands]
    simp only [hops] at hr
    have hlen : (parts.toList.map (·.1)).length = args.length := by have := RepL.length _ _ hr; simp at this ⊢; omega
    obtain ⟨cells', h1, h2⟩ := fill_rep _ args _ _ _ z.cells (ofVals_rep m w (FF X m H) z.cells.toList) hr hlen hf
    rw [zip_args] at h1
    have h3 := run_build (P := P) w t (parts.map fun (i, x) => (i, a.eval x)) cells' (by rw [hb]; simpa using h1)
    exact ⟨.agg cells', by simp [execOp, h3], cells', rfl, h2⟩
  split at h
  · rename_i it n e hi hu
    split at h
    · rename_i z ie hz hie
      obtain ⟨cs, hf, h⟩ := wp_optK h
      exact Told.quiet (fin _ z cs hf fun vs => by simp [Program.built, hi, hu, hz, hie]) h
    · exact h.elim
  · rename_i it fs hi hu
    split at h
    · rename_i z places hz hp
      obtain ⟨cs, hf, h⟩ := wp_optK h
      exact Told.quiet (fin _ z cs hf fun vs => by simp [Program.built, hi, hu, hz, hp]) h
    · exact h.elim
  · exact h.elim

theorem told_unOp {dst type pos after guard} {op : UnOp} {t : TypeId} {x0 : Operand} {args : List A} {H : List Ob} {k : A → List Ob → Tr α}
    (h : wp P w0 n0 (xop P keep ⟨dst, .unOp op t x0, type, pos, after, guard⟩ args H k) Q) : Told P w0 n0 ⟨dst, .unOp op t x0, type, pos, after, guard⟩ args H k Q := by
  unfold xop at h
  dsimp only at h
  split at h
  case h_4 => exact h.elim
  all_goals
    refine Told.quiet (v := _) (fun X m w a hc hr => ?_) h
    obtain ⟨v, hv, h1⟩ := repL_one hr
    simp [Op.operands] at hv
    simp only [Rep, DRep] at h1
    subst h1
    exact ⟨_, by simp [execOp, hv, Op.unary, Op.intArith, Op.intBits]; rfl, by simp [Rep, DRep]⟩

theorem told_makeInterface {dst type pos after guard} {t : TypeId} {x0 : Operand} {args : List A} {H : List Ob} {k : A → List Ob → Tr α}
    (h : wp P w0 n0 (xop P keep ⟨dst, .makeInterface t x0, type, pos, after, guard⟩ args H k) Q) : Told P w0 n0 ⟨dst, .makeInterface t x0, type, pos, after, guard⟩ args H k Q := by
  unfold xop at h
  dsimp only at h
  split at h
  · split at h
    · exact h.elim
    · rename_i d hd hu
      refine Told.quiet (v := _) (fun X m w a hc hr => ?_) h
      obtain ⟨v, hv, h1⟩ := repL_one hr
      simp [Op.operands] at hv
      refine ⟨.iface t v, ?_, v, rfl, h1⟩
      cases d <;> first | exact absurd rfl (hd _) | simp [execOp, hv, Instr.makeInterface, run_underlying hu]
    · exact h.elim
  · exact h.elim

theorem told_makeFunc {dst type pos after guard} {fn : Fn} {first captured : Array Operand} {args : List A} {H : List Ob} {k : A → List Ob → Tr α}
    (h : wp P w0 n0 (xop P keep ⟨dst, .makeFunc fn first captured, type, pos, after, guard⟩ args H k) Q) : Told P w0 n0 ⟨dst, .makeFunc fn first captured, type, pos, after, guard⟩ args H k Q := by
  unfold xop at h
  dsimp only at h
  split at h
  · rename_i f
    split at h
    · refine Told.quiet (v := _) (fun X m w a hc hr => ?_) h
      simp only [RepL, Op.operands] at hr
      simp at hr
      obtain ⟨rfl, rfl⟩ := hr
      exact ⟨.func (.func f) #[] #[], by simp [execOp, Instr.makeFunc], by simp [Rep, DRep]⟩
    · split at h
      · rename_i hne hl
        have hl := Nat.eq_of_beq_eq_true hl
        refine Told.quiet (v := _) (fun X m w a hc hr => ?_) h
        simp only [Op.operands] at hr
        refine ⟨.func (.func f) (first.map a.eval) (captured.map a.eval), by simp [execOp, Instr.makeFunc], _, _, rfl, ?_, ?_⟩
        · have := RepL.take first.size hr
          simpa [List.take_append] using this
        · have := RepL.drop first.size hr
          simpa [List.drop_append] using this
      · exact h.elim
  · exact h.elim

theorem told_extract {dst type pos after guard} {i : Nat} {x0 : Operand} {args : List A} {H : List Ob} {k : A → List Ob → Tr α}
    (h : wp P w0 n0 (xop P keep ⟨dst, .extract x0 i, type, pos, after, guard⟩ args H k) Q) : Told P w0 n0 ⟨dst, .extract x0 i, type, pos, after, guard⟩ args H k Q := by
  unfold xop at h
  dsimp only at h
  split at h
  · rename_i vs
    obtain ⟨v, hv, h⟩ := wp_optK h
    refine Told.quiet (v := v) (fun X m w a hc hr => ?_) h
    obtain ⟨u, hu, us, rfl, h1⟩ := repL_one hr
    simp [Op.operands] at hu
    obtain ⟨z, hz, h2⟩ := RepL.at_ _ _ h1 i v hv
    exact ⟨z, by simp at hz; simp [execOp, hu, Instr.extract, hz], h2⟩
  · exact h.elim

theorem toDs_some : ∀ {as : List A} {ds : List D}, toDs as = some ds → as = ds.map .d
  | [], ds, h => by simp [toDs] at h; subst h; rfl
  | a :: as, ds, h => by
    unfold toDs at h
    cases a with
    | d x =>
      simp only [toD, Option.map_eq_some_iff] at h
      obtain ⟨xs, h1, rfl⟩ := h
      simp [toDs_some h1]
    | _ => simp [toD] at h
theorem zeroCellsA_some {t : TypeId} {cs : List A} (h : zeroCellsA P t = some cs) : ∃ i z, P.info? t = some i ∧ i.zero = some z ∧ cs = z.cells.toList.map ofVal := by
  unfold zeroCellsA at h
  split at h
  · rename_i i hi
    split at h
    · rename_i z hz
      exact ⟨i, z, hi, hz, by simpa using h.symm⟩
    · simp at h
  · simp at h
end
end Go.Ab
/- Strings, slices, assertions, builtins that read. -/
set_option linter.unusedVariables false
set_option linter.unusedSimpArgs false
namespace Go.Ab
open Go Go.RowKit
section
variable {P : Program} {w0 : World} {n0 : Nat} {α : Type} {Q : α → Prop} {keep : List FuncId}

theorem told_typeAssert {dst type pos after guard} {xt asserted : TypeId} {ok : Bool} {x0 : Operand} {args : List A} {H : List Ob} {k : A → List Ob → Tr α}
    (h : wp P w0 n0 (xop P keep ⟨dst, .typeAssert x0 xt asserted ok, type, pos, after, guard⟩ args H k) Q) : Told P w0 n0 ⟨dst, .typeAssert x0 xt asserted ok, type, pos, after, guard⟩ args H k Q := by
  unfold xop at h
  dsimp only at h
  split at h
  · rename_i t v
    split at h
    · exact h.elim
    · rename_i d hd hu
      have hyes : ∀ (u : Value) (w : World), (Instr.typeAssert (.iface asserted u) xt asserted ok).run P w = .ok (if ok then .tuple #[u, .bool true] else u) w := by
        intro u w
        cases d <;> first | exact absurd rfl (hd _) | (simp [Instr.typeAssert, run_underlying hu])
      have hno : ∀ (u : Value) (w : World), t ≠ asserted → (Instr.typeAssert (.iface t u) xt asserted true).run P w = ((zeroValue asserted).run P w).andThen fun z w' => .ok (.tuple #[z, .bool false]) w' := by
        intro u w ht
        cases d <;> first | exact absurd rfl (hd _) | (simp [Instr.typeAssert, run_underlying hu, ht])
      split at h
      · rename_i ht
        have ht := Nat.eq_of_beq_eq_true ht
        subst ht
        refine Told.quiet (v := _) (fun X m w a hc hr => ?_) h
        obtain ⟨u, hu', z, rfl, h1⟩ := repL_one hr
        simp [Op.operands] at hu'
        cases ok
        · exact ⟨z, by simp [execOp, hu', hyes], h1⟩
        · refine ⟨.tuple #[z, .bool true], by simp [execOp, hu', hyes], _, rfl, ?_⟩
          exact ⟨z, [.bool true], rfl, h1, .bool true, [], rfl, rfl, rfl⟩
      · rename_i ht
        have ht : t ≠ asserted := fun e => ht (by simp [e])
        split at h
        · rename_i hok
          subst hok
          split at h
          · rename_i i hi
            split at h
            · rename_i z hz
              refine Told.quiet (v := _) (fun X m w a hc hr => ?_) h
              obtain ⟨u, hu', y, rfl, h1⟩ := repL_one hr
              simp [Op.operands] at hu'
              have hzv : (zeroValue asserted).run P w = .ok z w := by simp [zeroValue, typeInfo, hi, hz]
              refine ⟨.tuple #[z, .bool false], by simp [execOp, hu', hno _ _ ht, hzv], _, rfl, ?_⟩
              exact ⟨z, [.bool false], rfl, ofVal1_rep _ _ _ z, .bool false, [], rfl, rfl, rfl⟩
            · exact h.elim
          · exact h.elim
        · exact h.elim
    · exact h.elim
  · exact h.elim

theorem told_index {dst type pos after guard} {t : TypeId} {x0 i0 : Operand} {args : List A} {H : List Ob} {k : A → List Ob → Tr α}
    (h : wp P w0 n0 (xop P keep ⟨dst, .index t x0 i0, type, pos, after, guard⟩ args H k) Q) : Told P w0 n0 ⟨dst, .index t x0 i0, type, pos, after, guard⟩ args H k Q := by
  unfold xop at h
  dsimp only at h
  split at h
  · rename_i s ki i
    split at h
    · rename_i hu
      obtain ⟨hb, h⟩ := h
      obtain ⟨h0, h1⟩ := of_decide_eq_true hb
      refine Told.quiet (v := _) (fun X m w a hc hr => ?_) h
      obtain ⟨u, v, huv, h2, h3⟩ := repL_two hr
      simp [Op.operands] at huv
      obtain ⟨e1, e2⟩ := huv
      simp only [Rep, DRep] at h2 h3
      subst h2 h3
      have hlt : i.toNat < s.size := by omega
      have hget : s[i.toNat]? = some (s.toList.getD i.toNat 0) := by
        rw [getElem?_pos s i.toNat hlt]
        have : s.toList.length = s.size := by simp [ByteArray.toList_eq]
        rw [List.getD_eq_getElem?_getD, List.getElem?_eq_getElem (by omega)]
        simp [ByteArray.toList_eq]
        rfl
      exact ⟨.int .u8 (s.toList.getD i.toNat 0).toNat, by simp [execOp, e1, e2, Instr.index, asIntOf, run_underlying hu, h0, hget], by simp [Rep, DRep]⟩
    · exact h.elim
  · rename_i cs ki i
    split at h
    · rename_i n e hu
      split at h
      · rename_i hl
        have hl := Nat.eq_of_beq_eq_true hl
        obtain ⟨hb, h⟩ := h
        obtain ⟨h0, h1⟩ := of_decide_eq_true hb
        obtain ⟨v, hv, h⟩ := wp_optK h
        refine Told.quiet (v := v) (fun X m w a hc hr => ?_) h
        obtain ⟨u, v', huv, h2, h3⟩ := repL_two hr
        simp [Op.operands] at huv
        obtain ⟨e1, e2⟩ := huv
        obtain ⟨vs, rfl, h2⟩ := h2
        simp only [Rep, DRep] at h3
        subst h3
        have hle : i.toNat * P.cellsOf e + P.cellsOf e ≤ cs.length := by
          rw [hl, ← Nat.succ_mul]
          exact Nat.mul_le_mul_right _ (by omega)
        obtain ⟨z, h4, h5⟩ := run_partA (P := P) hv hle h2
        obtain ⟨b, hb, _⟩ := asVal_agg hv
        obtain ⟨ie, hie⟩ := info_of_agg hb
        have hi : 0 ≤ i ∧ i < (n : Int) := ⟨h0, h1⟩
        exact ⟨z, by simp [execOp, e1, e2, Instr.index, asIntOf, run_underlying hu, hi, run_sizeOf w hie, h4], h5⟩
      · exact h.elim
    · exact h.elim
  · exact h.elim

/-- Bounds of a slice expression. -/
theorem run_sliceBounds (isSlice : Bool) (len cap : Nat) (lo hi : Option Value) (l h : Int) (w : World)
    (hlo : match lo with | none => l = 0 | some v => ∃ k, v = .int k l) (hhi : match hi with | none => h = len | some v => ∃ k, v = .int k h) (h0 : 0 ≤ l) (h1 : l ≤ h) (h2 : h ≤ len) (hc : len ≤ cap) :
    (Instr.sliceBounds isSlice len cap lo hi none).run P w = .ok (l.toNat, h.toNat, cap) w := by
  have e1 : 0 ≤ h ∧ h ≤ (cap : Int) := ⟨by omega, by omega⟩
  have e2 : 0 ≤ l ∧ l ≤ ((h.toNat : Nat) : Int) := ⟨h0, by omega⟩
  cases lo with
  | none =>
    cases hi with
    | none =>
      simp only at hlo hhi
      subst hlo hhi
      simp [Instr.sliceBounds]
    | some v =>
      obtain ⟨k, rfl⟩ := hhi
      simp only at hlo
      subst hlo
      simp [Instr.sliceBounds, Instr.sliceBound, asIntOf, e1]
  | some u =>
    obtain ⟨k, rfl⟩ := hlo
    cases hi with
    | none =>
      simp only at hhi
      subst hhi
      simp at e2
      simp [Instr.sliceBounds, Instr.sliceBound, asIntOf, e2, h0]
    | some v =>
      obtain ⟨k', rfl⟩ := hhi
      simp [Instr.sliceBounds, Instr.sliceBound, asIntOf, e1, h0]
      intro hlt
      omega

theorem rows_drop {w : World} {F : Nat → Prop} {b sz : Nat} : ∀ (n : Nat) (xs : List (List D)) (off : Nat), RowsRep w F b sz off xs → RowsRep w F b sz (off + n * sz) (xs.drop n)
  | 0, xs, off, h => by simpa using h
  | n + 1, [], off, h => by simp only [List.drop_nil]; trivial
  | n + 1, x :: xs, off, h => by
    have := rows_drop n xs (off + sz) h.2
    rwa [show off + (n + 1) * sz = off + sz + n * sz by rw [Nat.add_mul]; omega]
theorem rows_take {w : World} {F : Nat → Prop} {b sz : Nat} : ∀ (n : Nat) (xs : List (List D)) (off : Nat), RowsRep w F b sz off xs → RowsRep w F b sz off (xs.take n)
  | 0, xs, off, h => by simp only [List.take_zero]; trivial
  | n + 1, [], off, h => by simp only [List.take_nil]; trivial
  | n + 1, x :: xs, off, h => ⟨h.1, rows_take n xs (off + sz) h.2⟩

theorem elemOfSlice_some {t e : TypeId} (h : elemOfSlice P t = some e) : P.underlying t = some (.slice e) := by
  unfold elemOfSlice at h
  split at h
  · rename_i e' hu; simp at h; subst h; exact hu
  · simp at h

/-- An operand that may be left out. -/
def OptRep (m : List Loc) (w : World) (F : Nat → Prop) : Option A → Option Value → Prop
  | none, o' => o' = none
  | some a, o' => ∃ z, o' = some z ∧ Rep m w F a z
theorem sliceA_told {t : TypeId} {x : A} {lo hi : Option A} {k : A → Tr α} (h : wp P w0 n0 (sliceA P t x lo hi k) Q) :
    ∃ v, wp P w0 n0 (k v) Q ∧ ∀ (m : List Loc) (w : World) (F : Nat → Prop) (u : Value) (lo' hi' : Option Value), Rep m w F x u →
      OptRep m w F lo lo' → OptRep m w F hi hi' →
      ∃ v', (Instr.sliceAt t u lo' hi' none).run P w = .ok v' w ∧ Rep m w F v v' := by
  have bound : ∀ (o : Option A) (d l : Int) (m : List Loc) (w : World) (F : Nat → Prop) (o' : Option Value), boundOf o d = some l → OptRep m w F o o' → match o' with | none => l = d | some v => ∃ k, v = .int k l := by
    intro o d l m w F o' ho hr
    unfold boundOf at ho
    split at ho
    · simp only [OptRep] at hr; subst hr; simpa using ho.symm
    · rename_i k l'
      obtain ⟨z, rfl, hz⟩ := hr
      simp only [Rep, DRep] at hz
      simp at ho
      subst ho
      exact ⟨k, hz⟩
    · simp at ho
  unfold sliceA at h
  cases x with
  | d x0 =>
   cases x0 with
   | str s =>
    dsimp only at h
    split at h
    · rename_i l hh hu hlo hhi
      obtain ⟨hb, h⟩ := h
      obtain ⟨h0, h1, h2⟩ := of_decide_eq_true hb
      refine ⟨_, h, fun m w F u lo' hi' hr hl' hh' => ?_⟩
      simp only [Rep, DRep] at hr
      subst hr
      have hrun := run_sliceBounds (P := P) false s.size s.size lo' hi' l hh w (bound lo 0 l m w F lo' hlo hl') (bound hi _ hh m w F hi' hhi hh') h0 h1 h2 (Nat.le_refl _)
      exact ⟨.string (s.extract l.toNat hh.toNat), by simp [Instr.sliceAt, Instr.slice, run_underlying hu, hrun], by simp [Rep, DRep]⟩
    · exact h.elim
   | slice isNil sz xs =>
    dsimp only at h
    split at h
    · rename_i e l hh he hlo hhi
      have hu := elemOfSlice_some he
      split at h
      · rename_i hsz
        obtain ⟨hpos, hsz⟩ := Bool.and_eq_true _ _ |>.mp hsz
        have hpos := info_of_cells (P := P) (Nat.le_of_ble_eq_true hpos)
        obtain ⟨ie, hie⟩ := hpos
        obtain ⟨hb, h⟩ := h
        obtain ⟨h0, h1, h2⟩ := of_decide_eq_true hb
        refine ⟨_, h, fun m w F u lo' hi' hr hl' hh' => ?_⟩
        have b1 := bound lo 0 l m w F lo' hlo hl'
        have b2 := bound hi _ hh m w F hi' hhi hh'
        rcases hr with ⟨hn, rfl, rfl⟩ | ⟨hn, ad, cap, rfl, hcap, hlens, hcase⟩
        · have hrun := run_sliceBounds (P := P) true 0 0 lo' hi' l hh w b1 (by simpa using b2) h0 h1 (by simpa using h2) (Nat.le_refl _)
          have hl0 : l.toNat = 0 := by simp at h2; omega
          have hh0 : hh.toNat = 0 := by simp at h2; omega
          refine ⟨.slice none 0 0, by simp [Instr.sliceAt, Instr.slice, run_underlying hu, hrun, run_sizeOf w hie, hl0, hh0], .inl ⟨hn, by simp, rfl⟩⟩
        · have hrun := run_sliceBounds (P := P) true xs.length cap lo' hi' l hh w b1 b2 h0 h1 h2 hcap
          have hsz' : sz = P.cellsOf e := by
            rcases Bool.or_eq_true _ _ |>.mp hsz with h' | h'
            · exact Nat.eq_of_beq_eq_true h'
            · rw [hn] at h'; exact absurd h' (by simp)
          have hlen : ((xs.take hh.toNat).drop l.toNat).length = hh.toNat - l.toNat := by simp; omega
          refine ⟨.slice (if cap = l.toNat then some ad else some (ad.add (l.toNat * P.cellsOf e))) (hh.toNat - l.toNat) (cap - l.toNat), ?_, .inr ⟨hn, if cap = l.toNat then ad else ad.add (l.toNat * P.cellsOf e), cap - l.toNat, ?_, ?_, ?_, ?_⟩⟩
          · simp [Instr.sliceAt, Instr.slice, run_underlying hu, hrun, run_sizeOf w hie]
          · rw [hlen]; split <;> rfl
          · rw [hlen]; omega
          · intro x hx; exact hlens x (List.mem_of_mem_take (List.mem_of_mem_drop hx))
          · by_cases hem : (xs.take hh.toNat).drop l.toNat = []
            · exact .inl hem
            · right
              have hne : xs ≠ [] := fun e => hem (by simp [e])
              have hlt : l.toNat < hh.toNat := by
                rcases Nat.lt_or_ge l.toNat hh.toNat with h' | h'
                · exact h'
                · exact absurd (List.eq_nil_of_length_eq_zero (by rw [hlen]; omega)) hem
              rcases hcase with rfl | ⟨b, off, rfl, hF, hb', hrows⟩
              · exact absurd rfl hne
              · have : cap ≠ l.toNat := by omega
                rw [if_neg this]
                exact ⟨b, off + l.toNat * P.cellsOf e, by rw [Addr.add_lit], hF, hb', by rw [← hsz']; exact rows_drop _ _ _ (rows_take _ _ _ hrows)⟩
      · exact h.elim
    · exact h.elim
   | _ => exact h.elim
  | _ => exact h.elim

end
end Go.Ab
/- One step of the world: a few objects touched, a few new. -/
set_option linter.unusedVariables false
set_option linter.unusedSimpArgs false
namespace Go.Ab
open Go Go.RowKit
section
variable {P : Program} {w0 : World} {n0 : Nat} {α : Type} {Q : α → Prop} {keep : List FuncId}

structure Step (X : Nat → Prop) (T : Nat → Prop) (m : List Loc) (H : List Ob) (w : World) (m' : List Loc) (H' : List Ob) (w' : World) : Prop where
  os : w'.os = w.os
  tape : w'.tape = w.tape
  output : w'.output = w.output
  size : w.heap.size ≤ w'.heap.size
  len : m'.length = H'.length
  hlen : H.length ≤ H'.length
  pre : ∀ i, i < H.length → m'[i]? = m[i]?
  same : ∀ i, i < H.length → ¬ T i → H'[i]? = H[i]?
  blk : ∀ b, b < w.heap.size → (∀ (i : Nat) (o : Ob) (l : Loc), T i → H[i]? = some o → m[i]? = some l → o.live = true → l.nil = false → l.b ≠ b) → w'.heap[b]? = w.heap[b]?
  fresh : ∀ (i : Nat) (o : Ob) (l : Loc), (T i ∨ H.length ≤ i) → H'[i]? = some o → m'[i]? = some l → o.live = true → l.nil = false →
    (w.heap.size ≤ l.b ∧ l.b < w'.heap.size) ∨ ∃ (j : Nat) (o1 : Ob) (l1 : Loc), T j ∧ H[j]? = some o1 ∧ m[j]? = some l1 ∧ o1.live = true ∧ l1.nil = false ∧ l1.b = l.b
  sep : ∀ (i j : Nat) (o p : Ob) (l k : Loc), (T i ∨ H.length ≤ i) → (T j ∨ H.length ≤ j) → H'[i]? = some o → m'[i]? = some l → o.live = true → l.nil = false → H'[j]? = some p → m'[j]? = some k → p.live = true → k.nil = false → l.b = k.b → i = j

theorem lt_of_get {β : Type} {l : List β} {i : Nat} {x : β} (h : l[i]? = some x) : i < l.length := (List.getElem?_eq_some_iff.1 h).1

theorem Step.owned {X T : Nat → Prop} {m m' : List Loc} {H H' : List Ob} {w w' : World} (h : Step X T m H w m' H' w') (b : Nat) (ho : Owned m' H' b) : Owned m H b ∨ w.heap.size ≤ b := by
  obtain ⟨i, o, l, h1, h2, h3, h4, rfl⟩ := ho
  by_cases ht : T i ∨ H.length ≤ i
  · rcases h.fresh i o l ht h1 h2 h3 h4 with h5 | ⟨j, o1, l1, _, g1, g2, g3, g4, g5⟩
    · exact .inr h5.1
    · exact .inl ⟨j, o1, l1, g1, g2, g3, g4, g5⟩
  · have ht1 : ¬ T i := fun e => ht (.inl e)
    have hi : i < H.length := Nat.lt_of_not_le fun e => ht (.inr e)
    exact .inl ⟨i, o, l, (h.same i hi ht1).symm.trans h1, (h.pre i hi).symm.trans h2, h3, h4, rfl⟩

theorem Step.stays {X T : Nat → Prop} {m m' : List Loc} {H H' : List Ob} {w w' : World} (h : Step X T m H w m' H' w') : Stays w (FF X m H) w' (FF X m' H') := by
  refine ⟨h.size, fun b hb hF => ⟨h.blk b hb fun i o l ht h1 h2 h3 h4 he => hF (.inr ⟨i, o, l, h1, h2, h3, h4, he⟩), ?_⟩⟩
  rintro (hx | ho)
  · exact hF (.inl hx)
  · rcases h.owned b ho with h1 | h1
    · exact hF (.inr h1)
    · omega

theorem Step.pres {X T : Nat → Prop} {m m' : List Loc} {H H' : List Ob} {w w' : World} (hc : Conc P w0 X m H w) (h : Step X T m H w m' H' w') : ∀ (i : Nat) (l : Loc), m[i]? = some l → m'[i]? = some l := fun i l hi => by
  rw [h.pre i (by have := lt_of_get hi; rw [hc.len] at this; exact this)]; exact hi

theorem ObOk.stays {m m' : List Loc} {w w' : World} {F F' : Nat → Prop} (h : Stays w F w' F') (hm : ∀ (i : Nat) (l : Loc), m[i]? = some l → m'[i]? = some l) {l : Loc} {o : Ob} (hb : o.live = true → l.nil = false → w'.heap[l.b]? = w.heap[l.b]?) (ho : ObOk P m w F l o) : ObOk P m' w' F' l o := by
  cases o with
  | cells cs =>
    obtain ⟨h1, c, e, h2, h3⟩ := ho
    exact ⟨h1, c, e, by rw [hb rfl h1]; exact h2, RepL.stays h hm _ _ h3⟩
  | row nb e sz xs =>
    obtain ⟨h1, h2, h3, h4, h5⟩ := ho
    refine ⟨h1, h2, h3, h4, fun hn => ?_⟩
    obtain ⟨cur, g1, g2, g3, g4, g5, g6⟩ := h5 hn
    exact ⟨cur, by rw [hb rfl hn]; exact g1, g2, g3, g4, g5, RowsRep.stays h _ _ (hb rfl hn) _ _ g6⟩
  | iter s pos =>
    obtain ⟨h1, h2⟩ := ho
    exact ⟨h1, by rw [hb rfl h1]; exact h2⟩
  | dead => trivial

theorem Step.conc {X T : Nat → Prop} {m m' : List Loc} {H H' : List Ob} {w w' : World} (hc : Conc P w0 X m H w) (h : Step X T m H w m' H' w')
    (ok : ∀ (i : Nat) (o : Ob) (l : Loc), (T i ∨ H.length ≤ i) → H'[i]? = some o → m'[i]? = some l → ObOk P m' w' (FF X m' H') l o) : Conc P w0 X m' H' w' ∧ Ext H.length m H w m' H' w' := by
  have old : ∀ i, ¬ (T i ∨ H.length ≤ i) → i < H.length ∧ ¬ T i := fun i hi => ⟨Nat.lt_of_not_le fun e => hi (.inr e), fun e => hi (.inl e)⟩
  have ext : Ext H.length m H w m' H' w' := ⟨h.pre, h.os, h.tape, h.output, h.size, fun b hb hn => h.blk b hb fun i o l ht h1 h2 h3 h4 he => hn ⟨i, o, l, h1, h2, h3, h4, he⟩, h.owned⟩
  refine ⟨⟨?_, h.len, ?_, ?_, ?_, ?_⟩, ext⟩
  · refine hc.below.trans ⟨h.os, h.tape, h.output, h.size, fun b hb => h.blk b (Nat.lt_of_lt_of_le hb hc.below.size) fun i o l _ h1 h2 h3 h4 he => ?_⟩
    have := (hc.own i o l h1 h2 h3 h4).1
    omega
  · exact fun b hb => Nat.lt_of_lt_of_le (hc.xlt b hb) h.size
  · intro i o l h1 h2
    by_cases ht : T i ∨ H.length ≤ i
    · exact ok i o l ht h1 h2
    · obtain ⟨hi, hT⟩ := old i ht
      have g1 : H[i]? = some o := (h.same i hi hT).symm.trans h1
      have g2 : m[i]? = some l := (h.pre i hi).symm.trans h2
      refine ObOk.stays h.stays (h.pres hc) (fun hl hn => ?_) (hc.obj i o l g1 g2)
      refine h.blk l.b (hc.own i o l g1 g2 hl hn).2.1 fun j p k ht' k1 k2 k3 k4 he => ?_
      exact hT (hc.sep j i p o k l k1 k2 k3 k4 g1 g2 hl hn he ▸ ht')
  · intro i o l h1 h2 h3 h4
    by_cases ht : T i ∨ H.length ≤ i
    · rcases h.fresh i o l ht h1 h2 h3 h4 with h5 | ⟨j, o1, l1, _, g1, g2, g3, g4, g5⟩
      · exact ⟨Nat.le_trans hc.below.size h5.1, h5.2, fun hx => by have := hc.xlt _ hx; omega⟩
      · have := hc.own j o1 l1 g1 g2 g3 g4
        rw [g5] at this
        exact ⟨this.1, Nat.lt_of_lt_of_le this.2.1 h.size, this.2.2⟩
    · obtain ⟨hi, hT⟩ := old i ht
      have := hc.own i o l ((h.same i hi hT).symm.trans h1) ((h.pre i hi).symm.trans h2) h3 h4
      exact ⟨this.1, Nat.lt_of_lt_of_le this.2.1 h.size, this.2.2⟩
  · intro i j o p l k h1 h2 h3 h4 g1 g2 g3 g4 he
    -- a fresh one and an old one do not meet
    have cross : ∀ (i j : Nat) (o p : Ob) (l k : Loc), (T i ∨ H.length ≤ i) → ¬ (T j ∨ H.length ≤ j) → H'[i]? = some o → m'[i]? = some l → o.live = true → l.nil = false → H'[j]? = some p → m'[j]? = some k → p.live = true → k.nil = false → l.b = k.b → False := by
      intro i j o p l k hti htj h1 h2 h3 h4 g1 g2 g3 g4 he
      obtain ⟨hj, hT⟩ := old j htj
      have k1 : H[j]? = some p := (h.same j hj hT).symm.trans g1
      have k2 : m[j]? = some k := (h.pre j hj).symm.trans g2
      rcases h.fresh i o l hti h1 h2 h3 h4 with h5 | ⟨j', o1, l1, ht', q1, q2, q3, q4, q5⟩
      · have := (hc.own j p k k1 k2 g3 g4).2.1
        omega
      · exact hT (hc.sep j' j o1 p l1 k q1 q2 q3 q4 k1 k2 g3 g4 (q5.trans he) ▸ ht')
    by_cases hti : T i ∨ H.length ≤ i
    · by_cases htj : T j ∨ H.length ≤ j
      · exact h.sep i j o p l k hti htj h1 h2 h3 h4 g1 g2 g3 g4 he
      · exact (cross i j o p l k hti htj h1 h2 h3 h4 g1 g2 g3 g4 he).elim
    · by_cases htj : T j ∨ H.length ≤ j
      · exact (cross j i p o k l htj hti g1 g2 g3 g4 h1 h2 h3 h4 he.symm).elim
      · obtain ⟨hi, hT⟩ := old i hti
        obtain ⟨hj, hT'⟩ := old j htj
        exact hc.sep i j o p l k ((h.same i hi hT).symm.trans h1) ((h.pre i hi).symm.trans h2) h3 h4 ((h.same j hj hT').symm.trans g1) ((h.pre j hj).symm.trans g2) g3 g4 he

/-- A new object, in a new block (draws may have come before). -/
theorem conc_push {X : Nat → Prop} {m : List Loc} {H : List Ob} {w w' : World} (hc : Conc P w0 X m H w) {o : Ob} {l : Loc} {ob : Obj} (hos : w'.os = w.os) (htape : w'.tape = w.tape) (hout : w'.output = w.output)
    (hh : w'.heap = w.heap.push ob) (hl : l.b = w.heap.size) (ok : Stays w (FF X m H) w' (FF X (m ++ [l]) (H ++ [o])) → (∀ (i : Nat) (k : Loc), m[i]? = some k → (m ++ [l])[i]? = some k) → ObOk P (m ++ [l]) w' (FF X (m ++ [l]) (H ++ [o])) l o) :
    Conc P w0 X (m ++ [l]) (H ++ [o]) w' ∧ Ext H.length m H w (m ++ [l]) (H ++ [o]) w' ∧ Stays w (FF X m H) w' (FF X (m ++ [l]) (H ++ [o])) := by
  have hlen := hc.len
  have st : Step X (fun _ => False) m H w (m ++ [l]) (H ++ [o]) w' := by
    refine ⟨hos, htape, hout, by rw [hh]; simp, by simp [hlen], by simp, fun i hi => ?_, fun i hi _ => ?_, fun b hb _ => ?_, fun i p k hi h1 h2 h3 h4 => .inl ?_, fun i j o' p l' k hi hj h1 h2 h3 h4 g1 g2 g3 g4 he => ?_⟩
    · rw [List.getElem?_append_left (by omega)]
    · rw [List.getElem?_append_left (by omega)]
    · rw [hh, Array.getElem?_push, if_neg (by omega)]
    · have hi' : H.length ≤ i := hi.resolve_left id
      have : i = m.length := by have := lt_of_get h2; simp at this; omega
      subst this
      simp at h2
      subst h2
      rw [hl, hh]; simp
    · have hi' : H.length ≤ i := hi.resolve_left id
      have hj' : H.length ≤ j := hj.resolve_left id
      have := lt_of_get h2
      have := lt_of_get g2
      simp at *
      omega
  obtain ⟨h1, h2⟩ := st.conc hc fun i p k hi h1 h2 => by
    have hi' : H.length ≤ i := hi.resolve_left id
    have : i = m.length := by have := lt_of_get h2; simp at this; omega
    subst this
    simp at h2
    subst h2
    rw [hlen] at h1
    simp at h1
    subst h1
    exact ok st.stays (st.pres hc)
  exact ⟨h1, h2, st.stays⟩

/-- An object of one's own changes, where it lies. -/
theorem conc_set {X : Nat → Prop} {m : List Loc} {H : List Ob} {w w' : World} (hc : Conc P w0 X m H w) {i : Nat} {o o' : Ob} {l : Loc} (hi : H[i]? = some o) (hm : m[i]? = some l) (hlive : o.live = true) (hnil : l.nil = false) (hlive' : o'.live = true)
    (hos : w'.os = w.os) (htape : w'.tape = w.tape) (hout : w'.output = w.output) (hsize : w'.heap.size = w.heap.size) (hblk : ∀ b, b ≠ l.b → w'.heap[b]? = w.heap[b]?)
    (ok : Stays w (FF X m H) w' (FF X m (H.set i o')) → ObOk P m w' (FF X m (H.set i o')) l o') :
    Conc P w0 X m (H.set i o') w' ∧ Ext H.length m H w m (H.set i o') w' ∧ Stays w (FF X m H) w' (FF X m (H.set i o')) := by
  have hlen := hc.len
  have hilt := lt_of_get hi
  have st : Step X (fun j => j = i) m H w m (H.set i o') w' := by
    refine ⟨hos, htape, hout, by omega, by simp [hlen], by simp, fun _ _ => rfl, fun j hj hne => ?_, fun b hb hb' => hblk b fun e => ?_, fun j p k hj h1 h2 h3 h4 => .inr ?_, fun j j' o1 p l' k hj hj' h1 h2 h3 h4 g1 g2 g3 g4 he => ?_⟩
    · rw [List.getElem?_set_ne (fun e => hne e.symm)]
    · exact hb' i o l rfl hi hm hlive hnil e.symm
    · have hji : j = i := by
        rcases hj with rfl | hj
        · rfl
        · have := lt_of_get h1; simp at this; omega
      subst hji
      rw [hm] at h2
      simp at h2
      subst h2
      exact ⟨j, o, l, rfl, hi, hm, hlive, hnil, rfl⟩
    · have := lt_of_get h1
      have := lt_of_get g1
      simp at *
      omega
  obtain ⟨h1, h2⟩ := st.conc hc fun j p k hj h1 h2 => by
    have hji : j = i := by
      rcases hj with rfl | hj
      · rfl
      · have := lt_of_get h1; simp at this; omega
    subst hji
    rw [hm] at h2
    simp at h2
    subst h2
    rw [List.getElem?_set_self hilt] at h1
    simp at h1
    subst h1
    exact ok st.stays
  exact ⟨h1, h2, st.stays⟩

/-- The world alone moves on: draws, new blocks that no object lies in. -/
theorem conc_world {X : Nat → Prop} {m : List Loc} {H : List Ob} {w w' : World} (hc : Conc P w0 X m H w) (hos : w'.os = w.os) (htape : w'.tape = w.tape) (hout : w'.output = w.output) (hsize : w.heap.size ≤ w'.heap.size) (hblk : ∀ b, b < w.heap.size → w'.heap[b]? = w.heap[b]?) :
    Conc P w0 X m H w' ∧ Ext H.length m H w m H w' ∧ Stays w (FF X m H) w' (FF X m H) := by
  have st : Step X (fun _ => False) m H w m H w' := by
    refine ⟨hos, htape, hout, hsize, hc.len, Nat.le_refl _, fun _ _ => rfl, fun _ _ _ => rfl, fun b hb _ => hblk b hb, fun i p k hi h1 h2 h3 h4 => ?_, fun i j o' p l' k hi hj h1 h2 h3 h4 g1 g2 g3 g4 he => ?_⟩
    · have := lt_of_get h1
      have hi' : H.length ≤ i := hi.resolve_left id
      omega
    · have := lt_of_get h1
      have hi' : H.length ≤ i := hi.resolve_left id
      omega
  obtain ⟨h1, h2⟩ := st.conc hc fun i p k hi h1 h2 => by
    have := lt_of_get h1
    have hi' : H.length ≤ i := hi.resolve_left id
    omega
  exact ⟨h1, h2, st.stays⟩
end
end Go.Ab
/- Operations that make objects, or write them. -/
set_option linter.unusedVariables false
set_option linter.unusedSimpArgs false
namespace Go.Ab
open Go Go.RowKit
section
variable {P : Program} {w0 : World} {n0 : Nat} {α : Type} {Q : α → Prop} {keep : List FuncId}

/-- A new variable's cells. -/
theorem new_cells {X : Nat → Prop} {m : List Loc} {H : List Ob} {w : World} (hc : Conc P w0 X m H w) {cs : List A} {vs : Array Value} {e : TypeId} (hr : ∀ (m : List Loc) (w' : World) (F : Nat → Prop), Stays w (FF X m H) w' F → RepL m w (FF X m H) cs vs.toList → RepL m w' F cs vs.toList) (hv : RepL m w (FF X m H) cs vs.toList) :
    ∃ m', Ext H.length m H w m' (H ++ [.cells cs]) (w.alloc (.cells vs e)) ∧ Conc P w0 X m' (H ++ [.cells cs]) (w.alloc (.cells vs e)) ∧ Rep m' (w.alloc (.cells vs e)) (FF X m' (H ++ [.cells cs])) (.ptr H.length 0) (.pointer (some ⟨w.heap.size, 0, none⟩)) := by
  obtain ⟨h1, h2, h3⟩ := conc_push hc (o := .cells cs) (l := ⟨w.heap.size, 0, 0, 0, false, none⟩) (w' := w.alloc (.cells vs e)) (ob := .cells vs e) rfl rfl rfl rfl rfl (fun hs hm => ⟨rfl, vs, e, heap_alloc_new _ _, RepL.stays hs hm _ _ hv⟩)
  exact ⟨_, h2, h1, ⟨w.heap.size, 0, 0, 0, false, none⟩, by rw [← hc.len]; simp, rfl⟩

theorem told_alloc {dst type pos after guard} {e : TypeId} {args : List A} {H : List Ob} {k : A → List Ob → Tr α}
    (h : wp P w0 n0 (xop P keep ⟨dst, .alloc e, type, pos, after, guard⟩ args H k) Q) : Told P w0 n0 ⟨dst, .alloc e, type, pos, after, guard⟩ args H k Q := by
  unfold xop at h
  dsimp only at h
  split at h
  · obtain ⟨cs, hz, h⟩ := wp_optK h
    obtain ⟨i, z, hi, hzz, rfl⟩ := zeroCellsA_some hz
    refine ⟨_, _, .of_run fun X m w a hc hr => ?_, fun hq => by simp [quietOp] at hq, h⟩
    obtain ⟨m', h1, h2, h3⟩ := new_cells hc (cs := z.cells.toList.map ofVal) (vs := z.cells) (e := e) (fun _ _ _ _ _ => ofVals_rep _ _ _ _) (ofVals_rep _ _ _ _)
    refine ⟨m', _, _, ?_, h1, h2, h3⟩
    simp [execOp, Instr.alloc, zeroValue, typeInfo, hi, hzz, newVar, newRow]
  · exact h.elim

theorem told_box {dst type pos after guard} {e : TypeId} {x0 : Operand} {args : List A} {H : List Ob} {k : A → List Ob → Tr α}
    (h : wp P w0 n0 (xop P keep ⟨dst, .box e x0, type, pos, after, guard⟩ args H k) Q) : Told P w0 n0 ⟨dst, .box e x0, type, pos, after, guard⟩ args H k Q := by
  unfold xop at h
  dsimp only at h
  split at h
  · rename_i x
    split at h
    · rename_i hp
      refine ⟨_, _, .of_run fun X m w a hc hr => ?_, fun hq => by simp [quietOp] at hq, h⟩
      obtain ⟨v, hv, h1⟩ := repL_one hr
      simp [Op.operands] at hv
      have hcells := rep_cells h1 hp
      obtain ⟨m', h1, h2, h3⟩ := new_cells hc (cs := x.cellsOf) (vs := v.cells) (e := e) (fun m w' F hs hl => RepL.stays hs (fun _ _ h => h) _ _ hl) hcells
      refine ⟨m', _, _, ?_, h1, h2, h3⟩
      simp [execOp, hv, Instr.box, newVar, newRow]
    · exact h.elim
  · exact h.elim

/-! ### Stores -/
theorem repL_one' {m : List Loc} {w : World} {F : Nat → Prop} {x : A} {v : Value} (h : Rep m w F x v) (hp : x.plain = true) : ∀ (cs : List A), x = .agg cs → True := fun _ _ => trivial

theorem reps_oneCell {m : List Loc} {w : World} {F : Nat → Prop} : ∀ (xs : List D) (vs : List Value), RepL m w F (xs.map .d) vs → ∀ v ∈ vs, v.oneCell' = true
  | [], _, h, v, hv => by simp only [List.map_nil, RepL] at h; subst h; simp at hv
  | x :: xs, _, ⟨u, us, rfl, h1, h2⟩, v, hv => by
    rcases List.mem_cons.1 hv with rfl | hv
    · exact (drep_one h1).1
    · exact reps_oneCell xs us h2 v hv

theorem told_store_ok {dst type pos after guard} {t : TypeId} {p0 v0 : Operand} {p v : A} {H H' : List Ob} (hp : v.plain = true) (hl : v.cellsOf.length = P.cellsOf t)
    (h : ∀ (X : Nat → Prop) (m : List Loc) (w : World) (u : Value) (vs : List Value), Conc P w0 X m H w → Rep m w (FF X m H) p u → RepL m w (FF X m H) v.cellsOf vs → (∀ v ∈ vs, v.oneCell' = true) →
      ∃ b off w', u = .pointer (some ⟨b, off, none⟩) ∧ (storeCells ⟨b, off, none⟩ vs).run P w = .ok () w' ∧ Ext H.length m H w m H' w' ∧ Conc P w0 X m H' w')
    (hone : ∀ (m : List Loc) (w : World) (F : Nat → Prop) (z : Value), Rep m w F v z → ∀ u ∈ z.cells.toList, u.oneCell' = true) (hpos : 0 < P.cellsOf t) :
    OpOk P w0 ⟨dst, .store t p0 v0, type, pos, after, guard⟩ [p, v] H undefA H' := by
  intro X m w a hc hr next Q hn
  obtain ⟨u, z, huz, h1, h2⟩ := repL_two hr
  simp [Op.operands] at huz
  obtain ⟨e1, e2⟩ := huz
  have hcells := rep_cells h2 hp
  obtain ⟨b, off, w', rfl, hrun, hext, hconc⟩ := h X m w u z.cells.toList hc h1 hcells (hone m w _ z h2)
  obtain ⟨i, hi⟩ := info_of_cells hpos
  have hsize : z.cells.size = P.cellsOf t := by
    have := RepL.length _ _ hcells
    simp at this
    omega
  unfold Oper.wp
  have : (execOp a.eval ⟨dst, .store t p0 v0, type, pos, after, guard⟩).run P w = .ok .skip w' := by
    simp [execOp, e1, e2, Instr.storeAt, Instr.sureAddr, storeVar, run_sizeOf w hi, hsize, hrun]
  rw [this]
  exact hn m w' undef hext hconc ⟨#[], rfl, rfl⟩

theorem cells_congr {w w' : World} {F F' : Nat → Prop} (h : Stays w F w' F') {b : Nat} : ∀ (xs : List D) (off : Nat), CellsRep w F b off xs → (∀ j, j < xs.length → w'.cell? ⟨b, off + j, none⟩ = w.cell? ⟨b, off + j, none⟩) → CellsRep w' F' b off xs
  | [], _, _, _ => trivial
  | x :: xs, off, ⟨⟨v, h1, h2⟩, h3⟩, hc => ⟨⟨v, by have := hc 0 (by simp); simp only [Nat.add_zero] at this; rw [this]; exact h1, DRep.stays h x v h2⟩, cells_congr h xs (off + 1) h3 fun j hj => by
      have := hc (j + 1) (by simpa using hj)
      rwa [show off + (j + 1) = off + 1 + j by omega] at this⟩
theorem rows_congr {w w' : World} {F F' : Nat → Prop} (h : Stays w F w' F') {b sz : Nat} : ∀ (xs : List (List D)) (off : Nat), RowsRep w F b sz off xs → (∀ x ∈ xs, x.length = sz) → (∀ j, j < xs.length * sz → w'.cell? ⟨b, off + j, none⟩ = w.cell? ⟨b, off + j, none⟩) → RowsRep w' F' b sz off xs
  | [], _, _, _, _ => trivial
  | x :: xs, off, ⟨h1, h2⟩, hl, hc => by
    have hx : x.length = sz := hl x (by simp)
    refine ⟨cells_congr h x off h1 fun j hj => hc j (by simp [Nat.add_mul]; omega), rows_congr h xs (off + sz) h2 (fun y hy => hl y (by simp [hy])) fun j hj => ?_⟩
    have := hc (sz + j) (by simp [Nat.add_mul]; omega)
    rwa [show off + (sz + j) = off + sz + j by omega] at this
theorem rows_set {w w' : World} {F F' : Nat → Prop} (h : Stays w F w' F') {b sz : Nat} {c' : List D} : ∀ (xs : List (List D)) (off i : Nat), RowsRep w F b sz off xs → (∀ x ∈ xs, x.length = sz) → i < xs.length → CellsRep w' F' b (off + i * sz) c' →
    (∀ j, j < xs.length * sz → (j < i * sz ∨ (i + 1) * sz ≤ j) → w'.cell? ⟨b, off + j, none⟩ = w.cell? ⟨b, off + j, none⟩) → RowsRep w' F' b sz off (xs.set i c')
  | [], _, _, _, _, hi, _, _ => by simp at hi
  | x :: xs, off, 0, ⟨h1, h2⟩, hl, hi, hc', hc => by
    simp only [List.set_cons_zero]
    refine ⟨by simpa using hc', rows_congr h xs (off + sz) h2 (fun y hy => hl y (by simp [hy])) fun j hj => ?_⟩
    have := hc (sz + j) (by simp [Nat.add_mul]; omega) (.inr (by omega))
    rwa [show off + (sz + j) = off + sz + j by omega] at this
  | x :: xs, off, i + 1, ⟨h1, h2⟩, hl, hi, hc', hc => by
    simp only [List.set_cons_succ]
    have hx : x.length = sz := hl x (by simp)
    refine ⟨cells_congr h x off h1 fun j hj => hc j (by simp [Nat.add_mul]; omega) (.inl (by rw [Nat.add_mul]; omega)), rows_set h xs (off + sz) i h2 (fun y hy => hl y (by simp [hy])) (by simpa using hi) ?_ fun j hj hj' => ?_⟩
    · rwa [show off + (i + 1) * sz = off + sz + i * sz by rw [Nat.add_mul]; omega] at hc'
    · have := hc (sz + j) (by simp [Nat.add_mul]; omega) (by simp only [Nat.add_mul] at hj' ⊢; omega)
      rwa [show off + (sz + j) = off + sz + j by omega] at this

theorem plain_one {x : A} (hp : x.plain = true) (hc : ∀ c ∈ x.cellsOf, c.plain = true ∧ ∀ cs, c ≠ .agg cs) : ∀ (m : List Loc) (w : World) (F : Nat → Prop) (z : Value), Rep m w F x z → ∀ u ∈ z.cells.toList, u.oneCell' = true := by
  intro m w F z hr u hu
  have hcells := rep_cells hr hp
  obtain ⟨j, hj⟩ := List.getElem?_of_mem hu
  have hlen := RepL.length _ _ hcells
  have hjl : j < x.cellsOf.length := by have := lt_of_get hj; omega
  have hcj : x.cellsOf[j]? = some x.cellsOf[j] := List.getElem?_eq_getElem hjl
  obtain ⟨v, hv, h1⟩ := RepL.at_ _ _ hcells j _ hcj
  rw [hj] at hv
  simp at hv
  subst hv
  obtain ⟨g1, g2⟩ := hc _ (List.getElem_mem hjl)
  rcases rep_one h1 g1 with ⟨_, h2, _⟩ | ⟨cs, vs, he, _⟩
  · exact h2
  · exact absurd he (g2 cs)

theorem told_store {dst type pos after guard} {t : TypeId} {p0 v0 : Operand} {args : List A} {H : List Ob} {k : A → List Ob → Tr α}
    (h : wp P w0 n0 (xop P keep ⟨dst, .store t p0 v0, type, pos, after, guard⟩ args H k) Q) : Told P w0 n0 ⟨dst, .store t p0 v0, type, pos, after, guard⟩ args H k Q := by
  unfold xop at h
  dsimp only at h
  split at h
  · rename_i p v
    split at h
    · rename_i hcond
      simp only [Bool.and_eq_true] at hcond
      obtain ⟨⟨⟨hp, hl⟩, hpos⟩, hall⟩ := hcond
      have hl := Nat.eq_of_beq_eq_true hl
      have hpos := Nat.le_of_ble_eq_true hpos
      have hone := plain_one hp (fun c hc => by
        have := List.all_eq_true.1 hall c hc
        cases c <;> simp [A.cellOk] at this <;> simp [A.plain])
      unfold storeA at h
      split at h
      · rename_i id off
        split at h
        · rename_i cs hid
          split at h
          · rename_i hle
            have hle := Nat.le_of_ble_eq_true hle
            refine ⟨_, _, told_store_ok hp hl (fun X m w u vs hc hu hvs h1 => ?_) hone hpos, fun hq => by simp [quietOp] at hq, h⟩
            obtain ⟨l, hlm, rfl⟩ := hu
            obtain ⟨hnil, c, e, hb, hrc⟩ := hc.obj _ _ _ hid hlm
            have hvl := RepL.length _ _ hvs
            have hcl : cs.length = c.size := by have := RepL.length _ _ hrc; simpa using this
            have hrun := run_storeCells_at P l.b off e vs 0 c w hb (by omega) h1
            simp only [Nat.add_zero, ← hvl] at hrun
            generalize hw' : w.setRow l.b (c.toList.take off ++ vs ++ c.toList.drop (off + v.cellsOf.length)).toArray = w' at hrun
            have hb' : w'.heap[l.b]? = some (.cells (c.toList.take off ++ vs ++ c.toList.drop (off + v.cellsOf.length)).toArray e (0, 0)) := by
              rw [← hw']; exact setRow_heap w l.b c _ e _ hb
            have key := conc_set hc (o' := .cells (cs.take off ++ v.cellsOf ++ cs.drop (off + v.cellsOf.length))) hid hlm rfl hnil rfl (w' := w') (by rw [← hw']; rfl) (by rw [← hw']; rfl) (by rw [← hw']; rfl) (by rw [← hw']; simp) (fun b hb' => by rw [← hw']; exact setRow_other _ _ _ _ hb') (fun hs => by
              refine ⟨hnil, _, e, hb', ?_⟩
              exact RepL.append (RepL.append (RepL.take _ (RepL.stays hs (fun _ _ h => h) _ _ hrc)) (RepL.stays hs (fun _ _ h => h) _ _ hvs)) (RepL.drop _ (RepL.stays hs (fun _ _ h => h) _ _ hrc)))
            exact ⟨l.b, off, _, rfl, hrun, key.2.1, key.1⟩
          · exact h.elim
        · exact h.elim
      · rename_i id i off
        split at h
        · rename_i nb e sz xs hid
          split at h
          · rename_i ds hds
            split at h
            · rename_i hle
              have hle := Nat.le_of_ble_eq_true hle
              obtain ⟨c, hg, h⟩ := h
              obtain ⟨_, hx, hlen, hlt⟩ := getC_some hg
              simp only [Int.toNat_natCast] at hx hlt
              have hdsv : v.cellsOf = ds.map .d := toDs_some hds
              refine ⟨_, _, told_store_ok hp hl (fun X m w u vs hc hu hvs h1 => ?_) hone hpos, fun hq => by simp [quietOp] at hq, h⟩
              obtain ⟨l, hlm, rfl⟩ := hu
              obtain ⟨k1, k2, k3, k4, k5⟩ := hc.obj _ _ _ hid hlm
              subst k1
              have hnil : l.nil = false := k3.block (by rintro rfl; simp at hx)
              obtain ⟨cur, hb, hn1, hn2, hn3, hn4, hrows⟩ := k5 hnil
              rw [hdsv] at hvs
              have hvl : vs.length = ds.length := by have := RepL.length _ _ hvs; simpa using this.symm
              have hmul : i * l.sz + l.sz ≤ l.cap * l.sz := by
                rw [← Nat.succ_mul]; exact Nat.mul_le_mul_right _ (by omega)
              have hcurl : cur.toList.length = cur.size := Array.length_toList
              have hlt1 : i * l.sz + off ≤ cur.toList.length := by omega
              have hlt2 : i * l.sz + off + vs.length ≤ cur.toList.length := by omega
              have hrun := run_storeCells_at P l.b (i * l.sz + off) e vs 0 cur w hb (by omega) h1
              simp only [Nat.add_zero] at hrun
              generalize hw' : w.setRow l.b (cur.toList.take (i * l.sz + off) ++ vs ++ cur.toList.drop (i * l.sz + off + vs.length)).toArray = w' at hrun
              have hb' : w'.heap[l.b]? = some (.cells (cur.toList.take (i * l.sz + off) ++ vs ++ cur.toList.drop (i * l.sz + off + vs.length)).toArray e (0, 0)) := by
                rw [← hw']; exact setRow_heap w l.b cur _ e _ hb
              have hcell : ∀ j v', vs[j]? = some v' → w'.cell? ⟨l.b, i * l.sz + off + j, none⟩ = some v' := by
                intro j v' hj
                have hjl := lt_of_get hj
                rw [cell_of_cells hb']
                simp only [List.getElem?_toArray, List.append_assoc]
                rw [List.getElem?_append_right (by rw [List.length_take]; omega), List.length_take, Nat.min_eq_left hlt1]
                rw [show i * l.sz + off + j - (i * l.sz + off) = j by omega, List.getElem?_append_left hjl]
                exact hj
              have hother : ∀ j, (j < i * l.sz + off ∨ i * l.sz + off + ds.length ≤ j) → w'.cell? ⟨l.b, j, none⟩ = w.cell? ⟨l.b, j, none⟩ := by
                intro j hj
                rw [cell_of_cells hb', cell_of_cells hb]
                simp only [List.getElem?_toArray, List.append_assoc]
                rcases hj with hj | hj
                · rw [List.getElem?_append_left (by rw [List.length_take]; omega), List.getElem?_take_of_lt hj]
                  simp
                · rw [List.getElem?_append_right (by rw [List.length_take]; omega), List.length_take, Nat.min_eq_left hlt1, List.getElem?_append_right (by omega), List.getElem?_drop]
                  rw [show i * l.sz + off + vs.length + (j - (i * l.sz + off) - vs.length) = j by omega]
                  simp
              have key := conc_set hc (o' := .row nb e l.sz (xs.set i (c.take off ++ ds ++ c.drop (off + ds.length)))) hid hlm rfl hnil rfl (w' := w') (by rw [← hw']; rfl) (by rw [← hw']; rfl) (by rw [← hw']; rfl) (by rw [← hw']; simp) (fun b hb' => by rw [← hw']; exact setRow_other _ _ _ _ hb') (fun hs => by
                have hcl : (c.take off ++ ds ++ c.drop (off + ds.length)).length = l.sz := by simp; omega
                refine ⟨rfl, by simpa using k2, ?_, ?_, fun _ => ⟨_, hb', hn1, hn2, ?_, hn4, ?_⟩⟩
                · refine ⟨fun h => by rw [hnil] at h; simp at h, fun _ => ?_⟩
                  cases xs with
                  | nil => simp at hx
                  | cons y ys => cases i <;> simp
                · intro x hxm
                  rcases List.mem_or_eq_of_mem_set hxm with hxm | rfl
                  · exact k4 x hxm
                  · exact hcl
                · simp only [List.size_toArray, List.length_append, List.length_take, List.length_drop]
                  omega
                · have hrow := rows_at xs 0 i c hrows hx
                  rw [Nat.zero_add] at hrow
                  refine rows_set hs xs 0 i hrows k4 hlt ?_ fun j hj hj' => ?_
                  · rw [Nat.zero_add]
                    refine cells_append _ _ _ (cells_append _ _ _ (cells_congr hs _ _ (cells_take off c _ hrow) fun j hj => ?_) ?_) (cells_congr hs _ _ ?_ fun j hj => ?_)
                    · rw [List.length_take] at hj
                      exact hother _ (.inl (by omega))
                    · refine cells_of_vals (m := m) _ _ vs (RepL.stays hs (fun _ _ h => h) _ _ hvs) fun j v' hj => ?_
                      have := hcell j v' hj
                      rw [List.length_take, Nat.min_eq_left (by omega)]
                      exact this
                    · have := cells_drop (off + ds.length) c _ hrow
                      rw [List.length_append, List.length_take, Nat.min_eq_left (by omega)]
                      exact this
                    · rw [List.length_append, List.length_take, Nat.min_eq_left (by omega)]
                      exact hother _ (.inr (by omega))
                  · rw [Nat.zero_add]
                    exact hother _ (by rw [Nat.add_mul] at hj'; omega))
              exact ⟨l.b, i * l.sz + off, _, rfl, hrun, key.2.1, key.1⟩
            · exact h.elim
          · exact h.elim
        · exact h.elim
      · exact h.elim
    · exact h.elim
  · exact h.elim
end
end Go.Ab
/- Strings' iterators, conversions, new rows, lengths, appends. -/
set_option linter.unusedVariables false
set_option linter.unusedSimpArgs false
namespace Go.Ab
open Go Go.RowKit
section
variable {P : Program} {w0 : World} {n0 : Nat} {α : Type} {Q : α → Prop} {keep : List FuncId}

theorem told_range {dst type pos after guard} {t : TypeId} {x0 : Operand} {args : List A} {H : List Ob} {k : A → List Ob → Tr α}
    (h : wp P w0 n0 (xop P keep ⟨dst, .range t x0, type, pos, after, guard⟩ args H k) Q) : Told P w0 n0 ⟨dst, .range t x0, type, pos, after, guard⟩ args H k Q := by
  unfold xop at h
  dsimp only at h
  split at h
  · rename_i s
    split at h
    · rename_i hu
      refine ⟨_, _, .of_run fun X m w a hc hr => ?_, fun hq => by simp [quietOp] at hq, h⟩
      obtain ⟨v, hv, h1⟩ := repL_one hr
      simp [Op.operands] at hv
      simp only [Rep, DRep] at h1
      subst h1
      obtain ⟨h1, h2, h3⟩ := conc_push hc (o := .iter s 0) (l := ⟨w.heap.size, 0, 0, 0, false, none⟩) (w' := w.alloc (.stringIter s 0)) (ob := .stringIter s 0) rfl rfl rfl rfl rfl (fun hs hm => ⟨rfl, heap_alloc_new _ _⟩)
      refine ⟨_, _, .pointer (some ⟨w.heap.size, 0, none⟩), ?_, h2, h1, ⟨w.heap.size, 0, 0, 0, false, none⟩, by rw [← hc.len]; simp, rfl⟩
      simp [execOp, hv, Instr.range, run_underlying hu]
    · exact h.elim
  · exact h.elim

theorem heap_set_other (w : World) (r : Nat) (o : Obj) (b : Nat) (h : b ≠ r) : (w.heap.setIfInBounds r o)[b]? = w.heap[b]? := by
  rw [Array.getElem?_setIfInBounds_ne (Ne.symm h)]

theorem told_next {dst type pos after guard} {isString : Bool} {x0 : Operand} {args : List A} {H : List Ob} {k : A → List Ob → Tr α}
    (h : wp P w0 n0 (xop P keep ⟨dst, .next x0 isString, type, pos, after, guard⟩ args H k) Q) : Told P w0 n0 ⟨dst, .next x0 isString, type, pos, after, guard⟩ args H k Q := by
  unfold xop at h
  dsimp only at h
  split at h
  · rename_i id
    split at h
    · rename_i s p hid
      obtain ⟨ht, hf⟩ := h
      by_cases hlt : p < s.size
      · have h := ht (by simpa using hlt)
        refine ⟨_, _, .of_run fun X m w a hc hr => ?_, fun hq => by simp [quietOp] at hq, h⟩
        obtain ⟨v, hv, l, hl, rfl⟩ := repL_one hr
        simp [Op.operands] at hv
        obtain ⟨hnil, hb⟩ := hc.obj _ _ _ hid hl
        have hlt' : l.b < w.heap.size := (Array.getElem?_eq_some_iff.1 hb).1
        have key := conc_set hc (o' := .iter s (p + (Utf8.decode s p).2)) hid hl rfl hnil rfl (w' := { w with heap := w.heap.setIfInBounds l.b (.stringIter s (p + (Utf8.decode s p).2)) }) rfl rfl rfl (by simp) (fun b hb' => heap_set_other w _ _ b hb') (fun hs => ⟨hnil, by simp [hlt']⟩)
        refine ⟨m, _, .tuple #[.bool true, .int .i64 p, .int .i32 (Utf8.decode s p).1], ?_, key.2.1, key.1, ⟨_, rfl, ?_⟩⟩
        · simp [execOp, hv, Instr.next, getObj, setObj, Sem.run, hb, hlt, goInt]
        · exact ⟨_, _, rfl, rfl, _, _, rfl, rfl, _, _, rfl, rfl, rfl⟩
      · have h := hf (by simpa using hlt)
        refine ⟨_, _, .of_quiet fun X m w a hc hr => ?_, fun hq => by simp [quietOp] at hq, h⟩
        obtain ⟨v, hv, l, hl, rfl⟩ := repL_one hr
        simp [Op.operands] at hv
        obtain ⟨hnil, hb⟩ := hc.obj _ _ _ hid hl
        refine ⟨.tuple #[.bool false], ?_, ⟨_, rfl, _, _, rfl, rfl, rfl⟩⟩
        simp [execOp, hv, Instr.next, getObj, Sem.run, hb, hlt]
    · exact h.elim
  · exact h.elim

theorem elemsOf_some {X : Nat → Prop} {m : List Loc} {H : List Ob} {w : World} (hc : Conc P w0 X m H w) {x : A} {isNil : Bool} {sz : Nat} {xs : List (List D)} (h : elemsOf H x = some (isNil, sz, xs)) {v : Value} (hr : Rep m w (FF X m H) x v) :
    ∃ a cap, v = .slice a xs.length cap ∧ (isNil = true ↔ a = none) ∧ (a = none → xs = [] ∧ cap = 0) ∧ xs.length ≤ cap ∧ (∀ x ∈ xs, x.length = sz) ∧ (xs ≠ [] → ∃ b off, a = some ⟨b, off, none⟩ ∧ b < w.heap.size ∧ RowsRep w (FF X m H) b sz off xs) := by
  unfold elemsOf at h
  split at h
  · simp only [Option.some.injEq, Prod.mk.injEq] at h
    obtain ⟨rfl, rfl, rfl⟩ := h
    rcases hr with ⟨hn, rfl, rfl⟩ | ⟨hn, a, cap, rfl, hcap, hl, hcase⟩
    · exact ⟨none, 0, rfl, by simp [hn], by simp, by simp, by simp, fun h => absurd rfl h⟩
    · refine ⟨some a, cap, rfl, by simp [hn], by simp, hcap, hl, fun hne => ?_⟩
      rcases hcase with rfl | ⟨b, off, rfl, _, hb, hrows⟩
      · exact absurd rfl hne
      · exact ⟨b, off, rfl, hb, hrows⟩
  · rename_i id
    split at h
    · rename_i nb e sz' xs' hid
      simp only [Option.some.injEq, Prod.mk.injEq] at h
      obtain ⟨rfl, rfl, rfl⟩ := h
      obtain ⟨l, hl, hcase⟩ := hr
      obtain ⟨h1, h2, h3, h4, h5⟩ := hc.obj _ _ _ hid hl
      rcases hcase with ⟨hn, rfl⟩ | ⟨hn, rfl⟩
      · obtain ⟨hem, had⟩ := h3.1 hn
        subst hem
        refine ⟨l.adr, 0, rfl, ?_, by simp, by simp, by simp, fun h => absurd rfl h⟩
        rw [← had]
        cases l.adr <;> simp
      · obtain ⟨cur, g1, g2, g3, g4, g5, g6⟩ := h5 hn
        rw [h2] at g2 ⊢
        exact ⟨_, _, rfl, by rw [h3.2 hn]; simp, by simp, g2, h4, fun _ => ⟨l.b, 0, rfl, (Array.getElem?_eq_some_iff.1 g1).1, g6⟩⟩
    · simp at h
  · simp at h

/-! ### Conversions -/
theorem bytesD_len (s : ByteArray) : (bytesD s).length = s.size := by simp [bytesD, ByteArray.toList_eq]
theorem cells_bytes {w : World} {F : Nat → Prop} {b : Nat} : ∀ (l : List UInt8) (off : Nat), (∀ (j : Nat) (c : UInt8), l[j]? = some c → w.cell? ⟨b, off + j, none⟩ = some (.int .u8 c.toNat)) → RowsRep w F b 1 off (l.map fun c => [D.int .u8 c.toNat])
  | [], _, _ => trivial
  | c :: l, off, h => ⟨⟨⟨_, by simpa using h 0 c rfl, rfl⟩, trivial⟩, cells_bytes l (off + 1) fun j c' hj => by
      have := h (j + 1) c' (by simpa using hj)
      rwa [show off + (j + 1) = off + 1 + j by omega] at this⟩

theorem told_toBytes {dst type pos after guard} {src t e : TypeId} {x0 : Operand} {s : ByteArray} {H : List Ob} (hs : P.underlying src = some .string) (ht : P.underlying t = some (.slice e)) (he : P.underlying e = some (.int .u8)) :
    OpOk P w0 ⟨dst, .convert src t x0, type, pos, after, guard⟩ [.d (.str s)] H (.d (.slice false 1 (bytesD s))) H := by
  refine .of_run fun X m w a hc hr => ?_
  obtain ⟨v, hv, h1⟩ := repL_one hr
  simp [Op.operands] at hv
  simp only [Rep, DRep] at h1
  subst h1
  obtain ⟨h1, h2, h3⟩ := conc_world hc (w' := Lib.bytesWorld w e s) rfl rfl rfl (by rw [Lib.bytesWorld_size]; omega) (fun b hb => Lib.bytesWorld_at_old w e s b hb)
  refine ⟨m, _, .slice (some ⟨w.heap.size, 0, none⟩) s.size (grownCap w s.size 0 e), ?_, h2, h1, .inr ⟨rfl, ⟨w.heap.size, 0, none⟩, _, by rw [bytesD_len], by rw [bytesD_len]; exact grownCap_ge w s.size 0 e, ?_, .inr ⟨w.heap.size, 0, rfl, ?_, by rw [Lib.bytesWorld_size]; omega, ?_⟩⟩⟩
  · simp [execOp, hv, Lib.run_convert_string_bytes w src t e s hs ht he]
  · intro x hx
    simp [bytesD] at hx
    obtain ⟨c, _, rfl⟩ := hx
    rfl
  · rintro (hx | ⟨i, o, l, g1, g2, g3, g4, g5⟩)
    · have := hc.xlt _ hx; omega
    · have := (hc.own i o l g1 g2 g3 g4).2.1; omega
  · unfold bytesD
    refine cells_bytes _ 0 fun j c hj => ?_
    have hjl := lt_of_get hj
    have hsz : s.toList.length = s.size := by simp [ByteArray.toList_eq]
    rw [Nat.zero_add, Lib.bytesWorld_cell w e s j (by omega)]
    rw [ByteArray.toList_eq] at hj
    rw [List.getD_eq_getElem?_getD, hj]
    rfl

theorem bytes_vals {w : World} {F : Nat → Prop} {b : Nat} : ∀ (xs : List (List D)) (off : Nat), RowsRep w F b 1 off xs → xs.all isByte = true → ∃ ns : List Int, ns.length = xs.length ∧ xs = ns.map (fun n => [D.int .u8 n]) ∧ ∀ (j : Nat) (n : Int), ns[j]? = some n → w.cell? ⟨b, off + j, none⟩ = some (.int .u8 n)
  | [], off, _, _ => ⟨[], rfl, rfl, fun j n h => by simp at h⟩
  | x :: xs, off, ⟨h1, h2⟩, hb => by
    simp only [List.all_cons, Bool.and_eq_true] at hb
    obtain ⟨hb1, hb2⟩ := hb
    obtain ⟨ns, g1, g2, g3⟩ := bytes_vals xs (off + 1) h2 hb2
    unfold isByte at hb1
    split at hb1
    · rename_i n
      obtain ⟨⟨v, hv, hd⟩, _⟩ := h1
      simp only [DRep] at hd
      subst hd
      refine ⟨n :: ns, by simp [g1], by simp [g2], fun j n' hj => ?_⟩
      cases j with
      | zero => simp at hj; subst hj; simpa using hv
      | succ j =>
        have := g3 j n' (by simpa using hj)
        rwa [show off + 1 + j = off + (j + 1) by omega] at this
    · simp at hb1

theorem fold_bytes (ns : List Int) : ∀ (s : ByteArray), (ns.foldl (fun r n => r.push (UInt8.ofNat n.toNat)) s) = ⟨(s.data.toList ++ ns.map (fun n => UInt8.ofNat n.toNat)).toArray⟩ := by
  induction ns with
  | nil => intro s; simp
  | cons n ns ih =>
    intro s
    rw [List.foldl_cons, ih]
    congr 1
    simp [ByteArray.push]

theorem told_toString {dst type pos after guard} {src t e : TypeId} {x0 : Operand} {x : A} {H : List Ob} {isNil : Bool} {sz : Nat} {xs : List (List D)} (hx : elemsOf H x = some (isNil, sz, xs)) (hs : P.underlying src = some (.slice e)) (ht : P.underlying t = some .string) (he : P.underlying e = some (.int .u8))
    (hsz : (Nat.beq sz 1 || xs.isEmpty) = true) (hb : xs.all isByte = true) :
    OpOk P w0 ⟨dst, .convert src t x0, type, pos, after, guard⟩ [x] H (.d (.str (strOfD xs))) H := by
  refine .of_quiet fun X m w a hc hr => ?_
  obtain ⟨v, hv, h1⟩ := repL_one hr
  simp [Op.operands] at hv
  obtain ⟨ad, cap, rfl, _, hnone, hcap, hlens, hrows⟩ := elemsOf_some hc hx h1
  have hconv := run_convert_bytes_string (P := P) w src t e ad xs.length cap hs he ht
  by_cases hne : xs = []
  · subst hne
    simp only [List.length_nil] at hconv hv
    refine ⟨.string .empty, ?_, ?_⟩
    · cases ad with
      | none => simp [execOp, hv, hconv, Conv.bytesToString]
      | some ad => 
        have := run_bytesToString (P := P) w ad 0 cap [] (by simpa using run_loadCells_list (P := P) w ad [] (by simp))
        simp [execOp, hv, hconv, this]
    · simp [Rep, DRep, strOfD]
      rfl
  · obtain ⟨b, off, rfl, hblt, hr2⟩ := hrows hne
    have hsz1 : sz = 1 := by
      rcases Bool.or_eq_true _ _ |>.mp hsz with h' | h'
      · exact Nat.eq_of_beq_eq_true h'
      · exact absurd (by simpa using h') hne
    subst hsz1
    obtain ⟨ns, g1, g2, g3⟩ := bytes_vals xs off hr2 hb
    have hload := run_loadCells_list (P := P) w ⟨b, off, none⟩ (ns.map (Value.int .u8)) (fun j v hj => by
      rw [List.getElem?_map] at hj
      cases hn : ns[j]? with
      | none => rw [hn] at hj; simp at hj
      | some n => rw [hn] at hj; simp at hj; subst hj; rw [Addr.add_lit]; exact g3 j n hn)
    rw [List.length_map, g1] at hload
    have hbs := run_bytesToString (P := P) w ⟨b, off, none⟩ xs.length cap ns hload
    refine ⟨_, by simp [execOp, hv, hconv, hbs]; rfl, ?_⟩
    simp only [Rep, DRep]
    rw [fold_bytes, g2]
    simp [strOfD, byteOfD, Function.comp_def]
end
end Go.Ab
/- New rows, lengths, appends; all operations but calls together. -/
set_option linter.unusedVariables false
set_option linter.unusedSimpArgs false
namespace Go.Ab
open Go Go.RowKit
section
variable {P : Program} {w0 : World} {n0 : Nat} {α : Type} {Q : α → Prop} {keep : List FuncId}

theorem told_convert {dst type pos after guard} {src t : TypeId} {x0 : Operand} {args : List A} {H : List Ob} {k : A → List Ob → Tr α}
    (h : wp P w0 n0 (xop P keep ⟨dst, .convert src t x0, type, pos, after, guard⟩ args H k) Q) : Told P w0 n0 ⟨dst, .convert src t x0, type, pos, after, guard⟩ args H k Q := by
  unfold xop at h
  dsimp only at h
  split at h
  · rename_i ka a
    split at h
    · rename_i d kd hs ht
      refine ⟨_, H, .of_quiet fun X m w ac hc hr => ?_, fun hq => by simp [quietOp] at hq, h⟩
      obtain ⟨v, hv, h1⟩ := repL_one hr
      simp [Op.operands] at hv
      simp only [Rep, DRep] at h1
      subst h1
      refine ⟨.int kd (kd.wrap a), ?_, by simp [Rep, DRep]⟩
      simp [execOp, hv, convert, run_underlying hs, run_underlying ht, Conv.intToInt]
    · exact h.elim
  · rename_i s
    split at h
    · rename_i e hs ht
      split at h
      · rename_i he
        exact ⟨_, H, told_toBytes hs ht he, fun hq => by simp [quietOp] at hq, h⟩
      · exact h.elim
    · rename_i d hs ht
      refine ⟨_, H, .of_quiet fun X m w ac hc hr => ?_, fun hq => by simp [quietOp] at hq, h⟩
      obtain ⟨v, hv, h1⟩ := repL_one hr
      simp [Op.operands] at hv
      simp only [Rep, DRep] at h1
      subst h1
      refine ⟨.string s, ?_, by simp [Rep, DRep]⟩
      simp [execOp, hv, convert, run_underlying hs, run_underlying ht]
    · exact h.elim
  · rename_i x hx1 hx2
    split at h
    · rename_i isNil sz xs e hx hs ht
      split at h
      · rename_i he
        split at h
        · rename_i hsz
          obtain ⟨hb, h⟩ := h
          exact ⟨_, H, told_toString hx hs ht he hsz hb, fun hq => by simp [quietOp] at hq, h⟩
        · exact h.elim
      · exact h.elim
    · exact h.elim
  · exact h.elim

theorem growOk_some {e : TypeId} (h : growOk P e = true) : ∃ i z, P.info? e = some i ∧ i.zero = some z ∧ z.cells.size = i.size ∧ 0 < i.size ∧ 0 < i.bytes ∧ P.cellsOf e = i.size ∧ P.bytesOf e = i.bytes ∧ i.bytes ≤ 2048 := by
  unfold growOk at h
  split at h
  · rename_i i hi
    split at h
    · rename_i z hz
      simp only [Bool.and_eq_true] at h
      exact ⟨i, z, hi, hz, Nat.eq_of_beq_eq_true h.1.1.1, Nat.le_of_ble_eq_true h.1.1.2, Nat.le_of_ble_eq_true h.1.2, by simp [Program.cellsOf, hi], by simp [Program.bytesOf, hi], Nat.le_of_ble_eq_true h.2⟩
    · simp at h
  · simp at h

theorem chunk_flat {sz : Nat} : ∀ (n : Nat) (xs : List D), xs.length = n * sz → (chunk sz n xs).flatten = xs ∧ (chunk sz n xs).length = n ∧ ∀ c ∈ chunk sz n xs, c.length = sz
  | 0, xs, h => by
    have : xs = [] := List.eq_nil_of_length_eq_zero (by simpa using h)
    subst this
    simp [chunk]
  | n + 1, xs, h => by
    have h' : (xs.drop sz).length = n * sz := by rw [List.length_drop, h, Nat.add_mul]; omega
    obtain ⟨h1, h2, h3⟩ := chunk_flat n _ h'
    refine ⟨by simp [chunk, h1], by simp [chunk, h2], fun c hc => ?_⟩
    simp only [chunk, List.mem_cons] at hc
    rcases hc with rfl | hc
    · rw [List.length_take, h, Nat.add_mul]; omega
    · exact h3 c hc

theorem fillA_len {place : Nat → Option (Nat × Nat)} : ∀ (parts : List (Nat × A)) (cs cs' : List A), fillA place cs parts = some cs' → cs'.length = cs.length
  | [], cs, cs', h => by simp [fillA] at h; rw [h]
  | (i, v) :: rest, cs, cs', h => by
    unfold fillA at h
    split at h
    · simp at h
    · split at h
      · rename_i hcond
        simp only [Bool.and_eq_true, beq_iff_eq] at hcond
        have h3 := Nat.le_of_ble_eq_true hcond.2
        rw [fillA_len rest _ _ h]
        simp
        omega
      · simp at h

theorem told_buildSlice {dst type pos after guard} {t : TypeId} {n : Nat} {parts : Array (Nat × Operand)} {args : List A} {H : List Ob} {k : A → List Ob → Tr α}
    (h : wp P w0 n0 (xop P keep ⟨dst, .buildSlice t n parts, type, pos, after, guard⟩ args H k) Q) : Told P w0 n0 ⟨dst, .buildSlice t n parts, type, pos, after, guard⟩ args H k Q := by
  unfold xop at h
  dsimp only at h
  split at h
  · rename_i e he
    have hu := elemOfSlice_some he
    split at h
    · rename_i zs hzs
      split at h
      · rename_i hcond
        simp only [Bool.and_eq_true] at hcond
        obtain ⟨⟨⟨hz1, hg⟩, hn1⟩, hn2⟩ := hcond
        have hz1 := Nat.eq_of_beq_eq_true hz1
        have hn1 := Nat.le_of_ble_eq_true hn1
        have hn2 := Nat.le_of_ble_eq_true hn2
        obtain ⟨i, z, hi, hz, hsz, hpos, hby, hce, hbe, hb2⟩ := growOk_some hg
        obtain ⟨i', z', hi', hz', rfl⟩ := zeroCellsA_some hzs
        rw [hi] at hi'
        simp only [Option.some.injEq] at hi'
        subst hi'
        rw [hz] at hz'
        simp only [Option.some.injEq] at hz'
        subst hz'
        split at h
        · rename_i cs hf
          split at h
          · rename_i ds hds
            refine ⟨_, _, .of_run fun X m w a hc hr => ?_, fun hq => by simp [quietOp] at hq, h⟩
            have hops : (Op.buildSlice t n parts).operands.toList.map a.eval = (parts.toList.map (·.2)).map a.eval := by simp [Op.operands]
            simp only [hops] at hr
            have hlen : (parts.toList.map (·.1)).length = args.length := by have := RepL.length _ _ hr; simp at this ⊢; omega
            have hzl : (z.cells.toList.map ofVal).length = i.size := by simp [hsz]
            let zer : Array Value := (Array.range (n * i.size)).map (z.cells[· % z.cells.size]!)
            have hzer : RepL m w (FF X m H) (zeroRow n (z.cells.toList.map ofVal)) zer.toList := by
              refine RepL.of_at _ _ (by simp [zeroRow, zer, hsz]) fun j x v hj hv => ?_
              have hjl := lt_of_get hv
              simp only [zer, Array.length_toList, Array.size_map, Array.size_range] at hjl
              have hmod : j % i.size < z.cells.size := by rw [hsz]; exact Nat.mod_lt _ hpos
              have hxe : x = ofVal z.cells[j % i.size] := by
                simp only [zeroRow, hzl, List.getElem?_map] at hj
                rw [List.getElem?_range hjl] at hj
                simp only [Option.map_some, Option.some.injEq] at hj
                rw [← hj, List.getD_eq_getElem?_getD, List.getElem?_map, Array.getElem?_toList, Array.getElem?_eq_getElem hmod]
                rfl
              have hve : v = z.cells[j % i.size] := by
                simp only [zer, Array.getElem?_toList, Array.getElem?_map, hsz] at hv
                rw [Array.getElem?_range] at hv
                rw [if_pos hjl] at hv
                simp only [Option.map_some, Option.some.injEq] at hv
                rw [← hv, getElem!_pos z.cells (j % i.size) hmod]
              rw [hxe, hve]
              exact ofVal_rep _ _ _ _
            rw [hce] at hf
            obtain ⟨cells', h1, h2⟩ := fill_rep _ args _ _ _ zer hzer hr hlen hf
            rw [zip_args] at h1
            have hcs := toDs_some hds
            have hcl : cells'.size = n * i.size := by
              have e1 := RepL.length _ _ h2
              have e2 := fillA_len _ _ _ hf
              simp [zeroRow, hzl] at e2
              simp at e1
              omega
            have hdl : ds.length = n * i.size := by
              have e1 := RepL.length _ _ h2
              rw [hcs] at e1
              simp at e1
              omega
            obtain ⟨c1, c2, c3⟩ := chunk_flat (sz := i.size) n ds hdl
            have hnn : n ≤ n * i.size := Nat.le_mul_of_pos_right _ hpos
            rw [hzl] at hn1
            have hpush := conc_push hc (o := .row false e i.size (chunk i.size n ds)) (l := ⟨w.heap.size, n, i.size, n, false, none⟩) (w' := w.alloc (.cells cells' e)) (ob := .cells cells' e) rfl rfl rfl rfl rfl (fun hs hm => by
              refine ⟨rfl, c2.symm, ⟨fun h => by simp at h, fun _ => rfl⟩, c3, fun _ => ⟨cells', heap_alloc_new _ _, Nat.le_refl _, ?_, hcl, trivial, ?_⟩⟩
              · simp only [maxLen]; omega
              · rw [rows_flat _ _ c3, c1]
                refine cells_of_vals (m := m) _ _ cells'.toList ?_ fun j v hj => ?_
                · rw [← hcs]; exact RepL.stays hs (fun _ _ h => h) _ _ h2 |> fun h => h
                · rw [cell_of_cells (heap_alloc_new _ _)]; simpa using hj)
            rw [hce]
            refine ⟨_, _, .slice (some ⟨w.heap.size, 0, none⟩) n n, ?_, hpush.2.1, hpush.1, ⟨w.heap.size, n, i.size, n, false, none⟩, by rw [← hc.len]; simp, .inr ⟨rfl, rfl⟩⟩
            have hns : ¬ (16777216 < n * i.size) := by have : (2:Nat) ^ 24 = 16777216 := by decide
                                                       omega
            have hrun : (Instr.buildSlice t n (parts.map fun (i, x) => (i, a.eval x))).run P w = .ok (.slice (some ⟨w.heap.size, 0, none⟩) n n) (w.alloc (.cells cells' e)) := by
              have h1' : Instr.fill (fun i_1 => some (i_1 * i.size, i.size)) zer (parts.toList.map fun (i, x) => (i, a.eval x)) = some cells' := h1
              by_cases h0 : n * i.size = 0
              · have hn0 : n = 0 := by
                  rcases Nat.mul_eq_zero.1 h0 with h0 | h0
                  · exact h0
                  · omega
                have hz0 : zer = #[] := by simp [zer, hn0]
                rw [hz0] at h1'
                have hr0 : Array.range 0 = #[] := by simp
                simp [hn0, hr0, Instr.buildSlice, run_underlying hu, run_sizeOf w hi, hce, hns, h0, h1', newRow]
              · have hz0 : zer = (Array.range (n * i.size)).map (z.cells[· % z.cells.size]!) := rfl
                rw [hz0] at h1'
                simp [Instr.buildSlice, run_underlying hu, run_sizeOf w hi, hce, hns, h0, zeroValue, typeInfo, hi, hz, h1', newRow]
            simp [execOp, hrun]
          · exact h.elim
        · exact h.elim
      · exact h.elim
    · exact h.elim
  · exact h.elim
end
end Go.Ab
/- Appends; lengths; the least, the greatest. -/
set_option linter.unusedVariables false
set_option linter.unusedSimpArgs false
namespace Go.Ab
open Go Go.RowKit
section
variable {P : Program} {w0 : World} {n0 : Nat} {α : Type} {Q : α → Prop} {keep : List FuncId}

theorem run_append_none (w : World) (t ty e : TypeId) (i : TypeInfo) (ht : P.underlying t = some (.slice e)) (hi : P.info? e = some i) (b : Option Addr) (n c : Nat) (hn : n ≤ c) (ad : Option Addr) (cap : Nat) :
    (Builtin.append_ #[t, t] ty #[.slice b n c, .slice ad 0 cap]).run P w = .ok (.slice b n c) w := by
  cases ad <;> cases b <;> simp [Builtin.append_, run_underlying ht, sizeOf, typeInfo, hi, Builtin.lenOf, Builtin.firstCells, loadCells, loadCellsFrom, hn, storeCells]

theorem rows_of_vals {m : List Loc} {w : World} {F : Nat → Prop} {b sz : Nat} {e : TypeId} {cur : Array Value} {fr : Nat × Nat} {xs : List (List D)} {vs : List Value} (hb : w.heap[b]? = some (.cells cur e fr)) (hl : ∀ x ∈ xs, x.length = sz) (hr : RepL m w F (xs.flatten.map .d) vs)
    (hc : ∀ (j : Nat) (v : Value), vs[j]? = some v → cur[j]? = some v) : RowsRep w F b sz 0 xs := by
  rw [rows_flat _ _ hl]
  exact cells_of_vals (m := m) _ _ vs hr fun j v hj => by rw [cell_of_cells hb, Nat.zero_add]; exact hc j v hj

/-- A row goes over into another one, there or elsewhere. -/
theorem conc_swap {X : Nat → Prop} {m : List Loc} {H : List Ob} {w w' : World} (hc : Conc P w0 X m H w) {id : Nat} {o1 o2 : Ob} {l l' : Loc} (hid : H[id]? = some o1) (hm : m[id]? = some l) (hlive : o1.live = true)
    (hos : w'.os = w.os) (htape : w'.tape = w.tape) (hout : w'.output = w.output) (hsize : w.heap.size ≤ w'.heap.size) (hblk : ∀ b, b < w.heap.size → (l.nil = false → b ≠ l.b) → w'.heap[b]? = w.heap[b]?)
    (hl : l'.nil = false → (w.heap.size ≤ l'.b ∧ l'.b < w'.heap.size) ∨ (l.nil = false ∧ l'.b = l.b))
    (ok : Stays w (FF X m H) w' (FF X (m ++ [l']) (H.set id .dead ++ [o2])) → (∀ (i : Nat) (k : Loc), m[i]? = some k → (m ++ [l'])[i]? = some k) → ObOk P (m ++ [l']) w' (FF X (m ++ [l']) (H.set id .dead ++ [o2])) l' o2) :
    Conc P w0 X (m ++ [l']) (H.set id .dead ++ [o2]) w' ∧ Ext H.length m H w (m ++ [l']) (H.set id .dead ++ [o2]) w' := by
  have hlen := hc.len
  have hidlt := lt_of_get hid
  have hset : (H.set id Ob.dead).length = H.length := by simp
  have st : Step X (fun j => j = id) m H w (m ++ [l']) (H.set id .dead ++ [o2]) w' := by
    have new : ∀ (i : Nat) (o : Ob) (k : Loc), (i = id ∨ H.length ≤ i) → (H.set id Ob.dead ++ [o2])[i]? = some o → (m ++ [l'])[i]? = some k → o.live = true → i = H.length ∧ o = o2 ∧ k = l' := by
      intro i o k hi h1 h2 h3
      rcases hi with rfl | hi
      · rw [List.getElem?_append_left (by omega), List.getElem?_set_self hidlt] at h1
        simp at h1
        subst h1
        simp [Ob.live] at h3
      · have hl1 := lt_of_get h1
        simp at hl1
        have hi' : i = H.length := by omega
        subst hi'
        rw [List.getElem?_append_right (by omega)] at h1
        rw [List.getElem?_append_right (by omega)] at h2
        simp [hlen] at h1 h2
        exact ⟨rfl, h1.symm, h2.symm⟩
    refine ⟨hos, htape, hout, hsize, by simp [hlen], by simp, fun i hi => ?_, fun i hi hne => ?_, fun b hb hb' => hblk b hb fun hn he => ?_, fun i p k hi h1 h2 h3 h4 => ?_, fun i j o' p k1 k2 hi hj h1 h2 h3 h4 g1 g2 g3 g4 he => ?_⟩
    · rw [List.getElem?_append_left (by omega)]
    · rw [List.getElem?_append_left (by omega), List.getElem?_set_ne (fun e => hne e.symm)]
    · exact hb' id o1 l rfl hid hm hlive hn he.symm
    · obtain ⟨rfl, rfl, rfl⟩ := new i p k hi h1 h2 h3
      rcases hl h4 with h5 | ⟨h5, h6⟩
      · exact .inl h5
      · exact .inr ⟨id, o1, l, rfl, hid, hm, hlive, h5, h6.symm⟩
    · obtain ⟨rfl, _, _⟩ := new i o' k1 hi h1 h2 h3
      obtain ⟨rfl, _, _⟩ := new j p k2 hj g1 g2 g3
      rfl
  exact st.conc hc fun i o k hi h1 h2 => by
    rcases hi with rfl | hi
    · rw [List.getElem?_append_left (by omega), List.getElem?_set_self hidlt] at h1
      simp at h1
      subst h1
      trivial
    · have hl1 := lt_of_get h1
      simp at hl1
      have hi' : i = H.length := by omega
      subst hi'
      rw [List.getElem?_append_right (by omega)] at h1
      rw [List.getElem?_append_right (by omega)] at h2
      simp [hlen] at h1 h2
      subst h1 h2
      exact ok st.stays (st.pres hc)

/-- The elements that are appended, as values. -/
theorem elems_vals {X : Nat → Prop} {m : List Loc} {H : List Ob} {w : World} {b off sz : Nat} {ys : List (List D)} (hl : ∀ y ∈ ys, y.length = sz) (hr : RowsRep w (FF X m H) b sz off ys) :
    ∃ news : List Value, news.length = ys.length * sz ∧ RepL m w (FF X m H) (ys.flatten.map .d) news ∧ (∀ (j : Nat) (u : Value), news[j]? = some u → w.cell? ((⟨b, off, none⟩ : Addr).add j) = some u) ∧ ∀ u ∈ news, u.oneCell' = true := by
  obtain ⟨vs, h1, h2, h3⟩ := cells_vals (m := m) _ _ ((rows_flat ys off hl).1 hr)
  exact ⟨vs, by rw [h1, flat_len ys hl], h2, fun j u hj => by rw [Addr.add_lit]; exact h3 j u hj, reps_oneCell _ _ h2⟩

theorem rooms_of_rows {w : World} {F : Nat → Prop} {b off sz : Nat} {ys : List (List D)} (hne : ys ≠ []) (hpos : 0 < sz) (hl : ∀ y ∈ ys, y.length = sz) (hr : RowsRep w F b sz off ys) : Room.holdsV w ⟨b, off, none⟩ (ys.length * sz) = true := by
  have hcells := (rows_flat ys off hl).1 hr
  have hlen := flat_len ys hl
  have hlast : ∀ (xs : List D) (off : Nat), CellsRep w F b off xs → ∀ j, j < xs.length → (w.cell? ⟨b, off + j, none⟩).isSome = true := by
    intro xs
    induction xs with
    | nil => intro off _ j hj; simp at hj
    | cons x xs ih =>
      intro off ⟨⟨v, hv, _⟩, h2⟩ j hj
      cases j with
      | zero => simp [hv]
      | succ j =>
        have := ih (off + 1) h2 j (by simpa using hj)
        rwa [show off + 1 + j = off + (j + 1) by omega] at this
  have hpos' : 0 < ys.length * sz := Nat.mul_pos (List.length_pos_iff.2 hne) hpos
  have := hlast ys.flatten off hcells (ys.length * sz - 1) (by omega)
  unfold Room.holdsV World.shape?
  unfold World.cell? at this
  split at this
  · rename_i c e fr hb
    rw [hb]
    simp at this
    simp
    omega
  · simp at this

/-- AN APPEND, told: the world goes on, or too much was asked. -/
theorem append_step {X : Nat → Prop} {m : List Loc} {H : List Ob} {w : World} (hc : Conc P w0 X m H w) {t ty e : TypeId} {i : TypeInfo} {z : Value} (ht : P.underlying t = some (.slice e)) (hi : P.info? e = some i) (hz : i.zero = some z) (hzs : z.cells.size = i.size) (hpos : 0 < i.size) (hby : 0 < i.bytes)
    {b off cap : Nat} {ys : List (List D)} (hne : ys ≠ []) (hly : ∀ y ∈ ys, y.length = i.size) (hry : RowsRep w (FF X m H) b i.size off ys) (sb : Option Addr) (n c : Nat) (olds : List Value) (hol : olds.length = n * i.size)
    (hold : ∀ g, sb = some g → (n = 0 ∧ c = 0) ∨ ∃ k cur, g = ⟨k, 0, none⟩ ∧ w.heap[k]? = some (.cells cur e (0, 0)) ∧ n ≤ c ∧ cur.size = c * i.size ∧ k ≠ b ∧ ∀ (j : Nat) (u : Value), olds[j]? = some u → cur[j]? = some u) (hnone : sb = none → n = 0 ∧ c = 0) (hfits : (n + ys.length) * i.bytes ≤ 140737488355328) :
    ∃ news : List Value, RepL m w (FF X m H) (ys.flatten.map .d) news ∧ news.length = ys.length * i.size ∧
      ((∃ k cur, sb = some ⟨k, 0, none⟩ ∧ w.heap[k]? = some (.cells cur e (0, 0)) ∧ n + ys.length ≤ c ∧
        (Builtin.append_ #[t, t] ty #[.slice sb n c, .slice (some ⟨b, off, none⟩) ys.length cap]).run P w = .ok (.slice sb (n + ys.length) c) (w.setRow k (cur.toList.take (n * i.size) ++ news ++ cur.toList.drop (n * i.size + news.length)).toArray)) ∨
       (∃ cap', n + ys.length ≤ cap' ∧ cap' ≤ maxLen ∧ (Builtin.append_ #[t, t] ty #[.slice sb n c, .slice (some ⟨b, off, none⟩) ys.length cap]).run P w =
        .ok (.slice (some ⟨w.heap.size, 0, none⟩) (n + ys.length) cap') (w.drew.alloc (.cells (olds.toArray ++ news.toArray ++ Builtin.zeroCells z.cells (cap' - (n + ys.length))) e)))) := by
  obtain ⟨news, hnl, hnr, hnc, hn1⟩ := elems_vals hly hry
  have hylen : 0 < ys.length := List.length_pos_iff.2 hne
  have hx := rooms_of_rows hne hpos hly hry
  by_cases hroom : n + ys.length ≤ c
  · -- there is room
    cases sb with
    | none => have := hnone rfl; omega
    | some g =>
      rcases hold g rfl with hz0 | ⟨k, cur, rfl, hb, hnc', hcs, hkb, hcur⟩
      · omega
      have hfit : n * i.size + news.length ≤ cur.size := by rw [hnl, hcs, ← Nat.add_mul]; exact Nat.mul_le_mul_right _ hroom
      exact ⟨news, hnr, hnl, .inl ⟨k, cur, rfl, hb, hroom, run_append_room (P := P) w t ty e i ht hi k n c cur hb ⟨b, off, none⟩ ys.length cap news hnl hnc hn1 hroom hfit⟩⟩
  · have hp : Builtin.nextslicecap (n + ys.length) c * i.bytes ≤ 281474976710656 := growslice_fits (by omega) hfits
    · have hnb : (n + ys.length) * i.bytes ≤ 281474976710656 := Nat.le_trans (Nat.mul_le_mul_right _ (le_nextslicecap (by omega))) hp
      have h63 : ((n + ys.length : Nat) : Int) ≤ 9223372036854775807 := by
        have : n + ys.length ≤ (n + ys.length) * i.bytes := Nat.le_mul_of_pos_right _ hby
        omega
      have hr2 : (Builtin.append_ #[t, t] ty #[.slice sb n c, .slice (some ⟨b, off, none⟩) ys.length cap]).run P w =
          .ok (.slice (some ⟨w.heap.size, 0, none⟩) (n + ys.length) (grownCap w (n + ys.length) c e)) (w.drew.alloc (.cells (olds.toArray ++ news.toArray ++ Builtin.zeroCells z.cells (grownCap w (n + ys.length) c e - (n + ys.length))) e)) := by
        cases sb with
        | none =>
          obtain ⟨rfl, rfl⟩ := hnone rfl
          have ho : olds = [] := List.eq_nil_of_length_eq_zero (by simpa using hol)
          subst ho
          have := run_append_nil (P := P) w t ty e i z ht hi hz ⟨b, off, none⟩ ys.length cap news hnl hnc hylen (by simpa using h63) (by simpa using hnb)
          simpa using this
        | some g =>
          rcases hold g rfl with ⟨rfl, rfl⟩ | ⟨k, cur, rfl, hb, hnc', hcs, hkb, hcur⟩
          · have ho : olds = [] := List.eq_nil_of_length_eq_zero (by simpa using hol)
            subst ho
            exact run_append_grow (P := P) w t ty e i z ht hi hz g 0 0 [] (by simp) (fun j u hj => by simp at hj) ⟨b, off, none⟩ ys.length cap news hnl hnc (by omega) h63 hp
          exact run_append_grow (P := P) w t ty e i z ht hi hz ⟨k, 0, none⟩ n c olds hol (fun j u hj => by rw [Addr.add_lit, cell_of_cells hb, Nat.zero_add]; exact hcur j u hj) ⟨b, off, none⟩ ys.length cap news hnl hnc (by omega) h63 hp
      exact ⟨news, hnr, hnl, .inr ⟨_, grownCap_ge w _ _ _, grownCap_le_maxLen w _ _ _ (by simp only [maxLen]; omega), hr2⟩⟩
end
end Go.Ab
