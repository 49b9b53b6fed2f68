/- An abstract interpreter for Go bodies over values without addresses: definitions alone. A slice is immutable ('sl', 'emp') or the call's own ('osl', into a heap of abstract objects); rows hold one typed list for each cell of an element. Verification conditions come in continuation style. -/
import Derived.Calls
import Derived.Laws.CopyRow
import Derived.Tactics
set_option linter.unusedVariables false
set_option linter.unusedSimpArgs false
namespace Go.Own
open Go

/-- One typed column of a row of elements. -/
inductive Col where
  | int (k : IntKind) (l : List Int)
  | bool (l : List Bool)
  | ints (k : IntKind) (l : List (List Int))

/-- Abstract values. -/
inductive AV where
  | top
  | bool (b : Bool)
  | int (k : IntKind) (n : Int)
  | val (v : Value)
  | agg (cs : List AV)
  | tup (vs : List AV)
  | sl (n : Nat) (cols : List Col)
  | emp (e : TypeId) (cols : List Col)
  | own (e : TypeId) (n : Nat) (cols : List Col)
  | full (id : Nat)
  | osl (id off n : Nat)
  | ptr (id idx off : Nat)
  | ip (cells : List AV)
  | mp (id : Nat)
  | it (id : Nat)
  | fn (f : Fn) (first cap : List AV)
  | ifc (t : TypeId) (v : AV)
  | cond (j : Nat) (b : Bool) (v : AV)
  | mapv (keys : List Int) (cols : List Col) (one : Bool)
  | omap (keys : List Int) (cols : List Col) (one : Bool)

/-- Abstract objects of the call's own. -/
inductive AObj where
  | dead
  | row (e : TypeId) (n : Nat) (cols : List Col)
  | var (cells : List AV)
  | map (es : List (Int × AV))
  | tmap (keys : List Int) (cols : List Col) (one : Bool)
  | iter (keys : List Int) (cols : List Col) (one : Bool) (left : List Nat) (cur : Option Nat)

abbrev Heap := List (Option AObj)

structure St where
  T : List AV
  H : Heap

/-- What one operation does: what must hold, its value, the objects that it reads, and what it writes. -/
structure Eff where
  obl : Option Bool
  val : AV
  reads : List Nat := []
  writes : List (Nat × AObj) := []

abbrev Summ := List AV → Heap → Nat → Option Eff

/- Leaf words: all that is reckoned of what a call was given stands in these. -/
def iadd (k : IntKind) (a b : Int) : Int := k.wrap (a + b)
def isub (k : IntKind) (a b : Int) : Int := k.wrap (a - b)
def imul (k : IntKind) (a b : Int) : Int := k.wrap (a * b)
def iquo (k : IntKind) (a b : Int) : Int := k.wrap (a.tdiv b)
def irem (a b : Int) : Int := a.tmod b
def ineg (k : IntKind) (a : Int) : Int := k.wrap (0 - a)
def icnv (k : IntKind) (a : Int) : Int := k.wrap a
def ishl (k : IntKind) (a b : Int) : Int := k.wrap (a * 2 ^ (min b.toNat k.bits))
def ishr (k : IntKind) (a b : Int) : Int := a.fdiv (2 ^ (min b.toNat k.bits))
def imin (x y : Int) : Int := if y < x then y else x
def imax (x y : Int) : Int := if y > x then y else x
def iite (c : Bool) (x y : Int) : Int := bif c then x else y
def ieq (a b : Int) : Bool := a == b
def ine (a b : Int) : Bool := a != b
def ilt (a b : Int) : Bool := decide (a < b)
def ile (a b : Int) : Bool := decide (a ≤ b)
def igt (a b : Int) : Bool := decide (a > b)
def ige (a b : Int) : Bool := decide (a ≥ b)
def beq2 (a b : Bool) : Bool := a == b
def bnot (a : Bool) : Bool := !a
def band (a b : Bool) : Bool := a && b
def bite (c x y : Bool) : Bool := bif c then x else y
def bimp (c x : Bool) : Bool := bif c then x else true
def ofN (n : Nat) : Int := n
def nOf (i : Int) : Nat := i.toNat
def nAdd (a b : Nat) : Nat := a + b
def nDiff (h l : Int) : Nat := (h - l).toNat
def nMin (a b : Nat) : Nat := min a b
def nMax (a b : Nat) : Nat := max a b
def nlt (a b : Nat) : Bool := decide (a < b)
def nle (a b : Nat) : Bool := decide (a ≤ b)
def neq (a b : Nat) : Bool := decide (a = b)
def gI (l : List Int) (i : Nat) : Int := l.getD i 0
def gB (l : List Bool) (i : Nat) : Bool := l.getD i false
def gL (l : List (List Int)) (i : Nat) : List Int := l.getD i []
def lenI (l : List Int) : Nat := l.length
def rI (n : Nat) : List Int := List.replicate n 0
def rB (n : Nat) : List Bool := List.replicate n false
def rL (n : Nat) : List (List Int) := List.replicate n []
def pt {α : Type} (l : List α) (a n : Nat) : List α := (l.drop a).take n
def put {α : Type} (l : List α) (i : Nat) (x : α) : List α := l.set i x
def cat {α : Type} (l m : List α) : List α := l ++ m
/-- ys over xs from a on. -/
def ovr {α : Type} (xs : List α) (a : Nat) (ys : List α) : List α := xs.take a ++ ys ++ xs.drop (a + ys.length)

/- Maps by keys that are ints, each once: its elements are rows over the keys' places. -/
def mhas (ks : List Int) (k : Int) : Bool := ks.contains k
def mkey (ks : List Int) (k : Int) : List Int := if ks.contains k then ks else ks ++ [k]
def mput {α : Type} (ks : List Int) (l : List α) (k : Int) (x : α) : List α := if ks.contains k then l.set (ks.idxOf k) x else l ++ [x]
def mI (ks l : List Int) (k : Int) : Int := l.getD (ks.idxOf k) 0
def mB (ks : List Int) (l : List Bool) (k : Int) : Bool := l.getD (ks.idxOf k) false
def mdel (ks : List Int) (k : Int) : List Int := ks.eraseIdx (ks.idxOf k)
def mcut {α : Type} (ks : List Int) (l : List α) (k : Int) : List α := l.eraseIdx (ks.idxOf k)
def nUp (n : Nat) : List Nat := List.range n
def nNil (l : List Nat) : Bool := l.isEmpty
def nIn (i : Nat) (l : List Nat) : Bool := l.contains i
def nDel (l : List Nat) (i : Nat) : List Nat := l.filter fun j => j != i

def Col.len : Col → Nat
  | .int _ l => l.length
  | .bool l => l.length
  | .ints _ l => l.length

def Col.get : Col → Nat → AV
  | .int k l, i => .int k (gI l i)
  | .bool l, i => .bool (gB l i)
  | .ints k l, i => .sl (lenI (gL l i)) [.int k (gL l i)]

def Col.set : Col → Nat → AV → Option Col
  | .int k l, i, .int k' n => if k = k' then some (.int k (put l i n)) else none
  | .bool l, i, .bool b => some (.bool (put l i b))
  | .ints k l, i, .sl _ [.int k' x] => if k = k' then some (.ints k (put l i x)) else none
  | .ints k l, i, .emp _ _ => some (.ints k (put l i []))
  | _, _, _ => none

def Col.part : Col → Nat → Nat → Col
  | .int k l, a, n => .int k (pt l a n)
  | .bool l, a, n => .bool (pt l a n)
  | .ints k l, a, n => .ints k (pt l a n)

def Col.over : Col → Nat → Col → Option Col
  | .int k l, a, .int k' m => if k = k' then some (.int k (ovr l a m)) else none
  | .bool l, a, .bool m => some (.bool (ovr l a m))
  | .ints k l, a, .ints k' m => if k = k' then some (.ints k (ovr l a m)) else none
  | _, _, _ => none

def Col.join : Col → Col → Option Col
  | .int k l, .int k' m => if k = k' then some (.int k (cat l m)) else none
  | .bool l, .bool m => some (.bool (cat l m))
  | .ints k l, .ints k' m => if k = k' then some (.ints k (cat l m)) else none
  | _, _ => none

/-- Of a map's elements. -/
def Col.mget (ks : List Int) (k : Int) : Col → AV
  | .int q l => .int q (mI ks l k)
  | .bool l => .bool (mB ks l k)
  | .ints _ _ => .top

def Col.mput (ks : List Int) (k : Int) : Col → AV → Option Col
  | .int q l, .int q' n => if q = q' then some (.int q (Go.Own.mput ks l k n)) else none
  | .bool l, .bool b => some (.bool (Go.Own.mput ks l k b))
  | _, _ => none

def Col.mcut (ks : List Int) (k : Int) : Col → Col
  | .int q l => .int q (Go.Own.mcut ks l k)
  | .bool l => .bool (Go.Own.mcut ks l k)
  | .ints q l => .ints q l

def elemAt (cols : List Col) (one : Bool) (i : Nat) : AV := match one with
  | false => .agg (cols.map (·.get i))
  | true => match cols with
    | [c] => c.get i
    | _ => .top

def elemOf (ks : List Int) (cols : List Col) (one : Bool) (k : Int) : AV := match one with
  | false => .agg (cols.map (·.mget ks k))
  | true => match cols with
    | [c] => c.mget ks k
    | _ => .top

def Col.flat : Col → Bool
  | .ints _ _ => false
  | _ => true

/-- The same of spines. -/
def overL {α : Type} (xs : List α) (a : Nat) (ys : List α) : List α := xs.take a ++ ys ++ xs.drop (a + ys.length)

def Col.cons : AV → Col → Option Col
  | .int k' n, .int k l => if k = k' then some (.int k (n :: l)) else none
  | .bool b, .bool l => some (.bool (b :: l))
  | .sl _ [.int k' x], .ints k l => if k = k' then some (.ints k (x :: l)) else none
  | .emp _ _, .ints k l => some (.ints k ([] :: l))
  | _, _ => none

/-- A row of n zeros. -/
def Col.zeros : Col → Nat → Col
  | .int k _, n => .int k (rI n)
  | .bool _, n => .bool (rB n)
  | .ints k _, n => .ints k (rL n)

def Col.zero : Col → AV
  | .int k _ => .int k 0
  | .bool _ => .bool false
  | .ints k _ => .emp 0 [.int k []]

def zipAll {α β γ : Type} (f : α → β → Option γ) : List α → List β → Option (List γ)
  | [], [] => some []
  | a :: as, b :: bs => match f a b, zipAll f as bs with
    | some c, some cs => some (c :: cs)
    | _, _ => none
  | _, _ => none

def allSome {α : Type} : List (Option α) → Option (List α)
  | [] => some []
  | some a :: l => match allSome l with
    | some r => some (a :: r)
    | none => none
  | none :: _ => none

/-- The columns of an element type, empty. -/
def colsOf (P : Program) : Nat → TypeId → List Col
  | 0, _ => []
  | d + 1, t => match P.underlying t with
    | some (.int k) => [.int k []]
    | some .bool => [.bool []]
    | some (.struct fs) => fs.toList.flatMap fun f => colsOf P d f.type
    | some (.slice e) => match P.underlying e with
      | some (.int k) => [.ints k []]
      | _ => []
    | _ => []

/-- The zero cells of a type. -/
def zerosOf (P : Program) : Nat → TypeId → List AV
  | 0, _ => []
  | d + 1, t => match P.underlying t with
    | some (.int k) => [.int k 0]
    | some .bool => [.bool false]
    | some (.slice e) => [.emp e (colsOf P 9 e)]
    | some (.struct fs) => fs.toList.flatMap fun f => zerosOf P d f.type
    | some (.pointer _) => [.val (.pointer none)]
    | some (.func _ _ _) => [.val .nilFunc]
    | some (.interface _) => [.val .nilIface]
    | some (.map _ _) => [.val (.map none)]
    | _ => []

/-- Whether an abstract value without addresses is this value. -/
def isVal : AV → Value → Bool
  | .int k n, .int k' n' => k == k' && n == n'
  | .bool b, .bool b' => b == b'
  | .emp _ cols, .slice none 0 0 => cols.all fun c => c.len == 0
  | .val (.pointer none), .pointer none => true
  | .val .nilFunc, .nilFunc => true
  | .val .nilIface, .nilIface => true
  | .val (.map none), .map none => true
  | _, _ => false

def areVals : List AV → List Value → Bool
  | [], [] => true
  | a :: as, v :: vs => isVal a v && areVals as vs
  | _, _ => false

def isAggT (P : Program) (t : TypeId) : Bool := match P.underlying t with
  | some (.struct _) | some (.array _ _) => true
  | _ => false

/-- A map by ints whose elements are ints or bools, or structs of such: its columns, and whether an element is one cell. -/
def mapT (P : Program) (t : TypeId) : Option (List Col × Bool) := match P.underlying t with
  | some (.map k e) => match P.underlying k with
    | some (.int .i64) => if (colsOf P 9 e).all Col.flat then (match isAggT P e, colsOf P 9 e with
      | false, [c] => some ([c], true)
      | true, c :: cs => some (c :: cs, false)
      | _, _ => none) else none
    | _ => none
  | _ => none

/-- The zero of a map's elements, held against the program's own. -/
def zeroElem (P : Program) (t : TypeId) (cols : List Col) (one : Bool) : Bool := match P.underlying t with
  | some (.map _ e) => match (P.info? e).bind (·.zero), one with
    | some (.agg vs), false => areVals (cols.map Col.zero) vs.toList
    | some v, true => areVals (cols.map Col.zero) [v]
    | _, _ => false
  | _ => false

def putAll (ks : List Int) (cols : List Col) (k : Int) (one : Bool) (v : AV) : Option (List Col) := match one, v with
  | true, v => zipAll (fun c x => c.mput ks k x) cols [v]
  | false, .agg vs => zipAll (fun c x => c.mput ks k x) cols vs
  | _, _ => none

/-- How many cells a variable of a type has, where the type is known. -/
def szOf (P : Program) (t : TypeId) : Option Nat := match P.info? t, P.underlying t with
  | some i, some _ => some i.size
  | _, _ => none

/-- The zero cells, held against the program's own. -/
def zeroCellsOf (P : Program) (t : TypeId) : Option (List AV) :=
  match (P.info? t).bind (·.zero) with
  | some v => if areVals (zerosOf P 9 t) v.cells.toList && v.cells.toList.length == P.cellsOf t then some (zerosOf P 9 t) else none
  | none => none

/-- A value of cells: an aggregate, or the one cell. -/
def wrap (P : Program) (t : TypeId) (cs : List AV) : Option AV :=
  if isAggT P t then some (.agg cs) else match cs with
    | [a] => some a
    | _ => none

/-- What fits in one cell. -/
def leafAV : AV → Bool
  | .top => false
  | .agg _ => false
  | .tup _ => false
  | .own _ _ _ => false
  | .omap _ _ _ => false
  | .cond _ _ _ => false
  | .val v => v.oneCell'
  | _ => true

def cellsOfAV : AV → Option (List AV)
  | .agg cs => if cs.all leafAV then some cs else none
  | a => if leafAV a then some [a] else none

/-- A constant as an operand, of a type. -/
def ofConst (P : Program) (t : TypeId) : Value → AV
  | .bool b => .bool b
  | .int k n => .int k n
  | .slice none 0 0 => match P.underlying t with
    | some (.slice e) => .emp e (colsOf P 9 e)
    | _ => .top
  | .pointer none => .val (.pointer none)
  | .nilFunc => .val .nilFunc
  | .nilIface => .val .nilIface
  | .map none => .val (.map none)
  | _ => .top

/-- An operand; what is told under the guard g is told plainly. -/
def plainUnder (g : Option (Nat × Bool)) : AV → AV
  | .cond j b v => match g with
    | some (j', b') => if j = j' ∧ b = b' then v else .top
    | none => .top
  | v => v

def opd (P : Program) (T : List AV) (g : Option (Nat × Bool)) (t : TypeId) : Operand → AV
  | .tmp i => plainUnder g (T.getD i .top)
  | .const v => ofConst P t v
  | .func f => .fn (.func f) [] []
  | .global _ => .top

def Heap.at (H : Heap) (id : Nat) : Option AObj := match H[id]? with
  | some (some o) => some o
  | _ => none

def setAt (H : Heap) : Nat → AObj → Heap
  | id, o => match H with
    | [] => List.replicate id none ++ [some o]
    | x :: H' => match id with
      | 0 => some o :: H'
      | id + 1 => x :: setAt H' id o

def writeAll (H : Heap) : List (Nat × AObj) → Heap
  | [] => H
  | (id, o) :: ws => writeAll (setAt H id o) ws

def setT (T : List AV) (d : Option Nat) (v : AV) : List AV := match d with
  | none => T
  | some d => (T.map fun
    | .cond j b w => if j = d then .top else .cond j b w
    | w => w).set d v

/-- n cells behind an address. -/
def readCells (H : Heap) (n : Nat) : AV → Option (Option Bool × List AV × List Nat)
  | .ip cells => if cells.length < n then none else some (none, cells.take n, [])
  | .ptr id idx off => match H.at id with
    | some (.var cs) => if cs.length < off + n then none else match idx with
      | 0 => some (none, (cs.drop off).take n, [id])
      | _ => none
    | some (.row _ k cols) => if cols.length < off + n then none else some (some (nlt idx k), ((cols.map (·.get idx)).drop off).take n, [id])
    | _ => none
  | _ => none

/-- A slice's cells: its length, and its columns; and what is read. -/
def sliceOf (H : Heap) : AV → Option (Nat × List Col × List Nat)
  | .sl n cols => some (n, cols, [])
  | .emp _ cols => some (0, cols, [])
  | .full id => match H.at id with
    | some (.row _ n cols) => some (n, cols, [id])
    | _ => none
  | .osl id off n => match H.at id with
    | some (.row _ _ cols) => some (n, cols.map (·.part off n), [id])
    | _ => none
  | _ => none

/-- One int, one bool. -/
def asB : AV → Option Bool
  | .bool b => some b
  | _ => none

def arith (op : BinOp) (k : IntKind) (a b : Int) : Option (Option Bool × AV) :=
  match op with
  | .add => some (none, .int k (iadd k a b))
  | .sub => some (none, .int k (isub k a b))
  | .mul => some (none, .int k (imul k a b))
  | .quo => some (some (ine b 0), .int k (iquo k a b))
  | .rem => some (some (ine b 0), .int k (irem a b))
  | .eql => some (none, .bool (ieq a b))
  | .neq => some (none, .bool (ine a b))
  | .lss => some (none, .bool (ilt a b))
  | .leq => some (none, .bool (ile a b))
  | .gtr => some (none, .bool (igt a b))
  | .geq => some (none, .bool (ige a b))
  | _ => none

/-- Whether two structs of ints (true) and bools (false) are the same. -/
def sameCells : List Bool → List AV → List AV → Option Bool
  | [], [], [] => some true
  | true :: ks, .int k a :: as, .int k' b :: bs => if k = k' then match sameCells ks as bs with
      | some r => some (band (ieq a b) r)
      | none => none
    else none
  | false :: ks, .bool a :: as, .bool b :: bs => match sameCells ks as bs with
      | some r => some (band (beq2 a b) r)
      | none => none
  | _, _, _ => none

/-- A struct type of ints and bools alone (and structs of such), whose cells lie in the order of its fields: of which sort each is. -/
def flatT (P : Program) : Nat → TypeId → Option (List Bool)
  | 0, _ => none
  | d + 1, t => match P.underlying t with
    | some (.int _) => some [true]
    | some .bool => some [false]
    | some (.struct fs) => if P.stoodInHeld t then none else flatFs (fun t => flatT P d t) P fs.toList 0
    | _ => none
where
  flatFs (ft : TypeId → Option (List Bool)) (P : Program) : List Field → Nat → Option (List Bool)
    | [], _ => some []
    | f :: fs, a => match ft f.type with
      | some ks => if f.offset = a ∧ (f.name == "_") = false ∧ szOf P f.type = some ks.length then match flatFs ft P fs (a + ks.length) with
        | some r => some (ks ++ r)
        | none => none
        else none
      | none => none

def flatOk (P : Program) (t : TypeId) : Option (List Bool) := if 9 ≤ P.depth ∧ isAggT P t = true then flatT P 9 t else none

def binop (P : Program) (op : BinOp) (t : TypeId) (x y : AV) : Option (Option Bool × AV) :=
  match op, x, y with
  | .shl, .int k a, .int _ b => some (some (ile 0 b), .int k (ishl k a b))
  | .shr, .int k a, .int _ b => some (some (ile 0 b), .int k (ishr k a b))
  | _, .int k a, .int k' b => if k = k' then arith op k a b else none
  | .eql, .bool a, .bool b => if P.underlying t matches some .bool then some (none, .bool (beq2 a b)) else none
  | .neq, .bool a, .bool b => if P.underlying t matches some .bool then some (none, .bool (bnot (beq2 a b))) else none
  | .eql, .agg a, .agg b => match flatOk P t with
    | some ks => match sameCells ks a b with
      | some r => some (none, .bool r)
      | none => none
    | none => none
  | .neq, .agg a, .agg b => match flatOk P t with
    | some ks => match sameCells ks a b with
      | some r => some (none, .bool (bnot r))
      | none => none
    | none => none
  | _, _, _ => none

/-- Fields of a struct type: where one lies. -/
def fieldOf (P : Program) (s : TypeId) (f : Nat) : Option (Nat × TypeId) :=
  match P.underlying s with
  | some (.struct fs) => match fs[f]? with
    | some f => if P.cellsOf f.type = 0 then none else some (f.offset, f.type)
    | none => none
  | _ => none

/-- The places of a struct's parts, filled. -/
def fillAV (place : Nat → Option (Nat × Nat)) (cells : List AV) : List (Nat × AV) → Option (List AV)
  | [] => some cells
  | (i, v) :: rest => match place i, cellsOfAV v with
    | some (off, size), some cs => if cs.length = size ∧ off + size ≤ cells.length then fillAV place (overL cells off cs) rest else none
    | _, _ => none

/-- A row of elements, each told by its cells, as columns over the zero columns. -/
def rowOf : List Col → List (List AV) → Option (List Col)
  | zs, [] => some zs
  | zs, c :: cs => match rowOf zs cs with
    | some y => zipAll Col.cons c y
    | none => none

/-- A bound on what is made at once. -/
def room : Nat := 2 ^ 30

/-- The longest row of a type that takes no more memory than there is. -/
def wide (P : Program) (e : TypeId) : Nat := 2 ^ 47 / P.bytesOf e

def elemOk (P : Program) (e : TypeId) : Bool := decide (P.bytesOf e ≤ 2 ^ 12) && decide (P.cellsOf e = (colsOf P 9 e).length) && decide (0 < P.cellsOf e) && (zeroCellsOf P e).isSome && areVals ((colsOf P 9 e).map Col.zero) (((P.info? e).bind (·.zero)).getD (.bool false)).cells.toList

/-- What may be told to a pure call: what is the caller's own is told as it stands. -/
def pureLeaf0 (H : Heap) : AV → Option (AV × List Nat)
  | .int k n => some (.int k n, [])
  | .bool b => some (.bool b, [])
  | .sl n cols => some (.sl n cols, [])
  | .emp _ cols => some (.sl 0 cols, [])
  | .full id => match H.at id with
    | some (.row _ n cols) => some (.sl n cols, [id])
    | _ => none
  | .osl id off n => match H.at id with
    | some (.row _ _ cols) => some (.sl n (cols.map (·.part off n)), [id])
    | _ => none
  | .mapv ks cols one => some (.mapv ks cols one, [])
  | .mp id => match H.at id with
    | some (.tmap ks cols one) => some (.mapv ks cols one, [id])
    | _ => none
  | _ => none

def mapIds {α β : Type} (f : α → Option (β × List Nat)) : List α → Option (List β × List Nat)
  | [] => some ([], [])
  | a :: as => match f a, mapIds f as with
    | some (x, ids), some (xs, ids') => some (x :: xs, ids ++ ids')
    | _, _ => none

def pureLeaf (H : Heap) : AV → Option (AV × List Nat)
  | .val v => some (.val v, [])
  | .ip cells => match mapIds (pureLeaf0 H) cells with
    | some (cs, ids) => some (.ip cs, ids)
    | none => none
  | .ptr id 0 0 => match H.at id with
    | some (.var cells) => match mapIds (pureLeaf0 H) cells with
      | some (cs, ids) => some (.ip cs, id :: ids)
      | none => none
    | _ => none
  | a => pureLeaf0 H a

def pureArg (H : Heap) : AV → Option (AV × List Nat)
  | .agg cs => match mapIds (pureLeaf0 H) cs with
    | some (r, ids) => some (.agg r, ids)
    | none => none
  | .fn f a b => match mapIds (pureLeaf H) a, mapIds (pureLeaf H) b with
    | some (x, ids), some (y, ids') => some (.fn f x y, ids ++ ids')
    | _, _ => none
  | a => pureLeaf H a

def pureArgs (H : Heap) : List AV → Option (List AV × List Nat) := mapIds (pureArg H)

/-- Nothing in it leads to memory that stood before: numbers, bools, what is new. -/
def freshLeaf : AV → Bool
  | .int _ _ => true
  | .bool _ => true
  | .own _ _ cols => cols.all Col.flat
  | .omap _ _ _ => true
  | .sl 0 _ => true
  | .val _ => true
  | _ => false

def freshAV : AV → Bool
  | .agg cs => cs.all freshLeaf
  | .tup vs => vs.all fun | .agg cs => cs.all freshLeaf | v => freshLeaf v
  | v => freshLeaf v

/-- What came back from a pure call: what is new becomes the caller's own, from the id fr on. -/
def adoptLeaf (fr : Nat) : AV → AV × List (Nat × AObj)
  | .own e n cols => (.full fr, [(fr, .row e n cols)])
  | .omap ks cols one => (.mp fr, [(fr, .tmap ks cols one)])
  | v => (v, [])

def adoptList (fr : Nat) : List AV → List AV × List (Nat × AObj)
  | [] => ([], [])
  | v :: vs => ((adoptLeaf fr v).1 :: (adoptList (fr + 1) vs).1, (adoptLeaf fr v).2 ++ (adoptList (fr + 1) vs).2)

def adoptCells (fr : Nat) : AV → AV × List (Nat × AObj)
  | .agg cs => (.agg (adoptList fr cs).1, (adoptList fr cs).2)
  | v => adoptLeaf fr v

def adoptTup (fr : Nat) : List AV → List AV × List (Nat × AObj)
  | [] => ([], [])
  | v :: vs => ((adoptCells fr v).1 :: (adoptTup (fr + 32) vs).1, (adoptCells fr v).2 ++ (adoptTup (fr + 32) vs).2)

def adopt (fr : Nat) : AV → AV × List (Nat × AObj)
  | .tup vs => (.tup (adoptTup fr vs).1, (adoptTup fr vs).2)
  | v => adoptCells fr v

def rowType (P : Program) (t : TypeId) : Option TypeId := match P.underlying t with
  | some (.slice e) => some e
  | _ => none

/-- Append: to a whole row of the call's own, which is another one then, or to an empty slice that holds no memory; within a row, over what lies there. -/
def appendEff (P : Program) (t : TypeId) (H : Heap) (fr : Nat) (a b : AV) : Option Eff :=
  match rowType P t, sliceOf H b with
  | some e, some (m, ys, rd) => if elemOk P e then match a with
    | .emp _ _ => match zipAll Col.join (colsOf P 9 e) ys with
      | some zs => some { obl := some (nle m (wide P e)), val := .full fr, reads := rd, writes := [(fr, .row e m zs)] }
      | none => none
    | .full id => match H.at id with
      | some (.row e' n cols) => if e = e' ∧ cols.length = (colsOf P 9 e).length then match zipAll Col.join cols ys with
        | some zs => some { obl := some (nle (nAdd n m) (wide P e)), val := .full fr, reads := id :: rd, writes := [(id, .dead), (fr, .row e (nAdd n m) zs)] }
        | none => none
        else none
      | _ => none
    | .osl id off n => match H.at id with
      | some (.row e' k cols) => if e = e' ∧ cols.length = (colsOf P 9 e).length then match zipAll (fun c y => c.over (nAdd off n) y) cols ys with
        | some zs => some { obl := some (nle (nAdd (nAdd off n) m) k), val := .osl id off (nAdd n m), reads := id :: rd, writes := [(id, .row e k zs)] }
        | none => none
        else none
      | _ => none
    | _ => none
    else none
  | _, _ => none

def copyEff (P : Program) (t : TypeId) (H : Heap) (a b : AV) : Option Eff :=
  match a, rowType P t, sliceOf H b with
  | .full id, some e', some (m, ys, rd) => match H.at id with
    | some (.row e n cols) => if e = e' ∧ elemOk P e = true ∧ cols.length = (colsOf P 9 e).length then match zipAll (fun c y => c.over 0 (y.part 0 (nMin m n))) cols ys with
      | some zs => some { obl := none, val := .int .i64 (ofN (nMin m n)), reads := id :: rd, writes := [(id, .row e n zs)] }
      | none => none
      else none
    | _ => none
  | _, _, _ => none

/-- A bound of a slice expression: a number, or what stands for none. -/
def boundAV (P : Program) (T : List AV) (g : Option (Nat × Bool)) (o : Option Operand) (d : Int) : Option Int := match o with
  | none => some d
  | some y => match opd P T g 3 y with
    | .int _ n => some n
    | _ => none

def sliceEff (P : Program) (T : List AV) (g : Option (Nat × Bool)) (H : Heap) (t : TypeId) (x : AV) (lo hi mx : Option Operand) : Option Eff :=
  match rowType P t with
  | none => none
  | some e => match x with
    | .sl n cols => if szOf P e = some cols.length then match boundAV P T g lo 0, boundAV P T g hi (ofN n), mx with
      | some l, some h, none => some { obl := some (band (ile 0 l) (band (ile l h) (ile h (ofN n)))), val := .sl (nDiff h l) (cols.map (·.part (nOf l) (nDiff h l))) }
      | _, _, _ => none
      else none
    | .emp e' cols => match szOf P e, boundAV P T g lo 0, boundAV P T g hi (ofN 0), mx with
      | some _, some l, some h, none => some { obl := some (band (ieq l 0) (ieq h 0)), val := .emp e' cols }
      | _, _, _, _ => none
    | .full id => match H.at id with
      | some (.row _ k cols) => if szOf P e = some cols.length then match boundAV P T g hi (ofN k), mx with
        | some h, none => match lo with
          | none => some { obl := some (band (ile 0 h) (ile h (ofN k))), val := .osl id 0 (nOf h), reads := [id] }
          | some l => match boundAV P T g (some l) 0 with
            | some l => some { obl := some (band (ile 0 l) (band (ile l h) (ile h (ofN k)))), val := .osl id (nOf l) (nDiff h l), reads := [id] }
            | none => none
        | some h, some m => match boundAV P T g lo 0, boundAV P T g (some m) 0, hi with
          | some l, some m, some _ => some { obl := some (band (ile 0 l) (band (ile l h) (band (ile h m) (ile m (ofN k))))), val := .top, reads := [id] }
          | _, _, _ => none
        | _, _ => none
        else none
      | _ => none
    | .osl id off n => match H.at id with
      | some (.row _ k cols) => if szOf P e = some cols.length then match boundAV P T g lo 0, boundAV P T g hi (ofN n), mx with
        | some l, some h, none => some { obl := some (band (ile 0 l) (band (ile l h) (nle (nAdd off (nOf h)) k))), val := .osl id (nAdd off (nOf l)) (nDiff h l), reads := [id] }
        | _, _, _ => none
        else none
      | _ => none
    | _ => none

/-- The zero columns of a row that is filled. -/
def zerosRow (P : Program) (e : TypeId) (n : Nat) : List Col := (colsOf P 9 e).map fun c => c.zeros n

def partsOf (P : Program) (T : List AV) (g : Option (Nat × Bool)) (ts : Nat → TypeId) (ps : Array (Nat × Operand)) : List (Nat × AV) :=
  ps.toList.map fun (i, x) => (i, opd P T g (ts i) x)

def fieldType (P : Program) (t : TypeId) (i : Nat) : TypeId := match P.underlying t with
  | some (.struct fs) => (fs[i]?.map (·.type)).getD 0
  | some (.array _ e) => e
  | some (.slice e) => e
  | _ => 0

/-- The places of the parts of a struct, or of an array. -/
def placesOf (P : Program) (t : TypeId) : Option (Nat → Option (Nat × Nat)) := match P.underlying t with
  | some (.array _ e) => match P.info? e with
    | some ie => some fun i => some (i * ie.size, ie.size)
    | none => none
  | some (.struct fields) => match fields.toList.mapM (fun f => (P.info? f.type).map fun i => (f.offset, i.size)) with
    | some places => some (places.toArray[·]?)
    | none => none
  | _ => none

/-- A row's elements by their places: one of each, in order. -/
def partsInOrder : Nat → List (Nat × AV) → Option (List (List AV))
  | _, [] => some []
  | i, (j, v) :: rest => if i = j then match cellsOfAV v, partsInOrder (i + 1) rest with
    | some c, some cs => some (c :: cs)
    | _, _ => none
    else none

/-- The method of a concrete type that is a pointer's, found at once. -/
def methodOf (P : Program) (t : TypeId) (name : String) : Option FuncId :=
  match P.info? t with
  | some i => match i.methods.find? (·.name == name) with
    | some m => match m.path.toList, m.func, P.underlying t with
      | [], some (f, true), some (.pointer _) => some f
      | _, _, _ => none
    | none => none
  | none => none

/-- Whom a call enters, and with what. -/
def calleeOf (P : Program) (T : List AV) (g : Option (Nat × Bool)) (c : Call) : Option (FuncId × List AV) :=
  let args := (c.args.toList.zip (c.argTypes.toList ++ List.replicate c.args.size 0)).map fun (x, t) => opd P T g t x
  match c.callee with
  | .value f => match opd P T g 0 f with
    | .fn (.func k) first cap => some (k, first ++ args ++ cap)
    | _ => none
  | .invoke r name => match opd P T g 0 r with
    | .ifc t v => match methodOf P t name with
      | some f => some (f, v :: args)
      | none => none
    | _ => none
  | .builtin _ => none

def argOf (P : Program) (T : List AV) (g : Option (Nat × Bool)) (c : Call) (i : Nat) : AV := match c.args[i]?, c.argTypes[i]? with
  | some x, some t => opd P T g t x
  | _, _ => .top

def builtinEff (P : Program) (T : List AV) (H : Heap) (fr : Nat) (g : Option (Nat × Bool)) (b : Builtin) (c : Call) : Option Eff :=
  match b, c.args.size with
  | .len, 1 => match argOf P T g c 0, (c.argTypes[0]?).bind P.underlying with
    | .sl n _, some (.slice _) => some { obl := none, val := .int .i64 (ofN n) }
    | .emp _ _, some (.slice _) => some { obl := none, val := .int .i64 0 }
    | .full id, some (.slice _) => match H.at id with
      | some (.row _ n _) => some { obl := none, val := .int .i64 (ofN n), reads := [id] }
      | _ => none
    | .osl _ _ n, some (.slice _) => some { obl := none, val := .int .i64 (ofN n) }
    | _, _ => none
  | .min, 2 => match argOf P T g c 0, argOf P T g c 1 with
    | .int k x, .int _ y => some { obl := none, val := .int k (imin x y) }
    | _, _ => none
  | .max, 2 => match argOf P T g c 0, argOf P T g c 1 with
    | .int k x, .int _ y => some { obl := none, val := .int k (imax x y) }
    | _, _ => none
  | .append, 2 => match c.argTypes[0]?, (c.argTypes[1]?).bind P.underlying with
    | some t, some (.slice _) => appendEff P t H fr (argOf P T g c 0) (argOf P T g c 1)
    | _, _ => none
  | .copy, 2 => match (c.argTypes[0]?).bind P.underlying with
    | some (.slice _) => copyEff P (c.argTypes.getD 0 0) H (argOf P T g c 0) (argOf P T g c 1)
    | _ => none
  | .clear, 1 => match argOf P T g c 0, (c.argTypes[0]?).bind P.underlying with
    | .osl id off n, some (.slice e) => match H.at id with
      | some (.row e' k cols) => if e = e' ∧ elemOk P e = true then match zipAll (fun c y => c.over off y) cols (zerosRow P e n) with
        | some zs => some { obl := some (nle (nAdd off n) k), val := .top, reads := [id], writes := [(id, .row e k zs)] }
        | none => none
        else none
      | _ => none
    | _, _ => none
  | .delete, 2 => match argOf P T g c 0, argOf P T g c 1 with
    | .mp id, .int .i64 n => match H.at id, (c.argTypes[0]?).bind (mapT P) with
      | some (.tmap ks cols one), some _ => if cols.all Col.flat then some { obl := none, val := .top, reads := [id], writes := [(id, .tmap (mdel ks n) (cols.map (·.mcut ks n)) one)] } else none
      | _, _ => none
    | _, _ => none
  | _, _ => none

/-- A map whose keys are ints. -/
def isIntMap (P : Program) (t : TypeId) : Bool := match P.underlying t with
  | some (.map k _) => match P.underlying k with
    | some (.int _) => true
    | _ => false
  | _ => false

/-- No entry has this key. -/
def allNe (n : Int) : List (Int × AV) → Bool
  | [] => true
  | (k, _) :: es => band (ine k n) (allNe n es)

def opEff (P : Program) (S : FuncId → Option Summ) (T : List AV) (H : Heap) (fr : Nat) (g : Option (Nat × Bool)) (o : Oper) : Option Eff :=
  let ev := opd P T g
  match o.op with
  | .move x | .assign x => match ev o.type x with
    | .top => none
    | v => some { obl := none, val := v }
  | .pick (.tmp j) a b => match plainUnder g (T.getD j .top), opd P T (some (j, true)) o.type a, opd P T (some (j, false)) o.type b with
    | .bool c, .bool x, .bool y => some { obl := none, val := .bool (bite c x y) }
    | .bool c, .int k x, .int k' y => if k = k' then some { obl := none, val := .int k (iite c x y) } else none
    | .bool c, .top, y => some { obl := some (bnot c), val := y }
    | .bool c, x, .top => some { obl := some c, val := x }
    | _, _, _ => none
  | .alloc t => match zeroCellsOf P t with
    | some cs => some { obl := none, val := .ptr fr 0 0, writes := [(fr, .var cs)] }
    | none => none
  | .box t x => match cellsOfAV (ev t x) with
    | some cs => some { obl := none, val := .ptr fr 0 0, writes := [(fr, .var cs)] }
    | none => none
  | .build t ps => match zeroCellsOf P t, placesOf P t with
    | some z, some pl => match fillAV pl z (partsOf P T g (fieldType P t) ps) with
      | some cs => some { obl := none, val := .agg cs }
      | none => none
    | _, _ => none
  | .buildSlice t n ps => match rowType P t, partsInOrder 0 (partsOf P T g (fieldType P t) ps) with
    | some e, some cs => if elemOk P e = true ∧ cs.length = n ∧ n * P.cellsOf e ≤ 2 ^ 24 ∧ (cs.all fun x => x.length == (colsOf P 9 e).length) = true then match rowOf (colsOf P 9 e) cs with
      | some cols => some { obl := none, val := .full fr, writes := [(fr, .row e n cols)] }
      | none => none
      else none
    | _, _ => none
  | .load t a => match szOf P t with
    | some n => match readCells H n (ev 0 a) with
      | some (b, cs, rd) => match wrap P t cs with
        | some v => some { obl := b, val := v, reads := rd }
        | none => none
      | none => none
    | none => none
  | .store t a x => match ev 0 a, cellsOfAV (ev t x) with
    | .ptr id idx off, some vs => if szOf P t = some vs.length then match H.at id with
      | some (.var cs) => if idx = 0 ∧ off + vs.length ≤ cs.length then some { obl := none, val := .top, reads := [id], writes := [(id, .var (overL cs off vs))] } else none
      | some (.row e k cols) => match zipAll (fun (c : Col) v => c.set idx v) ((cols.drop off).take vs.length) vs with
        | some ws => if off + vs.length ≤ cols.length then some { obl := some (nlt idx k), val := .top, reads := [id], writes := [(id, .row e k (overL cols off ws))] } else none
        | none => none
      | _ => none
      else none
    | _, _ => none
  | .nilCheck x => match ev 0 x with
    | .ptr id idx off => some { obl := none, val := .ptr id idx off }
    | .ip cs => some { obl := none, val := .ip cs }
    | .fn f a b => match f with
      | .func _ => some { obl := none, val := .fn f a b }
      | _ => none
    | _ => none
  | .binOp op t x y yt => match binop P op t (ev t x) (ev yt y) with
    | some (b, v) => some { obl := b, val := v }
    | none => none
  | .unOp .not _ x => match ev o.type x with
    | .bool b => some { obl := none, val := .bool (bnot b) }
    | _ => none
  | .unOp .neg _ x => match ev o.type x with
    | .int k n => some { obl := none, val := .int k (ineg k n) }
    | _ => none
  | .convert src dst x => match P.underlying src, P.underlying dst, ev src x with
    | some (.int _), some (.int k), .int _ n => some { obl := none, val := .int k (icnv k n) }
    | _, _, _ => none
  | .makeInterface t x => match P.underlying t with
    | some (.interface _) => none
    | some _ => match ev t x with
      | .top => none
      | .cond _ _ _ => none
      | v => some { obl := none, val := .ifc t v }
    | none => none
  | .makeFunc (.func k) first cap => some { obl := none, val := .fn (.func k) (first.toList.map (ev 0)) (cap.toList.map (ev 0)) }
  | .makeSlice t l c => match rowType P t, ev 3 l, ev 3 c with
    | some e, .int _ n, .int _ m => if elemOk P e then some { obl := some (band (ile 0 n) (band (ile n (ofN room)) (ieq n m))), val := .full fr, writes := [(fr, .row e (nOf n) (zerosRow P e (nOf n)))] } else none
    | _, _, _ => none
  | .slice t x lo hi mx => sliceEff P T g H t (ev t x) lo hi mx
  | .fieldAddr s x f => match fieldOf P s f, ev 0 x with
    | some (o, _), .ptr id idx off => some { obl := none, val := .ptr id idx (off + o) }
    | some (o, _), .ip cs => some { obl := none, val := .ip (cs.drop o) }
    | _, _ => none
  | .field s x f => match fieldOf P s f, ev s x with
    | some (o, t), .agg cs => match szOf P t with
      | some n => if cs.length < o + n then none else match wrap P t ((cs.drop o).take n) with
        | some v => some { obl := none, val := v }
        | none => none
      | none => none
    | _, _ => none
  | .indexAddr t x i => match rowType P t, ev t x, ev 3 i with
    | some e, .sl n cols, .int _ i => if szOf P e = some cols.length then some { obl := some (band (ile 0 i) (ilt i (ofN n))), val := .ip (cols.map (·.get (nOf i))) } else none
    | some e, .full id, .int _ i => match H.at id with
      | some (.row _ n cols) => if szOf P e = some cols.length then some { obl := some (band (ile 0 i) (ilt i (ofN n))), val := .ptr id (nOf i) 0, reads := [id] } else none
      | _ => none
    | some e, .osl id off n, .int _ i => match H.at id with
      | some (.row _ _ cols) => if szOf P e = some cols.length then some { obl := some (band (ile 0 i) (ilt i (ofN n))), val := .ptr id (nAdd off (nOf i)) 0, reads := [id] } else none
      | _ => none
    | some _, .emp _ _, .int _ _ => some { obl := some false, val := .top }
    | _, _, _ => none
  | .extract x i => match ev 0 x with
    | .tup vs => match vs[i]? with
      | some .top => none
      | some v => some { obl := none, val := v }
      | none => none
    | _ => none
  | .typeAssert x _ t false => match P.underlying t, ev 0 x with
    | some (.interface _), _ => none
    | some _, .ifc t' v => if t = t' then some { obl := none, val := v } else none
    | _, _ => none
  | .makeMap t none => match mapT P t with
    | some (cols, one) => some { obl := none, val := .mp fr, writes := [(fr, .tmap [] cols one)] }
    | none => some { obl := none, val := .mp fr, writes := [(fr, .map [])] }
  | .range t x => match P.underlying t, ev 0 x with
    | some (.map _ _), .mapv ks cols one => some { obl := none, val := .it fr, writes := [(fr, .iter ks cols one (nUp (lenI ks)) none)] }
    | _, _ => none
  | .entry x => match ev 0 x with
    | .it id => match H.at id with
      | some (.iter ks cols one _ (some i)) => some { obl := none, val := .tup [.int .i64 (gI ks i), elemAt cols one i], reads := [id] }
      | _ => none
    | _ => none
  | .lookup t m k ok => match ev 0 m, ev 3 k with
    | .mp id, .int .i64 n => match H.at id with
      | some (.tmap ks cols one) => if zeroElem P t cols one && (mapT P t).isSome && cols.all Col.flat then some { obl := none, val := if ok then .tup [elemOf ks cols one n, .bool (mhas ks n)] else elemOf ks cols one n, reads := [id] } else none
      | _ => none
    | _, _ => none
  | .insert t m k v | .mapUpdate t m k v => if !isIntMap P t then none else match ev 0 m, ev 3 k, ev 0 v with
    | .mp id, .int .i64 n, v => match H.at id, v with
      | some (.tmap ks cols one), v => match putAll ks cols n one v with
        | some zs => some { obl := none, val := .top, reads := [id], writes := [(id, .tmap (mkey ks n) zs one)] }
        | none => none
      | some (.map es), .fn f a b => some { obl := some (allNe n es), val := .top, reads := [id], writes := [(id, .map (es ++ [(n, .fn f a b)]))] }
      | some (.map es), .agg cs => some { obl := some (allNe n es), val := .top, reads := [id], writes := [(id, .map (es ++ [(n, .agg cs)]))] }
      | _, _ => none
    | _, _, _ => none
  | .call c => match c.callee with
    | .builtin b => builtinEff P T H fr g b c
    | _ => match calleeOf P T g c with
      | some (k, args) => match S k with
        | some s => s args H fr
        | none => none
      | none => none
  | _ => none

def nodupB : List Nat → Bool
  | [] => true
  | x :: xs => !xs.contains x && nodupB xs

/-- A pure summary: what it must be given, and what it gives back. -/
abbrev Pure1 := List AV → Option (Option Bool × AV)

def pureSumm (F : Pure1) : Summ := fun args H fr =>
  match pureArgs H args with
  | some (as, rd) => match F as with
    | some (b, r) => if (rd.isEmpty || freshAV r) && nodupB ((adopt fr r).2.map (·.1)) && (adopt fr r).2.all (fun w => decide (fr ≤ w.1) && decide (w.1 < fr + 128)) then some { obl := b, val := (adopt fr r).1, reads := rd, writes := (adopt fr r).2 } else none
    | none => none
  | none => none

def isB (c want : Bool) : Bool := match want with
  | true => c
  | false => bnot c

/-- Whether an operation under a guard is done; the guard's own operation may stand under one. -/
def guardB (T : List AV) : Nat → Nat → Bool → Option Bool
  | 0, _, _ => none
  | n + 1, jt, want => match T.getD jt .top with
    | .bool c => some (isB c want)
    | .cond j b (.bool c) => match guardB T n j b with
      | some q => some (band q (isB c want))
      | none => none
    | _ => none

/-- The temporaries that a guard names. -/
def condNames (T : List AV) : Nat → Nat → List Nat
  | 0, _ => []
  | n + 1, jt => jt :: match T.getD jt .top with
    | .cond j _ _ => condNames T n j
    | _ => []

def asrt (b : Bool) (X : Prop) : Prop := match b with
  | true => X
  | false => False

def br (b : Bool) (X Y : Prop) : Prop := match b with
  | true => X
  | false => Y

def must (o : Option Bool) (X : Prop) : Prop := match o with
  | none => X
  | some b => asrt b X

inductive Ex where
  | normal
  | exit (id : Nat)
  | ret

abbrev CallF := FuncId → List AV → Heap → (AV → Heap → Prop) → Prop

def lookupBr (n : Int) (zero : AV) (ok : Bool) (Q : AV → Prop) : List (Int × AV) → Prop
  | [] => Q (if ok then .tup [zero, .bool false] else zero)
  | (k, v) :: es => br (ieq n k) (Q (if ok then .tup [v, .bool true] else v)) (lookupBr n zero ok Q es)

/-- The zero of a type, as a value. -/
def zeroOf (P : Program) (t : TypeId) : Option AV := match (P.info? t).bind (·.zero) with
  | some (.agg cs) => if areVals (zerosOf P 9 t) cs.toList then some (.agg (zerosOf P 9 t)) else none
  | some v => match zerosOf P 9 t with
    | [x] => if isVal x v then some x else none
    | _ => none
  | none => none

def isNil : Operand → Bool
  | .const (.slice none n c) => n == 0 && c == 0
  | _ => false

def eqNil (P : Program) (T : List AV) (H : Heap) (g : Option (Nat × Bool)) (t : TypeId) (x : Operand) (Q : AV → Heap → Prop) : Prop :=
  match rowType P t, opd P T g t x with
  | some _, .sl n _ => ∀ b : Bool, (b = true → n = 0) → Q (.bool b) H
  | _, _ => False

def lookupOp (P : Program) (T : List AV) (H : Heap) (g : Option (Nat × Bool)) (t : TypeId) (m k : Operand) (ok : Bool) (Q : AV → Heap → Prop) : Prop :=
  match P.underlying t, opd P T g 0 m, opd P T g 3 k with
  | some (.map kt e), .mp id, .int .i64 n => match P.underlying kt, H.at id, zeroOf P e with
    | some (.int .i64), some (.map es), some z => lookupBr n z ok (fun v => Q v H) es
    | _, _, _ => False
  | _, _, _ => False

/-- One step of a range over a map: whichever is left. -/
def nextOp (P : Program) (T : List AV) (H : Heap) (g : Option (Nat × Bool)) (x : Operand) (Q : AV → Heap → Prop) : Prop :=
  match opd P T g 0 x with
  | .it id => match H.at id with
    | some (.iter ks cols one left _) => br (nNil left) (Q (.tup [.bool false]) H) (∀ i : Nat, nIn i left = true → Q (.tup [.bool true, .int .i64 (gI ks i), elemAt cols one i]) (writeAll H [(id, .iter ks cols one (nDel left i) (some i))]))
    | _ => False
  | _ => False

/-- Operations that part the ways, or enter a function. -/
def special (P : Program) (callf : CallF) (T : List AV) (H : Heap) (g : Option (Nat × Bool)) (o : Oper) (Q : AV → Heap → Prop) : Prop :=
  match o.op with
  | .binOp op t x y _ => if op = .eql ∧ isNil y = true then eqNil P T H g t x Q else False
  | .lookup t m k ok => lookupOp P T H g t m k ok Q
  | .next x false => nextOp P T H g x Q
  | .call c => match calleeOf P T g c with
    | some (k, args) => callf k args H Q
    | none => False
  | _ => False

def runPlain (P : Program) (S : FuncId → Option Summ) (callf : CallF) (g : Option (Nat × Bool)) (o : Oper) (st : St) (Q : St → Prop) : Prop :=
  match opEff P S st.T st.H st.H.length g o with
  | some e => must e.obl (Q ⟨setT st.T o.dst e.val, writeAll st.H e.writes⟩)
  | none => special P callf st.T st.H g o fun v H' => Q ⟨setT st.T o.dst v, H'⟩

def guardTmp (ops : Array Oper) (j : Nat) : Option Nat := (ops[j]?).bind (·.dst)

/-- Where a guard is known not to hold. -/
def notT (T : List AV) (jt : Nat) (want : Bool) : List AV := match T.getD jt .top with
  | .bool _ => T.set jt (.bool (!want))
  | _ => T

def runOp (P : Program) (S : FuncId → Option Summ) (callf : CallF) (ops : Array Oper) (o : Oper) (st : St) (Q : St → Prop) : Prop :=
  match o.guard with
  | none => runPlain P S callf none o st Q
  | some (j, want) => match guardTmp ops j with
    | none => False
    | some jt => if o.dst = some jt then False else match guardB st.T 6 jt want with
      | some q => match opEff P S st.T st.H st.H.length (some (jt, want)) o with
        | some ⟨obl, v, _, []⟩ => must (obl.map fun x => bimp q x) (Q ⟨setT st.T o.dst (.cond jt want v), st.H⟩)
        | _ => br q (runPlain P S callf (some (jt, want)) o ⟨st.T.set jt (.bool want), st.H⟩ Q) (Q ⟨setT (notT st.T jt want) o.dst .top, st.H⟩)
      | _ => False

def runOps (P : Program) (S : FuncId → Option Summ) (callf : CallF) (ops : Array Oper) : List Oper → St → (St → Prop) → Prop
  | [], st, Q => Q st
  | o :: rest, st, Q => runOp P S callf ops o st fun st' => runOps P S callf ops rest st' Q

/-- What an operation of a drawn region does: with the temporaries that it names. -/
structure DEff where
  dst : Option Nat
  names : List Nat
  val : AV
  reads : List Nat
  writes : List (Nat × AObj)
  guard : Option (Nat × Option Nat)

def namesOf (ops : Array Oper) (T : List AV) (o : Oper) : List Nat :=
  (o.op.operands.toList.filterMap fun | .tmp t => some t | _ => none) ++ (match o.guard with
    | some (j, _) => (match guardTmp ops j with
      | some jt => condNames T 6 jt
      | none => [])
    | none => [])

def drawEff (P : Program) (S : FuncId → Option Summ) (ops : Array Oper) (fr : Nat) (o : Oper) (st : St) : Option Eff :=
  match o.guard with
  | none => opEff P S st.T st.H fr none o
  | some (j, want) => match guardTmp ops j with
    | none => none
    | some jt => match guardB st.T 6 jt want with
      | some q => match opEff P S st.T st.H fr (some (jt, want)) o with
        | some ⟨obl, v, rd, []⟩ => some { obl := obl.map fun x => bimp q x, val := .cond jt want v, reads := rd }
        | some ⟨obl, v, rd, w :: ws⟩ => some { obl := some (match obl with | none => q | some x => band q x), val := .cond jt want v, reads := rd, writes := w :: ws }
        | _ => none
      | _ => none

def disjoint (a b : List Nat) : Bool := a.all fun x => !b.contains x

def apartD (a b : DEff) : Bool :=
  disjoint a.dst.toList (b.dst.toList ++ b.names) && disjoint b.dst.toList a.names &&
  disjoint (a.writes.map (·.1)) (b.reads ++ b.writes.map (·.1)) && disjoint (b.writes.map (·.1)) a.reads

/-- What must come ahead of each, as bits. -/
def maskOf (acc : List Nat) : List Edge → Nat
  | [] => 0
  | e :: es => if Region.binds .any e then (2 ^ e.on ||| acc.getD e.on 0) ||| maskOf acc es else maskOf acc es

def befs : List Nat → List Oper → List Nat
  | acc, [] => acc
  | acc, o :: os => befs (acc ++ [maskOf acc o.after.toList]) os

def edgesBack : Nat → List Oper → Bool
  | _, [] => true
  | i, o :: os => (o.after.toList.all fun e => !Region.binds .any e || decide (e.on < i)) && edgesBack (i + 1) os

/-- How many ids an operation of a drawn region may make; where those of the i-th begin; whose one is. -/
def sizeOp (o : Oper) : Nat := match o.op with
  | .call c => match c.callee with
    | .builtin _ => 1
    | _ => 128
  | _ => 1

def offOp : List Oper → Nat → Nat
  | [], _ => 0
  | _ :: _, 0 => 0
  | o :: os, i + 1 => sizeOp o + offOp os i

def ownOp : List Oper → Nat → Nat → Nat
  | [], _, k => k
  | o :: os, m, k => if m < sizeOp o then k else ownOp os (m - sizeOp o) (k + 1)

/-- Whether those behind the place j, and the one there, may come in either order, or must not. -/
def apartFrom (d : DEff) (i : Nat) : Nat → List Nat → List DEff → Bool
  | _, _, [] => true
  | j, b :: bs, e :: es => (b.testBit i || apartD d e) && apartFrom d i (j + 1) bs es
  | _, [], _ :: _ => false

def allApart : Nat → List Nat → List DEff → Bool
  | _, _, [] => true
  | i, _ :: bs, d :: ds => apartFrom d i (i + 1) bs ds && allApart (i + 1) bs ds
  | _, [], _ :: _ => false

def eachOk (base : Nat) (ops : List Oper) : Nat → List Nat → List DEff → Bool
  | _, _, [] => true
  | i, b :: bs, d :: ds => (d.writes.all fun w => decide (w.1 < base) || ownOp ops (w.1 - base) 0 == i || b.testBit (ownOp ops (w.1 - base) 0)) && (match d.guard with
      | some (j, jt) => b.testBit j && (match d.val with
        | .cond j' _ _ => jt == some j'
        | _ => true)
      | none => (match d.val with
        | .cond _ _ _ => false
        | _ => true)) && eachOk base ops (i + 1) bs ds
  | _, [], _ :: _ => false

def drawOk (base : Nat) (ops : List Oper) (ds : List DEff) : Bool :=
  edgesBack 0 ops && allApart 0 (befs [] ops) ds && eachOk base ops 0 (befs [] ops) ds && nodupB (ds.flatMap fun d => d.dst.toList)

def clearConds (T : List AV) : List AV := T.map fun
  | .cond _ _ _ => .top
  | v => v

/-- What the operation gives, written down. -/
def deffOf (ops : Array Oper) (T : List AV) (o : Oper) (e : Eff) : DEff := ⟨o.dst, namesOf ops T o, e.val, e.reads, e.writes, o.guard.map fun g => (g.1, guardTmp ops g.1)⟩

def applyD (d : DEff) (st : St) : St := ⟨(match d.dst with | some i => st.T.set i d.val | none => st.T), writeAll st.H d.writes⟩

def drawOps (P : Program) (S : FuncId → Option Summ) (ops : Array Oper) (base : Nat) : Nat → List Oper → St → List DEff → (St → Prop) → Prop
  | _, [], st, acc, Q => asrt (drawOk base ops.toList acc) (Q st)
  | i, o :: rest, st, acc, Q => match drawEff P S ops (base + offOp ops.toList i) o st with
    | some e => must e.obl (drawOps P S ops base (i + 1) rest (applyD (deffOf ops st.T o e) st) (acc ++ [deffOf ops st.T o e]) Q)
    | none => False

/-- What of a state is kept at the head of a round: which objects, under which names. -/
inductive Src where
  | tmp (i : Nat)
  | cell (k j : Nat)

inductive Got where
  | old (id : Nat)
  | new (e : TypeId) (cols : List Col)

def mapAll {α β : Type} (f : α → Option β) : List α → Option (List β)
  | [] => some []
  | a :: as => match f a, mapAll f as with
    | some b, some bs => some (b :: bs)
    | _, _ => none

def gotOf : AV → Option Got
  | .full id => some (.old id)
  | .osl id _ _ => some (.old id)
  | .ptr id _ _ => some (.old id)
  | .mp id => some (.old id)
  | .it id => some (.old id)
  | .ifc _ (.ptr id _ _) => some (.old id)
  | .emp e cols => match cols with
    | [] => none
    | col :: rest => some (.new e (col :: rest))
  | _ => none

def gotAt (st : St) (acc : List Got) : Src → Option Got
  | .tmp i => gotOf (st.T.getD i .top)
  | .cell k j => match acc[k]? with
    | some (.old id) => match st.H.at id with
      | some (.var cs) => gotOf (cs.getD j .top)
      | _ => none
    | _ => none

def gotAll (st : St) : List Src → List Got → Option (List Got)
  | [], acc => some acc
  | s :: ss, acc => match gotAt st acc s with
    | some g => gotAll st ss (acc ++ [g])
    | none => none

def posOf (id : Nat) : List Got → Nat → Option Nat
  | [], _ => none
  | .old i :: gs, k => if i = id then some k else posOf id gs (k + 1)
  | .new _ _ :: gs, k => posOf id gs (k + 1)

def oldIds : List Got → List Nat
  | [] => []
  | .old i :: gs => i :: oldIds gs
  | .new _ _ :: gs => oldIds gs

/-- The empty slice that lies here, if it is to be a row. -/
def hereT (i : Nat) : List Src → List Got → Nat → Option Nat
  | .tmp j :: ss, .new _ _ :: gs, k => if j = i then some k else hereT i ss gs (k + 1)
  | _ :: ss, _ :: gs, k => hereT i ss gs (k + 1)
  | _, _, _ => none

def hereC (k0 i : Nat) : List Src → List Got → Nat → Option Nat
  | .cell k1 j :: ss, .new _ _ :: gs, k => if k1 = k0 ∧ j = i then some k else hereC k0 i ss gs (k + 1)
  | _ :: ss, _ :: gs, k => hereC k0 i ss gs (k + 1)
  | _, _, _ => none

def stayLeaf : AV → Bool
  | .int _ _ => true
  | .bool _ => true
  | .val _ => true
  | .sl _ _ => true
  | .mapv _ _ _ => true
  | _ => false

def convLeaf (gots : List Got) (H : Heap) (here : Option Nat) : AV → Option AV
  | .int k n => some (.int k n)
  | .bool b => some (.bool b)
  | .val v => some (.val v)
  | .sl n cols => some (.sl n cols)
  | .emp _ cols => match here with
    | some k => some (.full k)
    | none => some (.sl 0 cols)
  | .full id => match posOf id gots 0 with
    | some k => some (.full k)
    | none => match H.at id with
      | some (.row _ n cols) => some (.sl n cols)
      | _ => none
  | .osl id off n => match posOf id gots 0 with
    | some k => some (.osl k off n)
    | none => match H.at id with
      | some (.row _ _ cols) => some (.sl n (cols.map (·.part off n)))
      | _ => none
  | .ptr id idx off => match posOf id gots 0 with
    | some k => some (.ptr k idx off)
    | none => none
  | .mp id => match posOf id gots 0 with
    | some k => some (.mp k)
    | none => none
  | .it id => match posOf id gots 0 with
    | some k => some (.it k)
    | none => none
  | .mapv ks cols one => some (.mapv ks cols one)
  | .top => some .top
  | .ip cs => if cs.all stayLeaf then some (.ip cs) else none
  | .fn f [] [] => some (.fn f [] [])
  | _ => none

def convVal (gots : List Got) (H : Heap) (here : Option Nat) : AV → Option AV
  | .agg cs => match mapAll (convLeaf gots H none) cs with
    | some ds => some (.agg ds)
    | none => none
  | .fn f xs ys => match mapAll (convLeaf gots H none) xs, mapAll (convLeaf gots H none) ys with
    | some as, some bs => some (.fn f as bs)
    | _, _ => none
  | .ifc t x => match convLeaf gots H none x with
    | some y => some (.ifc t y)
    | none => none
  | x => convLeaf gots H here x

def convCells (srcs : List Src) (gots : List Got) (H : Heap) (k : Nat) : Nat → List AV → Option (List AV)
  | _, [] => some []
  | j, x :: xs => match convLeaf gots H (hereC k j srcs gots 0) x, convCells srcs gots H k (j + 1) xs with
    | some y, some ys => some (y :: ys)
    | _, _ => none

def convObj (srcs : List Src) (gots : List Got) (H : Heap) (k : Nat) : Got → Option AObj
  | .new e cols => some (.row e 0 cols)
  | .old id => match H.at id with
    | some (.row e n cols) => some (.row e n cols)
    | some (.tmap ks cols one) => some (.tmap ks cols one)
    | some (.iter ks cols one left cur) => some (.iter ks cols one left cur)
    | some (.var cs) => match convCells srcs gots H k 0 cs with
      | some ds => some (.var ds)
      | none => none
    | some (.map es) => match mapAll (fun (p : Int × AV) => match convVal gots H none p.2 with
        | some y => some (p.1, y)
        | none => none) es with
      | some fs => some (.map fs)
      | none => none
    | _ => none

def convObjs (srcs : List Src) (gots : List Got) (H : Heap) : Nat → List Got → Option Heap
  | _, [] => some []
  | k, g :: gs => match convObj srcs gots H k g, convObjs srcs gots H (k + 1) gs with
    | some o, some os => some (some o :: os)
    | _, _ => none

def convTmps (srcs : List Src) (gots : List Got) (H : Heap) (T : List AV) : List Nat → Option (List AV)
  | [] => some []
  | i :: is => match convVal gots H (hereT i srcs gots 0) (T.getD i .top), convTmps srcs gots H T is with
    | some y, some ys => some (y :: ys)
    | _, _ => none

/-- The values of the temporaries that are kept, and the objects that are; all other rows stay as they are from now on. -/
def tidy (n : Nat) (keep : List Nat) (srcs : List Src) (st : St) : Option (List AV × Heap) :=
  if st.T.length = n then match gotAll st srcs [] with
  | some gots => if nodupB (oldIds gots) then match convTmps srcs gots st.H st.T keep, convObjs srcs gots st.H 0 gots with
    | some vals, some objs => some (vals, objs)
    | _, _ => none
    else none
  | none => none
  else none

def atKeep (i : Nat) : List Nat → List AV → AV
  | j :: js, v :: vs => if j = i then v else atKeep i js vs
  | _, _ => .top

def mkT (keep : List Nat) (vals : List AV) : Nat → Nat → List AV
  | 0, _ => []
  | n + 1, i => atKeep i keep vals :: mkT keep vals n (i + 1)

/-- A loop told by what it keeps, and by what comes of it. -/
structure LoopSpec where
  n : Nat
  keep : List Nat
  srcs : List Src
  keepE : List Nat
  srcsE : List Src
  goes : List AV → Heap → (Ex → List AV → Heap → Prop) → Prop

def LoopSpec.summ (s : LoopSpec) (st : St) (Q : Ex → St → Prop) : Prop :=
  match tidy s.n s.keep s.srcs st with
  | some (vals, objs) => s.goes vals objs fun e vs os => Q e ⟨mkT s.keepE vs s.n 0, os⟩
  | none => False

/-- What may be told anew in a frame: the first object is the one named j there, the k-th the one behind all n that were. -/
def movable : AV → Bool
  | .top => true
  | .int _ _ => true
  | .bool _ => true
  | .val _ => true
  | .emp _ _ => true
  | .full k => k != 0
  | .osl k _ _ => k != 0
  | .ptr _ _ _ => true
  | .ifc _ (.ptr _ _ _) => true
  | _ => false

def relV (n j : Nat) : AV → AV
  | .int k x => .int k x
  | .bool b => .bool b
  | .val v => .val v
  | .emp e cols => .emp e cols
  | .full k => .full (n + k)
  | .osl k o m => .osl (n + k) o m
  | .ptr k idx off => .ptr (match k with | 0 => j | k + 1 => n + (k + 1)) idx off
  | .ifc t (.ptr k idx off) => .ifc t (.ptr (match k with | 0 => j | k + 1 => n + (k + 1)) idx off)
  | _ => .top

def movableO : AObj → Bool
  | .dead => true
  | .row _ _ cols => cols.all Col.flat
  | .var cs => cs.all movable
  | _ => false

def relO (n j : Nat) : AObj → AObj
  | .row e m cols => .row e m cols
  | .var cs => .var (cs.map (relV n j))
  | _ => .dead

/-- The objects behind a loop, beside those that it did not touch: the j-th is its first, those named in ids are gone. -/
def frameH (H : Heap) (j : Nat) (ids : List Nat) (os : Heap) : Heap := (List.range (H.length + os.length)).map fun id =>
  if id < H.length then (if id = j then (match os with | some o :: _ => some (relO H.length j o) | _ => none) else if ids.contains id then (match H[id]? with | some (some _) => some .dead | _ => none) else (match H[id]? with | some o => o | none => none))
  else if id = H.length then none else (match os[id - H.length]? with | some (some o) => some (relO H.length j o) | _ => none)

def headOld (st : St) : List Src → Option Nat
  | s :: _ => match gotAt st [] s with
    | some (.old j) => some j
    | _ => none
  | [] => none

def firstLive : Heap → Bool
  | some .dead :: _ => false
  | some _ :: _ => true
  | _ => false

/-- A loop told by what it keeps, where a caller's own memory is at hand: its first object stays where it is, all others that it names are its own from then on, and what it does not name stays. -/
def LoopSpec.framed (s : LoopSpec) (st : St) (Q : Ex → St → Prop) : Prop :=
  match headOld st s.srcs, gotAll st s.srcs [], tidy s.n s.keep s.srcs st with
  | some j, some gots, some (vals, objs) => s.goes vals objs fun e vs os =>
    asrt (firstLive os && (mkT s.keepE vs s.n 0).all movable && os.all fun | some o => movableO o | none => true)
      (Q e ⟨(mkT s.keepE vs s.n 0).map (relV st.H.length j), frameH st.H j (oldIds gots) os⟩)
  | _, _, _ => False

/-- How a loop is taken: its rounds laid out, or by what it comes to. -/
inductive LoopS where
  | unroll (n : Nat)
  | summ (s : St → (Ex → St → Prop) → Prop)
  | frame (s : St → (Ex → St → Prop) → Prop)

def iter (body : St → (Ex → St → Prop) → Prop) : Nat → St → (Ex → St → Prop) → Prop
  | 0, _, _ => False
  | n + 1, st, Q => body st fun e st' => match e with
    | .normal => iter body n st' Q
    | e => Q e st'

def runCode (P : Program) (S : FuncId → Option Summ) (callf : CallF) (L : Nat → Option LoopS) : Code → Nat → St → (Ex → St → Prop) → Prop
  | .skip, _, st, Q => Q .normal st
  | .region _ ops draw, _, st, Q => if draw then drawOps P S ops st.H.length 0 ops.toList ⟨clearConds st.T, st.H⟩ [] (Q .normal) else runOps P S callf ops ops.toList st (Q .normal)
  | .seq a b, i, st, Q => runCode P S callf L a i st fun e st' => match e with
    | .normal => runCode P S callf L b i st' Q
    | e => Q e st'
  | .cond c x y, i, st, Q => match opd P st.T none 0 c with
    | .bool b => match c with
      | .tmp j => br b (runCode P S callf L x i ⟨st.T.set j (.bool true), st.H⟩ Q) (runCode P S callf L y i ⟨st.T.set j (.bool false), st.H⟩ Q)
      | _ => br b (runCode P S callf L x i st Q) (runCode P S callf L y i st Q)
    | _ => False
  | .block id c, _, st, Q => if id < 1000000 then runCode P S callf L c id st fun e st' => match e with
    | .exit id' => if id' = id then Q .normal st' else Q (.exit id') st'
    | e => Q e st'
    else False
  | .loop c, i, st, Q => match L i with
    | some (.unroll n) => iter (fun st' Q' => runCode P S callf L c i st' Q') n st Q
    | some (.summ s) => s st Q
    | some (.frame s) => s st Q
    | none => False
  | .exit id, _, st, Q => if id < 1000000 then Q (.exit id) st else False
  | .goto l, _, st, Q => Q (.exit (1000000 + l)) st
  | .label _, _, st, Q => Q .normal st
  | .ret, _, st, Q => Q .ret st
  | _, _, _, _ => False

/-- The loops in the code, each with the block that it lies in. -/
def loopsOf : Code → Nat → List (Nat × Code)
  | .seq a b, i => loopsOf a i ++ loopsOf b i
  | .cond _ x y, i => loopsOf x i ++ loopsOf y i
  | .block id c, _ => loopsOf c id
  | .loop c, i => (i, c) :: loopsOf c i
  | _, _ => []

/-- A scope: what stands behind its label 0 is run again, n times at most, where that is gone to. -/
def scopeRun (run : St → (Ex → St → Prop) → Prop) : Nat → Ex → St → (Ex → St → Prop) → Prop
  | n, .exit id, st, Q => if id < 1000000 then Q (.exit id) st else if id = 1000000 then (match n with
    | 0 => False
    | n + 1 => run st fun e st' => scopeRun run n e st' Q) else False
  | _, e, st, Q => Q e st

def runBody (P : Program) (S : FuncId → Option Summ) (callf : CallF) (L : Nat → Option LoopS) (c : Code) (i : Nat) (st : St) (Q : Ex → St → Prop) : Prop :=
  match c with
  | .seq x (.scope y) => match findLabel y 0, L 5000 with
    | some rest, some (.unroll n) => if (loopsOf y i).isEmpty && (loopsOf rest i).isEmpty then runCode P S callf L x i st fun e st' => match e with
        | .normal => runCode P S callf L y i st' fun e st'' => scopeRun (fun st Q => runCode P S callf L rest i st Q) n e st'' Q
        | e => Q e st'
      else False
    | _, _ => False
  | c => runCode P S callf L c i st Q

/-- The results of a body, read out. -/
def resultsOf (P : Program) (st : St) : List ResultVar → (List AV → Prop) → Prop
  | [], Q => Q []
  | .tmp t :: rs, Q => resultsOf P st rs fun vs => Q (opd P st.T none 0 (.tmp t) :: vs)
  | .cell a t :: rs, Q => match szOf P t with
    | some n => match readCells st.H n (opd P st.T none 0 (.tmp a)) with
      | some (b, cs, _) => match wrap P t cs with
        | some v => must b (resultsOf P st rs fun vs => Q (v :: vs))
        | none => False
      | none => False
    | none => False

def oneOf (vs : List AV) : AV := match vs with
  | [v] => v
  | vs => .tup vs

/-- Loops are told by what comes of them only where no memory of a caller's own is given. -/
def loopsAt (H : Heap) (L : Nat → Option LoopS) (i : Nat) : Option LoopS := match H with
  | [] => L i
  | _ :: _ => match L i with
    | some (.unroll n) => some (.unroll n)
    | some (.frame s) => some (.frame s)
    | _ => none

def callN (P : Program) (S : FuncId → Option Summ) (L : FuncId → Nat → Option LoopS) : Nat → CallF
  | 0, _, _, _, _ => False
  | n + 1, k, args, H, Q => match P.funcs[k]? with
    | some fn => if fn.name == "runtime.NumGoroutine" then False else match fn.body with
      | some c => runBody P S (callN P S L n) (loopsAt H (L k)) c 1000 ⟨args ++ List.replicate (fn.ntmps - args.length) .top, H⟩ fun e st => match e with
        | .exit _ => False
        | _ => resultsOf P st fn.results.toList fun vs => Q (oneOf vs) st.H
      | none => False
    | none => False

/-- What a pure function gives back: what it made is told as new, or as immutable. -/
def giveLeaf (own : Bool) (H : Heap) : AV → Option (AV × List Nat)
  | .int k n => some (.int k n, [])
  | .bool b => some (.bool b, [])
  | .val v => some (.val v, [])
  | .sl n cols => some (.sl n cols, [])
  | .emp e cols => match cols with
    | [] => none
    | col :: rest => some (if own then .own e 0 (col :: rest) else .sl 0 (col :: rest), [])
  | .full id => match H.at id with
    | some (.row e n cols) => some (if own then (.own e n cols, [id]) else (.sl n cols, []))
    | _ => none
  | .osl id off n => match H.at id with
    | some (.row e _ cols) => match off with
      | 0 => some (if own then (.own e n (cols.map (·.part 0 n)), [id]) else (.sl n (cols.map (·.part 0 n)), []))
      | _ => if own then none else some (.sl n (cols.map (·.part off n)), [])
    | _ => none
  | .mp id => match H.at id with
    | some (.tmap ks cols one) => if own then some (.omap ks cols one, [id]) else none
    | _ => none
  | _ => none

def giveCells (own : Bool) (H : Heap) : AV → Option (AV × List Nat)
  | .agg cs => match mapIds (giveLeaf own H) cs with
    | some (r, ids) => some (.agg r, ids)
    | none => none
  | v => giveLeaf own H v

def give (own : Bool) (H : Heap) : AV → Option AV
  | .tup vs => match mapIds (giveCells own H) vs with
    | some (r, ids) => if nodupB ids then some (.tup r) else none
    | none => none
  | v => match giveCells own H v with
    | some (r, ids) => if nodupB ids then some r else none
    | none => none

/-- The verification condition of a pure summary. -/
def VC (P : Program) (S : FuncId → Option Summ) (L : FuncId → Nat → Option LoopS) (own : Bool) (f : FuncId) (args : List AV) (r : AV) : Prop :=
  callN P S L 12 f args [] fun v H => give own H v = some r

/-- The end of a round: what is kept goes on, and comes nearer to the end, or the loop is left. -/
def LoopSpec.ends (s : LoopSpec) (μ : List AV → Heap → Nat) (vals : List AV) (objs : Heap) (Q : Ex → List AV → Heap → Prop) : Ex → St → Prop
  | .normal, st => match tidy s.n s.keep s.srcs st with
    | some (vs, os) => μ vs os < μ vals objs ∧ s.goes vs os Q
    | none => False
  | .exit id, st => match tidy s.n s.keepE s.srcsE st with
    | some (vs, os) => Q (.exit id) vs os
    | none => False
  | .ret, st => match tidy s.n s.keepE s.srcsE st with
    | some (vs, os) => Q .ret vs os
    | none => False

/-- The same, where the first object stays the first. -/
def LoopSpec.endsA (s : LoopSpec) (μ : List AV → Heap → Nat) (vals : List AV) (objs : Heap) (Q : Ex → List AV → Heap → Prop) : Ex → St → Prop
  | .normal, st => match headOld st s.srcs with
    | some 0 => s.ends μ vals objs Q .normal st
    | _ => False
  | .exit id, st => match headOld st s.srcsE with
    | some 0 => s.ends μ vals objs Q (.exit id) st
    | _ => False
  | .ret, st => match headOld st s.srcsE with
    | some 0 => s.ends μ vals objs Q .ret st
    | _ => False

/-- The loop in a block of a function. -/
def bodyOf (P : Program) (f : FuncId) (i : Nat) : Code := match P.funcs[f]? with
  | some fn => match fn.body with
    | some c => match (loopsOf c 1000).find? (fun p => p.1 == i) with
      | some p => p.2
      | none => .skip
    | none => .skip
  | none => .skip

def onlyLoop (P : Program) (f : FuncId) (i : Nat) : Bool := match P.funcs[f]? with
  | some fn => match fn.body with
    | some c => ((loopsOf c 1000).filter (fun p => p.1 == i)).length == 1
    | none => true
  | none => true

/-- Loops of one function. -/
def oneL (k : FuncId) (L : Nat → Option LoopS) (f : FuncId) (i : Nat) : Option LoopS := match f == k with
  | true => L i
  | false => none

def noL : FuncId → Nat → Option LoopS := fun _ _ => none

/-- Loops of several functions. -/
def tabL : List (FuncId × Nat × LoopS) → FuncId → Nat → Option LoopS
  | [], _, _ => none
  | (k, i, x) :: l, f, j => match f == k with
    | true => (match j == i with
      | true => some x
      | false => tabL l f j)
    | false => tabL l f j

/-- What is known of functions, as a table. -/
def tabS : List (FuncId × Pure1) → FuncId → Option Summ
  | [], _ => none
  | (i, F) :: l, k => match i == k with
    | true => some (pureSumm F)
    | false => tabS l k

end Go.Own
